/- What calls hand back; cells behind a call. -/
import Derived.Test.YthnilnggpbploaaGreatRows
import Derived.Test.YthnilnggpbploaaGreatOwn
import Derived.WalkSpells
import Derived.WalkLawsBesides
import Derived.ProofKit
import Derived.Deep.QuietTactic
import Derived.BigQuiet
import Derived.Deep.RegionHeld3
import Derived.StillTailTactics
namespace Go.Proofs.YthnilnggpbploaaGreat
open Go.RowKit
open Cel (rd own rd_len rd_one own_rd own_lt rd_below rd_mono own_keep)

theorem bcell {B : Nat} {W w1 : World} (hb : Below B W w1) : (∀ b o, b < B → w1.cell? ⟨b, o, none⟩ = W.cell? ⟨b, o, none⟩) ∧ (∀ b o, b < B → w1.frozen? ⟨b, o, none⟩ = W.frozen? ⟨b, o, none⟩) :=
  ⟨fun b o h => hb.cell (p := ⟨b, o, none⟩) h, fun b o h => hb.frozen (p := ⟨b, o, none⟩) h⟩

/-- Behind a call: what was there reads as it did. -/
theorem isS {B : Nat} {W w1 : World} (hb : Below B W w1) (hB : W.heap.size ≤ B) : (∀ a, (W.cell? a).isSome = true → w1.cell? a = W.cell? a) ∧ (∀ a, (W.cell? a).isSome = true → w1.frozen? a = W.frozen? a) := by
  have lt : ∀ a, (W.cell? a).isSome = true → a.block < B := fun a h => by
    obtain ⟨v, hv⟩ := Option.isSome_iff_exists.1 h
    exact Nat.lt_of_lt_of_le (World.block_lt_of_cell? W a hv) hB
  exact ⟨fun a h => hb.cell (lt a h), fun a h => hb.frozen (lt a h)⟩
@[go_sem] theorem cell_alloc_is (w : World) (o : Obj) (a : Addr) (h : (w.cell? a).isSome = true) : (w.alloc o).cell? a = w.cell? a := by
  obtain ⟨v, hv⟩ := Option.isSome_iff_exists.1 h
  exact World.cell?_of_block (w := w) (Below.heap_alloc w o a.block (World.block_lt_of_cell? w a hv))
@[go_sem] theorem frozen_alloc_is (w : World) (o : Obj) (a : Addr) (h : (w.cell? a).isSome = true) : (w.alloc o).frozen? a = w.frozen? a := by
  obtain ⟨v, hv⟩ := Option.isSome_iff_exists.1 h
  exact World.frozen?_of_block (w := w) (Below.heap_alloc w o a.block (World.block_lt_of_cell? w a hv))

theorem ret_int {k : IntKind} {a b : Int} (h : a = b) : Ending.returned (.int k a) = .returned (.int k b) := by rw [h]

/-- What a call hands back that makes a slice. -/
def RetS {α : Type} [Cel α] (l : List α) (w : World) (e : Ending) (w' : World) : Prop :=
  ∃ a c fp, e = .returned (.slice a l.length c) ∧ OwnS w' l (.slice a l.length c) fp ∧ Fr w.heap.size fp ∧ Below w.heap.size w w'

/-- A call that only reads. -/
def RetB (b : Bool) (w : World) (e : Ending) (w' : World) : Prop := e = .returned (.bool b) ∧ Below w.heap.size w w'
def RetI (n : Int) (w : World) (e : Ending) (w' : World) : Prop := e = .returned (.int .i64 n) ∧ Below w.heap.size w w'

theorem cell_below {w w1 : World} {b o : Nat} {v : Value} (h : Below w.heap.size w w1) (g : b < w.heap.size) (e : w.cell? ⟨b, o, none⟩ = some v) : w1.cell? ⟨b, o, none⟩ = some v := by
  unfold World.cell? at e ⊢
  rw [h.block b g]; exact e
end Go.Proofs.YthnilnggpbploaaGreat
