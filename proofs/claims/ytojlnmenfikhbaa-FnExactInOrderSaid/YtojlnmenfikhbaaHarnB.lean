/- The laws' own helpers on []byte. -/
import Derived.Test.YtojlnmenfikhbaaRows
import Derived.Test.YtojlnmenfikhbaaOwn
import Derived.WalkSpells
import Derived.WalkLawsBesides
import Derived.ProofKit
import Derived.Deep.QuietTactic
import Derived.BigQuiet
namespace Go.Proofs.Ytojlnmenfikhbaa
open Go.RowKit
open Cel (rd own rd_len rd_one own_rd own_lt rd_below rd_mono own_keep)

theorem bcell {B : Nat} {W w1 : World} (hb : Below B W w1) : (∀ b o, b < B → w1.cell? ⟨b, o, none⟩ = W.cell? ⟨b, o, none⟩) ∧ (∀ b o, b < B → w1.frozen? ⟨b, o, none⟩ = W.frozen? ⟨b, o, none⟩) :=
  ⟨fun b o h => hb.cell (p := ⟨b, o, none⟩) h, fun b o h => hb.frozen (p := ⟨b, o, none⟩) h⟩

/-- Behind a call: what was there reads as it did. -/
theorem isS {B : Nat} {W w1 : World} (hb : Below B W w1) (hB : W.heap.size ≤ B) : (∀ a, (W.cell? a).isSome = true → w1.cell? a = W.cell? a) ∧ (∀ a, (W.cell? a).isSome = true → w1.frozen? a = W.frozen? a) := by
  have lt : ∀ a, (W.cell? a).isSome = true → a.block < B := fun a h => by
    obtain ⟨v, hv⟩ := Option.isSome_iff_exists.1 h
    exact Nat.lt_of_lt_of_le (World.block_lt_of_cell? W a hv) hB
  exact ⟨fun a h => hb.cell (lt a h), fun a h => hb.frozen (lt a h)⟩
@[go_sem] theorem cell_alloc_is (w : World) (o : Obj) (a : Addr) (h : (w.cell? a).isSome = true) : (w.alloc o).cell? a = w.cell? a := by
  obtain ⟨v, hv⟩ := Option.isSome_iff_exists.1 h
  exact World.cell?_of_block (w := w) (Below.heap_alloc w o a.block (World.block_lt_of_cell? w a hv))
@[go_sem] theorem frozen_alloc_is (w : World) (o : Obj) (a : Addr) (h : (w.cell? a).isSome = true) : (w.alloc o).frozen? a = w.frozen? a := by
  obtain ⟨v, hv⟩ := Option.isSome_iff_exists.1 h
  exact World.frozen?_of_block (w := w) (Below.heap_alloc w o a.block (World.block_lt_of_cell? w a hv))

theorem ret_int {k : IntKind} {a b : Int} (h : a = b) : Ending.returned (.int k a) = .returned (.int k b) := by rw [h]

/-- What a call hands back that makes a slice. -/
def RetS {α : Type} [Cel α] (l : List α) (w : World) (e : Ending) (w' : World) : Prop :=
  ∃ a c fp, e = .returned (.slice a l.length c) ∧ OwnS w' l (.slice a l.length c) fp ∧ Fr w.heap.size fp ∧ Below w.heap.size w w'

/-- A call that only reads. -/
def RetB (b : Bool) (w : World) (e : Ending) (w' : World) : Prop := e = .returned (.bool b) ∧ Below w.heap.size w w'
def RetI (n : Int) (w : World) (e : Ending) (w' : World) : Prop := e = .returned (.int .i64 n) ∧ Below w.heap.size w w'

def szB (l : List UInt8) (left : Int) : Int := if left - l.length < 0 then -1 else left - l.length

theorem szByteS_w (l : List UInt8) (v : Value) (left : Int) (w : World) (h : Sl w l v) (h0 : 0 ≤ left) (h1 : left ≤ 1048576) :
    Calls Try.prog 56 #[v, .int .i64 left] w (RetI (szB l left) w) := by
  obtain ⟨a, c, rfl, hl, _⟩ := h.open
  go_enter Try.func56, Try.ntmps56
  go_wp2
  all_goals go_ret
  all_goals refine ⟨ret_int ?_, Below.refl _ _⟩
  all_goals unfold szB
  · rw [if_pos (by omega)]
  · rw [if_neg (by omega)]

theorem eqByteS_w (l : List UInt8) (v1 v2 : Value) (w : World) (h1 : Sl w l v1) (h2 : Sl w l v2) :
    Calls Try.prog 27 #[v1, v2] w (RetB true w) := by
  obtain ⟨a1, c1, rfl, hl, _⟩ := h1.open
  obtain ⟨a2, c2, rfl, _⟩ := h2.open
  go_enter Try.func27, Try.ntmps27
  go_wp2
  go_loopw [5] (fun i wr => Below w.heap.size w wr ∧ ∃ k : Nat, i = .int .i64 k ∧ k ≤ l.length) (fun i _ => l.length - (intOf i).toNat)
  case atStart => exact ⟨Below.refl _ _, 0, rfl, by omega⟩
  case round =>
    obtain ⟨hB, k, rfl, hk⟩ := hrel
    by_cases hlt : k < l.length
    · obtain ⟨b, o, rfl, e1⟩ := (h1.to hB).byte k hlt
      obtain ⟨b', o', rfl, e2⟩ := (h2.to hB).byte k hlt
      clear h1 h2
      generalize (l[k]).toNat = x at *
      go_wp2
      go_quiet (fail)
      go_wp2
      all_goals go_roundw
      case rel => exact ⟨below_drewN hB _, k + 1, by go_num, by omega⟩
      case measure => simp [intOf]; omega
    · go_wp2
      go_ret
      exact ⟨rfl, hB⟩

/-- An element of one cell of an own row, and a store to it. -/
theorem OwnS.upd1 {w : World} {l : List UInt8} {g n c : Nat} {fp : List Nat} (h : OwnS w l (.slice (some ⟨g, 0, none⟩) n c) fp) (hn : fp.Nodup) (i : Nat) (hi : i < l.length) (x : UInt8) :
    w.cell? ⟨g, i, none⟩ = some (.int .u8 (l[i]).toNat) ∧ w.frozen? ⟨g, i, none⟩ = false ∧ OwnS (w.setCell ⟨g, i, none⟩ (.int .u8 x.toNat)) (l.set i x) (.slice (some ⟨g, 0, none⟩) n c) fp ∧ Chg fp w (w.setCell ⟨g, i, none⟩ (.int .u8 x.toNat)) := by
  obtain ⟨vs, f, h1, h2, _, _, h4, h5, h6⟩ := h.upd hn i hi
  obtain ⟨rfl, rfl⟩ := h1
  have e := h2 0 (by decide)
  simp only [Cel.k, Nat.mul_one, Nat.add_zero, List.getElem?_cons_zero] at e
  refine ⟨e, h.spare.2.2.1 i, h6 _ [.int .u8 x.toNat] x ⟨rfl, rfl⟩ ?_ ?_, ?_⟩
  · simp [setCells, Cel.k]
  · intro b _ hb _; exact Below.heap_setCell _ _ _ _ hb
  · have := (Chg.refl fp w).setCells h5 i [.int .u8 (x.toNat : Int)]
    simpa [setCells] using this

theorem u8_mod (k j : Nat) : ((k : Int) + (j : Int)) % 256 = ((UInt8.ofNat (k + j)).toNat : Int) := by
  rw [UInt8.toNat_ofNat']; omega

/-- What markByteS makes of a list. -/
def markB : List UInt8 → Nat → List UInt8
  | [], _ => []
  | _ :: xs, k => UInt8.ofNat k :: markB xs (k + 1)

theorem markB_len (l : List UInt8) : ∀ k, (markB l k).length = l.length := by
  induction l with
  | nil => intro k; rfl
  | cons x xs ih => intro k; simp [markB, ih]

theorem markB_set : ∀ (l : List UInt8) (k i : Nat) (_ : i < l.length), ((markB (l.take i) k ++ l.drop i).set i (UInt8.ofNat (k + i))) = markB (l.take (i + 1)) k ++ l.drop (i + 1) := by
  intro l
  induction l with
  | nil => intro k i h; simp at h
  | cons x xs ih =>
    intro k i h
    cases i with
    | zero => simp [markB]
    | succ i =>
      have := ih (k + 1) i (by simpa using h)
      simp only [List.take_succ_cons, List.drop_succ_cons, markB, List.cons_append, List.set_cons_succ]
      rw [← this]; congr 3; omega

theorem markB_get : ∀ (l : List UInt8) (k i : Nat) (h : i < (markB l k).length), (markB l k)[i] = UInt8.ofNat (k + i) := by
  intro l
  induction l with
  | nil => intro k i h; simp [markB] at h
  | cons x xs ih =>
    intro k i h
    cases i with
    | zero => simp [markB]
    | succ i => simp only [markB, List.getElem_cons_succ]; rw [ih]; congr 1; omega

theorem OwnS.row {α : Type} [Cel α] {w : World} {l : List α} {a : Option Addr} {n c : Nat} {fp : List Nat} (h : OwnS w l (.slice a n c) fp) (hi : 0 < l.length) : ∃ g, a = some ⟨g, 0, none⟩ := by
  rcases h with ⟨e, rfl, _⟩ | ⟨g, c', cur, e, vss, fps, e', _⟩
  · simp at hi
  · cases e'; exact ⟨g, rfl⟩

theorem markByteS_w (l : List UInt8) (v : Value) (fp : List Nat) (K : Int) (w : World) (h : OwnS w l v fp) (hn : fp.Nodup) (h0 : 0 ≤ K) (hk : K + l.length ≤ 1099511627776) :
    Calls Try.prog 28 #[v, .int .i64 K] w fun e w' => e = .returned (.int .i64 (K + l.length)) ∧ OwnS w' (markB l K.toNat) v fp ∧ Chg fp w w' := by
  obtain ⟨k, rfl⟩ := Int.eq_ofNat_of_zero_le h0
  rw [Int.toNat_natCast]
  obtain ⟨a, c, rfl⟩ := h.open
  go_enter Try.func28, Try.ntmps28
  go_wp2
  go_loopw [1, 5] (fun kk i wr => ∃ j : Nat, i = .int .i64 j ∧ kk = .int .i64 (k + j) ∧ j ≤ l.length ∧ OwnS wr (markB (l.take j) k ++ l.drop j) (.slice a l.length c) fp ∧ Chg fp w wr) (fun _ i _ => l.length - (intOf i).toNat)
  case atStart => exact ⟨0, rfl, by simp, by omega, by simpa [markB] using h, Chg.refl _ _⟩
  case round =>
    obtain ⟨j, rfl, rfl, hj, ho, hc⟩ := hrel
    by_cases hlt : j < l.length
    · obtain ⟨g, rfl⟩ := ho.row (by simp [markB_len]; omega)
      obtain ⟨e1, e2, e3, e4⟩ := ho.upd1 hn j (by simp [markB_len]; omega) (UInt8.ofNat (k + j))
      rw [markB_set l k j hlt, ← u8_mod] at e3
      rw [← u8_mod] at e4
      go_wp2
      go_roundw
      case rel => exact ⟨j + 1, by go_num, by go_num, by omega, e3, hc.trans e4⟩
      case measure => simp [intOf]; omega
    · go_wp2
      go_ret
      obtain rfl : j = l.length := by omega
      exact ⟨rfl, by simpa using ho, hc⟩

theorem heldByteS_w (l : List UInt8) (v : Value) (K : Int) (w : World) (h0 : 0 ≤ K) (h : Sl w (markB l K.toNat) v) (hk : K + l.length ≤ 1099511627776) :
    Calls Try.prog 33 #[v, .int .i64 K] w (RetI (K + l.length) w) := by
  obtain ⟨k, rfl⟩ := Int.eq_ofNat_of_zero_le h0
  rw [Int.toNat_natCast] at h
  have hml := markB_len l k
  obtain ⟨a, c, rfl, hl, _⟩ := h.open
  rw [hml] at hl ⊢
  go_enter Try.func33, Try.ntmps33
  go_wp2
  go_loopw [1, 5] (fun kk i wr => Below w.heap.size w wr ∧ ∃ j : Nat, i = .int .i64 j ∧ kk = .int .i64 (k + j) ∧ j ≤ l.length) (fun _ i _ => l.length - (intOf i).toNat)
  case atStart => exact ⟨Below.refl _ _, 0, rfl, by simp, by omega⟩
  case round =>
    obtain ⟨hb, j, rfl, rfl, hj⟩ := hrel
    by_cases hlt : j < l.length
    · obtain ⟨b, o, rfl, e1⟩ := (h.to hb).byte j (by rw [hml]; exact hlt)
      rw [markB_get, ← u8_mod] at e1
      have e2 : ((((k : Int) + j) % 256) != (((k : Int) + j) % 256)) = false := by simp
      clear h
      go_wp2
      go_roundw
      case rel => exact ⟨hb, j + 1, by go_num, by go_num, by omega⟩
      case measure => simp [intOf]; omega
    · go_wp2
      go_ret
      obtain rfl : j = l.length := by omega
      exact ⟨rfl, hb⟩

theorem sl22 : SlT Try.prog 22 1 1 := SlT.mk (z := .int .u8 0) Try.underlying22 (by kernel_rfl) rfl
theorem inf5 : (Try.prog.info? 5).map (fun i => (i.zero, i.size, i.bytes)) = some (some (.int .u8 0), 1, 1) := by kernel_rfl

theorem toByteS_w (l : List UInt8) (v : Value) (w : World) (h : Sl w l v) (hlen : l.length ≤ 1099511627776) :
    Calls Try.prog 25 #[v] w (RetS l w) := by
  obtain ⟨a, c, rfl, hl, _⟩ := h.open
  obtain ⟨i0, hi, hz0, hz1, hz2⟩ := info_parts inf5
  have hmk := run_make (P := Try.prog) (w := w) 22 5 i0 _ Try.underlying22 hi hz0 .i64 .i64 (l.length : Int) l.length (by omega) (by omega) (by rw [hz2]; omega) (by omega)
  simp only [hz1, Int.toNat_natCast] at hmk
  go_enter Try.func25, Try.ntmps25
  go_wp2
  go_loopw [4] (fun i wr => ∃ j : Nat, i = .int .i64 j ∧ j ≤ l.length ∧ Below w.heap.size w wr ∧ OwnS wr (l.take j) (.slice (some ⟨w.heap.size, 0, none⟩) j l.length) [w.heap.size]) (fun i _ => l.length - (intOf i).toNat)
  case atStart => exact ⟨0, rfl, by omega, (Below.refl _ _).alloc (Nat.le_refl _) _, OwnS.made w _ _ _ (by unfold maxLen; omega) (by simp [Cel.k, size_madeCells])⟩
  case round =>
    obtain ⟨j, rfl, hj, hB2, ho⟩ := hrel
    by_cases hlt : j < l.length
    · obtain ⟨b, o, rfl, e1⟩ := (h.to hB2).byte j hlt
      obtain ⟨-, hg, hf, hsp⟩ := ho.spare
      obtain ⟨u, e2⟩ := hsp j hlt 0 (by decide)
      have e3 := hf j
      simp only [Cel.k, Nat.mul_one, Nat.add_zero] at e2
      have hp := ho.push (vs := [.int .u8 ((l[j]).toNat : Int)]) (x := l[j]) (f := []) hlt ⟨rfl, rfl⟩ (by simp) (by simp)
      have hb := below_setCells hB2 (Nat.le_refl _) (j * Cel.k UInt8) [.int .u8 ((l[j]).toNat : Int)]
      rw [List.take_append_getElem hlt] at hp
      simp only [setCells, Cel.k, Nat.mul_one, Nat.add_zero, List.append_nil] at hp hb
      clear h hsp hf
      go_wp2
      go_roundw
      case rel => exact ⟨j + 1, by go_num, by omega, hb, hp⟩
      case measure => simp [intOf]; omega
    · go_wp2
      go_ret
      obtain rfl : j = l.length := by omega
      exact ⟨_, _, _, rfl, by simpa using ho, ⟨by simp, by simp⟩, hB2⟩
end Go.Proofs.Ytojlnmenfikhbaa
