/- The draws' cursor. -/
import Derived.Test.YtojlnmenfikhbaaSmall
import Derived.Test.YtojlnmenfikhbaaFile
namespace Go.Proofs.Ytojlnmenfikhbaa
open Go.RowKit
open Cel (rd own rd_len rd_one own_rd own_lt rd_below rd_mono own_keep)

/-- Block g holds a cursor over l. -/
def Cur (w : World) (g : Nat) (l : List UInt8) : Prop :=
  ∃ (v : Value) (i : Nat) (h : Int), Bx w g [v, .int .i64 i, .int .i64 h] ∧ i ≤ l.length ∧ In64 h ∧ RdS g w l v ∧ l.length ≤ 1099511627776

theorem chgG {g : Nat} {w w' : World} (h : Chg [g] w w') (hg : g ≤ w.heap.size) : Below g w w' := h.below (Below.refl _ _) (by simp) hg
theorem Cur.chg {w w' : World} {g : Nat} {l : List UInt8} {fp : List Nat} (h : Cur w g l) (hc : Chg fp w w') (hf : ∀ b ∈ fp, g < b) : Cur w' g l := by
  obtain ⟨v, i, h, hb, hi, hh, hs, hl⟩ := h
  have hlt := hb.lt
  exact ⟨v, i, h, hb.chg hc (fun hm => Nat.lt_irrefl _ (hf g hm)), hi, hh, RdS.below hs (hc.below (Below.refl _ _) (fun b hb => Nat.le_of_lt (hf b hb)) (Nat.le_of_lt hlt)), hl⟩
theorem Cur.via {w w' : World} {g : Nat} {l : List UInt8} (h : Cur w g l) (hb : Below w.heap.size w w') : Cur w' g l := h.chg (fp := []) (Chg.of_below hb) (by simp)
theorem Cur.lt {w : World} {g : Nat} {l : List UInt8} (h : Cur w g l) : g < w.heap.size := by obtain ⟨_, _, _, hb, _⟩ := h; exact hb.lt
/-- What a draw leaves: the cursor, and all else as it was. -/
def Drew (g : Nat) (l : List UInt8) (w w' : World) : Prop := Cur w' g l ∧ Chg [g] w w'

theorem and255 (y : Int) : ∃ x : Nat, bits .and .i64 y 255 = (x : Int) ∧ x < 256 := by
  refine ⟨(BitVec.ofInt 64 y).toNat % 256, ?_, Nat.mod_lt _ (by decide)⟩
  show IntKind.i64.wrap ((BitVec.ofInt 64 y &&& BitVec.ofInt 64 ((255 : Nat) : Int)).toNat : Int) = _
  have o2 : (BitVec.ofInt 64 ((255 : Nat) : Int)).toNat = 2 ^ 8 - 1 := by rw [BitVec.ofInt_natCast, BitVec.toNat_ofNat]
  rw [BitVec.toNat_and, o2, Nat.and_two_pow_sub_one_eq_mod, IntKind.wrap_i64]
  omega

theorem Drew.mk {g : Nat} {l : List UInt8} {w w1 w2 : World} {v : Value} {i : Nat} {h : Int} (hb : Bx w1 g [v, .int .i64 i, .int .i64 h]) (hi : i ≤ l.length) (hh : In64 h) (hs : RdS g w1 l v) (hl : l.length ≤ 1099511627776)
    (hc : Chg [g] w w1) (hd : Below w1.heap.size w1 w2) : Drew g l w w2 :=
  ⟨⟨v, i, h, hb.via hd, hi, hh, RdS.below hs (hd.mono (Nat.le_of_lt hb.lt)), hl⟩, hc.trans (Chg.of_below hd)⟩
theorem Drew.stored {g : Nat} {l : List UInt8} {w w1 : World} {v : Value} {i : Nat} {h : Int} (hb : Bx w1 g [v, .int .i64 i, .int .i64 h]) (hi : i < l.length) (hs : RdS g w1 l v) (hl : l.length ≤ 1099511627776) (hh : In64 h)
    (hc : Chg [g] w w1) (n : Nat) : Drew g l w ((w1.drewN n).setCell ⟨g, 1, none⟩ (.int .i64 ((i : Int) + 1))) := by
  have d2 : Below w1.heap.size w1 (w1.drewN n) := below_drewN (Below.refl _ _) _
  have hlt := hb.lt
  replace hb := hb.via d2
  replace hs := RdS.below hs (d2.mono (Nat.le_of_lt hlt))
  replace hc := hc.trans (Chg.of_below d2)
  generalize w1.drewN n = w2 at *
  have k : Chg [g] w2 (w2.setCell ⟨g, 1, none⟩ (.int .i64 ((i : Int) + 1))) := (Chg.refl [g] w2).setCells (by simp) 1 [.int .i64 ((i : Int) + 1)]
  exact ⟨⟨v, i + 1, h, hb.set 1 _, hi, hh, RdS.below hs (chgG k (Nat.le_of_lt hb.lt)), hl⟩, hc.trans k⟩
set_option maxRecDepth 20000 in
theorem l1Byte_w (l : List UInt8) (g : Nat) (w : World) (hc : Cur w g l) :
    Calls Try.prog 84 #[.pointer (some ⟨g, 0, none⟩)] w fun e w' => ∃ x : Nat, e = .returned (.int .i64 x) ∧ x < 256 ∧ Drew g l w w' := by
  obtain ⟨v, i, h, hb, hi, hh, hs, hl⟩ := hc
  obtain ⟨a, c, rfl, hl2, -⟩ := hs.open
  have hlt0 := hb.lt
  have k0 := hb.c 0 _ rfl
  have k1 := hb.c 1 _ rfl
  have k2 := hb.c 2 _ rfl
  have kz := hb.z
  go_enter Try.func84, Try.ntmps84
  go_wp2
  generalize hh1 : wrap64 (wrap64 (h * 6364136223846793005) + 1442695040888963407) = h1 at *
  have hb1 : Bx (w.setCell ⟨g, 2, none⟩ (.int .i64 h1)) g [.slice a l.length c, .int .i64 i, .int .i64 h1] := hb.set 2 _
  have c1 : Chg [g] w (w.setCell ⟨g, 2, none⟩ (.int .i64 h1)) := (Chg.refl [g] w).setCells (by simp) 2 [.int .i64 h1]
  have i1 : In64 h1 := by subst hh1; unfold In64 wrap64; omega
  replace hs := RdS.below hs (chgG c1 (Nat.le_of_lt hlt0))
  generalize w.setCell ⟨g, 2, none⟩ (.int .i64 h1) = w1 at *
  clear k0 k1 k2 kz hb hlt0
  have hlt1 := hb1.lt
  have k0 := hb1.c 0 _ rfl
  have k1 := hb1.c 1 _ rfl
  have k2 := hb1.c 2 _ rfl
  have kz := hb1.z
  go_quiet (fail)
  obtain ⟨x0, hx0, hx02⟩ := and255 (bits .xor .i64 (h1 / 8589934592) (h1 / 140737488355328))
  by_cases hlt : i < l.length
  · obtain ⟨b, o, rfl, eb⟩ := (hs.sl (Nat.le_of_lt hlt1)).byte i hlt
    have hm := Lib.hid (Drew.stored hb1 hlt hs hl i1 c1)
    have hy := (l[i]).toNat_lt
    generalize (l[i]).toNat = y at *
    go_wp2
    go_quiet (fail)
    go_wp2
    rw [hx0]
    have hw1 : wrap64 ((x0 : Int) + y) = x0 + y := by unfold wrap64; omega
    have hw2 : 0 ≤ (x0 : Int) + y := by omega
    go_quiet (fail)
    obtain ⟨x1, hx1, hx12⟩ := and255 ((x0 : Int) + y)
    rw [hx1]
    have hi64 : In64 ((i : Int) + 1) := by unfold In64; omega
    go_wp2
    go_ret
    exact ⟨x1, rfl, hx12, hm.out _⟩
  · go_wp2
    go_quiet (fail)
    go_wp2
    rw [hx0]
    go_ret
    exact ⟨x0, rfl, hx02, Drew.mk hb1 hi i1 hs hl c1 (by simp)⟩
end Go.Proofs.Ytojlnmenfikhbaa
