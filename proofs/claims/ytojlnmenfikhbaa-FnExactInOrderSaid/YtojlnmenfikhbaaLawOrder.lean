/- FnExactInOrder, walked. -/
import Derived.Test.YtojlnmenfikhbaaOrder2
namespace Go.Proofs.Ytojlnmenfikhbaa
open Go.RowKit
open Cel (rd own rd_len rd_one own_rd own_lt rd_below rd_mono own_keep)

set_option maxRecDepth 20000 in
theorem exactOrder_walk (l : List SentD) (v : Value) (w : World) (h : Sl w l v) :
    Calls Try.prog 12 #[v] w (RetB true w) := by
  obtain ⟨r, hr⟩ : ∃ r : Bool, r = true ↔ ∀ i, i < l.length → okAt l i := by
    by_cases hall : ∀ i, i < l.length → okAt l i
    · exact ⟨true, ⟨fun _ => hall, fun _ => rfl⟩⟩
    · exact ⟨false, ⟨fun h => (by cases h), fun h => absurd h hall⟩⟩
  obtain ⟨a, c, rfl, hl, -⟩ := h.open
  go_enter Try.func12, Try.ntmps12
  go_wp2_with fail
  refine (szSSent_w l _ 1048576 _ h (by omega) (by omega)).mono ?_
  rintro e w1 ⟨rfl, hb1⟩
  by_cases hs : ((sznSSent l : Nat) : Int) ≤ 1048576
  rotate_left
  · rw [szR_neg hs]
    go_wp2
    go_ret
    exact ⟨rfl, hb1⟩
  rw [szR_pos hs]
  have hs2 : sznSSent l ≤ 1048576 := by omega
  replace hr := Lib.hid hr
  go_wp2_with fail
  refine (toSSent_w l _ _ (h.to hb1) hs2).mono ?_
  rintro e w2 ⟨a2, c2, f2, rfl, o2, -, hb2⟩
  have B2 := via hb1 hb2
  go_wp2_with fail
  refine (specOrder_w l r hr.out _ _ o2.sl).mono ?_
  rintro e w3 ⟨rfl, hb3⟩
  have B3 := via B2 hb3
  clear o2 hb2 hb1 B2
  go_wp2_with fail
  refine (toSSent_w l _ _ (h.to B3) hs2).mono ?_
  rintro e w4 ⟨a4, c4, f4, rfl, o4, -, hb4⟩
  have B4 := via B3 hb4
  have s4 := o4.sl
  clear o4 hb4 B3
  go_wp2_with fail
  refine (implOrder_w l r hr.out _ _ s4).mono ?_
  rintro e w5 ⟨rfl, hb5⟩
  have B5 := via B4 hb5
  have s5 := s4.to hb5
  clear s4 B4 hr
  cases r
  all_goals
    go_wp2_with fail
    refine (toSSent_w l _ _ (h.to B5) hs2).mono ?_
    rintro e w6 ⟨a6, c6, f6, rfl, o6, -, hb6⟩
    have B6 := via B5 hb6
    go_wp2_with fail
    refine (eqSSent_w l _ _ _ (s5.to hb6) o6.sl).mono ?_
    rintro e w7 ⟨rfl, hb7⟩
    have B7 := via B6 hb7
    go_wp2
    go_ret
    exact ⟨rfl, B7⟩
end Go.Proofs.Ytojlnmenfikhbaa
