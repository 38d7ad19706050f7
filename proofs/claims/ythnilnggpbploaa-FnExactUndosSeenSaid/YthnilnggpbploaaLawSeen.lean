/- FnExactUndosSeen, walked. Printed by a program. -/
import Derived.Test.YthnilnggpbploaaSeen
import Derived.Test.YthnilnggpbploaaStrS
import Derived.Test.YthnilnggpbploaaMkW
namespace Go.Proofs.Ythnilnggpbploaa
open Go.RowKit
open Cel (rd own rd_len rd_one own_rd own_lt rd_below rd_mono own_keep)

set_option maxHeartbeats 1000000 in
set_option maxRecDepth 20000 in
theorem exactSeen_walk (l : List SentD) (v : Value) (name undo : ByteArray) (w : World) (h : Sl w l v) (hn : name.size ≤ 9223372036854775807) (hk : undo.size ≤ 9223372036854775807) :
    Calls Try.prog 3 #[v, .string name, .string undo] w (RetB true w) := by
  obtain ⟨a, c, rfl, hl, -⟩ := h.open
  by_cases h1 : name.size ≤ 1048576
  rotate_left
  · go_enter Try.func3, Try.ntmps3
    go_wp2
    go_ret
    exact ⟨rfl, by simp⟩
  by_cases h2 : undo.size ≤ 1048576
  rotate_left
  · go_enter Try.func3, Try.ntmps3
    go_wp2
    go_ret
    exact ⟨rfl, by simp⟩
  go_enter Try.func3, Try.ntmps3
  go_wp2_with fail
  refine (szSSent_w l _ 1048576 _ h (by omega) (by omega)).mono ?_
  rintro e w1 ⟨rfl, hb1⟩
  by_cases hs : ((sznSSent l : Nat) : Int) ≤ 1048576
  rotate_left
  · rw [szR_neg hs]
    go_wp2
    go_ret
    exact ⟨rfl, hb1⟩
  rw [szR_pos hs]
  have hs2 : sznSSent l ≤ 1048576 := by omega
  have hlen : l.length ≤ 1048576 := by unfold sznSSent at hs2; omega
  have hcnt : 1 + cntL cntSent l ≤ 1099511627776 := by have := cntL_bound cntSent_le l; unfold sznSSent at hs2; omega
  have hsl := seen_le name undo l
  go_wp2_with fail
  refine (toSSent_w l _ _ (h.to hb1) hs2).mono ?_
  rintro e w2 ⟨a2, c2, f2, rfl, o2, -, hb2⟩
  have B2 := via hb1 hb2
  go_wp2_with fail
  refine (specSeen_w l name undo _ _ o2.sl hlen).mono ?_
  rintro e w3 ⟨a3, c3, f3, rfl, o3, fr3, hb3⟩
  have B3 := via B2 hb3
  clear o2 hb2 hb1 B2
  go_wp2_with fail
  refine (toSSent_w l _ _ (h.to B3) hs2).mono ?_
  rintro e w4 ⟨a4, c4, f4, rfl, o4, fr4, hb4⟩
  have B4 := via B3 hb4
  have d43 : ∀ b ∈ f4, b ∉ f3 := disj o3.lt (by simp) fr4
  replace o3 := o3.below hb4
  have f4w : ∀ b ∈ f4, w.heap.size ≤ b := fun b hb => Nat.le_trans B3.size (fr4.2 b hb)
  clear fr3 hb3 hb4 B3
  go_wp2_with fail
  refine (implSeen_w l name undo _ _ o4.sl hlen).mono ?_
  rintro e w5 ⟨a5, c5, f5, rfl, o5, fr5, hb5⟩
  have B5 := via B4 hb5
  have d54 : ∀ b ∈ f5, b ∉ f4 := disj o4.lt (by simp) fr5
  have d53 : ∀ b ∈ f5, b ∉ f3 := disj o3.lt (by simp) fr5
  replace o3 := o3.below hb5
  replace o4 := o4.below hb5
  have f5w : ∀ b ∈ f5, w.heap.size ≤ b := fun b hb => Nat.le_trans B4.size (fr5.2 b hb)
  have n4 := fr4.nodup
  have n5 := fr5.nodup
  clear fr4 fr5 hb5 B4
  obtain ⟨u, hu⟩ : ∃ u, seenB name undo l = u := ⟨_, rfl⟩
  rw [hu] at o3 o5 hsl ⊢
  replace hu := Lib.hid hu
  go_wp2_with fail
  refine (eqSString_w u _ _ _ o5.sl o3.sl).mono ?_
  rintro e w6 ⟨rfl, hb6⟩
  have B6 := via B5 hb6
  replace o3 := o3.below hb6
  replace o4 := o4.below hb6
  replace o5 := o5.below hb6
  clear B5 hb6
  go_wp2_with fail
  refine (toSSent_w l _ _ (h.to B6) hs2).mono ?_
  rintro e w7 ⟨a7, c7, f7, rfl, o7, -, hb7⟩
  have B7 := via B6 hb7
  replace o3 := o3.below hb7
  replace o4 := o4.below hb7
  replace o5 := o5.below hb7
  clear B6 hb7
  go_wp2_with fail
  refine (eqSSent_w l _ _ _ o4.sl o7.sl).mono ?_
  rintro e w8 ⟨rfl, hb8⟩
  have B8 := via B7 hb8
  replace o3 := o3.below hb8
  replace o4 := o4.below hb8
  replace o5 := o5.below hb8
  clear B7 hb8 o7
  go_wp2_with fail
  refine (markSentS_w l _ f4 1 _ rfl _ o4 n4 hcnt).mono ?_
  rintro e w9 ⟨rfl, -, hc9⟩
  have B9 := chgB B8 hc9 f4w
  replace o3 := o3.chg hc9 (fun b hb h4 => d43 b h4 hb)
  replace o5 := o5.chg hc9 d54
  clear B8 hc9 o4 d43 d54 f4w n4
  obtain ⟨z, hz⟩ : ∃ z : Int, z = ((1 + cntL cntSent l : Nat) : Int) := ⟨_, rfl⟩
  rw [← hz]
  have hz0 : 0 ≤ z := by omega
  replace hz := Lib.hid hz
  go_wp2_with fail
  refine (eqSString_w u _ _ _ o5.sl o3.sl).mono ?_
  rintro e w10 ⟨rfl, hb10⟩
  have B10 := via B9 hb10
  replace o3 := o3.below hb10
  replace o5 := o5.below hb10
  clear B9 hb10
  go_wp2_with fail
  refine (markSString_w u _ f5 1 _ o5 n5 (by omega)).mono ?_
  rintro e w11 ⟨rfl, ho, hc11⟩
  have B11 := chgB B10 hc11 f5w
  replace o3 := o3.chg hc11 (fun b hb h5 => d53 b h5 hb)
  clear B10 hc11 o5 d53 f5w n5
  have s5 := ho.sl
  clear ho
  go_wp2_with fail
  refine (heldSString_w u.length 1 _ _ s5 (by omega)).mono ?_
  rintro e w12 ⟨rfl, hb12⟩
  have B12 := via B11 hb12
  replace o3 := o3.below hb12
  replace s5 := s5.to hb12
  clear B11 hb12
  go_wp2_with fail
  refine (toSSent_w l _ _ (h.to B12) hs2).mono ?_
  rintro e w13 ⟨a13, c13, f13, rfl, o13, -, hb13⟩
  have B13 := via B12 hb13
  replace o3 := o3.below hb13
  replace s5 := s5.to hb13
  clear B12 hb13
  go_wp2_with fail
  refine (implSeen_w l name undo _ _ o13.sl hlen).mono ?_
  rintro e w14 ⟨a14, c14, f14, rfl, o14, -, hb14⟩
  have B14 := via B13 hb14
  replace o3 := o3.below hb14
  replace s5 := s5.to hb14
  rw [hu.out] at o14 ⊢
  clear B13 hb14 o13
  go_wp2_with fail
  refine (eqSString_w u _ _ _ o14.sl o3.sl).mono ?_
  rintro e w15 ⟨rfl, hb15⟩
  have B15 := via B14 hb15
  replace s5 := s5.to hb15
  clear B14 hb15 o14 o3
  go_wp2_with fail
  refine (heldSString_w u.length 1 _ _ s5 (by omega)).mono ?_
  rintro e w16 ⟨rfl, hb16⟩
  have B16 := via B15 hb16
  go_wp2
  go_ret
  exact ⟨rfl, B16⟩
end Go.Proofs.Ythnilnggpbploaa
