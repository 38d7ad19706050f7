/- Functions that only read, walked (T). Printed by a program. -/
import Derived.Test.YthnilnggpbploaaGreatCmS1
import Derived.Test.YthnilnggpbploaaGreatCmS2
import Derived.Test.YthnilnggpbploaaGreatCmS3
import Derived.Test.YthnilnggpbploaaGreatCmS5
import Derived.Test.YthnilnggpbploaaGreatCmS6
import Derived.Test.YthnilnggpbploaaGreatCmS7
import Derived.Test.YthnilnggpbploaaGreatCmS8
import Derived.Test.YthnilnggpbploaaGreatRd
import Derived.Test.YthnilnggpbploaaGreatVars2
namespace Go.Proofs.YthnilnggpbploaaGreat
open Go.RowKit
open Cel (rd own rd_len rd_one own_rd own_lt rd_below rd_mono own_keep)

-- spec.RuleOk
def sRuleOk_p (a0 : RuleD) : Bool := bif sNameOk_p a0.Name then (bif inR a0.Sal (-100 : Int) (100 : Int) then (bif sl9Pats_p a0.Pats then (bif sl9Conds_p a0.Conds (sPosVars_p a0) then (bif sl9Acts_p a0.Acts (sPosVars_p a0) (sPosCount_p a0) then (true) else (false)) else (false)) else (false)) else (false)) else (false)
set_option maxHeartbeats 1000000 in
set_option maxRecDepth 20000 in
theorem sRuleOk_w (a0 : RuleD) (v0_2 : Value) (v0_3 : Value) (v0_4 : Value) (w : World) (s0_2 : Sl w a0.Pats v0_2) (s0_3 : Sl w a0.Conds v0_3) (s0_4 : Sl w a0.Acts v0_4) (ok_a0 : okRule a0) (hz_a0 : sznRule a0 ≤ 1048576) :
    Calls Tryz.prog 154 #[.agg #[.string a0.Name, .int .i64 a0.Sal, v0_2, v0_3, v0_4]] w (RetB (sRuleOk_p a0) w) := by
 obtain ⟨p0_2, c0_2, rfl, hl0_2, -, hk0_2, -⟩ := s0_2.open
 obtain ⟨p0_3, c0_3, rfl, hl0_3, -, hk0_3, -⟩ := s0_3.open
 obtain ⟨p0_4, c0_4, rfl, hl0_4, -, hk0_4, -⟩ := s0_4.open
 obtain ⟨r, hr⟩ : ∃ r, sRuleOk_p a0 = r := ⟨_, rfl⟩
 rw [hr]
 replace hr := Lib.hid hr
 go_enter Tryz.func154, Tryz.ntmps154
 go_wp2_with fail
 refine (sPosVars_w a0 _ _ _ _ (s0_2.to (by simp (maxDischargeDepth := 9))) (s0_3.to (by simp (maxDischargeDepth := 9))) (s0_4.to (by simp (maxDischargeDepth := 9))) hz_a0).mono ?_
 rintro e w2 ⟨u2_0, rfl, su2_0, hb2⟩
 obtain ⟨pu2_0, cu2_0, rfl, hlu2_0, -⟩ := su2_0.open
 have B2 := via (w0 := w) (by simp (maxDischargeDepth := 9)) hb2
 have Xbx1_2 : Bx w2 (w.heap.size) [.string a0.Name, .int .i64 a0.Sal, .slice p0_2 a0.Pats.length c0_2, .slice p0_3 a0.Conds.length c0_3, .slice p0_4 a0.Acts.length c0_4] := Bx.via (by simp (maxDischargeDepth := 9)) hb2
 have ⟨Xbx1_2k0, Xbx1_2k1, Xbx1_2k2, Xbx1_2k3, Xbx1_2k4⟩ := bx5 Xbx1_2
 go_wp2
 refine wp_region_noPanic ?_
 refine wp_region_held_drew (S := (fun w' => w'.cell? ⟨w.heap.size, 0, none⟩ = some (.string a0.Name) ∧ w'.cell? ⟨w.heap.size, 1, none⟩ = some (.int .i64 a0.Sal) ∧ w'.cell? ⟨w.heap.size, 2, none⟩ = some (.slice p0_2 a0.Pats.length c0_2) ∧ w'.cell? ⟨w.heap.size, 3, none⟩ = some (.slice p0_3 a0.Conds.length c0_3) ∧ w'.cell? ⟨w.heap.size, 4, none⟩ = some (.slice p0_4 a0.Acts.length c0_4))) (by kernel_rfl) ?_ (fun hHeld0 => ?_)
 · go_keep
 refine tt 0 ?_
 simp only [Act.put, sa, s0, ss]
 refine tt 1 ?_
 simp only [Act.put, sa, s0, ss]
 refine wpAnyH_ready (rs := [2]) (by kernel_rfl) (by simp) ?_
 refine' AllReadyH.cons (o := _) ?hi1086_2 (fun K hK => ?_) AllReadyH.nil
 case hi1086_2 => simp only [List.getElem?_toArray, List.getElem?_cons_succ, List.getElem?_cons_zero]; exact rfl
 go_simp
 go_at_call 91
 refine (sNameOk_w a0.Name  _ ok_a0.1).mono ?_
 rintro e w3 ⟨rfl, hb3⟩
 have B3 := via (w0 := w) (by simp (maxDischargeDepth := 9) [B2]) hb3
 have U3 : Below w2.heap.size w2 w3 := via (by simp (maxDischargeDepth := 9)) hb3
 have Xbx1_3 := Xbx1_2.via U3
 clear Xbx1_2 Xbx1_2k0 Xbx1_2k1 Xbx1_2k2 Xbx1_2k3 Xbx1_2k4
 have ⟨Xbx1_3k0, Xbx1_3k1, Xbx1_3k2, Xbx1_3k3, Xbx1_3k4⟩ := bx5 Xbx1_3
 have U : Below w2.heap.size w2 w3 := via (by simp (maxDischargeDepth := 9)) hb3
 replace su2_0 := su2_0.to U
 clear U
 clear U3
 clear B2
 cases h4 : sNameOk_p a0.Name with
 | true =>
  replace h4 := Lib.hid h4
  go_wp2_with fail
  refine hK.out _ _ ?_ (fun hHeld2 => ?_)
  · go_keep
  clear hK K hHeld0
  refine tt 3 ?_
  simp only [Act.put, sa, s0, ss]
  refine tt 4 ?_
  simp only [Act.put, sa, s0, ss]
  refine tt 5 ?_
  simp only [Act.put, sa, s0, ss]
  refine wpAnyH_ready (rs := [6]) (by kernel_rfl) (by simp) ?_
  refine' AllReadyH.cons (o := _) ?hi1087_6 (fun K hK => ?_) AllReadyH.nil
  case hi1087_6 => simp only [List.getElem?_toArray, List.getElem?_cons_succ, List.getElem?_cons_zero]; exact rfl
  go_simp
  go_at_call 88
  refine (sl1In_w a0.Sal (-100 : Int) (100 : Int)  _ ).mono ?_
  rintro e w5 ⟨rfl, hb5⟩
  have B5 := via (w0 := w) (by simp (maxDischargeDepth := 9) [B3]) hb5
  have U5 : Below w3.heap.size w3 w5 := via (by simp (maxDischargeDepth := 9)) hb5
  have Xbx1_5 := Xbx1_3.via U5
  clear Xbx1_3 Xbx1_3k0 Xbx1_3k1 Xbx1_3k2 Xbx1_3k3 Xbx1_3k4
  have ⟨Xbx1_5k0, Xbx1_5k1, Xbx1_5k2, Xbx1_5k3, Xbx1_5k4⟩ := bx5 Xbx1_5
  have U : Below w3.heap.size w3 w5 := via (by simp (maxDischargeDepth := 9)) hb5
  replace su2_0 := su2_0.to U
  clear U
  clear U5
  clear B3
  cases h6 : inR a0.Sal (-100 : Int) (100 : Int) with
  | true =>
   have ⟨h6a, h6b⟩ := inR_true h6
   replace h6 := Lib.hid h6
   go_wp2_with fail
   refine hK.out _ _ ?_ (fun hHeld6 => ?_)
   · go_keep
   clear hK K hHeld2
   refine tt 7 ?_
   simp only [Act.put, sa, s0, ss]
   refine tt 8 ?_
   simp only [Act.put, sa, s0, ss]
   refine tt 9 ?_
   simp only [Act.put, sa, s0, ss]
   refine tt 10 ?_
   simp only [Act.put, sa, s0, ss]
   refine wpAnyH_ready (rs := [11]) (by kernel_rfl) (by simp) ?_
   refine' AllReadyH.cons (o := _) ?hi1088_11 (fun K hK => ?_) AllReadyH.nil
   case hi1088_11 => simp only [List.getElem?_toArray, List.getElem?_cons_succ, List.getElem?_cons_zero]; exact rfl
   go_simp
   go_at_call 239
   refine (sl9Pats_w a0.Pats _ _ (s0_2.to (by simp (maxDischargeDepth := 9) [B5]))).mono ?_
   rintro e w7 ⟨rfl, hb7⟩
   have B7 := via (w0 := w) (by simp (maxDischargeDepth := 9) [B5]) hb7
   have U7 : Below w5.heap.size w5 w7 := via (by simp (maxDischargeDepth := 9)) hb7
   have Xbx1_7 := Xbx1_5.via U7
   clear Xbx1_5 Xbx1_5k0 Xbx1_5k1 Xbx1_5k2 Xbx1_5k3 Xbx1_5k4
   have ⟨Xbx1_7k0, Xbx1_7k1, Xbx1_7k2, Xbx1_7k3, Xbx1_7k4⟩ := bx5 Xbx1_7
   have U : Below w5.heap.size w5 w7 := via (by simp (maxDischargeDepth := 9)) hb7
   replace su2_0 := su2_0.to U
   clear U
   clear U7
   clear B5
   cases h8 : sl9Pats_p a0.Pats with
   | true =>
    replace h8 := Lib.hid h8
    go_wp2_with fail
    refine hK.out _ _ ?_ (fun hHeld11 => ?_)
    · go_keep
    clear hK K hHeld6
    refine tt 12 ?_
    simp only [Act.put, sa, s0, ss]
    refine tt 13 ?_
    simp only [Act.put, sa, s0, ss]
    refine tt 14 ?_
    simp only [Act.put, sa, s0, ss]
    refine tt 15 ?_
    simp only [Act.put, sa, s0, ss]
    refine tt 16 ?_
    simp only [Act.put, sa, s0, ss]
    refine wpAnyH_ready (rs := [17]) (by kernel_rfl) (by simp) ?_
    refine' AllReadyH.cons (o := _) ?hi1089_17 (fun K hK => ?_) AllReadyH.nil
    case hi1089_17 => simp only [List.getElem?_toArray, List.getElem?_cons_succ, List.getElem?_cons_zero]; exact rfl
    go_simp
    go_at_call 240
    refine (sl9Conds_w a0.Conds (sPosVars_p a0) _ _ _ (s0_3.to (by simp (maxDischargeDepth := 9) [B7])) (su2_0.to (by simp (maxDischargeDepth := 9)))).mono ?_
    rintro e w9 ⟨rfl, hb9⟩
    have B9 := via (w0 := w) (by simp (maxDischargeDepth := 9) [B7]) hb9
    have U9 : Below w7.heap.size w7 w9 := via (by simp (maxDischargeDepth := 9)) hb9
    have Xbx1_9 := Xbx1_7.via U9
    clear Xbx1_7 Xbx1_7k0 Xbx1_7k1 Xbx1_7k2 Xbx1_7k3 Xbx1_7k4
    have ⟨Xbx1_9k0, Xbx1_9k1, Xbx1_9k2, Xbx1_9k3, Xbx1_9k4⟩ := bx5 Xbx1_9
    have U : Below w7.heap.size w7 w9 := via (by simp (maxDischargeDepth := 9)) hb9
    replace su2_0 := su2_0.to U
    clear U
    clear U9
    clear B7
    cases h10 : sl9Conds_p a0.Conds (sPosVars_p a0) with
    | true =>
     replace h10 := Lib.hid h10
     go_wp2_with fail
     refine hK.out _ _ ?_ (fun hHeld17 => ?_)
     · go_keep
     clear hK K hHeld11
     refine tt 18 ?_
     simp only [Act.put, sa, s0, ss]
     refine tt 19 ?_
     simp only [Act.put, sa, s0, ss]
     refine tt 20 ?_
     simp only [Act.put, sa, s0, ss]
     refine tt 21 ?_
     simp only [Act.put, sa, s0, ss]
     refine tt 22 ?_
     simp only [Act.put, sa, s0, ss]
     refine tt 23 ?_
     simp only [Act.put, sa, s0, ss]
     refine wpAnyH_ready (rs := [24]) (by kernel_rfl) (by simp) ?_
     refine' AllReadyH.cons (o := _) ?hi1090_24 (fun K hK => ?_) AllReadyH.nil
     case hi1090_24 => simp only [List.getElem?_toArray, List.getElem?_cons_succ, List.getElem?_cons_zero]; exact rfl
     go_simp
     go_at_call 205
     refine (sPosCount_w a0 _ _ _ _ (s0_2.to (by simp (maxDischargeDepth := 9) [B9])) (s0_3.to (by simp (maxDischargeDepth := 9) [B9])) (s0_4.to (by simp (maxDischargeDepth := 9) [B9]))).mono ?_
     rintro e w11 ⟨rfl, hb11⟩
     have B11 := via (w0 := w) (by simp (maxDischargeDepth := 9) [B9]) hb11
     have U11 : Below w9.heap.size w9 w11 := via (by simp (maxDischargeDepth := 9)) hb11
     have Xbx1_11 := Xbx1_9.via U11
     clear Xbx1_9 Xbx1_9k0 Xbx1_9k1 Xbx1_9k2 Xbx1_9k3 Xbx1_9k4
     have ⟨Xbx1_11k0, Xbx1_11k1, Xbx1_11k2, Xbx1_11k3, Xbx1_11k4⟩ := bx5 Xbx1_11
     have U : Below w9.heap.size w9 w11 := via (by simp (maxDischargeDepth := 9)) hb11
     replace su2_0 := su2_0.to U
     clear U
     clear U11
     clear B9
     go_wp2_with fail
     refine hK.out _ _ ?_ (fun hHeld24 => ?_)
     · go_keep
     clear hK K hHeld17
     refine wpAnyH_ready (rs := [25]) (by kernel_rfl) (by simp) ?_
     refine' AllReadyH.cons (o := _) ?hi1091_25 (fun K hK => ?_) AllReadyH.nil
     case hi1091_25 => simp only [List.getElem?_toArray, List.getElem?_cons_succ, List.getElem?_cons_zero]; exact rfl
     go_simp
     go_at_call 241
     refine (sl9Acts_w a0.Acts (sPosVars_p a0) (sPosCount_p a0) _ _ _ (s0_4.to (by simp (maxDischargeDepth := 9) [B11])) (su2_0.to (by simp (maxDischargeDepth := 9)))).mono ?_
     rintro e w12 ⟨rfl, hb12⟩
     have B12 := via (w0 := w) (by simp (maxDischargeDepth := 9) [B11]) hb12
     have U12 : Below w11.heap.size w11 w12 := via (by simp (maxDischargeDepth := 9)) hb12
     have Xbx1_12 := Xbx1_11.via U12
     clear Xbx1_11 Xbx1_11k0 Xbx1_11k1 Xbx1_11k2 Xbx1_11k3 Xbx1_11k4
     have ⟨Xbx1_12k0, Xbx1_12k1, Xbx1_12k2, Xbx1_12k3, Xbx1_12k4⟩ := bx5 Xbx1_12
     have U : Below w11.heap.size w11 w12 := via (by simp (maxDischargeDepth := 9)) hb12
     replace su2_0 := su2_0.to U
     clear U
     clear U12
     clear B11
     cases h13 : sl9Acts_p a0.Acts (sPosVars_p a0) (sPosCount_p a0) with
     | true =>
      replace h13 := Lib.hid h13
      go_wp2_with fail
      refine hK.out _ _ ?_ (fun hHeld25 => ?_)
      · go_keep
      clear hK K hHeld24
      refine tt 26 ?_
      simp only [Act.put, sa, s0, ss]
      refine tt 27 ?_
      simp only [Act.put, sa, s0, ss]
      refine wpAnyH_done (by kernel_rfl) ?_ _
      clear hHeld25
      refine NoPanic.normal ?_
      obtain rfl : r = true := hr.out.symm.trans (by simp only [sRuleOk_p, h4.out, h6.out, h8.out, h10.out, h13.out, cond_true])
      go_wp2
      go_ret
      exact rbk (by simp (maxDischargeDepth := 9) [B12])
     | false =>
      replace h13 := Lib.hid h13
      go_wp2_with fail
      refine hK.out _ _ ?_ (fun hHeld25 => ?_)
      · go_keep
      clear hK K hHeld24
      refine tt 26 ?_
      simp only [Act.put, sa, s0, ss]
      refine tt 27 ?_
      simp only [Act.put, sa, s0, ss]
      refine wpAnyH_done (by kernel_rfl) ?_ _
      clear hHeld25
      refine NoPanic.normal ?_
      obtain rfl : r = false := hr.out.symm.trans (by simp only [sRuleOk_p, h4.out, h6.out, h8.out, h10.out, h13.out, cond_true, cond_false])
      go_wp2
      go_ret
      exact rbk (by simp (maxDischargeDepth := 9) [B12])
    | false =>
     replace h10 := Lib.hid h10
     go_wp2_with fail
     refine hK.out _ _ ?_ (fun hHeld17 => ?_)
     · go_keep
     clear hK K hHeld11
     refine tt 18 ?_
     simp only [Act.put, sa, s0, ss]
     refine tt 19 ?_
     simp only [Act.put, sa, s0, ss]
     refine tu 20 ?_
     simp only [Act.put, sa, s0, ss]
     refine tu 21 ?_
     simp only [Act.put, sa, s0, ss]
     refine tu 22 ?_
     simp only [Act.put, sa, s0, ss]
     refine tu 23 ?_
     simp only [Act.put, sa, s0, ss]
     refine tu 24 ?_
     simp only [Act.put, sa, s0, ss]
     refine tu 25 ?_
     simp only [Act.put, sa, s0, ss]
     refine tt 26 ?_
     simp only [Act.put, sa, s0, ss]
     refine tt 27 ?_
     simp only [Act.put, sa, s0, ss]
     refine wpAnyH_done (by kernel_rfl) ?_ _
     clear hHeld17
     refine NoPanic.normal ?_
     obtain rfl : r = false := hr.out.symm.trans (by simp only [sRuleOk_p, h4.out, h6.out, h8.out, h10.out, cond_true, cond_false])
     go_wp2
     go_ret
     exact rbk (by simp (maxDischargeDepth := 9) [B9])
   | false =>
    replace h8 := Lib.hid h8
    go_wp2_with fail
    refine hK.out _ _ ?_ (fun hHeld11 => ?_)
    · go_keep
    clear hK K hHeld6
    refine tt 12 ?_
    simp only [Act.put, sa, s0, ss]
    refine tt 13 ?_
    simp only [Act.put, sa, s0, ss]
    refine tu 14 ?_
    simp only [Act.put, sa, s0, ss]
    refine tu 15 ?_
    simp only [Act.put, sa, s0, ss]
    refine tu 16 ?_
    simp only [Act.put, sa, s0, ss]
    refine tu 17 ?_
    simp only [Act.put, sa, s0, ss]
    refine tt 18 ?_
    simp only [Act.put, sa, s0, ss]
    refine tt 19 ?_
    simp only [Act.put, sa, s0, ss]
    refine tu 20 ?_
    simp only [Act.put, sa, s0, ss]
    refine tu 21 ?_
    simp only [Act.put, sa, s0, ss]
    refine tu 22 ?_
    simp only [Act.put, sa, s0, ss]
    refine tu 23 ?_
    simp only [Act.put, sa, s0, ss]
    refine tu 24 ?_
    simp only [Act.put, sa, s0, ss]
    refine tu 25 ?_
    simp only [Act.put, sa, s0, ss]
    refine tt 26 ?_
    simp only [Act.put, sa, s0, ss]
    refine tt 27 ?_
    simp only [Act.put, sa, s0, ss]
    refine wpAnyH_done (by kernel_rfl) ?_ _
    clear hHeld11
    refine NoPanic.normal ?_
    obtain rfl : r = false := hr.out.symm.trans (by simp only [sRuleOk_p, h4.out, h6.out, h8.out, cond_true, cond_false])
    go_wp2
    go_ret
    exact rbk (by simp (maxDischargeDepth := 9) [B7])
  | false =>
   replace h6 := Lib.hid h6
   go_wp2_with fail
   refine hK.out _ _ ?_ (fun hHeld6 => ?_)
   · go_keep
   clear hK K hHeld2
   refine tt 7 ?_
   simp only [Act.put, sa, s0, ss]
   refine tt 8 ?_
   simp only [Act.put, sa, s0, ss]
   refine tu 9 ?_
   simp only [Act.put, sa, s0, ss]
   refine tu 10 ?_
   simp only [Act.put, sa, s0, ss]
   refine tu 11 ?_
   simp only [Act.put, sa, s0, ss]
   refine tt 12 ?_
   simp only [Act.put, sa, s0, ss]
   refine tt 13 ?_
   simp only [Act.put, sa, s0, ss]
   refine tu 14 ?_
   simp only [Act.put, sa, s0, ss]
   refine tu 15 ?_
   simp only [Act.put, sa, s0, ss]
   refine tu 16 ?_
   simp only [Act.put, sa, s0, ss]
   refine tu 17 ?_
   simp only [Act.put, sa, s0, ss]
   refine tt 18 ?_
   simp only [Act.put, sa, s0, ss]
   refine tt 19 ?_
   simp only [Act.put, sa, s0, ss]
   refine tu 20 ?_
   simp only [Act.put, sa, s0, ss]
   refine tu 21 ?_
   simp only [Act.put, sa, s0, ss]
   refine tu 22 ?_
   simp only [Act.put, sa, s0, ss]
   refine tu 23 ?_
   simp only [Act.put, sa, s0, ss]
   refine tu 24 ?_
   simp only [Act.put, sa, s0, ss]
   refine tu 25 ?_
   simp only [Act.put, sa, s0, ss]
   refine tt 26 ?_
   simp only [Act.put, sa, s0, ss]
   refine tt 27 ?_
   simp only [Act.put, sa, s0, ss]
   refine wpAnyH_done (by kernel_rfl) ?_ _
   clear hHeld6
   refine NoPanic.normal ?_
   obtain rfl : r = false := hr.out.symm.trans (by simp only [sRuleOk_p, h4.out, h6.out, cond_true, cond_false])
   go_wp2
   go_ret
   exact rbk (by simp (maxDischargeDepth := 9) [B5])
 | false =>
  replace h4 := Lib.hid h4
  go_wp2_with fail
  refine hK.out _ _ ?_ (fun hHeld2 => ?_)
  · go_keep
  clear hK K hHeld0
  refine tt 3 ?_
  simp only [Act.put, sa, s0, ss]
  refine tu 4 ?_
  simp only [Act.put, sa, s0, ss]
  refine tu 5 ?_
  simp only [Act.put, sa, s0, ss]
  refine tu 6 ?_
  simp only [Act.put, sa, s0, ss]
  refine tt 7 ?_
  simp only [Act.put, sa, s0, ss]
  refine tt 8 ?_
  simp only [Act.put, sa, s0, ss]
  refine tu 9 ?_
  simp only [Act.put, sa, s0, ss]
  refine tu 10 ?_
  simp only [Act.put, sa, s0, ss]
  refine tu 11 ?_
  simp only [Act.put, sa, s0, ss]
  refine tt 12 ?_
  simp only [Act.put, sa, s0, ss]
  refine tt 13 ?_
  simp only [Act.put, sa, s0, ss]
  refine tu 14 ?_
  simp only [Act.put, sa, s0, ss]
  refine tu 15 ?_
  simp only [Act.put, sa, s0, ss]
  refine tu 16 ?_
  simp only [Act.put, sa, s0, ss]
  refine tu 17 ?_
  simp only [Act.put, sa, s0, ss]
  refine tt 18 ?_
  simp only [Act.put, sa, s0, ss]
  refine tt 19 ?_
  simp only [Act.put, sa, s0, ss]
  refine tu 20 ?_
  simp only [Act.put, sa, s0, ss]
  refine tu 21 ?_
  simp only [Act.put, sa, s0, ss]
  refine tu 22 ?_
  simp only [Act.put, sa, s0, ss]
  refine tu 23 ?_
  simp only [Act.put, sa, s0, ss]
  refine tu 24 ?_
  simp only [Act.put, sa, s0, ss]
  refine tu 25 ?_
  simp only [Act.put, sa, s0, ss]
  refine tt 26 ?_
  simp only [Act.put, sa, s0, ss]
  refine tt 27 ?_
  simp only [Act.put, sa, s0, ss]
  refine wpAnyH_done (by kernel_rfl) ?_ _
  clear hHeld2
  refine NoPanic.normal ?_
  obtain rfl : r = false := hr.out.symm.trans (by simp only [sRuleOk_p, h4.out, cond_false])
  go_wp2
  go_ret
  exact rbk (by simp (maxDischargeDepth := 9) [B3])

-- spec.DefOk
def sDefOk_p_b1 (a0 : DefD) (k2 : Nat) (_ : Unit) : St (Bool) (Unit) := bif sRuleOk_p (gt a0.Rules k2) then (bif ((sRuleAt_p a0 ((gt a0.Rules k2).Name)) == (k2 : Int)) then (.go ()) else (.ret false)) else (.ret false)
def sDefOk_p (a0 : DefD) : Bool := match rounds (sDefOk_p_b1 a0) a0.Rules.length () with | .ret r => r | .brk _ => default | .go _ => bif sNameOk_p a0.Name then (inR ((a0.Rules.length : Nat) : Int) (1 : Int) (12 : Int)) else (false)
set_option maxHeartbeats 1000000 in
set_option maxRecDepth 20000 in
theorem sDefOk_w (a0 : DefD) (v0_1 : Value) (w : World) (s0_1 : Sl w a0.Rules v0_1) (ok_a0 : okDef a0) (hz_a0 : sznDef a0 ≤ 1048576) :
    Calls Tryz.prog 89 #[.agg #[.string a0.Name, v0_1]] w (RetB (sDefOk_p a0) w) := by
 obtain ⟨p0_1, c0_1, rfl, hl0_1, -, hk0_1, -⟩ := s0_1.open
 obtain ⟨r, hr⟩ : ∃ r, sDefOk_p a0 = r := ⟨_, rfl⟩
 rw [hr]
 replace hr := Lib.hid hr
 go_enter Tryz.func89, Tryz.ntmps89
 go_wp2
 go_loopw [3] (fun i3 wr2 => Below w.heap.size w wr2 ∧ Bx wr2 (w.heap.size) [.string a0.Name, .slice p0_1 a0.Rules.length c0_1] ∧ ∃ (k2 : Nat), i3 = .int .i64 k2 ∧ k2 ≤ a0.Rules.length ∧ Hid (rounds (sDefOk_p_b1 a0) k2 () = .go ())) (fun i3 _ => a0.Rules.length - (intOf i3).toNat)
 case atStart => exact ⟨(by simp (maxDischargeDepth := 9)), (by simp (maxDischargeDepth := 9)), 0, rfl, by omega, Lib.hid rfl⟩
 case round =>
  rename World => wr2
  obtain ⟨B3, Xbx1_3, k2, rfl, hk3, hy3⟩ := hrel
  have ⟨Xbx1_3k0, Xbx1_3k1⟩ := bx2 Xbx1_3
  by_cases hlt3 : k2 < a0.Rules.length
  ·
   have hi6 : k2 < a0.Rules.length := by first | assumption | omega
   obtain ⟨e5b, e5o, ue5_2, ue5_3, ue5_4, rfl, e5bl, e5ok, ⟨e5d0, e5d1, e5d2, e5d3, e5d4⟩, te5_2, te5_3, te5_4⟩ := Sl.gtRule s0_1 k2 hi6
   obtain ⟨pe5_2, ce5_2, rfl, hlpe5_2, -⟩ := te5_2.open
   obtain ⟨pe5_3, ce5_3, rfl, hlpe5_3, -⟩ := te5_3.open
   obtain ⟨pe5_4, ce5_4, rfl, hlpe5_4, -⟩ := te5_4.open
   have e5E := Lib.hid (And.intro e5d0 (And.intro e5d1 (And.intro e5d2 (And.intro e5d3 e5d4))))
   clear e5d0 e5d1 e5d2 e5d3 e5d4
   have ⟨e5d0n, e5d1n, e5d2n, e5d3n, e5d4n⟩ := cb5 B3 e5bl e5E.out
   go_wp2
   refine wp_region_noPanic ?_
   refine wp_region_held_drew (S := (fun w' => w'.cell? ⟨w.heap.size, 0, none⟩ = some (.string a0.Name) ∧ w'.cell? ⟨w.heap.size, 1, none⟩ = some (.slice (some ⟨e5b, e5o, none⟩) a0.Rules.length c0_1) ∧ w'.cell? ⟨e5b, e5o + k2 * 5, none⟩ = some (.string ((gt a0.Rules k2).Name)) ∧ w'.cell? ⟨e5b, e5o + k2 * 5 + 1, none⟩ = some (.int .i64 ((gt a0.Rules k2).Sal)) ∧ w'.cell? ⟨e5b, e5o + k2 * 5 + 2, none⟩ = some (.slice pe5_2 ((gt a0.Rules k2).Pats.length) ce5_2) ∧ w'.cell? ⟨e5b, e5o + k2 * 5 + 3, none⟩ = some (.slice pe5_3 ((gt a0.Rules k2).Conds.length) ce5_3) ∧ w'.cell? ⟨e5b, e5o + k2 * 5 + 4, none⟩ = some (.slice pe5_4 ((gt a0.Rules k2).Acts.length) ce5_4))) (by kernel_rfl) ?_ (fun hHeld0 => ?_)
   · go_keep
   refine tt 0 ?_
   simp only [Act.put, sa, s0, ss]
   refine tt 1 ?_
   simp only [Act.put, sa, s0, ss]
   refine tt 2 ?_
   simp only [Act.put, sa, s0, ss]
   refine tt 3 ?_
   simp only [Act.put, sa, s0, ss]
   refine tt 4 ?_
   simp only [Act.put, sa, s0, ss]
   refine wpAnyH_ready (rs := [5]) (by kernel_rfl) (by simp) ?_
   refine' AllReadyH.cons (o := _) ?hi1094_5 (fun K hK => ?_) AllReadyH.nil
   case hi1094_5 => simp only [List.getElem?_toArray, List.getElem?_cons_succ, List.getElem?_cons_zero]; exact rfl
   go_simp
   go_at_call 154
   refine (sRuleOk_w (gt a0.Rules k2) _ _ _ _ (te5_2.to (by simp (maxDischargeDepth := 9) [B3])) (te5_3.to (by simp (maxDischargeDepth := 9) [B3])) (te5_4.to (by simp (maxDischargeDepth := 9) [B3])) e5ok (Nat.le_trans (szn_gtRule a0.Rules k2 (by first | assumption | omega)) (Nat.le_trans (szn_Def_Rules a0) hz_a0))).mono ?_
   rintro e w7 ⟨rfl, hb7⟩
   have B7 := via (w0 := w) (by simp (maxDischargeDepth := 9) [B3]) hb7
   have U7 : Below wr2.heap.size wr2 w7 := via (by simp (maxDischargeDepth := 9)) hb7
   have Xbx1_7 := Xbx1_3.via U7
   clear Xbx1_3 Xbx1_3k0 Xbx1_3k1
   have ⟨Xbx1_7k0, Xbx1_7k1⟩ := bx2 Xbx1_7
   clear e5d0n e5d1n e5d2n e5d3n e5d4n
   have ⟨e5d0n, e5d1n, e5d2n, e5d3n, e5d4n⟩ := cb5 B7 e5bl e5E.out
   clear U7
   clear B3
   cases h8 : sRuleOk_p (gt a0.Rules k2) with
   | true =>
    replace h8 := Lib.hid h8
    go_wp2_with fail
    refine hK.out _ _ ?_ (fun hHeld5 => ?_)
    · go_keep
    clear hK K hHeld0
    refine tt 6 ?_
    simp only [Act.put, sa, s0, ss]
    refine tt 7 ?_
    simp only [Act.put, sa, s0, ss]
    refine tt 8 ?_
    simp only [Act.put, sa, s0, ss]
    refine tt 9 ?_
    simp only [Act.put, sa, s0, ss]
    refine tt 10 ?_
    simp only [Act.put, sa, s0, ss]
    refine tt 11 ?_
    simp only [Act.put, sa, s0, ss]
    refine tt 12 ?_
    simp only [Act.put, sa, s0, ss]
    refine tt 13 ?_
    simp only [Act.put, sa, s0, ss]
    refine tt 14 ?_
    simp only [Act.put, sa, s0, ss]
    refine tt 16 ?_
    simp only [Act.put, sa, s0, ss]
    refine wpAnyH_ready (rs := [15]) (by kernel_rfl) (by simp) ?_
    refine' AllReadyH.cons (o := _) ?hi1095_15 (fun K hK => ?_) AllReadyH.nil
    case hi1095_15 => simp only [List.getElem?_toArray, List.getElem?_cons_succ, List.getElem?_cons_zero]; exact rfl
    go_simp
    go_at_call 155
    refine (sRuleAt_w a0 ((gt a0.Rules k2).Name) _ _ (s0_1.to (by simp (maxDischargeDepth := 9) [B7]))).mono ?_
    rintro e w9 ⟨rfl, hb9⟩
    have B9 := via (w0 := w) (by simp (maxDischargeDepth := 9) [B7]) hb9
    have U9 : Below w7.heap.size w7 w9 := via (by simp (maxDischargeDepth := 9)) hb9
    have Xbx1_9 := Xbx1_7.via U9
    clear Xbx1_7 Xbx1_7k0 Xbx1_7k1
    have ⟨Xbx1_9k0, Xbx1_9k1⟩ := bx2 Xbx1_9
    clear e5d0n e5d1n e5d2n e5d3n e5d4n
    have ⟨e5d0n, e5d1n, e5d2n, e5d3n, e5d4n⟩ := cb5 B9 e5bl e5E.out
    clear U9
    clear B7
    go_wp2_with fail
    refine hK.out _ _ ?_ (fun hHeld15 => ?_)
    · go_keep
    clear hK K hHeld5
    obtain ⟨bh10, eh10⟩ : ∃ b, ((sRuleAt_p a0 ((gt a0.Rules k2).Name)) == (k2 : Int)) = b := ⟨_, rfl⟩
    have nh10 : ((sRuleAt_p a0 ((gt a0.Rules k2).Name)) != (k2 : Int)) = !bh10 := by rw [← eh10]; rfl
    rcases Bool.eq_false_or_eq_true bh10 with h10 | h10
    ·
     refine tt 17 ?_
     simp only [Act.put, sa, s0, ss]
     refine tt 18 ?_
     simp only [Act.put, sa, s0, ss]
     refine wpAnyH_done (by kernel_rfl) ?_ _
     clear hHeld15
     refine NoPanic.normal ?_
     have q11 : sDefOk_p_b1 a0 k2 () = .go () := by simp only [sDefOk_p_b1, h8.out, eh10, h10, cond_true]
     replace q11 := Lib.hid (rounds_next hy3.out q11)
     go_wp2
     go_roundw
     case rel => exact ⟨(by simp (maxDischargeDepth := 9) [B9]), (by simp (maxDischargeDepth := 9) [Xbx1_9]), k2 + 1, by go_num, by omega, q11⟩
     case measure => simp [intOf]; omega
    ·
     refine tt 17 ?_
     simp only [Act.put, sa, s0, ss]
     refine tt 18 ?_
     simp only [Act.put, sa, s0, ss]
     refine wpAnyH_done (by kernel_rfl) ?_ _
     clear hHeld15
     refine NoPanic.normal ?_
     have q12 : sDefOk_p_b1 a0 k2 () = .ret false := by simp only [sDefOk_p_b1, h8.out, eh10, h10, cond_true, cond_false]
     have q13 := rounds_ret hlt3 hy3.out q12
     obtain rfl : r = false := hr.out.symm.trans (by simp only [sDefOk_p, q13])
     go_wp2
     go_ret
     exact rbk (by simp (maxDischargeDepth := 9) [B9])
   | false =>
    replace h8 := Lib.hid h8
    go_wp2_with fail
    refine hK.out _ _ ?_ (fun hHeld5 => ?_)
    · go_keep
    clear hK K hHeld0
    refine tt 6 ?_
    simp only [Act.put, sa, s0, ss]
    refine tt 7 ?_
    simp only [Act.put, sa, s0, ss]
    refine tu 8 ?_
    simp only [Act.put, sa, s0, ss]
    refine tu 9 ?_
    simp only [Act.put, sa, s0, ss]
    refine tu 10 ?_
    simp only [Act.put, sa, s0, ss]
    refine tu 11 ?_
    simp only [Act.put, sa, s0, ss]
    refine tu 12 ?_
    simp only [Act.put, sa, s0, ss]
    refine tu 13 ?_
    simp only [Act.put, sa, s0, ss]
    refine tu 14 ?_
    simp only [Act.put, sa, s0, ss]
    refine tu 15 ?_
    simp only [Act.put, sa, s0, ss]
    refine tu 16 ?_
    simp only [Act.put, sa, s0, ss]
    refine tu 17 ?_
    simp only [Act.put, sa, s0, ss]
    refine tt 18 ?_
    simp only [Act.put, sa, s0, ss]
    refine wpAnyH_done (by kernel_rfl) ?_ _
    clear hHeld5
    refine NoPanic.normal ?_
    have q14 : sDefOk_p_b1 a0 k2 () = .ret false := by simp only [sDefOk_p_b1, h8.out, cond_false]
    have q15 := rounds_ret hlt3 hy3.out q14
    obtain rfl : r = false := hr.out.symm.trans (by simp only [sDefOk_p, q15])
    go_wp2
    go_ret
    exact rbk (by simp (maxDischargeDepth := 9) [B7])
  ·
   obtain rfl : a0.Rules.length = k2 := by omega
   go_wp2_with fail
   refine (sNameOk_w a0.Name  _ ok_a0).mono ?_
   rintro e w16 ⟨rfl, hb16⟩
   have B16 := via (w0 := w) (by simp (maxDischargeDepth := 9) [B3]) hb16
   have U16 : Below wr2.heap.size wr2 w16 := via (by simp (maxDischargeDepth := 9)) hb16
   have Xbx1_16 := Xbx1_3.via U16
   clear Xbx1_3 Xbx1_3k0 Xbx1_3k1
   have ⟨Xbx1_16k0, Xbx1_16k1⟩ := bx2 Xbx1_16
   clear U16
   clear B3
   cases h17 : sNameOk_p a0.Name with
   | true =>
    replace h17 := Lib.hid h17
    go_wp2_with fail
    refine (sl1In_w ((a0.Rules.length : Nat) : Int) (1 : Int) (12 : Int)  _ ).mono ?_
    rintro e w18 ⟨rfl, hb18⟩
    have B18 := via (w0 := w) (by simp (maxDischargeDepth := 9) [B16]) hb18
    have U18 : Below w16.heap.size w16 w18 := via (by simp (maxDischargeDepth := 9)) hb18
    have Xbx1_18 := Xbx1_16.via U18
    clear Xbx1_16 Xbx1_16k0 Xbx1_16k1
    have ⟨Xbx1_18k0, Xbx1_18k1⟩ := bx2 Xbx1_18
    clear U18
    clear B16
    obtain rfl : r = inR ((a0.Rules.length : Nat) : Int) (1 : Int) (12 : Int) := hr.out.symm.trans (by simp only [sDefOk_p, hy3.out, h17.out, cond_true])
    go_wp2
    go_ret
    exact rbk (by simp (maxDischargeDepth := 9) [B18])
   | false =>
    replace h17 := Lib.hid h17
    obtain rfl : r = false := hr.out.symm.trans (by simp only [sDefOk_p, hy3.out, h17.out, cond_false])
    go_wp2
    go_ret
    exact rbk (by simp (maxDischargeDepth := 9) [B16])

-- spec.InstOk
def sInstOk_p (a0 : DefD) (a1 : InstD) : Bool := bif sDefOk_p a0 then (bif sStoreOk_p a1.S then (bif sTasksOk_p a1.Tasks then (bif sTimersOk_p a1.Timers then (bif sUndosOk_p a1.Undos then (bif inR a1.State (1 : Int) (6 : Int) then (bif inR a1.Now (0 : Int) (1000000000 : Int) then (bif sl20Fired_p a0 a1 then (bif sEnded_p a1 then (bif sl20Live_p a1.Tasks then (false) else (bif decide (0 < a1.Timers.length) then (false) else (bif sl20Undoing_p a1 then (bif decide (0 < a1.Undos.length) then (true) else (false)) else (true)))) else (bif sl20Undoing_p a1 then (bif decide (0 < a1.Undos.length) then (true) else (false)) else (true))) else (false)) else (false)) else (false)) else (false)) else (false)) else (false)) else (false)) else (false)
set_option maxHeartbeats 1000000 in
set_option maxRecDepth 20000 in
theorem sInstOk_w (a0 : DefD) (a1 : InstD) (v0_1 : Value) (v1_0 : Value) (v1_2 : Value) (v1_3 : Value) (v1_4 : Value) (v1_5 : Value) (w : World) (s0_1 : Sl w a0.Rules v0_1) (s1_0 : Sl w a1.S.Items v1_0) (s1_2 : Sl w a1.Fired v1_2) (s1_3 : Sl w a1.Tasks v1_3) (s1_4 : Sl w a1.Timers v1_4) (s1_5 : Sl w a1.Undos v1_5) (ok_a0 : okDef a0) (hz_a0 : sznDef a0 ≤ 1048576) (hz_a1 : sznInst a1 ≤ 1048576) :
    Calls Tryz.prog 92 #[.agg #[.string a0.Name, v0_1], .agg #[v1_0, .int .i64 a1.S.Next, v1_2, v1_3, v1_4, v1_5, .int .i64 a1.State, .int .i64 a1.Now]] w (RetB (sInstOk_p a0 a1) w) := by
 obtain ⟨p0_1, c0_1, rfl, hl0_1, -, hk0_1, -⟩ := s0_1.open
 obtain ⟨p1_0, c1_0, rfl, hl1_0, -, hk1_0, -⟩ := s1_0.open
 obtain ⟨p1_2, c1_2, rfl, hl1_2, -, hk1_2, -⟩ := s1_2.open
 obtain ⟨p1_3, c1_3, rfl, hl1_3, -, hk1_3, -⟩ := s1_3.open
 obtain ⟨p1_4, c1_4, rfl, hl1_4, -, hk1_4, -⟩ := s1_4.open
 obtain ⟨p1_5, c1_5, rfl, hl1_5, -, hk1_5, -⟩ := s1_5.open
 obtain ⟨r, hr⟩ : ∃ r, sInstOk_p a0 a1 = r := ⟨_, rfl⟩
 rw [hr]
 replace hr := Lib.hid hr
 go_enter Tryz.func92, Tryz.ntmps92
 go_wp2_with fail
 refine (sDefOk_w a0 _ _ (s0_1.to (by simp (maxDischargeDepth := 9))) ok_a0 hz_a0).mono ?_
 rintro e w3 ⟨rfl, hb3⟩
 have B3 := via (w0 := w) (by simp (maxDischargeDepth := 9)) hb3
 have Xbx1_3 : Bx w3 (w.heap.size) [.string a0.Name, .slice p0_1 a0.Rules.length c0_1] := Bx.via (by simp (maxDischargeDepth := 9)) hb3
 have ⟨Xbx1_3k0, Xbx1_3k1⟩ := bx2 Xbx1_3
 have Xbx2_3 : Bx w3 (w.heap.size + 1) [.slice p1_0 a1.S.Items.length c1_0, .int .i64 a1.S.Next, .slice p1_2 a1.Fired.length c1_2, .slice p1_3 a1.Tasks.length c1_3, .slice p1_4 a1.Timers.length c1_4, .slice p1_5 a1.Undos.length c1_5, .int .i64 a1.State, .int .i64 a1.Now] := Bx.via (by simp (maxDischargeDepth := 9)) hb3
 have ⟨Xbx2_3k0, Xbx2_3k1, Xbx2_3k2, Xbx2_3k3, Xbx2_3k4, Xbx2_3k5, Xbx2_3k6, Xbx2_3k7⟩ := bx8 Xbx2_3
 cases h4 : sDefOk_p a0 with
 | true =>
  replace h4 := Lib.hid h4
  go_wp2_with fail
  refine (sStoreOk_w a1.S _ _ (s1_0.to (by simp (maxDischargeDepth := 9) [B3]))).mono ?_
  rintro e w5 ⟨rfl, hb5⟩
  have B5 := via (w0 := w) (by simp (maxDischargeDepth := 9) [B3]) hb5
  have U5 : Below w3.heap.size w3 w5 := via (by simp (maxDischargeDepth := 9)) hb5
  have Xbx1_5 := Xbx1_3.via U5
  clear Xbx1_3 Xbx1_3k0 Xbx1_3k1
  have ⟨Xbx1_5k0, Xbx1_5k1⟩ := bx2 Xbx1_5
  have Xbx2_5 := Xbx2_3.via U5
  clear Xbx2_3 Xbx2_3k0 Xbx2_3k1 Xbx2_3k2 Xbx2_3k3 Xbx2_3k4 Xbx2_3k5 Xbx2_3k6 Xbx2_3k7
  have ⟨Xbx2_5k0, Xbx2_5k1, Xbx2_5k2, Xbx2_5k3, Xbx2_5k4, Xbx2_5k5, Xbx2_5k6, Xbx2_5k7⟩ := bx8 Xbx2_5
  clear U5
  clear B3
  cases h6 : sStoreOk_p a1.S with
  | true =>
   replace h6 := Lib.hid h6
   go_wp2_with fail
   refine (sTasksOk_w a1.Tasks _ _ (s1_3.to (by simp (maxDischargeDepth := 9) [B5]))).mono ?_
   rintro e w7 ⟨rfl, hb7⟩
   have B7 := via (w0 := w) (by simp (maxDischargeDepth := 9) [B5]) hb7
   have U7 : Below w5.heap.size w5 w7 := via (by simp (maxDischargeDepth := 9)) hb7
   have Xbx1_7 := Xbx1_5.via U7
   clear Xbx1_5 Xbx1_5k0 Xbx1_5k1
   have ⟨Xbx1_7k0, Xbx1_7k1⟩ := bx2 Xbx1_7
   have Xbx2_7 := Xbx2_5.via U7
   clear Xbx2_5 Xbx2_5k0 Xbx2_5k1 Xbx2_5k2 Xbx2_5k3 Xbx2_5k4 Xbx2_5k5 Xbx2_5k6 Xbx2_5k7
   have ⟨Xbx2_7k0, Xbx2_7k1, Xbx2_7k2, Xbx2_7k3, Xbx2_7k4, Xbx2_7k5, Xbx2_7k6, Xbx2_7k7⟩ := bx8 Xbx2_7
   clear U7
   clear B5
   cases h8 : sTasksOk_p a1.Tasks with
   | true =>
    replace h8 := Lib.hid h8
    go_wp2_with fail
    refine (sTimersOk_w a1.Timers _ _ (s1_4.to (by simp (maxDischargeDepth := 9) [B7]))).mono ?_
    rintro e w9 ⟨rfl, hb9⟩
    have B9 := via (w0 := w) (by simp (maxDischargeDepth := 9) [B7]) hb9
    have U9 : Below w7.heap.size w7 w9 := via (by simp (maxDischargeDepth := 9)) hb9
    have Xbx1_9 := Xbx1_7.via U9
    clear Xbx1_7 Xbx1_7k0 Xbx1_7k1
    have ⟨Xbx1_9k0, Xbx1_9k1⟩ := bx2 Xbx1_9
    have Xbx2_9 := Xbx2_7.via U9
    clear Xbx2_7 Xbx2_7k0 Xbx2_7k1 Xbx2_7k2 Xbx2_7k3 Xbx2_7k4 Xbx2_7k5 Xbx2_7k6 Xbx2_7k7
    have ⟨Xbx2_9k0, Xbx2_9k1, Xbx2_9k2, Xbx2_9k3, Xbx2_9k4, Xbx2_9k5, Xbx2_9k6, Xbx2_9k7⟩ := bx8 Xbx2_9
    clear U9
    clear B7
    cases h10 : sTimersOk_p a1.Timers with
    | true =>
     replace h10 := Lib.hid h10
     go_wp2_with fail
     refine (sUndosOk_w a1.Undos _ _ (s1_5.to (by simp (maxDischargeDepth := 9) [B9]))).mono ?_
     rintro e w11 ⟨rfl, hb11⟩
     have B11 := via (w0 := w) (by simp (maxDischargeDepth := 9) [B9]) hb11
     have U11 : Below w9.heap.size w9 w11 := via (by simp (maxDischargeDepth := 9)) hb11
     have Xbx1_11 := Xbx1_9.via U11
     clear Xbx1_9 Xbx1_9k0 Xbx1_9k1
     have ⟨Xbx1_11k0, Xbx1_11k1⟩ := bx2 Xbx1_11
     have Xbx2_11 := Xbx2_9.via U11
     clear Xbx2_9 Xbx2_9k0 Xbx2_9k1 Xbx2_9k2 Xbx2_9k3 Xbx2_9k4 Xbx2_9k5 Xbx2_9k6 Xbx2_9k7
     have ⟨Xbx2_11k0, Xbx2_11k1, Xbx2_11k2, Xbx2_11k3, Xbx2_11k4, Xbx2_11k5, Xbx2_11k6, Xbx2_11k7⟩ := bx8 Xbx2_11
     clear U11
     clear B9
     cases h12 : sUndosOk_p a1.Undos with
     | true =>
      replace h12 := Lib.hid h12
      go_wp2_with fail
      refine (sl1In_w a1.State (1 : Int) (6 : Int)  _ ).mono ?_
      rintro e w13 ⟨rfl, hb13⟩
      have B13 := via (w0 := w) (by simp (maxDischargeDepth := 9) [B11]) hb13
      have U13 : Below w11.heap.size w11 w13 := via (by simp (maxDischargeDepth := 9)) hb13
      have Xbx1_13 := Xbx1_11.via U13
      clear Xbx1_11 Xbx1_11k0 Xbx1_11k1
      have ⟨Xbx1_13k0, Xbx1_13k1⟩ := bx2 Xbx1_13
      have Xbx2_13 := Xbx2_11.via U13
      clear Xbx2_11 Xbx2_11k0 Xbx2_11k1 Xbx2_11k2 Xbx2_11k3 Xbx2_11k4 Xbx2_11k5 Xbx2_11k6 Xbx2_11k7
      have ⟨Xbx2_13k0, Xbx2_13k1, Xbx2_13k2, Xbx2_13k3, Xbx2_13k4, Xbx2_13k5, Xbx2_13k6, Xbx2_13k7⟩ := bx8 Xbx2_13
      clear U13
      clear B11
      cases h14 : inR a1.State (1 : Int) (6 : Int) with
      | true =>
       have ⟨h14a, h14b⟩ := inR_true h14
       replace h14 := Lib.hid h14
       go_wp2_with fail
       refine (sl1In_w a1.Now (0 : Int) (1000000000 : Int)  _ ).mono ?_
       rintro e w15 ⟨rfl, hb15⟩
       have B15 := via (w0 := w) (by simp (maxDischargeDepth := 9) [B13]) hb15
       have U15 : Below w13.heap.size w13 w15 := via (by simp (maxDischargeDepth := 9)) hb15
       have Xbx1_15 := Xbx1_13.via U15
       clear Xbx1_13 Xbx1_13k0 Xbx1_13k1
       have ⟨Xbx1_15k0, Xbx1_15k1⟩ := bx2 Xbx1_15
       have Xbx2_15 := Xbx2_13.via U15
       clear Xbx2_13 Xbx2_13k0 Xbx2_13k1 Xbx2_13k2 Xbx2_13k3 Xbx2_13k4 Xbx2_13k5 Xbx2_13k6 Xbx2_13k7
       have ⟨Xbx2_15k0, Xbx2_15k1, Xbx2_15k2, Xbx2_15k3, Xbx2_15k4, Xbx2_15k5, Xbx2_15k6, Xbx2_15k7⟩ := bx8 Xbx2_15
       clear U15
       clear B13
       cases h16 : inR a1.Now (0 : Int) (1000000000 : Int) with
       | true =>
        have ⟨h16a, h16b⟩ := inR_true h16
        replace h16 := Lib.hid h16
        go_wp2_with fail
        refine (sl20Fired_w a0 a1 _ _ _ _ _ _ _ (s0_1.to (by simp (maxDischargeDepth := 9) [B15])) (s1_0.to (by simp (maxDischargeDepth := 9) [B15])) (s1_2.to (by simp (maxDischargeDepth := 9) [B15])) (s1_3.to (by simp (maxDischargeDepth := 9) [B15])) (s1_4.to (by simp (maxDischargeDepth := 9) [B15])) (s1_5.to (by simp (maxDischargeDepth := 9) [B15])) hz_a1).mono ?_
        rintro e w17 ⟨rfl, hb17⟩
        have B17 := via (w0 := w) (by simp (maxDischargeDepth := 9) [B15]) hb17
        have U17 : Below w15.heap.size w15 w17 := via (by simp (maxDischargeDepth := 9)) hb17
        have Xbx1_17 := Xbx1_15.via U17
        clear Xbx1_15 Xbx1_15k0 Xbx1_15k1
        have ⟨Xbx1_17k0, Xbx1_17k1⟩ := bx2 Xbx1_17
        have Xbx2_17 := Xbx2_15.via U17
        clear Xbx2_15 Xbx2_15k0 Xbx2_15k1 Xbx2_15k2 Xbx2_15k3 Xbx2_15k4 Xbx2_15k5 Xbx2_15k6 Xbx2_15k7
        have ⟨Xbx2_17k0, Xbx2_17k1, Xbx2_17k2, Xbx2_17k3, Xbx2_17k4, Xbx2_17k5, Xbx2_17k6, Xbx2_17k7⟩ := bx8 Xbx2_17
        clear U17
        clear B15
        cases h18 : sl20Fired_p a0 a1 with
        | true =>
         replace h18 := Lib.hid h18
         go_wp2_with fail
         refine (sEnded_w a1 _ _ _ _ _ _ (s1_0.to (by simp (maxDischargeDepth := 9) [B17])) (s1_2.to (by simp (maxDischargeDepth := 9) [B17])) (s1_3.to (by simp (maxDischargeDepth := 9) [B17])) (s1_4.to (by simp (maxDischargeDepth := 9) [B17])) (s1_5.to (by simp (maxDischargeDepth := 9) [B17]))).mono ?_
         rintro e w19 ⟨rfl, hb19⟩
         have B19 := via (w0 := w) (by simp (maxDischargeDepth := 9) [B17]) hb19
         have U19 : Below w17.heap.size w17 w19 := via (by simp (maxDischargeDepth := 9)) hb19
         have Xbx1_19 := Xbx1_17.via U19
         clear Xbx1_17 Xbx1_17k0 Xbx1_17k1
         have ⟨Xbx1_19k0, Xbx1_19k1⟩ := bx2 Xbx1_19
         have Xbx2_19 := Xbx2_17.via U19
         clear Xbx2_17 Xbx2_17k0 Xbx2_17k1 Xbx2_17k2 Xbx2_17k3 Xbx2_17k4 Xbx2_17k5 Xbx2_17k6 Xbx2_17k7
         have ⟨Xbx2_19k0, Xbx2_19k1, Xbx2_19k2, Xbx2_19k3, Xbx2_19k4, Xbx2_19k5, Xbx2_19k6, Xbx2_19k7⟩ := bx8 Xbx2_19
         clear U19
         clear B17
         cases h20 : sEnded_p a1 with
         | true =>
          replace h20 := Lib.hid h20
          go_wp2_with fail
          refine (sl20Live_w a1.Tasks _ _ (s1_3.to (by simp (maxDischargeDepth := 9) [B19]))).mono ?_
          rintro e w21 ⟨rfl, hb21⟩
          have B21 := via (w0 := w) (by simp (maxDischargeDepth := 9) [B19]) hb21
          have U21 : Below w19.heap.size w19 w21 := via (by simp (maxDischargeDepth := 9)) hb21
          have Xbx1_21 := Xbx1_19.via U21
          clear Xbx1_19 Xbx1_19k0 Xbx1_19k1
          have ⟨Xbx1_21k0, Xbx1_21k1⟩ := bx2 Xbx1_21
          have Xbx2_21 := Xbx2_19.via U21
          clear Xbx2_19 Xbx2_19k0 Xbx2_19k1 Xbx2_19k2 Xbx2_19k3 Xbx2_19k4 Xbx2_19k5 Xbx2_19k6 Xbx2_19k7
          have ⟨Xbx2_21k0, Xbx2_21k1, Xbx2_21k2, Xbx2_21k3, Xbx2_21k4, Xbx2_21k5, Xbx2_21k6, Xbx2_21k7⟩ := bx8 Xbx2_21
          clear U21
          clear B19
          cases h22 : sl20Live_p a1.Tasks with
          | true =>
           replace h22 := Lib.hid h22
           obtain rfl : r = false := hr.out.symm.trans (by simp only [sInstOk_p, h4.out, h6.out, h8.out, h10.out, h12.out, h14.out, h16.out, h18.out, h20.out, h22.out, cond_true])
           go_wp2
           go_ret
           exact rbk (by simp (maxDischargeDepth := 9) [B21])
          | false =>
           replace h22 := Lib.hid h22
           by_cases h23 : 0 < a1.Timers.length
           ·
            have h23d := Lib.hid (decide_eq_true h23)
            obtain rfl : r = false := hr.out.symm.trans (by simp only [sInstOk_p, h4.out, h6.out, h8.out, h10.out, h12.out, h14.out, h16.out, h18.out, h20.out, h22.out, h23d.out, cond_true, cond_false])
            go_wp2
            go_ret
            exact rbk (by simp (maxDischargeDepth := 9) [B21])
           ·
            have h23d := Lib.hid (decide_eq_false h23)
            go_wp2_with fail
            refine (sl20Undoing_w a1 _ _ _ _ _ _ (s1_0.to (by simp (maxDischargeDepth := 9) [B21])) (s1_2.to (by simp (maxDischargeDepth := 9) [B21])) (s1_3.to (by simp (maxDischargeDepth := 9) [B21])) (s1_4.to (by simp (maxDischargeDepth := 9) [B21])) (s1_5.to (by simp (maxDischargeDepth := 9) [B21]))).mono ?_
            rintro e w24 ⟨rfl, hb24⟩
            have B24 := via (w0 := w) (by simp (maxDischargeDepth := 9) [B21]) hb24
            have U24 : Below w21.heap.size w21 w24 := via (by simp (maxDischargeDepth := 9)) hb24
            have Xbx1_24 := Xbx1_21.via U24
            clear Xbx1_21 Xbx1_21k0 Xbx1_21k1
            have ⟨Xbx1_24k0, Xbx1_24k1⟩ := bx2 Xbx1_24
            have Xbx2_24 := Xbx2_21.via U24
            clear Xbx2_21 Xbx2_21k0 Xbx2_21k1 Xbx2_21k2 Xbx2_21k3 Xbx2_21k4 Xbx2_21k5 Xbx2_21k6 Xbx2_21k7
            have ⟨Xbx2_24k0, Xbx2_24k1, Xbx2_24k2, Xbx2_24k3, Xbx2_24k4, Xbx2_24k5, Xbx2_24k6, Xbx2_24k7⟩ := bx8 Xbx2_24
            clear U24
            clear B21
            cases h25 : sl20Undoing_p a1 with
            | true =>
             replace h25 := Lib.hid h25
             by_cases h26 : 0 < a1.Undos.length
             ·
              have h26d := Lib.hid (decide_eq_true h26)
              obtain rfl : r = true := hr.out.symm.trans (by simp only [sInstOk_p, h4.out, h6.out, h8.out, h10.out, h12.out, h14.out, h16.out, h18.out, h20.out, h22.out, h23d.out, h25.out, h26d.out, cond_true, cond_false])
              go_wp2
              go_ret
              exact rbk (by simp (maxDischargeDepth := 9) [B24])
             ·
              have h26d := Lib.hid (decide_eq_false h26)
              obtain rfl : r = false := hr.out.symm.trans (by simp only [sInstOk_p, h4.out, h6.out, h8.out, h10.out, h12.out, h14.out, h16.out, h18.out, h20.out, h22.out, h23d.out, h25.out, h26d.out, cond_true, cond_false])
              go_wp2
              go_ret
              exact rbk (by simp (maxDischargeDepth := 9) [B24])
            | false =>
             replace h25 := Lib.hid h25
             obtain rfl : r = true := hr.out.symm.trans (by simp only [sInstOk_p, h4.out, h6.out, h8.out, h10.out, h12.out, h14.out, h16.out, h18.out, h20.out, h22.out, h23d.out, h25.out, cond_true, cond_false])
             go_wp2
             go_ret
             exact rbk (by simp (maxDischargeDepth := 9) [B24])
         | false =>
          replace h20 := Lib.hid h20
          go_wp2_with fail
          refine (sl20Undoing_w a1 _ _ _ _ _ _ (s1_0.to (by simp (maxDischargeDepth := 9) [B19])) (s1_2.to (by simp (maxDischargeDepth := 9) [B19])) (s1_3.to (by simp (maxDischargeDepth := 9) [B19])) (s1_4.to (by simp (maxDischargeDepth := 9) [B19])) (s1_5.to (by simp (maxDischargeDepth := 9) [B19]))).mono ?_
          rintro e w27 ⟨rfl, hb27⟩
          have B27 := via (w0 := w) (by simp (maxDischargeDepth := 9) [B19]) hb27
          have U27 : Below w19.heap.size w19 w27 := via (by simp (maxDischargeDepth := 9)) hb27
          have Xbx1_27 := Xbx1_19.via U27
          clear Xbx1_19 Xbx1_19k0 Xbx1_19k1
          have ⟨Xbx1_27k0, Xbx1_27k1⟩ := bx2 Xbx1_27
          have Xbx2_27 := Xbx2_19.via U27
          clear Xbx2_19 Xbx2_19k0 Xbx2_19k1 Xbx2_19k2 Xbx2_19k3 Xbx2_19k4 Xbx2_19k5 Xbx2_19k6 Xbx2_19k7
          have ⟨Xbx2_27k0, Xbx2_27k1, Xbx2_27k2, Xbx2_27k3, Xbx2_27k4, Xbx2_27k5, Xbx2_27k6, Xbx2_27k7⟩ := bx8 Xbx2_27
          clear U27
          clear B19
          cases h28 : sl20Undoing_p a1 with
          | true =>
           replace h28 := Lib.hid h28
           by_cases h29 : 0 < a1.Undos.length
           ·
            have h29d := Lib.hid (decide_eq_true h29)
            obtain rfl : r = true := hr.out.symm.trans (by simp only [sInstOk_p, h4.out, h6.out, h8.out, h10.out, h12.out, h14.out, h16.out, h18.out, h20.out, h28.out, h29d.out, cond_true, cond_false])
            go_wp2
            go_ret
            exact rbk (by simp (maxDischargeDepth := 9) [B27])
           ·
            have h29d := Lib.hid (decide_eq_false h29)
            obtain rfl : r = false := hr.out.symm.trans (by simp only [sInstOk_p, h4.out, h6.out, h8.out, h10.out, h12.out, h14.out, h16.out, h18.out, h20.out, h28.out, h29d.out, cond_true, cond_false])
            go_wp2
            go_ret
            exact rbk (by simp (maxDischargeDepth := 9) [B27])
          | false =>
           replace h28 := Lib.hid h28
           obtain rfl : r = true := hr.out.symm.trans (by simp only [sInstOk_p, h4.out, h6.out, h8.out, h10.out, h12.out, h14.out, h16.out, h18.out, h20.out, h28.out, cond_true, cond_false])
           go_wp2
           go_ret
           exact rbk (by simp (maxDischargeDepth := 9) [B27])
        | false =>
         replace h18 := Lib.hid h18
         obtain rfl : r = false := hr.out.symm.trans (by simp only [sInstOk_p, h4.out, h6.out, h8.out, h10.out, h12.out, h14.out, h16.out, h18.out, cond_true, cond_false])
         go_wp2
         go_ret
         exact rbk (by simp (maxDischargeDepth := 9) [B17])
       | false =>
        replace h16 := Lib.hid h16
        obtain rfl : r = false := hr.out.symm.trans (by simp only [sInstOk_p, h4.out, h6.out, h8.out, h10.out, h12.out, h14.out, h16.out, cond_true, cond_false])
        go_wp2
        go_ret
        exact rbk (by simp (maxDischargeDepth := 9) [B15])
      | false =>
       replace h14 := Lib.hid h14
       obtain rfl : r = false := hr.out.symm.trans (by simp only [sInstOk_p, h4.out, h6.out, h8.out, h10.out, h12.out, h14.out, cond_true, cond_false])
       go_wp2
       go_ret
       exact rbk (by simp (maxDischargeDepth := 9) [B13])
     | false =>
      replace h12 := Lib.hid h12
      obtain rfl : r = false := hr.out.symm.trans (by simp only [sInstOk_p, h4.out, h6.out, h8.out, h10.out, h12.out, cond_true, cond_false])
      go_wp2
      go_ret
      exact rbk (by simp (maxDischargeDepth := 9) [B11])
    | false =>
     replace h10 := Lib.hid h10
     obtain rfl : r = false := hr.out.symm.trans (by simp only [sInstOk_p, h4.out, h6.out, h8.out, h10.out, cond_true, cond_false])
     go_wp2
     go_ret
     exact rbk (by simp (maxDischargeDepth := 9) [B9])
   | false =>
    replace h8 := Lib.hid h8
    obtain rfl : r = false := hr.out.symm.trans (by simp only [sInstOk_p, h4.out, h6.out, h8.out, cond_true, cond_false])
    go_wp2
    go_ret
    exact rbk (by simp (maxDischargeDepth := 9) [B7])
  | false =>
   replace h6 := Lib.hid h6
   obtain rfl : r = false := hr.out.symm.trans (by simp only [sInstOk_p, h4.out, h6.out, cond_true, cond_false])
   go_wp2
   go_ret
   exact rbk (by simp (maxDischargeDepth := 9) [B5])
 | false =>
  replace h4 := Lib.hid h4
  obtain rfl : r = false := hr.out.symm.trans (by simp only [sInstOk_p, h4.out, cond_false])
  go_wp2
  go_ret
  exact rbk (by simp (maxDischargeDepth := 9) [B3])
end Go.Proofs.YthnilnggpbploaaGreat
