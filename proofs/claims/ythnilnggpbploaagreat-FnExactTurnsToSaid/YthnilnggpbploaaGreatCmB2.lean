/- Functions that only read, walked (B). Printed by a program. -/
import Derived.Test.YthnilnggpbploaaGreatCmA1
import Derived.Test.YthnilnggpbploaaGreatCmB1
import Derived.Test.YthnilnggpbploaaGreatRd
namespace Go.Proofs.YthnilnggpbploaaGreat
open Go.RowKit
open Cel (rd own rd_len rd_one own_rd own_lt rd_below rd_mono own_keep)

-- impl.taskOk
def itaskOk_p (a0 : TaskD) : Bool := bif iFactOk_p a0.F then (bif iisUndo_p a0.Undo then (bif inR a0.State (1 : Int) (4 : Int) then (bif inR a0.Tries (0 : Int) (4 : Int) then (bif (a0.State == 1) then (bif (a0.Tries == 0) then (bif (a0.State == 2) then (false) else (bif inR a0.Due (0 : Int) (1000001000 : Int) then (bif (a0.V.K == 0) then (bif (a0.V.N == 0) then (bif a0.V.S.toList.isEmpty then (true) else (iValOk_p a0.V)) else (iValOk_p a0.V)) else (iValOk_p a0.V)) else (false))) else (false)) else (bif (a0.State == 2) then (bif (a0.Tries == 0) then (false) else (bif inR a0.Due (0 : Int) (1000001000 : Int) then (bif (a0.V.K == 0) then (bif (a0.V.N == 0) then (bif a0.V.S.toList.isEmpty then (true) else (iValOk_p a0.V)) else (iValOk_p a0.V)) else (iValOk_p a0.V)) else (false))) else (bif inR a0.Due (0 : Int) (1000001000 : Int) then (bif (a0.V.K == 0) then (bif (a0.V.N == 0) then (bif a0.V.S.toList.isEmpty then (true) else (iValOk_p a0.V)) else (iValOk_p a0.V)) else (iValOk_p a0.V)) else (false)))) else (false)) else (false)) else (false)) else (false)
set_option maxHeartbeats 1000000 in
set_option maxRecDepth 20000 in
theorem itaskOk_w (a0 : TaskD) (v0_1 : Value) (w : World) (s0_1 : Sl w a0.F.Fields v0_1) (ok_a0 : okTask a0) :
    Calls Tryz.prog 140 #[.agg #[.string a0.F.Kind, v0_1, .string a0.Undo, .int .i64 a0.State, .int .i64 a0.Tries, .int .i64 a0.Due, .int .i64 a0.V.K, .int .i64 a0.V.N, .string a0.V.S]] w (RetB (itaskOk_p a0) w) := by
 obtain ⟨p0_1, c0_1, rfl, hl0_1, -, hk0_1, -⟩ := s0_1.open
 obtain ⟨r, hr⟩ : ∃ r, itaskOk_p a0 = r := ⟨_, rfl⟩
 rw [hr]
 replace hr := Lib.hid hr
 go_enter Tryz.func140, Tryz.ntmps140
 go_wp2_with fail
 refine (iFactOk_w a0.F _ _ (s0_1.to (by simp (maxDischargeDepth := 9))) ok_a0.1).mono ?_
 rintro e w2 ⟨rfl, hb2⟩
 have B2 := via (w0 := w) (by simp (maxDischargeDepth := 9)) hb2
 have Xbx1_2 : Bx w2 (w.heap.size) [.string a0.F.Kind, .slice p0_1 a0.F.Fields.length c0_1, .string a0.Undo, .int .i64 a0.State, .int .i64 a0.Tries, .int .i64 a0.Due, .int .i64 a0.V.K, .int .i64 a0.V.N, .string a0.V.S] := Bx.via (by simp (maxDischargeDepth := 9)) hb2
 have ⟨Xbx1_2k0, Xbx1_2k1, Xbx1_2k2, Xbx1_2k3, Xbx1_2k4, Xbx1_2k5, Xbx1_2k6, Xbx1_2k7, Xbx1_2k8⟩ := bx9 Xbx1_2
 cases h3 : iFactOk_p a0.F with
 | true =>
  replace h3 := Lib.hid h3
  go_wp2_with fail
  refine (iisUndo_w a0.Undo  _ ok_a0.2.1).mono ?_
  rintro e w4 ⟨rfl, hb4⟩
  have B4 := via (w0 := w) (by simp (maxDischargeDepth := 9) [B2]) hb4
  have U4 : Below w2.heap.size w2 w4 := via (by simp (maxDischargeDepth := 9)) hb4
  have Xbx1_4 := Xbx1_2.via U4
  clear Xbx1_2 Xbx1_2k0 Xbx1_2k1 Xbx1_2k2 Xbx1_2k3 Xbx1_2k4 Xbx1_2k5 Xbx1_2k6 Xbx1_2k7 Xbx1_2k8
  have ⟨Xbx1_4k0, Xbx1_4k1, Xbx1_4k2, Xbx1_4k3, Xbx1_4k4, Xbx1_4k5, Xbx1_4k6, Xbx1_4k7, Xbx1_4k8⟩ := bx9 Xbx1_4
  clear U4
  clear B2
  cases h5 : iisUndo_p a0.Undo with
  | true =>
   replace h5 := Lib.hid h5
   go_wp2_with fail
   refine (iinRange_w a0.State (1 : Int) (4 : Int)  _ ).mono ?_
   rintro e w6 ⟨rfl, hb6⟩
   have B6 := via (w0 := w) (by simp (maxDischargeDepth := 9) [B4]) hb6
   have U6 : Below w4.heap.size w4 w6 := via (by simp (maxDischargeDepth := 9)) hb6
   have Xbx1_6 := Xbx1_4.via U6
   clear Xbx1_4 Xbx1_4k0 Xbx1_4k1 Xbx1_4k2 Xbx1_4k3 Xbx1_4k4 Xbx1_4k5 Xbx1_4k6 Xbx1_4k7 Xbx1_4k8
   have ⟨Xbx1_6k0, Xbx1_6k1, Xbx1_6k2, Xbx1_6k3, Xbx1_6k4, Xbx1_6k5, Xbx1_6k6, Xbx1_6k7, Xbx1_6k8⟩ := bx9 Xbx1_6
   clear U6
   clear B4
   cases h7 : inR a0.State (1 : Int) (4 : Int) with
   | true =>
    have ⟨h7a, h7b⟩ := inR_true h7
    replace h7 := Lib.hid h7
    go_wp2_with fail
    refine (iinRange_w a0.Tries (0 : Int) (4 : Int)  _ ).mono ?_
    rintro e w8 ⟨rfl, hb8⟩
    have B8 := via (w0 := w) (by simp (maxDischargeDepth := 9) [B6]) hb8
    have U8 : Below w6.heap.size w6 w8 := via (by simp (maxDischargeDepth := 9)) hb8
    have Xbx1_8 := Xbx1_6.via U8
    clear Xbx1_6 Xbx1_6k0 Xbx1_6k1 Xbx1_6k2 Xbx1_6k3 Xbx1_6k4 Xbx1_6k5 Xbx1_6k6 Xbx1_6k7 Xbx1_6k8
    have ⟨Xbx1_8k0, Xbx1_8k1, Xbx1_8k2, Xbx1_8k3, Xbx1_8k4, Xbx1_8k5, Xbx1_8k6, Xbx1_8k7, Xbx1_8k8⟩ := bx9 Xbx1_8
    clear U8
    clear B6
    cases h9 : inR a0.Tries (0 : Int) (4 : Int) with
    | true =>
     have ⟨h9a, h9b⟩ := inR_true h9
     replace h9 := Lib.hid h9
     obtain ⟨bh10, eh10⟩ : ∃ b, (a0.State == 1) = b := ⟨_, rfl⟩
     rcases Bool.eq_false_or_eq_true bh10 with h10 | h10
     ·
      obtain ⟨bh11, eh11⟩ : ∃ b, (a0.Tries == 0) = b := ⟨_, rfl⟩
      have nh11 : (a0.Tries != 0) = !bh11 := by rw [← eh11]; rfl
      rcases Bool.eq_false_or_eq_true bh11 with h11 | h11
      ·
       obtain ⟨bh12, eh12⟩ : ∃ b, (a0.State == 2) = b := ⟨_, rfl⟩
       rcases Bool.eq_false_or_eq_true bh12 with h12 | h12
       ·
        obtain rfl : r = false := hr.out.symm.trans (by simp only [itaskOk_p, h3.out, h5.out, h7.out, h9.out, eh10, h10, eh11, h11, eh12, h12, cond_true])
        go_wp2
        go_ret
        exact rbk (by simp (maxDischargeDepth := 9) [B8])
       ·
        go_wp2_with fail
        refine (iinRange_w a0.Due (0 : Int) (1000001000 : Int)  _ ).mono ?_
        rintro e w13 ⟨rfl, hb13⟩
        have B13 := via (w0 := w) (by simp (maxDischargeDepth := 9) [B8]) hb13
        have U13 : Below w8.heap.size w8 w13 := via (by simp (maxDischargeDepth := 9)) hb13
        have Xbx1_13 := Xbx1_8.via U13
        clear Xbx1_8 Xbx1_8k0 Xbx1_8k1 Xbx1_8k2 Xbx1_8k3 Xbx1_8k4 Xbx1_8k5 Xbx1_8k6 Xbx1_8k7 Xbx1_8k8
        have ⟨Xbx1_13k0, Xbx1_13k1, Xbx1_13k2, Xbx1_13k3, Xbx1_13k4, Xbx1_13k5, Xbx1_13k6, Xbx1_13k7, Xbx1_13k8⟩ := bx9 Xbx1_13
        clear U13
        clear B8
        cases h14 : inR a0.Due (0 : Int) (1000001000 : Int) with
        | true =>
         have ⟨h14a, h14b⟩ := inR_true h14
         replace h14 := Lib.hid h14
         obtain ⟨bh15, eh15⟩ : ∃ b, (a0.V.K == 0) = b := ⟨_, rfl⟩
         rcases Bool.eq_false_or_eq_true bh15 with h15 | h15
         ·
          obtain ⟨bh16, eh16⟩ : ∃ b, (a0.V.N == 0) = b := ⟨_, rfl⟩
          rcases Bool.eq_false_or_eq_true bh16 with h16 | h16
          ·
           obtain ⟨bh17, eh17⟩ : ∃ b, a0.V.S.toList.isEmpty = b := ⟨_, rfl⟩
           rcases Bool.eq_false_or_eq_true bh17 with h17 | h17
           ·
            obtain rfl : r = true := hr.out.symm.trans (by simp only [itaskOk_p, h3.out, h5.out, h7.out, h9.out, eh10, h10, eh11, h11, eh12, h12, h14.out, eh15, h15, eh16, h16, eh17, h17, cond_true, cond_false])
            go_wp2
            go_ret
            exact rbk (by simp (maxDischargeDepth := 9) [B13])
           ·
            go_wp2_with fail
            refine (iValOk_w a0.V  _ ok_a0.2.2.2.2.2).mono ?_
            rintro e w18 ⟨rfl, hb18⟩
            have B18 := via (w0 := w) (by simp (maxDischargeDepth := 9) [B13]) hb18
            have U18 : Below w13.heap.size w13 w18 := via (by simp (maxDischargeDepth := 9)) hb18
            have Xbx1_18 := Xbx1_13.via U18
            clear Xbx1_13 Xbx1_13k0 Xbx1_13k1 Xbx1_13k2 Xbx1_13k3 Xbx1_13k4 Xbx1_13k5 Xbx1_13k6 Xbx1_13k7 Xbx1_13k8
            have ⟨Xbx1_18k0, Xbx1_18k1, Xbx1_18k2, Xbx1_18k3, Xbx1_18k4, Xbx1_18k5, Xbx1_18k6, Xbx1_18k7, Xbx1_18k8⟩ := bx9 Xbx1_18
            clear U18
            clear B13
            obtain rfl : r = iValOk_p a0.V := hr.out.symm.trans (by simp only [itaskOk_p, h3.out, h5.out, h7.out, h9.out, eh10, h10, eh11, h11, eh12, h12, h14.out, eh15, h15, eh16, h16, eh17, h17, cond_true, cond_false])
            go_wp2
            go_ret
            exact rbk (by simp (maxDischargeDepth := 9) [B18])
          ·
           go_wp2_with fail
           refine (iValOk_w a0.V  _ ok_a0.2.2.2.2.2).mono ?_
           rintro e w19 ⟨rfl, hb19⟩
           have B19 := via (w0 := w) (by simp (maxDischargeDepth := 9) [B13]) hb19
           have U19 : Below w13.heap.size w13 w19 := via (by simp (maxDischargeDepth := 9)) hb19
           have Xbx1_19 := Xbx1_13.via U19
           clear Xbx1_13 Xbx1_13k0 Xbx1_13k1 Xbx1_13k2 Xbx1_13k3 Xbx1_13k4 Xbx1_13k5 Xbx1_13k6 Xbx1_13k7 Xbx1_13k8
           have ⟨Xbx1_19k0, Xbx1_19k1, Xbx1_19k2, Xbx1_19k3, Xbx1_19k4, Xbx1_19k5, Xbx1_19k6, Xbx1_19k7, Xbx1_19k8⟩ := bx9 Xbx1_19
           clear U19
           clear B13
           obtain rfl : r = iValOk_p a0.V := hr.out.symm.trans (by simp only [itaskOk_p, h3.out, h5.out, h7.out, h9.out, eh10, h10, eh11, h11, eh12, h12, h14.out, eh15, h15, eh16, h16, cond_true, cond_false])
           go_wp2
           go_ret
           exact rbk (by simp (maxDischargeDepth := 9) [B19])
         ·
          go_wp2_with fail
          refine (iValOk_w a0.V  _ ok_a0.2.2.2.2.2).mono ?_
          rintro e w20 ⟨rfl, hb20⟩
          have B20 := via (w0 := w) (by simp (maxDischargeDepth := 9) [B13]) hb20
          have U20 : Below w13.heap.size w13 w20 := via (by simp (maxDischargeDepth := 9)) hb20
          have Xbx1_20 := Xbx1_13.via U20
          clear Xbx1_13 Xbx1_13k0 Xbx1_13k1 Xbx1_13k2 Xbx1_13k3 Xbx1_13k4 Xbx1_13k5 Xbx1_13k6 Xbx1_13k7 Xbx1_13k8
          have ⟨Xbx1_20k0, Xbx1_20k1, Xbx1_20k2, Xbx1_20k3, Xbx1_20k4, Xbx1_20k5, Xbx1_20k6, Xbx1_20k7, Xbx1_20k8⟩ := bx9 Xbx1_20
          clear U20
          clear B13
          obtain rfl : r = iValOk_p a0.V := hr.out.symm.trans (by simp only [itaskOk_p, h3.out, h5.out, h7.out, h9.out, eh10, h10, eh11, h11, eh12, h12, h14.out, eh15, h15, cond_true, cond_false])
          go_wp2
          go_ret
          exact rbk (by simp (maxDischargeDepth := 9) [B20])
        | false =>
         replace h14 := Lib.hid h14
         obtain rfl : r = false := hr.out.symm.trans (by simp only [itaskOk_p, h3.out, h5.out, h7.out, h9.out, eh10, h10, eh11, h11, eh12, h12, h14.out, cond_true, cond_false])
         go_wp2
         go_ret
         exact rbk (by simp (maxDischargeDepth := 9) [B13])
      ·
       obtain rfl : r = false := hr.out.symm.trans (by simp only [itaskOk_p, h3.out, h5.out, h7.out, h9.out, eh10, h10, eh11, h11, cond_true, cond_false])
       go_wp2
       go_ret
       exact rbk (by simp (maxDischargeDepth := 9) [B8])
     ·
      obtain ⟨bh21, eh21⟩ : ∃ b, (a0.State == 2) = b := ⟨_, rfl⟩
      rcases Bool.eq_false_or_eq_true bh21 with h21 | h21
      ·
       obtain ⟨bh22, eh22⟩ : ∃ b, (a0.Tries == 0) = b := ⟨_, rfl⟩
       rcases Bool.eq_false_or_eq_true bh22 with h22 | h22
       ·
        obtain rfl : r = false := hr.out.symm.trans (by simp only [itaskOk_p, h3.out, h5.out, h7.out, h9.out, eh10, h10, eh21, h21, eh22, h22, cond_true, cond_false])
        go_wp2
        go_ret
        exact rbk (by simp (maxDischargeDepth := 9) [B8])
       ·
        go_wp2_with fail
        refine (iinRange_w a0.Due (0 : Int) (1000001000 : Int)  _ ).mono ?_
        rintro e w23 ⟨rfl, hb23⟩
        have B23 := via (w0 := w) (by simp (maxDischargeDepth := 9) [B8]) hb23
        have U23 : Below w8.heap.size w8 w23 := via (by simp (maxDischargeDepth := 9)) hb23
        have Xbx1_23 := Xbx1_8.via U23
        clear Xbx1_8 Xbx1_8k0 Xbx1_8k1 Xbx1_8k2 Xbx1_8k3 Xbx1_8k4 Xbx1_8k5 Xbx1_8k6 Xbx1_8k7 Xbx1_8k8
        have ⟨Xbx1_23k0, Xbx1_23k1, Xbx1_23k2, Xbx1_23k3, Xbx1_23k4, Xbx1_23k5, Xbx1_23k6, Xbx1_23k7, Xbx1_23k8⟩ := bx9 Xbx1_23
        clear U23
        clear B8
        cases h24 : inR a0.Due (0 : Int) (1000001000 : Int) with
        | true =>
         have ⟨h24a, h24b⟩ := inR_true h24
         replace h24 := Lib.hid h24
         obtain ⟨bh25, eh25⟩ : ∃ b, (a0.V.K == 0) = b := ⟨_, rfl⟩
         rcases Bool.eq_false_or_eq_true bh25 with h25 | h25
         ·
          obtain ⟨bh26, eh26⟩ : ∃ b, (a0.V.N == 0) = b := ⟨_, rfl⟩
          rcases Bool.eq_false_or_eq_true bh26 with h26 | h26
          ·
           obtain ⟨bh27, eh27⟩ : ∃ b, a0.V.S.toList.isEmpty = b := ⟨_, rfl⟩
           rcases Bool.eq_false_or_eq_true bh27 with h27 | h27
           ·
            obtain rfl : r = true := hr.out.symm.trans (by simp only [itaskOk_p, h3.out, h5.out, h7.out, h9.out, eh10, h10, eh21, h21, eh22, h22, h24.out, eh25, h25, eh26, h26, eh27, h27, cond_true, cond_false])
            go_wp2
            go_ret
            exact rbk (by simp (maxDischargeDepth := 9) [B23])
           ·
            go_wp2_with fail
            refine (iValOk_w a0.V  _ ok_a0.2.2.2.2.2).mono ?_
            rintro e w28 ⟨rfl, hb28⟩
            have B28 := via (w0 := w) (by simp (maxDischargeDepth := 9) [B23]) hb28
            have U28 : Below w23.heap.size w23 w28 := via (by simp (maxDischargeDepth := 9)) hb28
            have Xbx1_28 := Xbx1_23.via U28
            clear Xbx1_23 Xbx1_23k0 Xbx1_23k1 Xbx1_23k2 Xbx1_23k3 Xbx1_23k4 Xbx1_23k5 Xbx1_23k6 Xbx1_23k7 Xbx1_23k8
            have ⟨Xbx1_28k0, Xbx1_28k1, Xbx1_28k2, Xbx1_28k3, Xbx1_28k4, Xbx1_28k5, Xbx1_28k6, Xbx1_28k7, Xbx1_28k8⟩ := bx9 Xbx1_28
            clear U28
            clear B23
            obtain rfl : r = iValOk_p a0.V := hr.out.symm.trans (by simp only [itaskOk_p, h3.out, h5.out, h7.out, h9.out, eh10, h10, eh21, h21, eh22, h22, h24.out, eh25, h25, eh26, h26, eh27, h27, cond_true, cond_false])
            go_wp2
            go_ret
            exact rbk (by simp (maxDischargeDepth := 9) [B28])
          ·
           go_wp2_with fail
           refine (iValOk_w a0.V  _ ok_a0.2.2.2.2.2).mono ?_
           rintro e w29 ⟨rfl, hb29⟩
           have B29 := via (w0 := w) (by simp (maxDischargeDepth := 9) [B23]) hb29
           have U29 : Below w23.heap.size w23 w29 := via (by simp (maxDischargeDepth := 9)) hb29
           have Xbx1_29 := Xbx1_23.via U29
           clear Xbx1_23 Xbx1_23k0 Xbx1_23k1 Xbx1_23k2 Xbx1_23k3 Xbx1_23k4 Xbx1_23k5 Xbx1_23k6 Xbx1_23k7 Xbx1_23k8
           have ⟨Xbx1_29k0, Xbx1_29k1, Xbx1_29k2, Xbx1_29k3, Xbx1_29k4, Xbx1_29k5, Xbx1_29k6, Xbx1_29k7, Xbx1_29k8⟩ := bx9 Xbx1_29
           clear U29
           clear B23
           obtain rfl : r = iValOk_p a0.V := hr.out.symm.trans (by simp only [itaskOk_p, h3.out, h5.out, h7.out, h9.out, eh10, h10, eh21, h21, eh22, h22, h24.out, eh25, h25, eh26, h26, cond_true, cond_false])
           go_wp2
           go_ret
           exact rbk (by simp (maxDischargeDepth := 9) [B29])
         ·
          go_wp2_with fail
          refine (iValOk_w a0.V  _ ok_a0.2.2.2.2.2).mono ?_
          rintro e w30 ⟨rfl, hb30⟩
          have B30 := via (w0 := w) (by simp (maxDischargeDepth := 9) [B23]) hb30
          have U30 : Below w23.heap.size w23 w30 := via (by simp (maxDischargeDepth := 9)) hb30
          have Xbx1_30 := Xbx1_23.via U30
          clear Xbx1_23 Xbx1_23k0 Xbx1_23k1 Xbx1_23k2 Xbx1_23k3 Xbx1_23k4 Xbx1_23k5 Xbx1_23k6 Xbx1_23k7 Xbx1_23k8
          have ⟨Xbx1_30k0, Xbx1_30k1, Xbx1_30k2, Xbx1_30k3, Xbx1_30k4, Xbx1_30k5, Xbx1_30k6, Xbx1_30k7, Xbx1_30k8⟩ := bx9 Xbx1_30
          clear U30
          clear B23
          obtain rfl : r = iValOk_p a0.V := hr.out.symm.trans (by simp only [itaskOk_p, h3.out, h5.out, h7.out, h9.out, eh10, h10, eh21, h21, eh22, h22, h24.out, eh25, h25, cond_true, cond_false])
          go_wp2
          go_ret
          exact rbk (by simp (maxDischargeDepth := 9) [B30])
        | false =>
         replace h24 := Lib.hid h24
         obtain rfl : r = false := hr.out.symm.trans (by simp only [itaskOk_p, h3.out, h5.out, h7.out, h9.out, eh10, h10, eh21, h21, eh22, h22, h24.out, cond_true, cond_false])
         go_wp2
         go_ret
         exact rbk (by simp (maxDischargeDepth := 9) [B23])
      ·
       go_wp2_with fail
       refine (iinRange_w a0.Due (0 : Int) (1000001000 : Int)  _ ).mono ?_
       rintro e w31 ⟨rfl, hb31⟩
       have B31 := via (w0 := w) (by simp (maxDischargeDepth := 9) [B8]) hb31
       have U31 : Below w8.heap.size w8 w31 := via (by simp (maxDischargeDepth := 9)) hb31
       have Xbx1_31 := Xbx1_8.via U31
       clear Xbx1_8 Xbx1_8k0 Xbx1_8k1 Xbx1_8k2 Xbx1_8k3 Xbx1_8k4 Xbx1_8k5 Xbx1_8k6 Xbx1_8k7 Xbx1_8k8
       have ⟨Xbx1_31k0, Xbx1_31k1, Xbx1_31k2, Xbx1_31k3, Xbx1_31k4, Xbx1_31k5, Xbx1_31k6, Xbx1_31k7, Xbx1_31k8⟩ := bx9 Xbx1_31
       clear U31
       clear B8
       cases h32 : inR a0.Due (0 : Int) (1000001000 : Int) with
       | true =>
        have ⟨h32a, h32b⟩ := inR_true h32
        replace h32 := Lib.hid h32
        obtain ⟨bh33, eh33⟩ : ∃ b, (a0.V.K == 0) = b := ⟨_, rfl⟩
        rcases Bool.eq_false_or_eq_true bh33 with h33 | h33
        ·
         obtain ⟨bh34, eh34⟩ : ∃ b, (a0.V.N == 0) = b := ⟨_, rfl⟩
         rcases Bool.eq_false_or_eq_true bh34 with h34 | h34
         ·
          obtain ⟨bh35, eh35⟩ : ∃ b, a0.V.S.toList.isEmpty = b := ⟨_, rfl⟩
          rcases Bool.eq_false_or_eq_true bh35 with h35 | h35
          ·
           obtain rfl : r = true := hr.out.symm.trans (by simp only [itaskOk_p, h3.out, h5.out, h7.out, h9.out, eh10, h10, eh21, h21, h32.out, eh33, h33, eh34, h34, eh35, h35, cond_true, cond_false])
           go_wp2
           go_ret
           exact rbk (by simp (maxDischargeDepth := 9) [B31])
          ·
           go_wp2_with fail
           refine (iValOk_w a0.V  _ ok_a0.2.2.2.2.2).mono ?_
           rintro e w36 ⟨rfl, hb36⟩
           have B36 := via (w0 := w) (by simp (maxDischargeDepth := 9) [B31]) hb36
           have U36 : Below w31.heap.size w31 w36 := via (by simp (maxDischargeDepth := 9)) hb36
           have Xbx1_36 := Xbx1_31.via U36
           clear Xbx1_31 Xbx1_31k0 Xbx1_31k1 Xbx1_31k2 Xbx1_31k3 Xbx1_31k4 Xbx1_31k5 Xbx1_31k6 Xbx1_31k7 Xbx1_31k8
           have ⟨Xbx1_36k0, Xbx1_36k1, Xbx1_36k2, Xbx1_36k3, Xbx1_36k4, Xbx1_36k5, Xbx1_36k6, Xbx1_36k7, Xbx1_36k8⟩ := bx9 Xbx1_36
           clear U36
           clear B31
           obtain rfl : r = iValOk_p a0.V := hr.out.symm.trans (by simp only [itaskOk_p, h3.out, h5.out, h7.out, h9.out, eh10, h10, eh21, h21, h32.out, eh33, h33, eh34, h34, eh35, h35, cond_true, cond_false])
           go_wp2
           go_ret
           exact rbk (by simp (maxDischargeDepth := 9) [B36])
         ·
          go_wp2_with fail
          refine (iValOk_w a0.V  _ ok_a0.2.2.2.2.2).mono ?_
          rintro e w37 ⟨rfl, hb37⟩
          have B37 := via (w0 := w) (by simp (maxDischargeDepth := 9) [B31]) hb37
          have U37 : Below w31.heap.size w31 w37 := via (by simp (maxDischargeDepth := 9)) hb37
          have Xbx1_37 := Xbx1_31.via U37
          clear Xbx1_31 Xbx1_31k0 Xbx1_31k1 Xbx1_31k2 Xbx1_31k3 Xbx1_31k4 Xbx1_31k5 Xbx1_31k6 Xbx1_31k7 Xbx1_31k8
          have ⟨Xbx1_37k0, Xbx1_37k1, Xbx1_37k2, Xbx1_37k3, Xbx1_37k4, Xbx1_37k5, Xbx1_37k6, Xbx1_37k7, Xbx1_37k8⟩ := bx9 Xbx1_37
          clear U37
          clear B31
          obtain rfl : r = iValOk_p a0.V := hr.out.symm.trans (by simp only [itaskOk_p, h3.out, h5.out, h7.out, h9.out, eh10, h10, eh21, h21, h32.out, eh33, h33, eh34, h34, cond_true, cond_false])
          go_wp2
          go_ret
          exact rbk (by simp (maxDischargeDepth := 9) [B37])
        ·
         go_wp2_with fail
         refine (iValOk_w a0.V  _ ok_a0.2.2.2.2.2).mono ?_
         rintro e w38 ⟨rfl, hb38⟩
         have B38 := via (w0 := w) (by simp (maxDischargeDepth := 9) [B31]) hb38
         have U38 : Below w31.heap.size w31 w38 := via (by simp (maxDischargeDepth := 9)) hb38
         have Xbx1_38 := Xbx1_31.via U38
         clear Xbx1_31 Xbx1_31k0 Xbx1_31k1 Xbx1_31k2 Xbx1_31k3 Xbx1_31k4 Xbx1_31k5 Xbx1_31k6 Xbx1_31k7 Xbx1_31k8
         have ⟨Xbx1_38k0, Xbx1_38k1, Xbx1_38k2, Xbx1_38k3, Xbx1_38k4, Xbx1_38k5, Xbx1_38k6, Xbx1_38k7, Xbx1_38k8⟩ := bx9 Xbx1_38
         clear U38
         clear B31
         obtain rfl : r = iValOk_p a0.V := hr.out.symm.trans (by simp only [itaskOk_p, h3.out, h5.out, h7.out, h9.out, eh10, h10, eh21, h21, h32.out, eh33, h33, cond_true, cond_false])
         go_wp2
         go_ret
         exact rbk (by simp (maxDischargeDepth := 9) [B38])
       | false =>
        replace h32 := Lib.hid h32
        obtain rfl : r = false := hr.out.symm.trans (by simp only [itaskOk_p, h3.out, h5.out, h7.out, h9.out, eh10, h10, eh21, h21, h32.out, cond_true, cond_false])
        go_wp2
        go_ret
        exact rbk (by simp (maxDischargeDepth := 9) [B31])
    | false =>
     replace h9 := Lib.hid h9
     obtain rfl : r = false := hr.out.symm.trans (by simp only [itaskOk_p, h3.out, h5.out, h7.out, h9.out, cond_true, cond_false])
     go_wp2
     go_ret
     exact rbk (by simp (maxDischargeDepth := 9) [B8])
   | false =>
    replace h7 := Lib.hid h7
    obtain rfl : r = false := hr.out.symm.trans (by simp only [itaskOk_p, h3.out, h5.out, h7.out, cond_true, cond_false])
    go_wp2
    go_ret
    exact rbk (by simp (maxDischargeDepth := 9) [B6])
  | false =>
   replace h5 := Lib.hid h5
   obtain rfl : r = false := hr.out.symm.trans (by simp only [itaskOk_p, h3.out, h5.out, cond_true, cond_false])
   go_wp2
   go_ret
   exact rbk (by simp (maxDischargeDepth := 9) [B4])
 | false =>
  replace h3 := Lib.hid h3
  obtain rfl : r = false := hr.out.symm.trans (by simp only [itaskOk_p, h3.out, cond_false])
  go_wp2
  go_ret
  exact rbk (by simp (maxDischargeDepth := 9) [B2])

-- impl.placeOfTask$1
def iplaceOfTask_1_p (a0 : TaskD) (b0 : FactD) : Bool := iSameFact_p a0.F b0
set_option maxHeartbeats 1000000 in
set_option maxRecDepth 20000 in
theorem iplaceOfTask_1_w (a0 : TaskD) (b0 : FactD) (v0_1 : Value) (vb0_1 : Value) (g0 : Nat) (w : World) (s0_1 : Sl w a0.F.Fields v0_1) (sb0_1 : Sl w b0.Fields vb0_1) (hg0 : Bx w g0 [.string b0.Kind, vb0_1]) :
    Calls Tryz.prog 228 #[.agg #[.string a0.F.Kind, v0_1, .string a0.Undo, .int .i64 a0.State, .int .i64 a0.Tries, .int .i64 a0.Due, .int .i64 a0.V.K, .int .i64 a0.V.N, .string a0.V.S], .pointer (some ⟨g0, 0, none⟩)] w (RetB (iplaceOfTask_1_p a0 b0) w) := by
 obtain ⟨p0_1, c0_1, rfl, hl0_1, -, hk0_1, -⟩ := s0_1.open
 obtain ⟨pb0_1, cb0_1, rfl, hlb0_1, -, hkb0_1, -⟩ := sb0_1.open
 have hg0k0 := hg0.c 0 _ rfl
 have hg0k1 := hg0.c 1 _ rfl
 obtain ⟨r, hr⟩ : ∃ r, iplaceOfTask_1_p a0 b0 = r := ⟨_, rfl⟩
 rw [hr]
 replace hr := Lib.hid hr
 go_enter Tryz.func228, Tryz.ntmps228
 go_wp2_with fail
 refine (iSameFact_w a0.F b0 _ _ _ (s0_1.to (by simp (maxDischargeDepth := 9))) (sb0_1.to (by simp (maxDischargeDepth := 9)))).mono ?_
 rintro e w2 ⟨rfl, hb2⟩
 have B2 := via (w0 := w) (by simp (maxDischargeDepth := 9)) hb2
 have U2 : Below w.heap.size w w2 := via (by simp (maxDischargeDepth := 9)) hb2
 have Xg0_2 := hg0.via U2
 skip
 have ⟨Xg0_2k0, Xg0_2k1⟩ := bx2 Xg0_2
 have Xbx1_2 : Bx w2 (w.heap.size) [.string a0.F.Kind, .slice p0_1 a0.F.Fields.length c0_1, .string a0.Undo, .int .i64 a0.State, .int .i64 a0.Tries, .int .i64 a0.Due, .int .i64 a0.V.K, .int .i64 a0.V.N, .string a0.V.S] := Bx.via (by simp (maxDischargeDepth := 9)) hb2
 have ⟨Xbx1_2k0, Xbx1_2k1, Xbx1_2k2, Xbx1_2k3, Xbx1_2k4, Xbx1_2k5, Xbx1_2k6, Xbx1_2k7, Xbx1_2k8⟩ := bx9 Xbx1_2
 clear U2
 obtain rfl : r = iSameFact_p a0.F b0 := hr.out.symm.trans (by simp only [iplaceOfTask_1_p])
 go_wp2
 go_ret
 exact rbk (by simp (maxDischargeDepth := 9) [B2])

-- slices.IndexFunc[[]impl.Task,impl.Task]@impl.placeOfTask$1
def slices_IndexFunc_iTask_iplaceOfTask_1_p_b1 (a0 : List TaskD) (b0 : FactD) (k1 : Nat) (_ : Unit) : St (Int) (Unit) := bif iplaceOfTask_1_p (gt a0 k1) b0 then (.ret (k1 : Int)) else (.go ())
def slices_IndexFunc_iTask_iplaceOfTask_1_p (a0 : List TaskD) (b0 : FactD) : Int := match rounds (slices_IndexFunc_iTask_iplaceOfTask_1_p_b1 a0 b0) a0.length () with | .ret r => r | .brk _ => default | .go _ => (-1 : Int)
set_option maxHeartbeats 1000000 in
set_option maxRecDepth 20000 in
theorem slices_IndexFunc_iTask_iplaceOfTask_1_w (a0 : List TaskD) (b0 : FactD) (v0_0 : Value) (vb0_1 : Value) (g0 : Nat) (w : World) (s0_0 : Sl w a0 v0_0) (sb0_1 : Sl w b0.Fields vb0_1) (hg0 : Bx w g0 [.string b0.Kind, vb0_1]) :
    Calls Tryz.prog 147 #[v0_0, .func (.func 228) #[] #[.pointer (some ⟨g0, 0, none⟩)]] w (RetI (slices_IndexFunc_iTask_iplaceOfTask_1_p a0 b0) w) := by
 obtain ⟨p0_0, c0_0, rfl, hl0_0, -, hk0_0, -⟩ := s0_0.open
 obtain ⟨pb0_1, cb0_1, rfl, hlb0_1, -, hkb0_1, -⟩ := sb0_1.open
 have hg0k0 := hg0.c 0 _ rfl
 have hg0k1 := hg0.c 1 _ rfl
 obtain ⟨r, hr⟩ : ∃ r, slices_IndexFunc_iTask_iplaceOfTask_1_p a0 b0 = r := ⟨_, rfl⟩
 rw [hr]
 replace hr := Lib.hid hr
 go_enter Tryz.func147, Tryz.ntmps147
 go_wp2
 go_loopw [8] (fun i8 wr1 => Below w.heap.size w wr1 ∧ Bx wr1 (g0) [.string b0.Kind, .slice pb0_1 b0.Fields.length cb0_1] ∧ ∃ (k1 : Nat), i8 = .int .i64 k1 ∧ k1 ≤ a0.length ∧ Hid (rounds (slices_IndexFunc_iTask_iplaceOfTask_1_p_b1 a0 b0) k1 () = .go ())) (fun i8 _ => a0.length - (intOf i8).toNat)
 case atStart => exact ⟨(by simp (maxDischargeDepth := 9)), (by simp (maxDischargeDepth := 9) [hg0]), 0, rfl, by omega, Lib.hid rfl⟩
 case round =>
  rename World => wr1
  obtain ⟨B2, Xg0_2, k1, rfl, hk2, hy2⟩ := hrel
  have ⟨Xg0_2k0, Xg0_2k1⟩ := bx2 Xg0_2
  by_cases hlt2 : k1 < a0.length
  ·
   have hi5 : k1 < a0.length := by first | assumption | omega
   obtain ⟨e4b, e4o, ue4_1, rfl, e4bl, e4ok, ⟨e4d0, e4d1, e4d2, e4d3, e4d4, e4d5, e4d6, e4d7, e4d8⟩, te4_1⟩ := Sl.gtTask s0_0 k1 hi5
   obtain ⟨pe4_1, ce4_1, rfl, hlpe4_1, -⟩ := te4_1.open
   have e4E := Lib.hid (And.intro e4d0 (And.intro e4d1 (And.intro e4d2 (And.intro e4d3 (And.intro e4d4 (And.intro e4d5 (And.intro e4d6 (And.intro e4d7 e4d8))))))))
   clear e4d0 e4d1 e4d2 e4d3 e4d4 e4d5 e4d6 e4d7 e4d8
   have ⟨e4d0n, e4d1n, e4d2n, e4d3n, e4d4n, e4d5n, e4d6n, e4d7n, e4d8n⟩ := cb9 B2 e4bl e4E.out
   go_wp2_with fail
   refine (iplaceOfTask_1_w (gt a0 k1) b0 _ _ _ _ (te4_1.to (by simp (maxDischargeDepth := 9) [B2])) (sb0_1.to (by simp (maxDischargeDepth := 9) [B2])) (by simp (maxDischargeDepth := 9) [Xg0_2])).mono ?_
   rintro e w6 ⟨rfl, hb6⟩
   have B6 := via (w0 := w) (by simp (maxDischargeDepth := 9) [B2]) hb6
   have U6 : Below wr1.heap.size wr1 w6 := via (by simp (maxDischargeDepth := 9)) hb6
   have Xg0_6 := Xg0_2.via U6
   clear Xg0_2 Xg0_2k0 Xg0_2k1
   have ⟨Xg0_6k0, Xg0_6k1⟩ := bx2 Xg0_6
   clear e4d0n e4d1n e4d2n e4d3n e4d4n e4d5n e4d6n e4d7n e4d8n
   have ⟨e4d0n, e4d1n, e4d2n, e4d3n, e4d4n, e4d5n, e4d6n, e4d7n, e4d8n⟩ := cb9 B6 e4bl e4E.out
   clear U6
   clear B2
   cases h7 : iplaceOfTask_1_p (gt a0 k1) b0 with
   | true =>
    replace h7 := Lib.hid h7
    have q8 : slices_IndexFunc_iTask_iplaceOfTask_1_p_b1 a0 b0 k1 () = .ret (k1 : Int) := by simp only [slices_IndexFunc_iTask_iplaceOfTask_1_p_b1, h7.out, cond_true]
    have q9 := rounds_ret hlt2 hy2.out q8
    obtain rfl : r = (k1 : Int) := hr.out.symm.trans (by simp only [slices_IndexFunc_iTask_iplaceOfTask_1_p, q9])
    go_wp2
    go_ret
    exact ⟨by first | rfl | simp, (by simp (maxDischargeDepth := 9) [B6])⟩
   | false =>
    replace h7 := Lib.hid h7
    have q10 : slices_IndexFunc_iTask_iplaceOfTask_1_p_b1 a0 b0 k1 () = .go () := by simp only [slices_IndexFunc_iTask_iplaceOfTask_1_p_b1, h7.out, cond_false]
    replace q10 := Lib.hid (rounds_next hy2.out q10)
    go_wp2
    go_roundw
    case rel => exact ⟨(by simp (maxDischargeDepth := 9) [B6]), (by simp (maxDischargeDepth := 9) [Xg0_6]), k1 + 1, by go_num, by omega, q10⟩
    case measure => simp [intOf]; omega
  ·
   obtain rfl : a0.length = k1 := by omega
   obtain rfl : r = (-1 : Int) := hr.out.symm.trans (by simp only [slices_IndexFunc_iTask_iplaceOfTask_1_p, hy2.out])
   go_wp2
   go_ret
   exact ⟨by first | rfl | simp, (by simp (maxDischargeDepth := 9) [B2])⟩

-- impl.placeOfTask
def iplaceOfTask_p (a0 : List TaskD) (a1 : FactD) : Int := (slices_IndexFunc_iTask_iplaceOfTask_1_p a0 a1)
set_option maxHeartbeats 1000000 in
set_option maxRecDepth 20000 in
theorem iplaceOfTask_w (a0 : List TaskD) (a1 : FactD) (v0_0 : Value) (v1_1 : Value) (w : World) (s0_0 : Sl w a0 v0_0) (s1_1 : Sl w a1.Fields v1_1) :
    Calls Tryz.prog 141 #[v0_0, .agg #[.string a1.Kind, v1_1]] w (RetI (iplaceOfTask_p a0 a1) w) := by
 obtain ⟨p0_0, c0_0, rfl, hl0_0, -, hk0_0, -⟩ := s0_0.open
 obtain ⟨p1_1, c1_1, rfl, hl1_1, -, hk1_1, -⟩ := s1_1.open
 obtain ⟨r, hr⟩ : ∃ r, iplaceOfTask_p a0 a1 = r := ⟨_, rfl⟩
 rw [hr]
 replace hr := Lib.hid hr
 go_enter Tryz.func141, Tryz.ntmps141
 go_wp2_with fail
 refine (slices_IndexFunc_iTask_iplaceOfTask_1_w a0 a1 _ _ _ _ (s0_0.to (by simp (maxDischargeDepth := 9))) (s1_1.to (by simp (maxDischargeDepth := 9))) (by simp (maxDischargeDepth := 9))).mono ?_
 rintro e w2 ⟨rfl, hb2⟩
 have B2 := via (w0 := w) (by simp (maxDischargeDepth := 9)) hb2
 have Xbx1_2 : Bx w2 (w.heap.size) [.string a1.Kind, .slice p1_1 a1.Fields.length c1_1] := Bx.via (by simp (maxDischargeDepth := 9)) hb2
 have ⟨Xbx1_2k0, Xbx1_2k1⟩ := bx2 Xbx1_2
 obtain rfl : r = (slices_IndexFunc_iTask_iplaceOfTask_1_p a0 a1) := hr.out.symm.trans (by simp only [iplaceOfTask_p])
 go_wp2
 go_ret
 exact ⟨by first | rfl | simp, (by simp (maxDischargeDepth := 9) [B2])⟩

-- impl.TasksOk
def iTasksOk_p_b1 (a0 : List TaskD) (k2 : Nat) (_ : Unit) : St (Bool) (Unit) := bif itaskOk_p (gt a0 k2) then (bif ((iplaceOfTask_p a0 ((gt a0 k2).F)) == (k2 : Int)) then (.go ()) else (.ret false)) else (.ret false)
def iTasksOk_p (a0 : List TaskD) : Bool := bif decide (30 < a0.length) then (false) else (match rounds (iTasksOk_p_b1 a0) a0.length () with | .ret r => r | .brk _ => default | .go _ => true)
set_option maxHeartbeats 1000000 in
set_option maxRecDepth 20000 in
theorem iTasksOk_w (a0 : List TaskD) (v0_0 : Value) (w : World) (s0_0 : Sl w a0 v0_0) :
    Calls Tryz.prog 74 #[v0_0] w (RetB (iTasksOk_p a0) w) := by
 obtain ⟨p0_0, c0_0, rfl, hl0_0, -, hk0_0, -⟩ := s0_0.open
 obtain ⟨r, hr⟩ : ∃ r, iTasksOk_p a0 = r := ⟨_, rfl⟩
 rw [hr]
 replace hr := Lib.hid hr
 go_enter Tryz.func74, Tryz.ntmps74
 by_cases h1 : 30 < a0.length
 ·
  have h1d := Lib.hid (decide_eq_true h1)
  obtain rfl : r = false := hr.out.symm.trans (by simp only [iTasksOk_p, h1d.out, cond_true])
  go_wp2
  go_ret
  exact rbk (by simp (maxDischargeDepth := 9))
 ·
  have h1d := Lib.hid (decide_eq_false h1)
  go_wp2
  go_loopw [10] (fun i10 wr2 => Below w.heap.size w wr2 ∧ ∃ (k2 : Nat), i10 = .int .i64 k2 ∧ k2 ≤ a0.length ∧ Hid (rounds (iTasksOk_p_b1 a0) k2 () = .go ())) (fun i10 _ => a0.length - (intOf i10).toNat)
  case atStart => exact ⟨(by simp (maxDischargeDepth := 9)), 0, rfl, by omega, Lib.hid rfl⟩
  case round =>
   rename World => wr2
   obtain ⟨B3, k2, rfl, hk3, hy3⟩ := hrel
   by_cases hlt3 : k2 < a0.length
   ·
    have hi6 : k2 < a0.length := by first | assumption | omega
    obtain ⟨e5b, e5o, ue5_1, rfl, e5bl, e5ok, ⟨e5d0, e5d1, e5d2, e5d3, e5d4, e5d5, e5d6, e5d7, e5d8⟩, te5_1⟩ := Sl.gtTask s0_0 k2 hi6
    obtain ⟨pe5_1, ce5_1, rfl, hlpe5_1, -⟩ := te5_1.open
    have e5E := Lib.hid (And.intro e5d0 (And.intro e5d1 (And.intro e5d2 (And.intro e5d3 (And.intro e5d4 (And.intro e5d5 (And.intro e5d6 (And.intro e5d7 e5d8))))))))
    clear e5d0 e5d1 e5d2 e5d3 e5d4 e5d5 e5d6 e5d7 e5d8
    have ⟨e5d0n, e5d1n, e5d2n, e5d3n, e5d4n, e5d5n, e5d6n, e5d7n, e5d8n⟩ := cb9 B3 e5bl e5E.out
    go_wp2_with fail
    refine (itaskOk_w (gt a0 k2) _ _ (te5_1.to (by simp (maxDischargeDepth := 9) [B3])) e5ok).mono ?_
    rintro e w8 ⟨rfl, hb8⟩
    have B8 := via (w0 := w) (by simp (maxDischargeDepth := 9) [B3]) hb8
    have Xbx7_8 : Bx w8 (wr2.heap.size) [.string ((gt a0 k2).F.Kind), .slice pe5_1 ((gt a0 k2).F.Fields.length) ce5_1, .string ((gt a0 k2).Undo), .int .i64 ((gt a0 k2).State), .int .i64 ((gt a0 k2).Tries), .int .i64 ((gt a0 k2).Due), .int .i64 ((gt a0 k2).V.K), .int .i64 ((gt a0 k2).V.N), .string ((gt a0 k2).V.S)] := Bx.via (by simp (maxDischargeDepth := 9)) hb8
    have ⟨Xbx7_8k0, Xbx7_8k1, Xbx7_8k2, Xbx7_8k3, Xbx7_8k4, Xbx7_8k5, Xbx7_8k6, Xbx7_8k7, Xbx7_8k8⟩ := bx9 Xbx7_8
    clear e5d0n e5d1n e5d2n e5d3n e5d4n e5d5n e5d6n e5d7n e5d8n
    have ⟨e5d0n, e5d1n, e5d2n, e5d3n, e5d4n, e5d5n, e5d6n, e5d7n, e5d8n⟩ := cb9 B8 e5bl e5E.out
    clear B3
    cases h9 : itaskOk_p (gt a0 k2) with
    | true =>
     replace h9 := Lib.hid h9
     go_wp2_with fail
     refine (iplaceOfTask_w a0 ((gt a0 k2).F) _ _ _ (s0_0.to (by simp (maxDischargeDepth := 9) [B8])) (te5_1.to (by simp (maxDischargeDepth := 9) [B8]))).mono ?_
     rintro e w10 ⟨rfl, hb10⟩
     have B10 := via (w0 := w) (by simp (maxDischargeDepth := 9) [B8]) hb10
     have U10 : Below w8.heap.size w8 w10 := via (by simp (maxDischargeDepth := 9)) hb10
     have Xbx7_10 := Xbx7_8.via U10
     clear Xbx7_8 Xbx7_8k0 Xbx7_8k1 Xbx7_8k2 Xbx7_8k3 Xbx7_8k4 Xbx7_8k5 Xbx7_8k6 Xbx7_8k7 Xbx7_8k8
     have ⟨Xbx7_10k0, Xbx7_10k1, Xbx7_10k2, Xbx7_10k3, Xbx7_10k4, Xbx7_10k5, Xbx7_10k6, Xbx7_10k7, Xbx7_10k8⟩ := bx9 Xbx7_10
     clear e5d0n e5d1n e5d2n e5d3n e5d4n e5d5n e5d6n e5d7n e5d8n
     have ⟨e5d0n, e5d1n, e5d2n, e5d3n, e5d4n, e5d5n, e5d6n, e5d7n, e5d8n⟩ := cb9 B10 e5bl e5E.out
     clear U10
     clear B8
     obtain ⟨bh11, eh11⟩ : ∃ b, ((iplaceOfTask_p a0 ((gt a0 k2).F)) == (k2 : Int)) = b := ⟨_, rfl⟩
     have nh11 : ((iplaceOfTask_p a0 ((gt a0 k2).F)) != (k2 : Int)) = !bh11 := by rw [← eh11]; rfl
     rcases Bool.eq_false_or_eq_true bh11 with h11 | h11
     ·
      have q12 : iTasksOk_p_b1 a0 k2 () = .go () := by simp only [iTasksOk_p_b1, h9.out, eh11, h11, cond_true]
      replace q12 := Lib.hid (rounds_next hy3.out q12)
      go_wp2
      go_roundw
      case rel => exact ⟨(by simp (maxDischargeDepth := 9) [B10]), k2 + 1, by go_num, by omega, q12⟩
      case measure => simp [intOf]; omega
     ·
      have q13 : iTasksOk_p_b1 a0 k2 () = .ret false := by simp only [iTasksOk_p_b1, h9.out, eh11, h11, cond_true, cond_false]
      have q14 := rounds_ret hlt3 hy3.out q13
      obtain rfl : r = false := hr.out.symm.trans (by simp only [iTasksOk_p, h1d.out, q14, cond_false])
      go_wp2
      go_ret
      exact rbk (by simp (maxDischargeDepth := 9) [B10])
    | false =>
     replace h9 := Lib.hid h9
     have q15 : iTasksOk_p_b1 a0 k2 () = .ret false := by simp only [iTasksOk_p_b1, h9.out, cond_false]
     have q16 := rounds_ret hlt3 hy3.out q15
     obtain rfl : r = false := hr.out.symm.trans (by simp only [iTasksOk_p, h1d.out, q16, cond_false])
     go_wp2
     go_ret
     exact rbk (by simp (maxDischargeDepth := 9) [B8])
   ·
    obtain rfl : a0.length = k2 := by omega
    obtain rfl : r = true := hr.out.symm.trans (by simp only [iTasksOk_p, h1d.out, hy3.out, cond_false])
    go_wp2
    go_ret
    exact rbk (by simp (maxDischargeDepth := 9) [B3])

-- impl.isTime
def iisTime_p (a0 : Int) : Bool := inR a0 (0 : Int) (1000000000 : Int)
set_option maxHeartbeats 1000000 in
set_option maxRecDepth 20000 in
theorem iisTime_w (a0 : Int) (w : World) :
    Calls Tryz.prog 78 #[.int .i64 a0] w (RetB (iisTime_p a0) w) := by
 obtain ⟨r, hr⟩ : ∃ r, iisTime_p a0 = r := ⟨_, rfl⟩
 rw [hr]
 replace hr := Lib.hid hr
 go_enter Tryz.func78, Tryz.ntmps78
 go_wp2_with fail
 refine (iinRange_w a0 (0 : Int) (1000000000 : Int)  _ ).mono ?_
 rintro e w1 ⟨rfl, hb1⟩
 have B1 := via (w0 := w) (by simp (maxDischargeDepth := 9)) hb1
 obtain rfl : r = inR a0 (0 : Int) (1000000000 : Int) := hr.out.symm.trans (by simp only [iisTime_p])
 go_wp2
 go_ret
 exact rbk (by simp (maxDischargeDepth := 9) [B1])

-- impl.timerOk
def itimerOk_p (a0 : TimerD) : Bool := bif iisTime_p a0.At then (iFactOk_p a0.F) else (false)
set_option maxHeartbeats 1000000 in
set_option maxRecDepth 20000 in
theorem itimerOk_w (a0 : TimerD) (v0_2 : Value) (w : World) (s0_2 : Sl w a0.F.Fields v0_2) (ok_a0 : okTimer a0) :
    Calls Tryz.prog 142 #[.agg #[.int .i64 a0.At, .string a0.F.Kind, v0_2]] w (RetB (itimerOk_p a0) w) := by
 obtain ⟨p0_2, c0_2, rfl, hl0_2, -, hk0_2, -⟩ := s0_2.open
 obtain ⟨r, hr⟩ : ∃ r, itimerOk_p a0 = r := ⟨_, rfl⟩
 rw [hr]
 replace hr := Lib.hid hr
 go_enter Tryz.func142, Tryz.ntmps142
 go_wp2_with fail
 refine (iisTime_w a0.At  _ ).mono ?_
 rintro e w2 ⟨rfl, hb2⟩
 have B2 := via (w0 := w) (by simp (maxDischargeDepth := 9)) hb2
 have Xbx1_2 : Bx w2 (w.heap.size) [.int .i64 a0.At, .string a0.F.Kind, .slice p0_2 a0.F.Fields.length c0_2] := Bx.via (by simp (maxDischargeDepth := 9)) hb2
 have ⟨Xbx1_2k0, Xbx1_2k1, Xbx1_2k2⟩ := bx3 Xbx1_2
 cases h3 : iisTime_p a0.At with
 | true =>
  replace h3 := Lib.hid h3
  go_wp2_with fail
  refine (iFactOk_w a0.F _ _ (s0_2.to (by simp (maxDischargeDepth := 9) [B2])) ok_a0.2).mono ?_
  rintro e w4 ⟨rfl, hb4⟩
  have B4 := via (w0 := w) (by simp (maxDischargeDepth := 9) [B2]) hb4
  have U4 : Below w2.heap.size w2 w4 := via (by simp (maxDischargeDepth := 9)) hb4
  have Xbx1_4 := Xbx1_2.via U4
  clear Xbx1_2 Xbx1_2k0 Xbx1_2k1 Xbx1_2k2
  have ⟨Xbx1_4k0, Xbx1_4k1, Xbx1_4k2⟩ := bx3 Xbx1_4
  clear U4
  clear B2
  obtain rfl : r = iFactOk_p a0.F := hr.out.symm.trans (by simp only [itimerOk_p, h3.out, cond_true])
  go_wp2
  go_ret
  exact rbk (by simp (maxDischargeDepth := 9) [B4])
 | false =>
  replace h3 := Lib.hid h3
  obtain rfl : r = false := hr.out.symm.trans (by simp only [itimerOk_p, h3.out, cond_false])
  go_wp2
  go_ret
  exact rbk (by simp (maxDischargeDepth := 9) [B2])

-- impl.TimersOk
def iTimersOk_p_b1 (a0 : List TimerD) (k2 : Nat) (_ : Unit) : St (Bool) (Unit) := bif decide (0 < k2) then (bif itimerOk_p (gt a0 k2) then (bif decide ((gt a0 k2).At < (gt a0 (k2 - 1)).At) then (.ret false) else (.go ())) else (.ret false)) else (bif itimerOk_p (gt a0 k2) then (.go ()) else (.ret false))
def iTimersOk_p (a0 : List TimerD) : Bool := bif decide (30 < a0.length) then (false) else (match rounds (iTimersOk_p_b1 a0) a0.length () with | .ret r => r | .brk _ => default | .go _ => true)
set_option maxHeartbeats 1000000 in
set_option maxRecDepth 20000 in
theorem iTimersOk_w (a0 : List TimerD) (v0_0 : Value) (w : World) (s0_0 : Sl w a0 v0_0) :
    Calls Tryz.prog 75 #[v0_0] w (RetB (iTimersOk_p a0) w) := by
 obtain ⟨p0_0, c0_0, rfl, hl0_0, -, hk0_0, -⟩ := s0_0.open
 obtain ⟨r, hr⟩ : ∃ r, iTimersOk_p a0 = r := ⟨_, rfl⟩
 rw [hr]
 replace hr := Lib.hid hr
 go_enter Tryz.func75, Tryz.ntmps75
 by_cases h1 : 30 < a0.length
 ·
  have h1d := Lib.hid (decide_eq_true h1)
  obtain rfl : r = false := hr.out.symm.trans (by simp only [iTimersOk_p, h1d.out, cond_true])
  go_wp2
  go_ret
  exact rbk (by simp (maxDischargeDepth := 9))
 ·
  have h1d := Lib.hid (decide_eq_false h1)
  go_wp2
  go_loopw [10] (fun i10 wr2 => Below w.heap.size w wr2 ∧ ∃ (k2 : Nat), i10 = .int .i64 k2 ∧ k2 ≤ a0.length ∧ Hid (rounds (iTimersOk_p_b1 a0) k2 () = .go ())) (fun i10 _ => a0.length - (intOf i10).toNat)
  case atStart => exact ⟨(by simp (maxDischargeDepth := 9)), 0, rfl, by omega, Lib.hid rfl⟩
  case round =>
   rename World => wr2
   obtain ⟨B3, k2, rfl, hk3, hy3⟩ := hrel
   by_cases hlt3 : k2 < a0.length
   ·
    have hi6 : k2 < a0.length := by first | assumption | omega
    obtain ⟨e5b, e5o, ue5_2, rfl, e5bl, e5ok, ⟨e5d0, e5d1, e5d2⟩, te5_2⟩ := Sl.gtTimer s0_0 k2 hi6
    obtain ⟨pe5_2, ce5_2, rfl, hlpe5_2, -⟩ := te5_2.open
    have e5E := Lib.hid (And.intro e5d0 (And.intro e5d1 e5d2))
    clear e5d0 e5d1 e5d2
    have ⟨e5d0n, e5d1n, e5d2n⟩ := cb3 B3 e5bl e5E.out
    by_cases h8 : 0 < k2
    ·
     have h8d := Lib.hid (decide_eq_true h8)
     have hi10 : k2 - 1 < a0.length := by first | assumption | omega
     obtain ⟨ue9_2, e9bl, e9ok, ⟨e9d0, e9d1, e9d2⟩, te9_2⟩ := Sl.guTimer s0_0 (k2 - 1) hi10
     obtain ⟨pe9_2, ce9_2, rfl, hlpe9_2, -⟩ := te9_2.open
     have e9E := Lib.hid (And.intro e9d0 (And.intro e9d1 e9d2))
     clear e9d0 e9d1 e9d2
     have ⟨e9d0n, e9d1n, e9d2n⟩ := cb3 B3 e9bl e9E.out
     go_wp2
     refine wp_region_noPanic ?_
     refine wp_region_held_drew (S := (fun w' => w'.cell? ⟨wr2.heap.size, 0, none⟩ = some (.int .i64 ((gt a0 k2).At)) ∧ w'.cell? ⟨wr2.heap.size, 1, none⟩ = some (.string ((gt a0 k2).F.Kind)) ∧ w'.cell? ⟨wr2.heap.size, 2, none⟩ = some (.slice pe5_2 ((gt a0 k2).F.Fields.length) ce5_2) ∧ w'.cell? ⟨e5b, e5o + k2 * 3, none⟩ = some (.int .i64 ((gt a0 k2).At)) ∧ w'.cell? ⟨e5b, e5o + k2 * 3 + 1, none⟩ = some (.string ((gt a0 k2).F.Kind)) ∧ w'.cell? ⟨e5b, e5o + k2 * 3 + 2, none⟩ = some (.slice pe5_2 ((gt a0 k2).F.Fields.length) ce5_2) ∧ w'.cell? ⟨e5b, e5o + (k2 - 1) * 3, none⟩ = some (.int .i64 ((gt a0 (k2 - 1)).At)) ∧ w'.cell? ⟨e5b, e5o + (k2 - 1) * 3 + 1, none⟩ = some (.string ((gt a0 (k2 - 1)).F.Kind)) ∧ w'.cell? ⟨e5b, e5o + (k2 - 1) * 3 + 2, none⟩ = some (.slice pe9_2 ((gt a0 (k2 - 1)).F.Fields.length) ce9_2))) (by kernel_rfl) ?_ (fun hHeld0 => ?_)
     · go_keep
     refine tt 0 ?_
     simp only [Act.put, sa, s0, ss]
     refine wpAnyH_ready (rs := [1]) (by kernel_rfl) (by simp) ?_
     refine' AllReadyH.cons (o := _) ?hi1017_1 (fun K hK => ?_) AllReadyH.nil
     case hi1017_1 => simp only [List.getElem?_toArray, List.getElem?_cons_succ, List.getElem?_cons_zero]; exact rfl
     go_simp
     go_at_call 142
     refine (itimerOk_w (gt a0 k2) _ _ (te5_2.to (by simp (maxDischargeDepth := 9) [B3])) e5ok).mono ?_
     rintro e w11 ⟨rfl, hb11⟩
     have B11 := via (w0 := w) (by simp (maxDischargeDepth := 9) [B3]) hb11
     have Xbx7_11 : Bx w11 (wr2.heap.size) [.int .i64 ((gt a0 k2).At), .string ((gt a0 k2).F.Kind), .slice pe5_2 ((gt a0 k2).F.Fields.length) ce5_2] := Bx.via (by simp (maxDischargeDepth := 9)) hb11
     have ⟨Xbx7_11k0, Xbx7_11k1, Xbx7_11k2⟩ := bx3 Xbx7_11
     clear e5d0n e5d1n e5d2n
     have ⟨e5d0n, e5d1n, e5d2n⟩ := cb3 B11 e5bl e5E.out
     clear e9d0n e9d1n e9d2n
     have ⟨e9d0n, e9d1n, e9d2n⟩ := cb3 B11 e9bl e9E.out
     clear B3
     cases h12 : itimerOk_p (gt a0 k2) with
     | true =>
      replace h12 := Lib.hid h12
      go_wp2_with fail
      refine hK.out _ _ ?_ (fun hHeld1 => ?_)
      · go_keep
      clear hK K hHeld0
      refine tt 2 ?_
      simp only [Act.put, sa, s0, ss]
      refine tt 3 ?_
      simp only [Act.put, sa, s0, ss]
      refine tt 4 ?_
      simp only [Act.put, sa, s0, ss]
      refine tt 5 ?_
      simp only [Act.put, sa, s0, ss]
      refine tt 6 ?_
      simp only [Act.put, sa, s0, ss]
      refine tt 7 ?_
      simp only [Act.put, sa, s0, ss]
      refine tt 8 ?_
      simp only [Act.put, sa, s0, ss]
      have hw13 : wrap64 ((k2 : Int) - 1) = ((k2 - 1 : Nat) : Int) := by have z := w64_in ((k2 : Int) - 1) ⟨by omega, by omega⟩; omega
      have hw13i : IntKind.i64.wrap ((k2 : Int) - 1) = ((k2 - 1 : Nat) : Int) := by have z := iw_in ((k2 : Int) - 1) ⟨by omega, by omega⟩; omega
      refine tt 9 ?_
      simp only [Act.put, sa, s0, ss]
      refine tt 10 ?_
      simp only [Act.put, sa, s0, ss]
      refine tt 11 ?_
      simp only [Act.put, sa, s0, ss]
      refine tt 12 ?_
      simp only [Act.put, sa, s0, ss]
      refine tt 13 ?_
      simp only [Act.put, sa, s0, ss]
      refine tt 14 ?_
      simp only [Act.put, sa, s0, ss]
      by_cases h14 : (gt a0 k2).At < (gt a0 (k2 - 1)).At
      ·
       have h14d := Lib.hid (decide_eq_true h14)
       refine tt 15 ?_
       simp only [Act.put, sa, s0, ss]
       refine tt 16 ?_
       simp only [Act.put, sa, s0, ss]
       refine tt 17 ?_
       simp only [Act.put, sa, s0, ss]
       refine wpAnyH_done (by kernel_rfl) ?_ _
       clear hHeld1
       refine NoPanic.normal ?_
       have q15 : iTimersOk_p_b1 a0 k2 () = .ret false := by simp only [iTimersOk_p_b1, h8d.out, h12.out, h14d.out, cond_true]
       have q16 := rounds_ret hlt3 hy3.out q15
       obtain rfl : r = false := hr.out.symm.trans (by simp only [iTimersOk_p, h1d.out, q16, cond_false])
       go_wp2
       go_ret
       exact rbk (by simp (maxDischargeDepth := 9) [B11])
      ·
       have h14d := Lib.hid (decide_eq_false h14)
       refine tt 15 ?_
       simp only [Act.put, sa, s0, ss]
       refine tt 16 ?_
       simp only [Act.put, sa, s0, ss]
       refine tt 17 ?_
       simp only [Act.put, sa, s0, ss]
       refine wpAnyH_done (by kernel_rfl) ?_ _
       clear hHeld1
       refine NoPanic.normal ?_
       have q17 : iTimersOk_p_b1 a0 k2 () = .go () := by simp only [iTimersOk_p_b1, h8d.out, h12.out, h14d.out, cond_true, cond_false]
       replace q17 := Lib.hid (rounds_next hy3.out q17)
       go_wp2
       go_roundw
       case rel => exact ⟨(by simp (maxDischargeDepth := 9) [B11]), k2 + 1, by go_num, by omega, q17⟩
       case measure => simp [intOf]; omega
     | false =>
      replace h12 := Lib.hid h12
      go_wp2_with fail
      refine hK.out _ _ ?_ (fun hHeld1 => ?_)
      · go_keep
      clear hK K hHeld0
      refine tt 2 ?_
      simp only [Act.put, sa, s0, ss]
      refine tt 3 ?_
      simp only [Act.put, sa, s0, ss]
      refine tu 4 ?_
      simp only [Act.put, sa, s0, ss]
      refine tu 5 ?_
      simp only [Act.put, sa, s0, ss]
      refine tu 6 ?_
      simp only [Act.put, sa, s0, ss]
      refine tu 7 ?_
      simp only [Act.put, sa, s0, ss]
      refine tu 8 ?_
      simp only [Act.put, sa, s0, ss]
      refine tu 9 ?_
      simp only [Act.put, sa, s0, ss]
      refine tu 10 ?_
      simp only [Act.put, sa, s0, ss]
      refine tu 11 ?_
      simp only [Act.put, sa, s0, ss]
      refine tu 12 ?_
      simp only [Act.put, sa, s0, ss]
      refine tu 13 ?_
      simp only [Act.put, sa, s0, ss]
      refine tu 14 ?_
      simp only [Act.put, sa, s0, ss]
      refine tu 15 ?_
      simp only [Act.put, sa, s0, ss]
      refine tu 16 ?_
      simp only [Act.put, sa, s0, ss]
      refine tt 17 ?_
      simp only [Act.put, sa, s0, ss]
      refine wpAnyH_done (by kernel_rfl) ?_ _
      clear hHeld1
      refine NoPanic.normal ?_
      have q18 : iTimersOk_p_b1 a0 k2 () = .ret false := by simp only [iTimersOk_p_b1, h8d.out, h12.out, cond_true, cond_false]
      have q19 := rounds_ret hlt3 hy3.out q18
      obtain rfl : r = false := hr.out.symm.trans (by simp only [iTimersOk_p, h1d.out, q19, cond_false])
      go_wp2
      go_ret
      exact rbk (by simp (maxDischargeDepth := 9) [B11])
    ·
     have h8d := Lib.hid (decide_eq_false h8)
     go_wp2
     refine wp_region_noPanic ?_
     refine wp_region_held_drew (S := (fun w' => w'.cell? ⟨wr2.heap.size, 0, none⟩ = some (.int .i64 ((gt a0 k2).At)) ∧ w'.cell? ⟨wr2.heap.size, 1, none⟩ = some (.string ((gt a0 k2).F.Kind)) ∧ w'.cell? ⟨wr2.heap.size, 2, none⟩ = some (.slice pe5_2 ((gt a0 k2).F.Fields.length) ce5_2) ∧ w'.cell? ⟨e5b, e5o + k2 * 3, none⟩ = some (.int .i64 ((gt a0 k2).At)) ∧ w'.cell? ⟨e5b, e5o + k2 * 3 + 1, none⟩ = some (.string ((gt a0 k2).F.Kind)) ∧ w'.cell? ⟨e5b, e5o + k2 * 3 + 2, none⟩ = some (.slice pe5_2 ((gt a0 k2).F.Fields.length) ce5_2))) (by kernel_rfl) ?_ (fun hHeld0 => ?_)
     · go_keep
     refine tt 0 ?_
     simp only [Act.put, sa, s0, ss]
     refine wpAnyH_ready (rs := [1]) (by kernel_rfl) (by simp) ?_
     refine' AllReadyH.cons (o := _) ?hi1020_1 (fun K hK => ?_) AllReadyH.nil
     case hi1020_1 => simp only [List.getElem?_toArray, List.getElem?_cons_succ, List.getElem?_cons_zero]; exact rfl
     go_simp
     go_at_call 142
     refine (itimerOk_w (gt a0 k2) _ _ (te5_2.to (by simp (maxDischargeDepth := 9) [B3])) e5ok).mono ?_
     rintro e w20 ⟨rfl, hb20⟩
     have B20 := via (w0 := w) (by simp (maxDischargeDepth := 9) [B3]) hb20
     have Xbx7_20 : Bx w20 (wr2.heap.size) [.int .i64 ((gt a0 k2).At), .string ((gt a0 k2).F.Kind), .slice pe5_2 ((gt a0 k2).F.Fields.length) ce5_2] := Bx.via (by simp (maxDischargeDepth := 9)) hb20
     have ⟨Xbx7_20k0, Xbx7_20k1, Xbx7_20k2⟩ := bx3 Xbx7_20
     clear e5d0n e5d1n e5d2n
     have ⟨e5d0n, e5d1n, e5d2n⟩ := cb3 B20 e5bl e5E.out
     clear B3
     cases h21 : itimerOk_p (gt a0 k2) with
     | true =>
      replace h21 := Lib.hid h21
      go_wp2_with fail
      refine hK.out _ _ ?_ (fun hHeld1 => ?_)
      · go_keep
      clear hK K hHeld0
      refine tt 2 ?_
      simp only [Act.put, sa, s0, ss]
      refine tt 3 ?_
      simp only [Act.put, sa, s0, ss]
      refine tt 4 ?_
      simp only [Act.put, sa, s0, ss]
      refine tt 5 ?_
      simp only [Act.put, sa, s0, ss]
      refine tt 6 ?_
      simp only [Act.put, sa, s0, ss]
      refine tu 7 ?_
      simp only [Act.put, sa, s0, ss]
      refine tu 8 ?_
      simp only [Act.put, sa, s0, ss]
      refine tu 9 ?_
      simp only [Act.put, sa, s0, ss]
      refine tu 10 ?_
      simp only [Act.put, sa, s0, ss]
      refine tu 11 ?_
      simp only [Act.put, sa, s0, ss]
      refine tu 12 ?_
      simp only [Act.put, sa, s0, ss]
      refine tu 13 ?_
      simp only [Act.put, sa, s0, ss]
      refine tu 14 ?_
      simp only [Act.put, sa, s0, ss]
      refine tu 15 ?_
      simp only [Act.put, sa, s0, ss]
      refine tt 16 ?_
      simp only [Act.put, sa, s0, ss]
      refine tt 17 ?_
      simp only [Act.put, sa, s0, ss]
      refine wpAnyH_done (by kernel_rfl) ?_ _
      clear hHeld1
      refine NoPanic.normal ?_
      have q22 : iTimersOk_p_b1 a0 k2 () = .go () := by simp only [iTimersOk_p_b1, h8d.out, h21.out, cond_true, cond_false]
      replace q22 := Lib.hid (rounds_next hy3.out q22)
      go_wp2
      go_roundw
      case rel => exact ⟨(by simp (maxDischargeDepth := 9) [B20]), k2 + 1, by go_num, by omega, q22⟩
      case measure => simp [intOf]; omega
     | false =>
      replace h21 := Lib.hid h21
      go_wp2_with fail
      refine hK.out _ _ ?_ (fun hHeld1 => ?_)
      · go_keep
      clear hK K hHeld0
      refine tt 2 ?_
      simp only [Act.put, sa, s0, ss]
      refine tt 3 ?_
      simp only [Act.put, sa, s0, ss]
      refine tu 4 ?_
      simp only [Act.put, sa, s0, ss]
      refine tu 5 ?_
      simp only [Act.put, sa, s0, ss]
      refine tu 6 ?_
      simp only [Act.put, sa, s0, ss]
      refine tu 7 ?_
      simp only [Act.put, sa, s0, ss]
      refine tu 8 ?_
      simp only [Act.put, sa, s0, ss]
      refine tu 9 ?_
      simp only [Act.put, sa, s0, ss]
      refine tu 10 ?_
      simp only [Act.put, sa, s0, ss]
      refine tu 11 ?_
      simp only [Act.put, sa, s0, ss]
      refine tu 12 ?_
      simp only [Act.put, sa, s0, ss]
      refine tu 13 ?_
      simp only [Act.put, sa, s0, ss]
      refine tu 14 ?_
      simp only [Act.put, sa, s0, ss]
      refine tu 15 ?_
      simp only [Act.put, sa, s0, ss]
      refine tu 16 ?_
      simp only [Act.put, sa, s0, ss]
      refine tt 17 ?_
      simp only [Act.put, sa, s0, ss]
      refine wpAnyH_done (by kernel_rfl) ?_ _
      clear hHeld1
      refine NoPanic.normal ?_
      have q23 : iTimersOk_p_b1 a0 k2 () = .ret false := by simp only [iTimersOk_p_b1, h8d.out, h21.out, cond_false]
      have q24 := rounds_ret hlt3 hy3.out q23
      obtain rfl : r = false := hr.out.symm.trans (by simp only [iTimersOk_p, h1d.out, q24, cond_false])
      go_wp2
      go_ret
      exact rbk (by simp (maxDischargeDepth := 9) [B20])
   ·
    obtain rfl : a0.length = k2 := by omega
    obtain rfl : r = true := hr.out.symm.trans (by simp only [iTimersOk_p, h1d.out, hy3.out, cond_false])
    go_wp2
    go_ret
    exact rbk (by simp (maxDischargeDepth := 9) [B3])

-- impl.isKey
def iisKey_p (a0 : ByteArray) : Bool := inR ((a0.size : Nat) : Int) (1 : Int) (200 : Int)
set_option maxHeartbeats 1000000 in
set_option maxRecDepth 20000 in
theorem iisKey_w (a0 : ByteArray) (w : World) :
    Calls Tryz.prog 143 #[.string a0] w (RetB (iisKey_p a0) w) := by
 obtain ⟨r, hr⟩ : ∃ r, iisKey_p a0 = r := ⟨_, rfl⟩
 rw [hr]
 replace hr := Lib.hid hr
 go_enter Tryz.func143, Tryz.ntmps143
 go_wp2_with fail
 refine (iinRange_w ((a0.size : Nat) : Int) (1 : Int) (200 : Int)  _ ).mono ?_
 rintro e w1 ⟨rfl, hb1⟩
 have B1 := via (w0 := w) (by simp (maxDischargeDepth := 9)) hb1
 obtain rfl : r = inR ((a0.size : Nat) : Int) (1 : Int) (200 : Int) := hr.out.symm.trans (by simp only [iisKey_p])
 go_wp2
 go_ret
 exact rbk (by simp (maxDischargeDepth := 9) [B1])

-- impl.hasKey$1
def ihasKey_1_p (a0 : UndoD) (b0 : ByteArray) : Bool := bif (a0.Key.toList == b0.toList) then (true) else (false)
set_option maxHeartbeats 1000000 in
set_option maxRecDepth 20000 in
theorem ihasKey_1_w (a0 : UndoD) (b0 : ByteArray) (v0_2 : Value) (g0 : Nat) (w : World) (s0_2 : Sl w a0.F.Fields v0_2) (hg0 : Bx w g0 [.string b0]) :
    Calls Tryz.prog 230 #[.agg #[.string a0.Key, .string a0.F.Kind, v0_2], .pointer (some ⟨g0, 0, none⟩)] w (RetB (ihasKey_1_p a0 b0) w) := by
 obtain ⟨p0_2, c0_2, rfl, hl0_2, -, hk0_2, -⟩ := s0_2.open
 have hg0k0 := hg0.c 0 _ rfl
 obtain ⟨r, hr⟩ : ∃ r, ihasKey_1_p a0 b0 = r := ⟨_, rfl⟩
 rw [hr]
 replace hr := Lib.hid hr
 go_enter Tryz.func230, Tryz.ntmps230
 obtain ⟨bh2, eh2⟩ : ∃ b, (a0.Key.toList == b0.toList) = b := ⟨_, rfl⟩
 rcases Bool.eq_false_or_eq_true bh2 with h2 | h2
 ·
  obtain rfl : r = true := hr.out.symm.trans (by simp only [ihasKey_1_p, eh2, h2, cond_true])
  go_wp2
  go_ret
  exact rbk (by simp (maxDischargeDepth := 9))
 ·
  obtain rfl : r = false := hr.out.symm.trans (by simp only [ihasKey_1_p, eh2, h2, cond_false])
  go_wp2
  go_ret
  exact rbk (by simp (maxDischargeDepth := 9))

-- slices.IndexFunc[[]impl.Undo,impl.Undo]@impl.hasKey$1
def slices_IndexFunc_iUndo_ihasKey_1_p_b1 (a0 : List UndoD) (b0 : ByteArray) (k1 : Nat) (_ : Unit) : St (Int) (Unit) := bif ihasKey_1_p (gt a0 k1) b0 then (.ret (k1 : Int)) else (.go ())
def slices_IndexFunc_iUndo_ihasKey_1_p (a0 : List UndoD) (b0 : ByteArray) : Int := match rounds (slices_IndexFunc_iUndo_ihasKey_1_p_b1 a0 b0) a0.length () with | .ret r => r | .brk _ => default | .go _ => (-1 : Int)
set_option maxHeartbeats 1000000 in
set_option maxRecDepth 20000 in
theorem slices_IndexFunc_iUndo_ihasKey_1_w (a0 : List UndoD) (b0 : ByteArray) (v0_0 : Value) (g0 : Nat) (w : World) (s0_0 : Sl w a0 v0_0) (hg0 : Bx w g0 [.string b0]) :
    Calls Tryz.prog 320 #[v0_0, .func (.func 230) #[] #[.pointer (some ⟨g0, 0, none⟩)]] w (RetI (slices_IndexFunc_iUndo_ihasKey_1_p a0 b0) w) := by
 obtain ⟨p0_0, c0_0, rfl, hl0_0, -, hk0_0, -⟩ := s0_0.open
 have hg0k0 := hg0.c 0 _ rfl
 obtain ⟨r, hr⟩ : ∃ r, slices_IndexFunc_iUndo_ihasKey_1_p a0 b0 = r := ⟨_, rfl⟩
 rw [hr]
 replace hr := Lib.hid hr
 go_enter Tryz.func320, Tryz.ntmps320
 go_wp2
 go_loopw [8] (fun i8 wr1 => Below w.heap.size w wr1 ∧ Bx wr1 (g0) [.string b0] ∧ ∃ (k1 : Nat), i8 = .int .i64 k1 ∧ k1 ≤ a0.length ∧ Hid (rounds (slices_IndexFunc_iUndo_ihasKey_1_p_b1 a0 b0) k1 () = .go ())) (fun i8 _ => a0.length - (intOf i8).toNat)
 case atStart => exact ⟨(by simp (maxDischargeDepth := 9)), (by simp (maxDischargeDepth := 9) [hg0]), 0, rfl, by omega, Lib.hid rfl⟩
 case round =>
  rename World => wr1
  obtain ⟨B2, Xg0_2, k1, rfl, hk2, hy2⟩ := hrel
  have Xg0_2k0 := bx1 Xg0_2
  by_cases hlt2 : k1 < a0.length
  ·
   have hi5 : k1 < a0.length := by first | assumption | omega
   obtain ⟨e4b, e4o, ue4_2, rfl, e4bl, e4ok, ⟨e4d0, e4d1, e4d2⟩, te4_2⟩ := Sl.gtUndo s0_0 k1 hi5
   obtain ⟨pe4_2, ce4_2, rfl, hlpe4_2, -⟩ := te4_2.open
   have e4E := Lib.hid (And.intro e4d0 (And.intro e4d1 e4d2))
   clear e4d0 e4d1 e4d2
   have ⟨e4d0n, e4d1n, e4d2n⟩ := cb3 B2 e4bl e4E.out
   go_wp2_with fail
   refine (ihasKey_1_w (gt a0 k1) b0 _ _ _ (te4_2.to (by simp (maxDischargeDepth := 9) [B2])) (by simp (maxDischargeDepth := 9) [Xg0_2])).mono ?_
   rintro e w6 ⟨rfl, hb6⟩
   have B6 := via (w0 := w) (by simp (maxDischargeDepth := 9) [B2]) hb6
   have U6 : Below wr1.heap.size wr1 w6 := via (by simp (maxDischargeDepth := 9)) hb6
   have Xg0_6 := Xg0_2.via U6
   clear Xg0_2 Xg0_2k0
   have Xg0_6k0 := bx1 Xg0_6
   clear e4d0n e4d1n e4d2n
   have ⟨e4d0n, e4d1n, e4d2n⟩ := cb3 B6 e4bl e4E.out
   clear U6
   clear B2
   cases h7 : ihasKey_1_p (gt a0 k1) b0 with
   | true =>
    replace h7 := Lib.hid h7
    have q8 : slices_IndexFunc_iUndo_ihasKey_1_p_b1 a0 b0 k1 () = .ret (k1 : Int) := by simp only [slices_IndexFunc_iUndo_ihasKey_1_p_b1, h7.out, cond_true]
    have q9 := rounds_ret hlt2 hy2.out q8
    obtain rfl : r = (k1 : Int) := hr.out.symm.trans (by simp only [slices_IndexFunc_iUndo_ihasKey_1_p, q9])
    go_wp2
    go_ret
    exact ⟨by first | rfl | simp, (by simp (maxDischargeDepth := 9) [B6])⟩
   | false =>
    replace h7 := Lib.hid h7
    have q10 : slices_IndexFunc_iUndo_ihasKey_1_p_b1 a0 b0 k1 () = .go () := by simp only [slices_IndexFunc_iUndo_ihasKey_1_p_b1, h7.out, cond_false]
    replace q10 := Lib.hid (rounds_next hy2.out q10)
    go_wp2
    go_roundw
    case rel => exact ⟨(by simp (maxDischargeDepth := 9) [B6]), (by simp (maxDischargeDepth := 9) [Xg0_6]), k1 + 1, by go_num, by omega, q10⟩
    case measure => simp [intOf]; omega
  ·
   obtain rfl : a0.length = k1 := by omega
   obtain rfl : r = (-1 : Int) := hr.out.symm.trans (by simp only [slices_IndexFunc_iUndo_ihasKey_1_p, hy2.out])
   go_wp2
   go_ret
   exact ⟨by first | rfl | simp, (by simp (maxDischargeDepth := 9) [B2])⟩

-- slices.ContainsFunc[[]impl.Undo,impl.Undo]@impl.hasKey$1
def slices_ContainsFunc_iUndo_ihasKey_1_p (a0 : List UndoD) (b0 : ByteArray) : Bool := bif decide ((0 : Int) ≤ (slices_IndexFunc_iUndo_ihasKey_1_p a0 b0)) then (true) else (false)
set_option maxHeartbeats 1000000 in
set_option maxRecDepth 20000 in
theorem slices_ContainsFunc_iUndo_ihasKey_1_w (a0 : List UndoD) (b0 : ByteArray) (v0_0 : Value) (g0 : Nat) (w : World) (s0_0 : Sl w a0 v0_0) (hg0 : Bx w g0 [.string b0]) :
    Calls Tryz.prog 229 #[v0_0, .func (.func 230) #[] #[.pointer (some ⟨g0, 0, none⟩)]] w (RetB (slices_ContainsFunc_iUndo_ihasKey_1_p a0 b0) w) := by
 obtain ⟨p0_0, c0_0, rfl, hl0_0, -, hk0_0, -⟩ := s0_0.open
 have hg0k0 := hg0.c 0 _ rfl
 obtain ⟨r, hr⟩ : ∃ r, slices_ContainsFunc_iUndo_ihasKey_1_p a0 b0 = r := ⟨_, rfl⟩
 rw [hr]
 replace hr := Lib.hid hr
 go_enter Tryz.func229, Tryz.ntmps229
 go_wp2_with fail
 refine (slices_IndexFunc_iUndo_ihasKey_1_w a0 b0 _ _ _ (s0_0.to (by simp (maxDischargeDepth := 9))) (by simp (maxDischargeDepth := 9) [hg0])).mono ?_
 rintro e w1 ⟨rfl, hb1⟩
 have B1 := via (w0 := w) (by simp (maxDischargeDepth := 9)) hb1
 have U1 : Below w.heap.size w w1 := via (by simp (maxDischargeDepth := 9)) hb1
 have Xg0_1 := hg0.via U1
 skip
 have Xg0_1k0 := bx1 Xg0_1
 clear U1
 by_cases h2 : (0 : Int) ≤ (slices_IndexFunc_iUndo_ihasKey_1_p a0 b0)
 ·
  have h2d := Lib.hid (decide_eq_true h2)
  obtain rfl : r = true := hr.out.symm.trans (by simp only [slices_ContainsFunc_iUndo_ihasKey_1_p, h2d.out, cond_true])
  go_wp2
  go_ret
  exact rbk (by simp (maxDischargeDepth := 9) [B1])
 ·
  have h2d := Lib.hid (decide_eq_false h2)
  obtain rfl : r = false := hr.out.symm.trans (by simp only [slices_ContainsFunc_iUndo_ihasKey_1_p, h2d.out, cond_false])
  go_wp2
  go_ret
  exact rbk (by simp (maxDischargeDepth := 9) [B1])
end Go.Proofs.YthnilnggpbploaaGreat
