/- Functions that only read, walked (S). Printed by a program. -/
import Derived.Test.YthnilnggpbploaaGreatCmS1
import Derived.Test.YthnilnggpbploaaGreatCmS4
import Derived.Test.YthnilnggpbploaaGreatCmS5
import Derived.Test.YthnilnggpbploaaGreatRd
namespace Go.Proofs.YthnilnggpbploaaGreat
open Go.RowKit
open Cel (rd own rd_len rd_one own_rd own_lt rd_below rd_mono own_keep)

-- spec.l18Task
def sl18Task_p (a0 : TaskD) : Bool := bif (a0.V.K == 0) then (bif (a0.V.N == 0) then (bif a0.V.S.toList.isEmpty then (bif sFactOk_p a0.F then (bif sl18Undo_p a0.Undo then (bif inR a0.State (1 : Int) (4 : Int) then (bif inR a0.Tries (0 : Int) (4 : Int) then (bif inR a0.Due (0 : Int) (1000001000 : Int) then (bif (a0.State == 1) then (bif (a0.Tries == 0) then (true) else (false)) else (bif (a0.State == 2) then (bif (a0.Tries == 0) then (false) else (true)) else (true))) else (false)) else (false)) else (false)) else (false)) else (false)) else (bif sFactOk_p a0.F then (bif sl18Undo_p a0.Undo then (bif inR a0.State (1 : Int) (4 : Int) then (bif inR a0.Tries (0 : Int) (4 : Int) then (bif inR a0.Due (0 : Int) (1000001000 : Int) then (bif sValOk_p a0.V then (bif (a0.State == 1) then (bif (a0.Tries == 0) then (true) else (false)) else (bif (a0.State == 2) then (bif (a0.Tries == 0) then (false) else (true)) else (true))) else (false)) else (false)) else (false)) else (false)) else (false)) else (false))) else (bif sFactOk_p a0.F then (bif sl18Undo_p a0.Undo then (bif inR a0.State (1 : Int) (4 : Int) then (bif inR a0.Tries (0 : Int) (4 : Int) then (bif inR a0.Due (0 : Int) (1000001000 : Int) then (bif sValOk_p a0.V then (bif (a0.State == 1) then (bif (a0.Tries == 0) then (true) else (false)) else (bif (a0.State == 2) then (bif (a0.Tries == 0) then (false) else (true)) else (true))) else (false)) else (false)) else (false)) else (false)) else (false)) else (false))) else (bif sFactOk_p a0.F then (bif sl18Undo_p a0.Undo then (bif inR a0.State (1 : Int) (4 : Int) then (bif inR a0.Tries (0 : Int) (4 : Int) then (bif inR a0.Due (0 : Int) (1000001000 : Int) then (bif sValOk_p a0.V then (bif (a0.State == 1) then (bif (a0.Tries == 0) then (true) else (false)) else (bif (a0.State == 2) then (bif (a0.Tries == 0) then (false) else (true)) else (true))) else (false)) else (false)) else (false)) else (false)) else (false)) else (false))
set_option maxHeartbeats 1000000 in
set_option maxRecDepth 20000 in
theorem sl18Task_w (a0 : TaskD) (v0_1 : Value) (w : World) (s0_1 : Sl w a0.F.Fields v0_1) (ok_a0 : okTask a0) :
    Calls Tryz.prog 244 #[.agg #[.string a0.F.Kind, v0_1, .string a0.Undo, .int .i64 a0.State, .int .i64 a0.Tries, .int .i64 a0.Due, .int .i64 a0.V.K, .int .i64 a0.V.N, .string a0.V.S]] w (RetB (sl18Task_p a0) w) := by
 obtain ⟨p0_1, c0_1, rfl, hl0_1, -, hk0_1, -⟩ := s0_1.open
 obtain ⟨r, hr⟩ : ∃ r, sl18Task_p a0 = r := ⟨_, rfl⟩
 rw [hr]
 replace hr := Lib.hid hr
 go_enter Tryz.func244, Tryz.ntmps244
 obtain ⟨bh2, eh2⟩ : ∃ b, (a0.V.K == 0) = b := ⟨_, rfl⟩
 rcases Bool.eq_false_or_eq_true bh2 with h2 | h2
 ·
  obtain ⟨bh3, eh3⟩ : ∃ b, (a0.V.N == 0) = b := ⟨_, rfl⟩
  rcases Bool.eq_false_or_eq_true bh3 with h3 | h3
  ·
   obtain ⟨bh4, eh4⟩ : ∃ b, a0.V.S.toList.isEmpty = b := ⟨_, rfl⟩
   rcases Bool.eq_false_or_eq_true bh4 with h4 | h4
   ·
    go_wp2_with fail
    refine (sFactOk_w a0.F _ _ (s0_1.to (by simp (maxDischargeDepth := 9))) ok_a0.1).mono ?_
    rintro e w5 ⟨rfl, hb5⟩
    have B5 := via (w0 := w) (by simp (maxDischargeDepth := 9)) hb5
    have Xbx1_5 : Bx w5 (w.heap.size) [.string a0.F.Kind, .slice p0_1 a0.F.Fields.length c0_1, .string a0.Undo, .int .i64 a0.State, .int .i64 a0.Tries, .int .i64 a0.Due, .int .i64 a0.V.K, .int .i64 a0.V.N, .string a0.V.S] := Bx.via (by simp (maxDischargeDepth := 9)) hb5
    have ⟨Xbx1_5k0, Xbx1_5k1, Xbx1_5k2, Xbx1_5k3, Xbx1_5k4, Xbx1_5k5, Xbx1_5k6, Xbx1_5k7, Xbx1_5k8⟩ := bx9 Xbx1_5
    cases h6 : sFactOk_p a0.F with
    | true =>
     replace h6 := Lib.hid h6
     go_wp2_with fail
     refine (sl18Undo_w a0.Undo  _ ok_a0.2.1).mono ?_
     rintro e w7 ⟨rfl, hb7⟩
     have B7 := via (w0 := w) (by simp (maxDischargeDepth := 9) [B5]) hb7
     have U7 : Below w5.heap.size w5 w7 := via (by simp (maxDischargeDepth := 9)) hb7
     have Xbx1_7 := Xbx1_5.via U7
     clear Xbx1_5 Xbx1_5k0 Xbx1_5k1 Xbx1_5k2 Xbx1_5k3 Xbx1_5k4 Xbx1_5k5 Xbx1_5k6 Xbx1_5k7 Xbx1_5k8
     have ⟨Xbx1_7k0, Xbx1_7k1, Xbx1_7k2, Xbx1_7k3, Xbx1_7k4, Xbx1_7k5, Xbx1_7k6, Xbx1_7k7, Xbx1_7k8⟩ := bx9 Xbx1_7
     clear U7
     clear B5
     cases h8 : sl18Undo_p a0.Undo with
     | true =>
      replace h8 := Lib.hid h8
      go_wp2_with fail
      refine (sl1In_w a0.State (1 : Int) (4 : Int)  _ ).mono ?_
      rintro e w9 ⟨rfl, hb9⟩
      have B9 := via (w0 := w) (by simp (maxDischargeDepth := 9) [B7]) hb9
      have U9 : Below w7.heap.size w7 w9 := via (by simp (maxDischargeDepth := 9)) hb9
      have Xbx1_9 := Xbx1_7.via U9
      clear Xbx1_7 Xbx1_7k0 Xbx1_7k1 Xbx1_7k2 Xbx1_7k3 Xbx1_7k4 Xbx1_7k5 Xbx1_7k6 Xbx1_7k7 Xbx1_7k8
      have ⟨Xbx1_9k0, Xbx1_9k1, Xbx1_9k2, Xbx1_9k3, Xbx1_9k4, Xbx1_9k5, Xbx1_9k6, Xbx1_9k7, Xbx1_9k8⟩ := bx9 Xbx1_9
      clear U9
      clear B7
      cases h10 : inR a0.State (1 : Int) (4 : Int) with
      | true =>
       have ⟨h10a, h10b⟩ := inR_true h10
       replace h10 := Lib.hid h10
       go_wp2_with fail
       refine (sl1In_w a0.Tries (0 : Int) (4 : Int)  _ ).mono ?_
       rintro e w11 ⟨rfl, hb11⟩
       have B11 := via (w0 := w) (by simp (maxDischargeDepth := 9) [B9]) hb11
       have U11 : Below w9.heap.size w9 w11 := via (by simp (maxDischargeDepth := 9)) hb11
       have Xbx1_11 := Xbx1_9.via U11
       clear Xbx1_9 Xbx1_9k0 Xbx1_9k1 Xbx1_9k2 Xbx1_9k3 Xbx1_9k4 Xbx1_9k5 Xbx1_9k6 Xbx1_9k7 Xbx1_9k8
       have ⟨Xbx1_11k0, Xbx1_11k1, Xbx1_11k2, Xbx1_11k3, Xbx1_11k4, Xbx1_11k5, Xbx1_11k6, Xbx1_11k7, Xbx1_11k8⟩ := bx9 Xbx1_11
       clear U11
       clear B9
       cases h12 : inR a0.Tries (0 : Int) (4 : Int) with
       | true =>
        have ⟨h12a, h12b⟩ := inR_true h12
        replace h12 := Lib.hid h12
        go_wp2_with fail
        refine (sl1In_w a0.Due (0 : Int) (1000001000 : Int)  _ ).mono ?_
        rintro e w13 ⟨rfl, hb13⟩
        have B13 := via (w0 := w) (by simp (maxDischargeDepth := 9) [B11]) hb13
        have U13 : Below w11.heap.size w11 w13 := via (by simp (maxDischargeDepth := 9)) hb13
        have Xbx1_13 := Xbx1_11.via U13
        clear Xbx1_11 Xbx1_11k0 Xbx1_11k1 Xbx1_11k2 Xbx1_11k3 Xbx1_11k4 Xbx1_11k5 Xbx1_11k6 Xbx1_11k7 Xbx1_11k8
        have ⟨Xbx1_13k0, Xbx1_13k1, Xbx1_13k2, Xbx1_13k3, Xbx1_13k4, Xbx1_13k5, Xbx1_13k6, Xbx1_13k7, Xbx1_13k8⟩ := bx9 Xbx1_13
        clear U13
        clear B11
        cases h14 : inR a0.Due (0 : Int) (1000001000 : Int) with
        | true =>
         have ⟨h14a, h14b⟩ := inR_true h14
         replace h14 := Lib.hid h14
         obtain ⟨bh15, eh15⟩ : ∃ b, (a0.State == 1) = b := ⟨_, rfl⟩
         have nh15 : (a0.State != 1) = !bh15 := by rw [← eh15]; rfl
         rcases Bool.eq_false_or_eq_true bh15 with h15 | h15
         ·
          obtain ⟨bh16, eh16⟩ : ∃ b, (a0.Tries == 0) = b := ⟨_, rfl⟩
          rcases Bool.eq_false_or_eq_true bh16 with h16 | h16
          ·
           obtain rfl : r = true := hr.out.symm.trans (by simp only [sl18Task_p, eh2, h2, eh3, h3, eh4, h4, h6.out, h8.out, h10.out, h12.out, h14.out, eh15, h15, eh16, h16, cond_true])
           go_wp2
           go_ret
           exact rbk (by simp (maxDischargeDepth := 9) [B13])
          ·
           obtain rfl : r = false := hr.out.symm.trans (by simp only [sl18Task_p, eh2, h2, eh3, h3, eh4, h4, h6.out, h8.out, h10.out, h12.out, h14.out, eh15, h15, eh16, h16, cond_true, cond_false])
           go_wp2
           go_ret
           exact rbk (by simp (maxDischargeDepth := 9) [B13])
         ·
          obtain ⟨bh17, eh17⟩ : ∃ b, (a0.State == 2) = b := ⟨_, rfl⟩
          have nh17 : (a0.State != 2) = !bh17 := by rw [← eh17]; rfl
          rcases Bool.eq_false_or_eq_true bh17 with h17 | h17
          ·
           obtain ⟨bh18, eh18⟩ : ∃ b, (a0.Tries == 0) = b := ⟨_, rfl⟩
           rcases Bool.eq_false_or_eq_true bh18 with h18 | h18
           ·
            obtain rfl : r = false := hr.out.symm.trans (by simp only [sl18Task_p, eh2, h2, eh3, h3, eh4, h4, h6.out, h8.out, h10.out, h12.out, h14.out, eh15, h15, eh17, h17, eh18, h18, cond_true, cond_false])
            go_wp2
            go_ret
            exact rbk (by simp (maxDischargeDepth := 9) [B13])
           ·
            obtain rfl : r = true := hr.out.symm.trans (by simp only [sl18Task_p, eh2, h2, eh3, h3, eh4, h4, h6.out, h8.out, h10.out, h12.out, h14.out, eh15, h15, eh17, h17, eh18, h18, cond_true, cond_false])
            go_wp2
            go_ret
            exact rbk (by simp (maxDischargeDepth := 9) [B13])
          ·
           obtain rfl : r = true := hr.out.symm.trans (by simp only [sl18Task_p, eh2, h2, eh3, h3, eh4, h4, h6.out, h8.out, h10.out, h12.out, h14.out, eh15, h15, eh17, h17, cond_true, cond_false])
           go_wp2
           go_ret
           exact rbk (by simp (maxDischargeDepth := 9) [B13])
        | false =>
         replace h14 := Lib.hid h14
         obtain rfl : r = false := hr.out.symm.trans (by simp only [sl18Task_p, eh2, h2, eh3, h3, eh4, h4, h6.out, h8.out, h10.out, h12.out, h14.out, cond_true, cond_false])
         go_wp2
         go_ret
         exact rbk (by simp (maxDischargeDepth := 9) [B13])
       | false =>
        replace h12 := Lib.hid h12
        obtain rfl : r = false := hr.out.symm.trans (by simp only [sl18Task_p, eh2, h2, eh3, h3, eh4, h4, h6.out, h8.out, h10.out, h12.out, cond_true, cond_false])
        go_wp2
        go_ret
        exact rbk (by simp (maxDischargeDepth := 9) [B11])
      | false =>
       replace h10 := Lib.hid h10
       obtain rfl : r = false := hr.out.symm.trans (by simp only [sl18Task_p, eh2, h2, eh3, h3, eh4, h4, h6.out, h8.out, h10.out, cond_true, cond_false])
       go_wp2
       go_ret
       exact rbk (by simp (maxDischargeDepth := 9) [B9])
     | false =>
      replace h8 := Lib.hid h8
      obtain rfl : r = false := hr.out.symm.trans (by simp only [sl18Task_p, eh2, h2, eh3, h3, eh4, h4, h6.out, h8.out, cond_true, cond_false])
      go_wp2
      go_ret
      exact rbk (by simp (maxDischargeDepth := 9) [B7])
    | false =>
     replace h6 := Lib.hid h6
     obtain rfl : r = false := hr.out.symm.trans (by simp only [sl18Task_p, eh2, h2, eh3, h3, eh4, h4, h6.out, cond_true, cond_false])
     go_wp2
     go_ret
     exact rbk (by simp (maxDischargeDepth := 9) [B5])
   ·
    go_wp2_with fail
    refine (sFactOk_w a0.F _ _ (s0_1.to (by simp (maxDischargeDepth := 9))) ok_a0.1).mono ?_
    rintro e w19 ⟨rfl, hb19⟩
    have B19 := via (w0 := w) (by simp (maxDischargeDepth := 9)) hb19
    have Xbx1_19 : Bx w19 (w.heap.size) [.string a0.F.Kind, .slice p0_1 a0.F.Fields.length c0_1, .string a0.Undo, .int .i64 a0.State, .int .i64 a0.Tries, .int .i64 a0.Due, .int .i64 a0.V.K, .int .i64 a0.V.N, .string a0.V.S] := Bx.via (by simp (maxDischargeDepth := 9)) hb19
    have ⟨Xbx1_19k0, Xbx1_19k1, Xbx1_19k2, Xbx1_19k3, Xbx1_19k4, Xbx1_19k5, Xbx1_19k6, Xbx1_19k7, Xbx1_19k8⟩ := bx9 Xbx1_19
    cases h20 : sFactOk_p a0.F with
    | true =>
     replace h20 := Lib.hid h20
     go_wp2_with fail
     refine (sl18Undo_w a0.Undo  _ ok_a0.2.1).mono ?_
     rintro e w21 ⟨rfl, hb21⟩
     have B21 := via (w0 := w) (by simp (maxDischargeDepth := 9) [B19]) hb21
     have U21 : Below w19.heap.size w19 w21 := via (by simp (maxDischargeDepth := 9)) hb21
     have Xbx1_21 := Xbx1_19.via U21
     clear Xbx1_19 Xbx1_19k0 Xbx1_19k1 Xbx1_19k2 Xbx1_19k3 Xbx1_19k4 Xbx1_19k5 Xbx1_19k6 Xbx1_19k7 Xbx1_19k8
     have ⟨Xbx1_21k0, Xbx1_21k1, Xbx1_21k2, Xbx1_21k3, Xbx1_21k4, Xbx1_21k5, Xbx1_21k6, Xbx1_21k7, Xbx1_21k8⟩ := bx9 Xbx1_21
     clear U21
     clear B19
     cases h22 : sl18Undo_p a0.Undo with
     | true =>
      replace h22 := Lib.hid h22
      go_wp2_with fail
      refine (sl1In_w a0.State (1 : Int) (4 : Int)  _ ).mono ?_
      rintro e w23 ⟨rfl, hb23⟩
      have B23 := via (w0 := w) (by simp (maxDischargeDepth := 9) [B21]) hb23
      have U23 : Below w21.heap.size w21 w23 := via (by simp (maxDischargeDepth := 9)) hb23
      have Xbx1_23 := Xbx1_21.via U23
      clear Xbx1_21 Xbx1_21k0 Xbx1_21k1 Xbx1_21k2 Xbx1_21k3 Xbx1_21k4 Xbx1_21k5 Xbx1_21k6 Xbx1_21k7 Xbx1_21k8
      have ⟨Xbx1_23k0, Xbx1_23k1, Xbx1_23k2, Xbx1_23k3, Xbx1_23k4, Xbx1_23k5, Xbx1_23k6, Xbx1_23k7, Xbx1_23k8⟩ := bx9 Xbx1_23
      clear U23
      clear B21
      cases h24 : inR a0.State (1 : Int) (4 : Int) with
      | true =>
       have ⟨h24a, h24b⟩ := inR_true h24
       replace h24 := Lib.hid h24
       go_wp2_with fail
       refine (sl1In_w a0.Tries (0 : Int) (4 : Int)  _ ).mono ?_
       rintro e w25 ⟨rfl, hb25⟩
       have B25 := via (w0 := w) (by simp (maxDischargeDepth := 9) [B23]) hb25
       have U25 : Below w23.heap.size w23 w25 := via (by simp (maxDischargeDepth := 9)) hb25
       have Xbx1_25 := Xbx1_23.via U25
       clear Xbx1_23 Xbx1_23k0 Xbx1_23k1 Xbx1_23k2 Xbx1_23k3 Xbx1_23k4 Xbx1_23k5 Xbx1_23k6 Xbx1_23k7 Xbx1_23k8
       have ⟨Xbx1_25k0, Xbx1_25k1, Xbx1_25k2, Xbx1_25k3, Xbx1_25k4, Xbx1_25k5, Xbx1_25k6, Xbx1_25k7, Xbx1_25k8⟩ := bx9 Xbx1_25
       clear U25
       clear B23
       cases h26 : inR a0.Tries (0 : Int) (4 : Int) with
       | true =>
        have ⟨h26a, h26b⟩ := inR_true h26
        replace h26 := Lib.hid h26
        go_wp2_with fail
        refine (sl1In_w a0.Due (0 : Int) (1000001000 : Int)  _ ).mono ?_
        rintro e w27 ⟨rfl, hb27⟩
        have B27 := via (w0 := w) (by simp (maxDischargeDepth := 9) [B25]) hb27
        have U27 : Below w25.heap.size w25 w27 := via (by simp (maxDischargeDepth := 9)) hb27
        have Xbx1_27 := Xbx1_25.via U27
        clear Xbx1_25 Xbx1_25k0 Xbx1_25k1 Xbx1_25k2 Xbx1_25k3 Xbx1_25k4 Xbx1_25k5 Xbx1_25k6 Xbx1_25k7 Xbx1_25k8
        have ⟨Xbx1_27k0, Xbx1_27k1, Xbx1_27k2, Xbx1_27k3, Xbx1_27k4, Xbx1_27k5, Xbx1_27k6, Xbx1_27k7, Xbx1_27k8⟩ := bx9 Xbx1_27
        clear U27
        clear B25
        cases h28 : inR a0.Due (0 : Int) (1000001000 : Int) with
        | true =>
         have ⟨h28a, h28b⟩ := inR_true h28
         replace h28 := Lib.hid h28
         go_wp2_with fail
         refine (sValOk_w a0.V  _ ok_a0.2.2.2.2.2).mono ?_
         rintro e w29 ⟨rfl, hb29⟩
         have B29 := via (w0 := w) (by simp (maxDischargeDepth := 9) [B27]) hb29
         have U29 : Below w27.heap.size w27 w29 := via (by simp (maxDischargeDepth := 9)) hb29
         have Xbx1_29 := Xbx1_27.via U29
         clear Xbx1_27 Xbx1_27k0 Xbx1_27k1 Xbx1_27k2 Xbx1_27k3 Xbx1_27k4 Xbx1_27k5 Xbx1_27k6 Xbx1_27k7 Xbx1_27k8
         have ⟨Xbx1_29k0, Xbx1_29k1, Xbx1_29k2, Xbx1_29k3, Xbx1_29k4, Xbx1_29k5, Xbx1_29k6, Xbx1_29k7, Xbx1_29k8⟩ := bx9 Xbx1_29
         clear U29
         clear B27
         cases h30 : sValOk_p a0.V with
         | true =>
          replace h30 := Lib.hid h30
          obtain ⟨bh31, eh31⟩ : ∃ b, (a0.State == 1) = b := ⟨_, rfl⟩
          have nh31 : (a0.State != 1) = !bh31 := by rw [← eh31]; rfl
          rcases Bool.eq_false_or_eq_true bh31 with h31 | h31
          ·
           obtain ⟨bh32, eh32⟩ : ∃ b, (a0.Tries == 0) = b := ⟨_, rfl⟩
           rcases Bool.eq_false_or_eq_true bh32 with h32 | h32
           ·
            obtain rfl : r = true := hr.out.symm.trans (by simp only [sl18Task_p, eh2, h2, eh3, h3, eh4, h4, h20.out, h22.out, h24.out, h26.out, h28.out, h30.out, eh31, h31, eh32, h32, cond_true, cond_false])
            go_wp2
            go_ret
            exact rbk (by simp (maxDischargeDepth := 9) [B29])
           ·
            obtain rfl : r = false := hr.out.symm.trans (by simp only [sl18Task_p, eh2, h2, eh3, h3, eh4, h4, h20.out, h22.out, h24.out, h26.out, h28.out, h30.out, eh31, h31, eh32, h32, cond_true, cond_false])
            go_wp2
            go_ret
            exact rbk (by simp (maxDischargeDepth := 9) [B29])
          ·
           obtain ⟨bh33, eh33⟩ : ∃ b, (a0.State == 2) = b := ⟨_, rfl⟩
           have nh33 : (a0.State != 2) = !bh33 := by rw [← eh33]; rfl
           rcases Bool.eq_false_or_eq_true bh33 with h33 | h33
           ·
            obtain ⟨bh34, eh34⟩ : ∃ b, (a0.Tries == 0) = b := ⟨_, rfl⟩
            rcases Bool.eq_false_or_eq_true bh34 with h34 | h34
            ·
             obtain rfl : r = false := hr.out.symm.trans (by simp only [sl18Task_p, eh2, h2, eh3, h3, eh4, h4, h20.out, h22.out, h24.out, h26.out, h28.out, h30.out, eh31, h31, eh33, h33, eh34, h34, cond_true, cond_false])
             go_wp2
             go_ret
             exact rbk (by simp (maxDischargeDepth := 9) [B29])
            ·
             obtain rfl : r = true := hr.out.symm.trans (by simp only [sl18Task_p, eh2, h2, eh3, h3, eh4, h4, h20.out, h22.out, h24.out, h26.out, h28.out, h30.out, eh31, h31, eh33, h33, eh34, h34, cond_true, cond_false])
             go_wp2
             go_ret
             exact rbk (by simp (maxDischargeDepth := 9) [B29])
           ·
            obtain rfl : r = true := hr.out.symm.trans (by simp only [sl18Task_p, eh2, h2, eh3, h3, eh4, h4, h20.out, h22.out, h24.out, h26.out, h28.out, h30.out, eh31, h31, eh33, h33, cond_true, cond_false])
            go_wp2
            go_ret
            exact rbk (by simp (maxDischargeDepth := 9) [B29])
         | false =>
          replace h30 := Lib.hid h30
          obtain rfl : r = false := hr.out.symm.trans (by simp only [sl18Task_p, eh2, h2, eh3, h3, eh4, h4, h20.out, h22.out, h24.out, h26.out, h28.out, h30.out, cond_true, cond_false])
          go_wp2
          go_ret
          exact rbk (by simp (maxDischargeDepth := 9) [B29])
        | false =>
         replace h28 := Lib.hid h28
         obtain rfl : r = false := hr.out.symm.trans (by simp only [sl18Task_p, eh2, h2, eh3, h3, eh4, h4, h20.out, h22.out, h24.out, h26.out, h28.out, cond_true, cond_false])
         go_wp2
         go_ret
         exact rbk (by simp (maxDischargeDepth := 9) [B27])
       | false =>
        replace h26 := Lib.hid h26
        obtain rfl : r = false := hr.out.symm.trans (by simp only [sl18Task_p, eh2, h2, eh3, h3, eh4, h4, h20.out, h22.out, h24.out, h26.out, cond_true, cond_false])
        go_wp2
        go_ret
        exact rbk (by simp (maxDischargeDepth := 9) [B25])
      | false =>
       replace h24 := Lib.hid h24
       obtain rfl : r = false := hr.out.symm.trans (by simp only [sl18Task_p, eh2, h2, eh3, h3, eh4, h4, h20.out, h22.out, h24.out, cond_true, cond_false])
       go_wp2
       go_ret
       exact rbk (by simp (maxDischargeDepth := 9) [B23])
     | false =>
      replace h22 := Lib.hid h22
      obtain rfl : r = false := hr.out.symm.trans (by simp only [sl18Task_p, eh2, h2, eh3, h3, eh4, h4, h20.out, h22.out, cond_true, cond_false])
      go_wp2
      go_ret
      exact rbk (by simp (maxDischargeDepth := 9) [B21])
    | false =>
     replace h20 := Lib.hid h20
     obtain rfl : r = false := hr.out.symm.trans (by simp only [sl18Task_p, eh2, h2, eh3, h3, eh4, h4, h20.out, cond_true, cond_false])
     go_wp2
     go_ret
     exact rbk (by simp (maxDischargeDepth := 9) [B19])
  ·
   go_wp2_with fail
   refine (sFactOk_w a0.F _ _ (s0_1.to (by simp (maxDischargeDepth := 9))) ok_a0.1).mono ?_
   rintro e w35 ⟨rfl, hb35⟩
   have B35 := via (w0 := w) (by simp (maxDischargeDepth := 9)) hb35
   have Xbx1_35 : Bx w35 (w.heap.size) [.string a0.F.Kind, .slice p0_1 a0.F.Fields.length c0_1, .string a0.Undo, .int .i64 a0.State, .int .i64 a0.Tries, .int .i64 a0.Due, .int .i64 a0.V.K, .int .i64 a0.V.N, .string a0.V.S] := Bx.via (by simp (maxDischargeDepth := 9)) hb35
   have ⟨Xbx1_35k0, Xbx1_35k1, Xbx1_35k2, Xbx1_35k3, Xbx1_35k4, Xbx1_35k5, Xbx1_35k6, Xbx1_35k7, Xbx1_35k8⟩ := bx9 Xbx1_35
   cases h36 : sFactOk_p a0.F with
   | true =>
    replace h36 := Lib.hid h36
    go_wp2_with fail
    refine (sl18Undo_w a0.Undo  _ ok_a0.2.1).mono ?_
    rintro e w37 ⟨rfl, hb37⟩
    have B37 := via (w0 := w) (by simp (maxDischargeDepth := 9) [B35]) hb37
    have U37 : Below w35.heap.size w35 w37 := via (by simp (maxDischargeDepth := 9)) hb37
    have Xbx1_37 := Xbx1_35.via U37
    clear Xbx1_35 Xbx1_35k0 Xbx1_35k1 Xbx1_35k2 Xbx1_35k3 Xbx1_35k4 Xbx1_35k5 Xbx1_35k6 Xbx1_35k7 Xbx1_35k8
    have ⟨Xbx1_37k0, Xbx1_37k1, Xbx1_37k2, Xbx1_37k3, Xbx1_37k4, Xbx1_37k5, Xbx1_37k6, Xbx1_37k7, Xbx1_37k8⟩ := bx9 Xbx1_37
    clear U37
    clear B35
    cases h38 : sl18Undo_p a0.Undo with
    | true =>
     replace h38 := Lib.hid h38
     go_wp2_with fail
     refine (sl1In_w a0.State (1 : Int) (4 : Int)  _ ).mono ?_
     rintro e w39 ⟨rfl, hb39⟩
     have B39 := via (w0 := w) (by simp (maxDischargeDepth := 9) [B37]) hb39
     have U39 : Below w37.heap.size w37 w39 := via (by simp (maxDischargeDepth := 9)) hb39
     have Xbx1_39 := Xbx1_37.via U39
     clear Xbx1_37 Xbx1_37k0 Xbx1_37k1 Xbx1_37k2 Xbx1_37k3 Xbx1_37k4 Xbx1_37k5 Xbx1_37k6 Xbx1_37k7 Xbx1_37k8
     have ⟨Xbx1_39k0, Xbx1_39k1, Xbx1_39k2, Xbx1_39k3, Xbx1_39k4, Xbx1_39k5, Xbx1_39k6, Xbx1_39k7, Xbx1_39k8⟩ := bx9 Xbx1_39
     clear U39
     clear B37
     cases h40 : inR a0.State (1 : Int) (4 : Int) with
     | true =>
      have ⟨h40a, h40b⟩ := inR_true h40
      replace h40 := Lib.hid h40
      go_wp2_with fail
      refine (sl1In_w a0.Tries (0 : Int) (4 : Int)  _ ).mono ?_
      rintro e w41 ⟨rfl, hb41⟩
      have B41 := via (w0 := w) (by simp (maxDischargeDepth := 9) [B39]) hb41
      have U41 : Below w39.heap.size w39 w41 := via (by simp (maxDischargeDepth := 9)) hb41
      have Xbx1_41 := Xbx1_39.via U41
      clear Xbx1_39 Xbx1_39k0 Xbx1_39k1 Xbx1_39k2 Xbx1_39k3 Xbx1_39k4 Xbx1_39k5 Xbx1_39k6 Xbx1_39k7 Xbx1_39k8
      have ⟨Xbx1_41k0, Xbx1_41k1, Xbx1_41k2, Xbx1_41k3, Xbx1_41k4, Xbx1_41k5, Xbx1_41k6, Xbx1_41k7, Xbx1_41k8⟩ := bx9 Xbx1_41
      clear U41
      clear B39
      cases h42 : inR a0.Tries (0 : Int) (4 : Int) with
      | true =>
       have ⟨h42a, h42b⟩ := inR_true h42
       replace h42 := Lib.hid h42
       go_wp2_with fail
       refine (sl1In_w a0.Due (0 : Int) (1000001000 : Int)  _ ).mono ?_
       rintro e w43 ⟨rfl, hb43⟩
       have B43 := via (w0 := w) (by simp (maxDischargeDepth := 9) [B41]) hb43
       have U43 : Below w41.heap.size w41 w43 := via (by simp (maxDischargeDepth := 9)) hb43
       have Xbx1_43 := Xbx1_41.via U43
       clear Xbx1_41 Xbx1_41k0 Xbx1_41k1 Xbx1_41k2 Xbx1_41k3 Xbx1_41k4 Xbx1_41k5 Xbx1_41k6 Xbx1_41k7 Xbx1_41k8
       have ⟨Xbx1_43k0, Xbx1_43k1, Xbx1_43k2, Xbx1_43k3, Xbx1_43k4, Xbx1_43k5, Xbx1_43k6, Xbx1_43k7, Xbx1_43k8⟩ := bx9 Xbx1_43
       clear U43
       clear B41
       cases h44 : inR a0.Due (0 : Int) (1000001000 : Int) with
       | true =>
        have ⟨h44a, h44b⟩ := inR_true h44
        replace h44 := Lib.hid h44
        go_wp2_with fail
        refine (sValOk_w a0.V  _ ok_a0.2.2.2.2.2).mono ?_
        rintro e w45 ⟨rfl, hb45⟩
        have B45 := via (w0 := w) (by simp (maxDischargeDepth := 9) [B43]) hb45
        have U45 : Below w43.heap.size w43 w45 := via (by simp (maxDischargeDepth := 9)) hb45
        have Xbx1_45 := Xbx1_43.via U45
        clear Xbx1_43 Xbx1_43k0 Xbx1_43k1 Xbx1_43k2 Xbx1_43k3 Xbx1_43k4 Xbx1_43k5 Xbx1_43k6 Xbx1_43k7 Xbx1_43k8
        have ⟨Xbx1_45k0, Xbx1_45k1, Xbx1_45k2, Xbx1_45k3, Xbx1_45k4, Xbx1_45k5, Xbx1_45k6, Xbx1_45k7, Xbx1_45k8⟩ := bx9 Xbx1_45
        clear U45
        clear B43
        cases h46 : sValOk_p a0.V with
        | true =>
         replace h46 := Lib.hid h46
         obtain ⟨bh47, eh47⟩ : ∃ b, (a0.State == 1) = b := ⟨_, rfl⟩
         have nh47 : (a0.State != 1) = !bh47 := by rw [← eh47]; rfl
         rcases Bool.eq_false_or_eq_true bh47 with h47 | h47
         ·
          obtain ⟨bh48, eh48⟩ : ∃ b, (a0.Tries == 0) = b := ⟨_, rfl⟩
          rcases Bool.eq_false_or_eq_true bh48 with h48 | h48
          ·
           obtain rfl : r = true := hr.out.symm.trans (by simp only [sl18Task_p, eh2, h2, eh3, h3, h36.out, h38.out, h40.out, h42.out, h44.out, h46.out, eh47, h47, eh48, h48, cond_true, cond_false])
           go_wp2
           go_ret
           exact rbk (by simp (maxDischargeDepth := 9) [B45])
          ·
           obtain rfl : r = false := hr.out.symm.trans (by simp only [sl18Task_p, eh2, h2, eh3, h3, h36.out, h38.out, h40.out, h42.out, h44.out, h46.out, eh47, h47, eh48, h48, cond_true, cond_false])
           go_wp2
           go_ret
           exact rbk (by simp (maxDischargeDepth := 9) [B45])
         ·
          obtain ⟨bh49, eh49⟩ : ∃ b, (a0.State == 2) = b := ⟨_, rfl⟩
          have nh49 : (a0.State != 2) = !bh49 := by rw [← eh49]; rfl
          rcases Bool.eq_false_or_eq_true bh49 with h49 | h49
          ·
           obtain ⟨bh50, eh50⟩ : ∃ b, (a0.Tries == 0) = b := ⟨_, rfl⟩
           rcases Bool.eq_false_or_eq_true bh50 with h50 | h50
           ·
            obtain rfl : r = false := hr.out.symm.trans (by simp only [sl18Task_p, eh2, h2, eh3, h3, h36.out, h38.out, h40.out, h42.out, h44.out, h46.out, eh47, h47, eh49, h49, eh50, h50, cond_true, cond_false])
            go_wp2
            go_ret
            exact rbk (by simp (maxDischargeDepth := 9) [B45])
           ·
            obtain rfl : r = true := hr.out.symm.trans (by simp only [sl18Task_p, eh2, h2, eh3, h3, h36.out, h38.out, h40.out, h42.out, h44.out, h46.out, eh47, h47, eh49, h49, eh50, h50, cond_true, cond_false])
            go_wp2
            go_ret
            exact rbk (by simp (maxDischargeDepth := 9) [B45])
          ·
           obtain rfl : r = true := hr.out.symm.trans (by simp only [sl18Task_p, eh2, h2, eh3, h3, h36.out, h38.out, h40.out, h42.out, h44.out, h46.out, eh47, h47, eh49, h49, cond_true, cond_false])
           go_wp2
           go_ret
           exact rbk (by simp (maxDischargeDepth := 9) [B45])
        | false =>
         replace h46 := Lib.hid h46
         obtain rfl : r = false := hr.out.symm.trans (by simp only [sl18Task_p, eh2, h2, eh3, h3, h36.out, h38.out, h40.out, h42.out, h44.out, h46.out, cond_true, cond_false])
         go_wp2
         go_ret
         exact rbk (by simp (maxDischargeDepth := 9) [B45])
       | false =>
        replace h44 := Lib.hid h44
        obtain rfl : r = false := hr.out.symm.trans (by simp only [sl18Task_p, eh2, h2, eh3, h3, h36.out, h38.out, h40.out, h42.out, h44.out, cond_true, cond_false])
        go_wp2
        go_ret
        exact rbk (by simp (maxDischargeDepth := 9) [B43])
      | false =>
       replace h42 := Lib.hid h42
       obtain rfl : r = false := hr.out.symm.trans (by simp only [sl18Task_p, eh2, h2, eh3, h3, h36.out, h38.out, h40.out, h42.out, cond_true, cond_false])
       go_wp2
       go_ret
       exact rbk (by simp (maxDischargeDepth := 9) [B41])
     | false =>
      replace h40 := Lib.hid h40
      obtain rfl : r = false := hr.out.symm.trans (by simp only [sl18Task_p, eh2, h2, eh3, h3, h36.out, h38.out, h40.out, cond_true, cond_false])
      go_wp2
      go_ret
      exact rbk (by simp (maxDischargeDepth := 9) [B39])
    | false =>
     replace h38 := Lib.hid h38
     obtain rfl : r = false := hr.out.symm.trans (by simp only [sl18Task_p, eh2, h2, eh3, h3, h36.out, h38.out, cond_true, cond_false])
     go_wp2
     go_ret
     exact rbk (by simp (maxDischargeDepth := 9) [B37])
   | false =>
    replace h36 := Lib.hid h36
    obtain rfl : r = false := hr.out.symm.trans (by simp only [sl18Task_p, eh2, h2, eh3, h3, h36.out, cond_true, cond_false])
    go_wp2
    go_ret
    exact rbk (by simp (maxDischargeDepth := 9) [B35])
 ·
  go_wp2_with fail
  refine (sFactOk_w a0.F _ _ (s0_1.to (by simp (maxDischargeDepth := 9))) ok_a0.1).mono ?_
  rintro e w51 ⟨rfl, hb51⟩
  have B51 := via (w0 := w) (by simp (maxDischargeDepth := 9)) hb51
  have Xbx1_51 : Bx w51 (w.heap.size) [.string a0.F.Kind, .slice p0_1 a0.F.Fields.length c0_1, .string a0.Undo, .int .i64 a0.State, .int .i64 a0.Tries, .int .i64 a0.Due, .int .i64 a0.V.K, .int .i64 a0.V.N, .string a0.V.S] := Bx.via (by simp (maxDischargeDepth := 9)) hb51
  have ⟨Xbx1_51k0, Xbx1_51k1, Xbx1_51k2, Xbx1_51k3, Xbx1_51k4, Xbx1_51k5, Xbx1_51k6, Xbx1_51k7, Xbx1_51k8⟩ := bx9 Xbx1_51
  cases h52 : sFactOk_p a0.F with
  | true =>
   replace h52 := Lib.hid h52
   go_wp2_with fail
   refine (sl18Undo_w a0.Undo  _ ok_a0.2.1).mono ?_
   rintro e w53 ⟨rfl, hb53⟩
   have B53 := via (w0 := w) (by simp (maxDischargeDepth := 9) [B51]) hb53
   have U53 : Below w51.heap.size w51 w53 := via (by simp (maxDischargeDepth := 9)) hb53
   have Xbx1_53 := Xbx1_51.via U53
   clear Xbx1_51 Xbx1_51k0 Xbx1_51k1 Xbx1_51k2 Xbx1_51k3 Xbx1_51k4 Xbx1_51k5 Xbx1_51k6 Xbx1_51k7 Xbx1_51k8
   have ⟨Xbx1_53k0, Xbx1_53k1, Xbx1_53k2, Xbx1_53k3, Xbx1_53k4, Xbx1_53k5, Xbx1_53k6, Xbx1_53k7, Xbx1_53k8⟩ := bx9 Xbx1_53
   clear U53
   clear B51
   cases h54 : sl18Undo_p a0.Undo with
   | true =>
    replace h54 := Lib.hid h54
    go_wp2_with fail
    refine (sl1In_w a0.State (1 : Int) (4 : Int)  _ ).mono ?_
    rintro e w55 ⟨rfl, hb55⟩
    have B55 := via (w0 := w) (by simp (maxDischargeDepth := 9) [B53]) hb55
    have U55 : Below w53.heap.size w53 w55 := via (by simp (maxDischargeDepth := 9)) hb55
    have Xbx1_55 := Xbx1_53.via U55
    clear Xbx1_53 Xbx1_53k0 Xbx1_53k1 Xbx1_53k2 Xbx1_53k3 Xbx1_53k4 Xbx1_53k5 Xbx1_53k6 Xbx1_53k7 Xbx1_53k8
    have ⟨Xbx1_55k0, Xbx1_55k1, Xbx1_55k2, Xbx1_55k3, Xbx1_55k4, Xbx1_55k5, Xbx1_55k6, Xbx1_55k7, Xbx1_55k8⟩ := bx9 Xbx1_55
    clear U55
    clear B53
    cases h56 : inR a0.State (1 : Int) (4 : Int) with
    | true =>
     have ⟨h56a, h56b⟩ := inR_true h56
     replace h56 := Lib.hid h56
     go_wp2_with fail
     refine (sl1In_w a0.Tries (0 : Int) (4 : Int)  _ ).mono ?_
     rintro e w57 ⟨rfl, hb57⟩
     have B57 := via (w0 := w) (by simp (maxDischargeDepth := 9) [B55]) hb57
     have U57 : Below w55.heap.size w55 w57 := via (by simp (maxDischargeDepth := 9)) hb57
     have Xbx1_57 := Xbx1_55.via U57
     clear Xbx1_55 Xbx1_55k0 Xbx1_55k1 Xbx1_55k2 Xbx1_55k3 Xbx1_55k4 Xbx1_55k5 Xbx1_55k6 Xbx1_55k7 Xbx1_55k8
     have ⟨Xbx1_57k0, Xbx1_57k1, Xbx1_57k2, Xbx1_57k3, Xbx1_57k4, Xbx1_57k5, Xbx1_57k6, Xbx1_57k7, Xbx1_57k8⟩ := bx9 Xbx1_57
     clear U57
     clear B55
     cases h58 : inR a0.Tries (0 : Int) (4 : Int) with
     | true =>
      have ⟨h58a, h58b⟩ := inR_true h58
      replace h58 := Lib.hid h58
      go_wp2_with fail
      refine (sl1In_w a0.Due (0 : Int) (1000001000 : Int)  _ ).mono ?_
      rintro e w59 ⟨rfl, hb59⟩
      have B59 := via (w0 := w) (by simp (maxDischargeDepth := 9) [B57]) hb59
      have U59 : Below w57.heap.size w57 w59 := via (by simp (maxDischargeDepth := 9)) hb59
      have Xbx1_59 := Xbx1_57.via U59
      clear Xbx1_57 Xbx1_57k0 Xbx1_57k1 Xbx1_57k2 Xbx1_57k3 Xbx1_57k4 Xbx1_57k5 Xbx1_57k6 Xbx1_57k7 Xbx1_57k8
      have ⟨Xbx1_59k0, Xbx1_59k1, Xbx1_59k2, Xbx1_59k3, Xbx1_59k4, Xbx1_59k5, Xbx1_59k6, Xbx1_59k7, Xbx1_59k8⟩ := bx9 Xbx1_59
      clear U59
      clear B57
      cases h60 : inR a0.Due (0 : Int) (1000001000 : Int) with
      | true =>
       have ⟨h60a, h60b⟩ := inR_true h60
       replace h60 := Lib.hid h60
       go_wp2_with fail
       refine (sValOk_w a0.V  _ ok_a0.2.2.2.2.2).mono ?_
       rintro e w61 ⟨rfl, hb61⟩
       have B61 := via (w0 := w) (by simp (maxDischargeDepth := 9) [B59]) hb61
       have U61 : Below w59.heap.size w59 w61 := via (by simp (maxDischargeDepth := 9)) hb61
       have Xbx1_61 := Xbx1_59.via U61
       clear Xbx1_59 Xbx1_59k0 Xbx1_59k1 Xbx1_59k2 Xbx1_59k3 Xbx1_59k4 Xbx1_59k5 Xbx1_59k6 Xbx1_59k7 Xbx1_59k8
       have ⟨Xbx1_61k0, Xbx1_61k1, Xbx1_61k2, Xbx1_61k3, Xbx1_61k4, Xbx1_61k5, Xbx1_61k6, Xbx1_61k7, Xbx1_61k8⟩ := bx9 Xbx1_61
       clear U61
       clear B59
       cases h62 : sValOk_p a0.V with
       | true =>
        replace h62 := Lib.hid h62
        obtain ⟨bh63, eh63⟩ : ∃ b, (a0.State == 1) = b := ⟨_, rfl⟩
        have nh63 : (a0.State != 1) = !bh63 := by rw [← eh63]; rfl
        rcases Bool.eq_false_or_eq_true bh63 with h63 | h63
        ·
         obtain ⟨bh64, eh64⟩ : ∃ b, (a0.Tries == 0) = b := ⟨_, rfl⟩
         rcases Bool.eq_false_or_eq_true bh64 with h64 | h64
         ·
          obtain rfl : r = true := hr.out.symm.trans (by simp only [sl18Task_p, eh2, h2, h52.out, h54.out, h56.out, h58.out, h60.out, h62.out, eh63, h63, eh64, h64, cond_true, cond_false])
          go_wp2
          go_ret
          exact rbk (by simp (maxDischargeDepth := 9) [B61])
         ·
          obtain rfl : r = false := hr.out.symm.trans (by simp only [sl18Task_p, eh2, h2, h52.out, h54.out, h56.out, h58.out, h60.out, h62.out, eh63, h63, eh64, h64, cond_true, cond_false])
          go_wp2
          go_ret
          exact rbk (by simp (maxDischargeDepth := 9) [B61])
        ·
         obtain ⟨bh65, eh65⟩ : ∃ b, (a0.State == 2) = b := ⟨_, rfl⟩
         have nh65 : (a0.State != 2) = !bh65 := by rw [← eh65]; rfl
         rcases Bool.eq_false_or_eq_true bh65 with h65 | h65
         ·
          obtain ⟨bh66, eh66⟩ : ∃ b, (a0.Tries == 0) = b := ⟨_, rfl⟩
          rcases Bool.eq_false_or_eq_true bh66 with h66 | h66
          ·
           obtain rfl : r = false := hr.out.symm.trans (by simp only [sl18Task_p, eh2, h2, h52.out, h54.out, h56.out, h58.out, h60.out, h62.out, eh63, h63, eh65, h65, eh66, h66, cond_true, cond_false])
           go_wp2
           go_ret
           exact rbk (by simp (maxDischargeDepth := 9) [B61])
          ·
           obtain rfl : r = true := hr.out.symm.trans (by simp only [sl18Task_p, eh2, h2, h52.out, h54.out, h56.out, h58.out, h60.out, h62.out, eh63, h63, eh65, h65, eh66, h66, cond_true, cond_false])
           go_wp2
           go_ret
           exact rbk (by simp (maxDischargeDepth := 9) [B61])
         ·
          obtain rfl : r = true := hr.out.symm.trans (by simp only [sl18Task_p, eh2, h2, h52.out, h54.out, h56.out, h58.out, h60.out, h62.out, eh63, h63, eh65, h65, cond_true, cond_false])
          go_wp2
          go_ret
          exact rbk (by simp (maxDischargeDepth := 9) [B61])
       | false =>
        replace h62 := Lib.hid h62
        obtain rfl : r = false := hr.out.symm.trans (by simp only [sl18Task_p, eh2, h2, h52.out, h54.out, h56.out, h58.out, h60.out, h62.out, cond_true, cond_false])
        go_wp2
        go_ret
        exact rbk (by simp (maxDischargeDepth := 9) [B61])
      | false =>
       replace h60 := Lib.hid h60
       obtain rfl : r = false := hr.out.symm.trans (by simp only [sl18Task_p, eh2, h2, h52.out, h54.out, h56.out, h58.out, h60.out, cond_true, cond_false])
       go_wp2
       go_ret
       exact rbk (by simp (maxDischargeDepth := 9) [B59])
     | false =>
      replace h58 := Lib.hid h58
      obtain rfl : r = false := hr.out.symm.trans (by simp only [sl18Task_p, eh2, h2, h52.out, h54.out, h56.out, h58.out, cond_true, cond_false])
      go_wp2
      go_ret
      exact rbk (by simp (maxDischargeDepth := 9) [B57])
    | false =>
     replace h56 := Lib.hid h56
     obtain rfl : r = false := hr.out.symm.trans (by simp only [sl18Task_p, eh2, h2, h52.out, h54.out, h56.out, cond_true, cond_false])
     go_wp2
     go_ret
     exact rbk (by simp (maxDischargeDepth := 9) [B55])
   | false =>
    replace h54 := Lib.hid h54
    obtain rfl : r = false := hr.out.symm.trans (by simp only [sl18Task_p, eh2, h2, h52.out, h54.out, cond_true, cond_false])
    go_wp2
    go_ret
    exact rbk (by simp (maxDischargeDepth := 9) [B53])
  | false =>
   replace h52 := Lib.hid h52
   obtain rfl : r = false := hr.out.symm.trans (by simp only [sl18Task_p, eh2, h2, h52.out, cond_false])
   go_wp2
   go_ret
   exact rbk (by simp (maxDischargeDepth := 9) [B51])

-- spec.TasksOk
def sTasksOk_p_b2 (a0 : List TaskD) (k1 : Nat) (k8 : Nat) (_ : Unit) : St (Bool) (Unit) := bif sSameFact_p ((gt a0 k1).F) ((gt a0 k8).F) then (.ret false) else (.go ())
def sTasksOk_p_b1 (a0 : List TaskD) (k1 : Nat) (_ : Unit) : St (Bool) (Unit) := bif sl18Task_p (gt a0 k1) then (match rounds (sTasksOk_p_b2 a0 k1) k1 () with | .ret r => .ret r | .brk _ => .brk default | .go _ => .go ()) else (.ret false)
def sTasksOk_p (a0 : List TaskD) : Bool := match rounds (sTasksOk_p_b1 a0) a0.length () with | .ret r => r | .brk _ => default | .go _ => bif decide (a0.length ≤ 30) then (true) else (false)
set_option maxHeartbeats 1000000 in
set_option maxRecDepth 20000 in
theorem sTasksOk_w (a0 : List TaskD) (v0_0 : Value) (w : World) (s0_0 : Sl w a0 v0_0) :
    Calls Tryz.prog 158 #[v0_0] w (RetB (sTasksOk_p a0) w) := by
 obtain ⟨p0_0, c0_0, rfl, hl0_0, -, hk0_0, -⟩ := s0_0.open
 obtain ⟨r, hr⟩ : ∃ r, sTasksOk_p a0 = r := ⟨_, rfl⟩
 rw [hr]
 replace hr := Lib.hid hr
 go_enter Tryz.func158, Tryz.ntmps158
 go_wp2
 go_loopw [3] (fun i3 wr1 => Below w.heap.size w wr1 ∧ ∃ (k1 : Nat), i3 = .int .i64 k1 ∧ k1 ≤ a0.length ∧ Hid (rounds (sTasksOk_p_b1 a0) k1 () = .go ())) (fun i3 _ => a0.length - (intOf i3).toNat)
 case atStart => exact ⟨(by simp (maxDischargeDepth := 9)), 0, rfl, by omega, Lib.hid rfl⟩
 case round =>
  rename World => wr1
  obtain ⟨B2, k1, rfl, hk2, hy2⟩ := hrel
  by_cases hlt2 : k1 < a0.length
  ·
   have hi5 : k1 < a0.length := by first | assumption | omega
   obtain ⟨e4b, e4o, ue4_1, rfl, e4bl, e4ok, ⟨e4d0, e4d1, e4d2, e4d3, e4d4, e4d5, e4d6, e4d7, e4d8⟩, te4_1⟩ := Sl.gtTask s0_0 k1 hi5
   obtain ⟨pe4_1, ce4_1, rfl, hlpe4_1, -⟩ := te4_1.open
   have e4E := Lib.hid (And.intro e4d0 (And.intro e4d1 (And.intro e4d2 (And.intro e4d3 (And.intro e4d4 (And.intro e4d5 (And.intro e4d6 (And.intro e4d7 e4d8))))))))
   clear e4d0 e4d1 e4d2 e4d3 e4d4 e4d5 e4d6 e4d7 e4d8
   have ⟨e4d0n, e4d1n, e4d2n, e4d3n, e4d4n, e4d5n, e4d6n, e4d7n, e4d8n⟩ := cb9 B2 e4bl e4E.out
   go_wp2_with fail
   refine (sl18Task_w (gt a0 k1) _ _ (te4_1.to (by simp (maxDischargeDepth := 9) [B2])) e4ok).mono ?_
   rintro e w6 ⟨rfl, hb6⟩
   have B6 := via (w0 := w) (by simp (maxDischargeDepth := 9) [B2]) hb6
   clear e4d0n e4d1n e4d2n e4d3n e4d4n e4d5n e4d6n e4d7n e4d8n
   have ⟨e4d0n, e4d1n, e4d2n, e4d3n, e4d4n, e4d5n, e4d6n, e4d7n, e4d8n⟩ := cb9 B6 e4bl e4E.out
   clear B2
   cases h7 : sl18Task_p (gt a0 k1) with
   | true =>
    replace h7 := Lib.hid h7
    go_wp2
    go_loopw [4] (fun i4 wr8 => Below w.heap.size w wr8 ∧ ∃ (k8 : Nat), i4 = .int .i64 k8 ∧ k8 ≤ k1 ∧ Hid (rounds (sTasksOk_p_b2 a0 k1) k8 () = .go ())) (fun i4 _ => k1 - (intOf i4).toNat)
    case atStart => exact ⟨(by simp (maxDischargeDepth := 9) [B6]), 0, rfl, by omega, Lib.hid rfl⟩
    case round =>
     rename World => wr8
     clear B6
     obtain ⟨B9, k8, rfl, hk9, hy9⟩ := hrel
     clear e4d0n e4d1n e4d2n e4d3n e4d4n e4d5n e4d6n e4d7n e4d8n
     have ⟨e4d0n, e4d1n, e4d2n, e4d3n, e4d4n, e4d5n, e4d6n, e4d7n, e4d8n⟩ := cb9 B9 e4bl e4E.out
     by_cases hlt9 : k8 < k1
     ·
      have hi12 : k8 < a0.length := by first | assumption | omega
      obtain ⟨ue11_1, e11bl, e11ok, ⟨e11d0, e11d1, e11d2, e11d3, e11d4, e11d5, e11d6, e11d7, e11d8⟩, te11_1⟩ := Sl.guTask s0_0 k8 hi12
      obtain ⟨pe11_1, ce11_1, rfl, hlpe11_1, -⟩ := te11_1.open
      have e11E := Lib.hid (And.intro e11d0 (And.intro e11d1 (And.intro e11d2 (And.intro e11d3 (And.intro e11d4 (And.intro e11d5 (And.intro e11d6 (And.intro e11d7 e11d8))))))))
      clear e11d0 e11d1 e11d2 e11d3 e11d4 e11d5 e11d6 e11d7 e11d8
      have ⟨e11d0n, e11d1n, e11d2n, e11d3n, e11d4n, e11d5n, e11d6n, e11d7n, e11d8n⟩ := cb9 B9 e11bl e11E.out
      go_wp2
      refine wp_region_noPanic ?_
      refine wp_region_held_drew (S := (fun w' => w'.cell? ⟨e4b, e4o + k1 * 9, none⟩ = some (.string ((gt a0 k1).F.Kind)) ∧ w'.cell? ⟨e4b, e4o + k1 * 9 + 1, none⟩ = some (.slice pe4_1 ((gt a0 k1).F.Fields.length) ce4_1) ∧ w'.cell? ⟨e4b, e4o + k1 * 9 + 2, none⟩ = some (.string ((gt a0 k1).Undo)) ∧ w'.cell? ⟨e4b, e4o + k1 * 9 + 3, none⟩ = some (.int .i64 ((gt a0 k1).State)) ∧ w'.cell? ⟨e4b, e4o + k1 * 9 + 4, none⟩ = some (.int .i64 ((gt a0 k1).Tries)) ∧ w'.cell? ⟨e4b, e4o + k1 * 9 + 5, none⟩ = some (.int .i64 ((gt a0 k1).Due)) ∧ w'.cell? ⟨e4b, e4o + k1 * 9 + 6, none⟩ = some (.int .i64 ((gt a0 k1).V.K)) ∧ w'.cell? ⟨e4b, e4o + k1 * 9 + 7, none⟩ = some (.int .i64 ((gt a0 k1).V.N)) ∧ w'.cell? ⟨e4b, e4o + k1 * 9 + 8, none⟩ = some (.string ((gt a0 k1).V.S)) ∧ w'.cell? ⟨e4b, e4o + k8 * 9, none⟩ = some (.string ((gt a0 k8).F.Kind)) ∧ w'.cell? ⟨e4b, e4o + k8 * 9 + 1, none⟩ = some (.slice pe11_1 ((gt a0 k8).F.Fields.length) ce11_1) ∧ w'.cell? ⟨e4b, e4o + k8 * 9 + 2, none⟩ = some (.string ((gt a0 k8).Undo)) ∧ w'.cell? ⟨e4b, e4o + k8 * 9 + 3, none⟩ = some (.int .i64 ((gt a0 k8).State)) ∧ w'.cell? ⟨e4b, e4o + k8 * 9 + 4, none⟩ = some (.int .i64 ((gt a0 k8).Tries)) ∧ w'.cell? ⟨e4b, e4o + k8 * 9 + 5, none⟩ = some (.int .i64 ((gt a0 k8).Due)) ∧ w'.cell? ⟨e4b, e4o + k8 * 9 + 6, none⟩ = some (.int .i64 ((gt a0 k8).V.K)) ∧ w'.cell? ⟨e4b, e4o + k8 * 9 + 7, none⟩ = some (.int .i64 ((gt a0 k8).V.N)) ∧ w'.cell? ⟨e4b, e4o + k8 * 9 + 8, none⟩ = some (.string ((gt a0 k8).V.S)))) (by kernel_rfl) ?_ (fun hHeld0 => ?_)
      · go_keep
      refine tt 0 ?_
      simp only [Act.put, sa, s0, ss]
      refine tt 1 ?_
      simp only [Act.put, sa, s0, ss]
      refine tt 2 ?_
      simp only [Act.put, sa, s0, ss]
      refine tt 3 ?_
      simp only [Act.put, sa, s0, ss]
      refine tt 4 ?_
      simp only [Act.put, sa, s0, ss]
      refine tt 5 ?_
      simp only [Act.put, sa, s0, ss]
      refine tt 6 ?_
      simp only [Act.put, sa, s0, ss]
      refine tt 7 ?_
      simp only [Act.put, sa, s0, ss]
      refine tt 8 ?_
      simp only [Act.put, sa, s0, ss]
      refine tt 9 ?_
      simp only [Act.put, sa, s0, ss]
      refine wpAnyH_ready (rs := [10]) (by kernel_rfl) (by simp) ?_
      refine' AllReadyH.cons (o := _) ?hi1048_10 (fun K hK => ?_) AllReadyH.nil
      case hi1048_10 => simp only [List.getElem?_toArray, List.getElem?_cons_succ, List.getElem?_cons_zero]; exact rfl
      go_simp
      go_at_call 216
      refine (sSameFact_w ((gt a0 k1).F) ((gt a0 k8).F) _ _ _ (te4_1.to (by simp (maxDischargeDepth := 9) [B9])) (te11_1.to (by simp (maxDischargeDepth := 9) [B9]))).mono ?_
      rintro e w13 ⟨rfl, hb13⟩
      have B13 := via (w0 := w) (by simp (maxDischargeDepth := 9) [B9]) hb13
      clear e4d0n e4d1n e4d2n e4d3n e4d4n e4d5n e4d6n e4d7n e4d8n
      have ⟨e4d0n, e4d1n, e4d2n, e4d3n, e4d4n, e4d5n, e4d6n, e4d7n, e4d8n⟩ := cb9 B13 e4bl e4E.out
      clear e11d0n e11d1n e11d2n e11d3n e11d4n e11d5n e11d6n e11d7n e11d8n
      have ⟨e11d0n, e11d1n, e11d2n, e11d3n, e11d4n, e11d5n, e11d6n, e11d7n, e11d8n⟩ := cb9 B13 e11bl e11E.out
      clear B9
      cases h14 : sSameFact_p ((gt a0 k1).F) ((gt a0 k8).F) with
      | true =>
       replace h14 := Lib.hid h14
       go_wp2_with fail
       refine hK.out _ _ ?_ (fun hHeld10 => ?_)
       · go_keep
       clear hK K hHeld0
       refine wpAnyH_done (by kernel_rfl) ?_ _
       clear hHeld10
       refine NoPanic.normal ?_
       have q15 : sTasksOk_p_b2 a0 k1 k8 () = .ret false := by simp only [sTasksOk_p_b2, h14.out, cond_true]
       have q16 := rounds_ret hlt9 hy9.out q15
       have q17 : sTasksOk_p_b1 a0 k1 () = .ret false := by simp only [sTasksOk_p_b1, h7.out, q16, cond_true]
       have q18 := rounds_ret hlt2 hy2.out q17
       obtain rfl : r = false := hr.out.symm.trans (by simp only [sTasksOk_p, q18])
       go_wp2
       go_ret
       exact rbk (by simp (maxDischargeDepth := 9) [B13])
      | false =>
       replace h14 := Lib.hid h14
       go_wp2_with fail
       refine hK.out _ _ ?_ (fun hHeld10 => ?_)
       · go_keep
       clear hK K hHeld0
       refine wpAnyH_done (by kernel_rfl) ?_ _
       clear hHeld10
       refine NoPanic.normal ?_
       have q19 : sTasksOk_p_b2 a0 k1 k8 () = .go () := by simp only [sTasksOk_p_b2, h14.out, cond_false]
       replace q19 := Lib.hid (rounds_next hy9.out q19)
       go_wp2
       go_roundw
       case rel => exact ⟨(by simp (maxDischargeDepth := 9) [B13]), k8 + 1, by go_num, by omega, q19⟩
       case measure => simp [intOf]; omega
     ·
      obtain rfl : k1 = k8 := by omega
      have q20 : sTasksOk_p_b1 a0 k1 () = .go () := by simp only [sTasksOk_p_b1, h7.out, hy9.out, cond_true]
      replace q20 := Lib.hid (rounds_next hy2.out q20)
      go_wp2
      go_roundw
      case rel => exact ⟨(by simp (maxDischargeDepth := 9) [B9]), k1 + 1, by go_num, by omega, q20⟩
      case measure => simp [intOf]; omega
   | false =>
    replace h7 := Lib.hid h7
    have q21 : sTasksOk_p_b1 a0 k1 () = .ret false := by simp only [sTasksOk_p_b1, h7.out, cond_false]
    have q22 := rounds_ret hlt2 hy2.out q21
    obtain rfl : r = false := hr.out.symm.trans (by simp only [sTasksOk_p, q22])
    go_wp2
    go_ret
    exact rbk (by simp (maxDischargeDepth := 9) [B6])
  ·
   obtain rfl : a0.length = k1 := by omega
   by_cases h23 : a0.length ≤ 30
   ·
    have h23d := Lib.hid (decide_eq_true h23)
    obtain rfl : r = true := hr.out.symm.trans (by simp only [sTasksOk_p, hy2.out, h23d.out, cond_true])
    go_wp2
    go_ret
    exact rbk (by simp (maxDischargeDepth := 9) [B2])
   ·
    have h23d := Lib.hid (decide_eq_false h23)
    obtain rfl : r = false := hr.out.symm.trans (by simp only [sTasksOk_p, hy2.out, h23d.out, cond_false])
    go_wp2
    go_ret
    exact rbk (by simp (maxDischargeDepth := 9) [B2])

-- spec.l17Timer
def sl17Timer_p (a0 : TimerD) : Bool := bif inR a0.At (0 : Int) (1000000000 : Int) then (sFactOk_p a0.F) else (false)
set_option maxHeartbeats 1000000 in
set_option maxRecDepth 20000 in
theorem sl17Timer_w (a0 : TimerD) (v0_2 : Value) (w : World) (s0_2 : Sl w a0.F.Fields v0_2) (ok_a0 : okTimer a0) :
    Calls Tryz.prog 245 #[.agg #[.int .i64 a0.At, .string a0.F.Kind, v0_2]] w (RetB (sl17Timer_p a0) w) := by
 obtain ⟨p0_2, c0_2, rfl, hl0_2, -, hk0_2, -⟩ := s0_2.open
 obtain ⟨r, hr⟩ : ∃ r, sl17Timer_p a0 = r := ⟨_, rfl⟩
 rw [hr]
 replace hr := Lib.hid hr
 go_enter Tryz.func245, Tryz.ntmps245
 go_wp2_with fail
 refine (sl1In_w a0.At (0 : Int) (1000000000 : Int)  _ ).mono ?_
 rintro e w2 ⟨rfl, hb2⟩
 have B2 := via (w0 := w) (by simp (maxDischargeDepth := 9)) hb2
 have Xbx1_2 : Bx w2 (w.heap.size) [.int .i64 a0.At, .string a0.F.Kind, .slice p0_2 a0.F.Fields.length c0_2] := Bx.via (by simp (maxDischargeDepth := 9)) hb2
 have ⟨Xbx1_2k0, Xbx1_2k1, Xbx1_2k2⟩ := bx3 Xbx1_2
 cases h3 : inR a0.At (0 : Int) (1000000000 : Int) with
 | true =>
  have ⟨h3a, h3b⟩ := inR_true h3
  replace h3 := Lib.hid h3
  go_wp2_with fail
  refine (sFactOk_w a0.F _ _ (s0_2.to (by simp (maxDischargeDepth := 9) [B2])) ok_a0.2).mono ?_
  rintro e w4 ⟨rfl, hb4⟩
  have B4 := via (w0 := w) (by simp (maxDischargeDepth := 9) [B2]) hb4
  have U4 : Below w2.heap.size w2 w4 := via (by simp (maxDischargeDepth := 9)) hb4
  have Xbx1_4 := Xbx1_2.via U4
  clear Xbx1_2 Xbx1_2k0 Xbx1_2k1 Xbx1_2k2
  have ⟨Xbx1_4k0, Xbx1_4k1, Xbx1_4k2⟩ := bx3 Xbx1_4
  clear U4
  clear B2
  obtain rfl : r = sFactOk_p a0.F := hr.out.symm.trans (by simp only [sl17Timer_p, h3.out, cond_true])
  go_wp2
  go_ret
  exact rbk (by simp (maxDischargeDepth := 9) [B4])
 | false =>
  replace h3 := Lib.hid h3
  obtain rfl : r = false := hr.out.symm.trans (by simp only [sl17Timer_p, h3.out, cond_false])
  go_wp2
  go_ret
  exact rbk (by simp (maxDischargeDepth := 9) [B2])
end Go.Proofs.YthnilnggpbploaaGreat
