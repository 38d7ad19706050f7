/- Functions that only read, walked (S). Printed by a program. -/
import Derived.Test.YthnilnggpbploaaGreatCmS1
import Derived.Test.YthnilnggpbploaaGreatCmS2
import Derived.Test.YthnilnggpbploaaGreatRd
namespace Go.Proofs.YthnilnggpbploaaGreat
open Go.RowKit
open Cel (rd own rd_len rd_one own_rd own_lt rd_below rd_mono own_keep)

-- spec.ActOk
def sActOk_p (a0 : ActD) : Bool := bif a0.Name.toList.isEmpty then (bif (((a0.Args.length : Nat) : Int) == 0) then (bif (a0.Kind == 1) then (bif sNameOk_p a0.Name then (bif sl8Args_p a0.Args then (bif (a0.N == 0) then (bif a0.Undo.toList.isEmpty then (true) else (false)) else (false)) else (false)) else (false)) else (bif (a0.Kind == 3) then (bif sNameOk_p a0.Name then (bif sl8Args_p a0.Args then (bif (a0.N == 0) then (bif a0.Undo.toList.isEmpty then (true) else (sNameOk_p a0.Undo)) else (false)) else (false)) else (false)) else (bif (a0.Kind == 4) then (bif sNameOk_p a0.Name then (bif sl8Args_p a0.Args then (bif inR a0.N (0 : Int) (100000 : Int) then (bif a0.Undo.toList.isEmpty then (true) else (false)) else (false)) else (false)) else (false)) else (bif (a0.Kind == 2) then (bif a0.Undo.toList.isEmpty then (inR a0.N (0 : Int) (7 : Int)) else (false)) else (bif (a0.Kind == 5) then (bif a0.Undo.toList.isEmpty then (bif (a0.N == 0) then (true) else (false)) else (false)) else (bif (a0.Kind == 6) then (bif a0.Undo.toList.isEmpty then (bif (a0.N == 0) then (true) else (false)) else (false)) else (false))))))) else (bif (a0.Kind == 1) then (bif sNameOk_p a0.Name then (bif sl8Args_p a0.Args then (bif (a0.N == 0) then (bif a0.Undo.toList.isEmpty then (true) else (false)) else (false)) else (false)) else (false)) else (bif (a0.Kind == 3) then (bif sNameOk_p a0.Name then (bif sl8Args_p a0.Args then (bif (a0.N == 0) then (bif a0.Undo.toList.isEmpty then (true) else (sNameOk_p a0.Undo)) else (false)) else (false)) else (false)) else (bif (a0.Kind == 4) then (bif sNameOk_p a0.Name then (bif sl8Args_p a0.Args then (bif inR a0.N (0 : Int) (100000 : Int) then (bif a0.Undo.toList.isEmpty then (true) else (false)) else (false)) else (false)) else (false)) else (bif (a0.Kind == 2) then (false) else (bif (a0.Kind == 5) then (false) else (bif (a0.Kind == 6) then (false) else (false)))))))) else (bif (a0.Kind == 1) then (bif sNameOk_p a0.Name then (bif sl8Args_p a0.Args then (bif (a0.N == 0) then (bif a0.Undo.toList.isEmpty then (true) else (false)) else (false)) else (false)) else (false)) else (bif (a0.Kind == 3) then (bif sNameOk_p a0.Name then (bif sl8Args_p a0.Args then (bif (a0.N == 0) then (bif a0.Undo.toList.isEmpty then (true) else (sNameOk_p a0.Undo)) else (false)) else (false)) else (false)) else (bif (a0.Kind == 4) then (bif sNameOk_p a0.Name then (bif sl8Args_p a0.Args then (bif inR a0.N (0 : Int) (100000 : Int) then (bif a0.Undo.toList.isEmpty then (true) else (false)) else (false)) else (false)) else (false)) else (bif (a0.Kind == 2) then (false) else (bif (a0.Kind == 5) then (false) else (bif (a0.Kind == 6) then (false) else (false)))))))
set_option maxHeartbeats 1000000 in
set_option maxRecDepth 20000 in
theorem sActOk_w (a0 : ActD) (v0_2 : Value) (w : World) (s0_2 : Sl w a0.Args v0_2) (ok_a0 : okAct a0) :
    Calls Tryz.prog 335 #[.agg #[.int .i64 a0.Kind, .string a0.Name, v0_2, .int .i64 a0.N, .string a0.Undo]] w (RetB (sActOk_p a0) w) := by
 obtain ⟨p0_2, c0_2, rfl, hl0_2, -, hk0_2, -⟩ := s0_2.open
 obtain ⟨r, hr⟩ : ∃ r, sActOk_p a0 = r := ⟨_, rfl⟩
 rw [hr]
 replace hr := Lib.hid hr
 go_enter Tryz.func335, Tryz.ntmps335
 obtain ⟨bh2, eh2⟩ : ∃ b, a0.Name.toList.isEmpty = b := ⟨_, rfl⟩
 rcases Bool.eq_false_or_eq_true bh2 with h2 | h2
 ·
  obtain ⟨bh3, eh3⟩ : ∃ b, (((a0.Args.length : Nat) : Int) == 0) = b := ⟨_, rfl⟩
  rcases Bool.eq_false_or_eq_true bh3 with h3 | h3
  ·
   have gh3 : Hid (a0.Args.length = 0) := Lib.hid (by have z := eh3.trans h3; simp only [beq_iff_eq] at z; omega)
   obtain ⟨bh4, eh4⟩ : ∃ b, (a0.Kind == 1) = b := ⟨_, rfl⟩
   rcases Bool.eq_false_or_eq_true bh4 with h4 | h4
   ·
    go_wp2_with fail
    refine (sNameOk_w a0.Name  _ ok_a0.2.1).mono ?_
    rintro e w5 ⟨rfl, hb5⟩
    have B5 := via (w0 := w) (by simp (maxDischargeDepth := 9)) hb5
    have Xbx1_5 : Bx w5 (w.heap.size) [.int .i64 a0.Kind, .string a0.Name, .slice p0_2 a0.Args.length c0_2, .int .i64 a0.N, .string a0.Undo] := Bx.via (by simp (maxDischargeDepth := 9)) hb5
    have ⟨Xbx1_5k0, Xbx1_5k1, Xbx1_5k2, Xbx1_5k3, Xbx1_5k4⟩ := bx5 Xbx1_5
    cases h6 : sNameOk_p a0.Name with
    | true =>
     replace h6 := Lib.hid h6
     go_wp2_with fail
     refine (sl8Args_w a0.Args _ _ (s0_2.to (by simp (maxDischargeDepth := 9) [B5]))).mono ?_
     rintro e w7 ⟨rfl, hb7⟩
     have B7 := via (w0 := w) (by simp (maxDischargeDepth := 9) [B5]) hb7
     have U7 : Below w5.heap.size w5 w7 := via (by simp (maxDischargeDepth := 9)) hb7
     have Xbx1_7 := Xbx1_5.via U7
     clear Xbx1_5 Xbx1_5k0 Xbx1_5k1 Xbx1_5k2 Xbx1_5k3 Xbx1_5k4
     have ⟨Xbx1_7k0, Xbx1_7k1, Xbx1_7k2, Xbx1_7k3, Xbx1_7k4⟩ := bx5 Xbx1_7
     clear U7
     clear B5
     cases h8 : sl8Args_p a0.Args with
     | true =>
      replace h8 := Lib.hid h8
      obtain ⟨bh9, eh9⟩ : ∃ b, (a0.N == 0) = b := ⟨_, rfl⟩
      rcases Bool.eq_false_or_eq_true bh9 with h9 | h9
      ·
       obtain ⟨bh10, eh10⟩ : ∃ b, a0.Undo.toList.isEmpty = b := ⟨_, rfl⟩
       rcases Bool.eq_false_or_eq_true bh10 with h10 | h10
       ·
        obtain rfl : r = true := hr.out.symm.trans (by simp only [sActOk_p, eh2, h2, eh3, h3, eh4, h4, h6.out, h8.out, eh9, h9, eh10, h10, cond_true])
        go_wp2
        go_ret
        exact rbk (by simp (maxDischargeDepth := 9) [B7])
       ·
        obtain rfl : r = false := hr.out.symm.trans (by simp only [sActOk_p, eh2, h2, eh3, h3, eh4, h4, h6.out, h8.out, eh9, h9, eh10, h10, cond_true, cond_false])
        go_wp2
        go_ret
        exact rbk (by simp (maxDischargeDepth := 9) [B7])
      ·
       obtain rfl : r = false := hr.out.symm.trans (by simp only [sActOk_p, eh2, h2, eh3, h3, eh4, h4, h6.out, h8.out, eh9, h9, cond_true, cond_false])
       go_wp2
       go_ret
       exact rbk (by simp (maxDischargeDepth := 9) [B7])
     | false =>
      replace h8 := Lib.hid h8
      obtain rfl : r = false := hr.out.symm.trans (by simp only [sActOk_p, eh2, h2, eh3, h3, eh4, h4, h6.out, h8.out, cond_true, cond_false])
      go_wp2
      go_ret
      exact rbk (by simp (maxDischargeDepth := 9) [B7])
    | false =>
     replace h6 := Lib.hid h6
     obtain rfl : r = false := hr.out.symm.trans (by simp only [sActOk_p, eh2, h2, eh3, h3, eh4, h4, h6.out, cond_true, cond_false])
     go_wp2
     go_ret
     exact rbk (by simp (maxDischargeDepth := 9) [B5])
   ·
    obtain ⟨bh11, eh11⟩ : ∃ b, (a0.Kind == 3) = b := ⟨_, rfl⟩
    rcases Bool.eq_false_or_eq_true bh11 with h11 | h11
    ·
     go_wp2_with fail
     refine (sNameOk_w a0.Name  _ ok_a0.2.1).mono ?_
     rintro e w12 ⟨rfl, hb12⟩
     have B12 := via (w0 := w) (by simp (maxDischargeDepth := 9)) hb12
     have Xbx1_12 : Bx w12 (w.heap.size) [.int .i64 a0.Kind, .string a0.Name, .slice p0_2 a0.Args.length c0_2, .int .i64 a0.N, .string a0.Undo] := Bx.via (by simp (maxDischargeDepth := 9)) hb12
     have ⟨Xbx1_12k0, Xbx1_12k1, Xbx1_12k2, Xbx1_12k3, Xbx1_12k4⟩ := bx5 Xbx1_12
     cases h13 : sNameOk_p a0.Name with
     | true =>
      replace h13 := Lib.hid h13
      go_wp2_with fail
      refine (sl8Args_w a0.Args _ _ (s0_2.to (by simp (maxDischargeDepth := 9) [B12]))).mono ?_
      rintro e w14 ⟨rfl, hb14⟩
      have B14 := via (w0 := w) (by simp (maxDischargeDepth := 9) [B12]) hb14
      have U14 : Below w12.heap.size w12 w14 := via (by simp (maxDischargeDepth := 9)) hb14
      have Xbx1_14 := Xbx1_12.via U14
      clear Xbx1_12 Xbx1_12k0 Xbx1_12k1 Xbx1_12k2 Xbx1_12k3 Xbx1_12k4
      have ⟨Xbx1_14k0, Xbx1_14k1, Xbx1_14k2, Xbx1_14k3, Xbx1_14k4⟩ := bx5 Xbx1_14
      clear U14
      clear B12
      cases h15 : sl8Args_p a0.Args with
      | true =>
       replace h15 := Lib.hid h15
       obtain ⟨bh16, eh16⟩ : ∃ b, (a0.N == 0) = b := ⟨_, rfl⟩
       rcases Bool.eq_false_or_eq_true bh16 with h16 | h16
       ·
        obtain ⟨bh17, eh17⟩ : ∃ b, a0.Undo.toList.isEmpty = b := ⟨_, rfl⟩
        rcases Bool.eq_false_or_eq_true bh17 with h17 | h17
        ·
         obtain rfl : r = true := hr.out.symm.trans (by simp only [sActOk_p, eh2, h2, eh3, h3, eh4, h4, eh11, h11, h13.out, h15.out, eh16, h16, eh17, h17, cond_true, cond_false])
         go_wp2
         go_ret
         exact rbk (by simp (maxDischargeDepth := 9) [B14])
        ·
         go_wp2_with fail
         refine (sNameOk_w a0.Undo  _ ok_a0.2.2.2).mono ?_
         rintro e w18 ⟨rfl, hb18⟩
         have B18 := via (w0 := w) (by simp (maxDischargeDepth := 9) [B14]) hb18
         have U18 : Below w14.heap.size w14 w18 := via (by simp (maxDischargeDepth := 9)) hb18
         have Xbx1_18 := Xbx1_14.via U18
         clear Xbx1_14 Xbx1_14k0 Xbx1_14k1 Xbx1_14k2 Xbx1_14k3 Xbx1_14k4
         have ⟨Xbx1_18k0, Xbx1_18k1, Xbx1_18k2, Xbx1_18k3, Xbx1_18k4⟩ := bx5 Xbx1_18
         clear U18
         clear B14
         obtain rfl : r = sNameOk_p a0.Undo := hr.out.symm.trans (by simp only [sActOk_p, eh2, h2, eh3, h3, eh4, h4, eh11, h11, h13.out, h15.out, eh16, h16, eh17, h17, cond_true, cond_false])
         go_wp2
         go_ret
         exact rbk (by simp (maxDischargeDepth := 9) [B18])
       ·
        obtain rfl : r = false := hr.out.symm.trans (by simp only [sActOk_p, eh2, h2, eh3, h3, eh4, h4, eh11, h11, h13.out, h15.out, eh16, h16, cond_true, cond_false])
        go_wp2
        go_ret
        exact rbk (by simp (maxDischargeDepth := 9) [B14])
      | false =>
       replace h15 := Lib.hid h15
       obtain rfl : r = false := hr.out.symm.trans (by simp only [sActOk_p, eh2, h2, eh3, h3, eh4, h4, eh11, h11, h13.out, h15.out, cond_true, cond_false])
       go_wp2
       go_ret
       exact rbk (by simp (maxDischargeDepth := 9) [B14])
     | false =>
      replace h13 := Lib.hid h13
      obtain rfl : r = false := hr.out.symm.trans (by simp only [sActOk_p, eh2, h2, eh3, h3, eh4, h4, eh11, h11, h13.out, cond_true, cond_false])
      go_wp2
      go_ret
      exact rbk (by simp (maxDischargeDepth := 9) [B12])
    ·
     obtain ⟨bh19, eh19⟩ : ∃ b, (a0.Kind == 4) = b := ⟨_, rfl⟩
     rcases Bool.eq_false_or_eq_true bh19 with h19 | h19
     ·
      go_wp2_with fail
      refine (sNameOk_w a0.Name  _ ok_a0.2.1).mono ?_
      rintro e w20 ⟨rfl, hb20⟩
      have B20 := via (w0 := w) (by simp (maxDischargeDepth := 9)) hb20
      have Xbx1_20 : Bx w20 (w.heap.size) [.int .i64 a0.Kind, .string a0.Name, .slice p0_2 a0.Args.length c0_2, .int .i64 a0.N, .string a0.Undo] := Bx.via (by simp (maxDischargeDepth := 9)) hb20
      have ⟨Xbx1_20k0, Xbx1_20k1, Xbx1_20k2, Xbx1_20k3, Xbx1_20k4⟩ := bx5 Xbx1_20
      cases h21 : sNameOk_p a0.Name with
      | true =>
       replace h21 := Lib.hid h21
       go_wp2_with fail
       refine (sl8Args_w a0.Args _ _ (s0_2.to (by simp (maxDischargeDepth := 9) [B20]))).mono ?_
       rintro e w22 ⟨rfl, hb22⟩
       have B22 := via (w0 := w) (by simp (maxDischargeDepth := 9) [B20]) hb22
       have U22 : Below w20.heap.size w20 w22 := via (by simp (maxDischargeDepth := 9)) hb22
       have Xbx1_22 := Xbx1_20.via U22
       clear Xbx1_20 Xbx1_20k0 Xbx1_20k1 Xbx1_20k2 Xbx1_20k3 Xbx1_20k4
       have ⟨Xbx1_22k0, Xbx1_22k1, Xbx1_22k2, Xbx1_22k3, Xbx1_22k4⟩ := bx5 Xbx1_22
       clear U22
       clear B20
       cases h23 : sl8Args_p a0.Args with
       | true =>
        replace h23 := Lib.hid h23
        go_wp2_with fail
        refine (sl1In_w a0.N (0 : Int) (100000 : Int)  _ ).mono ?_
        rintro e w24 ⟨rfl, hb24⟩
        have B24 := via (w0 := w) (by simp (maxDischargeDepth := 9) [B22]) hb24
        have U24 : Below w22.heap.size w22 w24 := via (by simp (maxDischargeDepth := 9)) hb24
        have Xbx1_24 := Xbx1_22.via U24
        clear Xbx1_22 Xbx1_22k0 Xbx1_22k1 Xbx1_22k2 Xbx1_22k3 Xbx1_22k4
        have ⟨Xbx1_24k0, Xbx1_24k1, Xbx1_24k2, Xbx1_24k3, Xbx1_24k4⟩ := bx5 Xbx1_24
        clear U24
        clear B22
        cases h25 : inR a0.N (0 : Int) (100000 : Int) with
        | true =>
         have ⟨h25a, h25b⟩ := inR_true h25
         replace h25 := Lib.hid h25
         obtain ⟨bh26, eh26⟩ : ∃ b, a0.Undo.toList.isEmpty = b := ⟨_, rfl⟩
         rcases Bool.eq_false_or_eq_true bh26 with h26 | h26
         ·
          obtain rfl : r = true := hr.out.symm.trans (by simp only [sActOk_p, eh2, h2, eh3, h3, eh4, h4, eh11, h11, eh19, h19, h21.out, h23.out, h25.out, eh26, h26, cond_true, cond_false])
          go_wp2
          go_ret
          exact rbk (by simp (maxDischargeDepth := 9) [B24])
         ·
          obtain rfl : r = false := hr.out.symm.trans (by simp only [sActOk_p, eh2, h2, eh3, h3, eh4, h4, eh11, h11, eh19, h19, h21.out, h23.out, h25.out, eh26, h26, cond_true, cond_false])
          go_wp2
          go_ret
          exact rbk (by simp (maxDischargeDepth := 9) [B24])
        | false =>
         replace h25 := Lib.hid h25
         obtain rfl : r = false := hr.out.symm.trans (by simp only [sActOk_p, eh2, h2, eh3, h3, eh4, h4, eh11, h11, eh19, h19, h21.out, h23.out, h25.out, cond_true, cond_false])
         go_wp2
         go_ret
         exact rbk (by simp (maxDischargeDepth := 9) [B24])
       | false =>
        replace h23 := Lib.hid h23
        obtain rfl : r = false := hr.out.symm.trans (by simp only [sActOk_p, eh2, h2, eh3, h3, eh4, h4, eh11, h11, eh19, h19, h21.out, h23.out, cond_true, cond_false])
        go_wp2
        go_ret
        exact rbk (by simp (maxDischargeDepth := 9) [B22])
      | false =>
       replace h21 := Lib.hid h21
       obtain rfl : r = false := hr.out.symm.trans (by simp only [sActOk_p, eh2, h2, eh3, h3, eh4, h4, eh11, h11, eh19, h19, h21.out, cond_true, cond_false])
       go_wp2
       go_ret
       exact rbk (by simp (maxDischargeDepth := 9) [B20])
     ·
      obtain ⟨bh27, eh27⟩ : ∃ b, (a0.Kind == 2) = b := ⟨_, rfl⟩
      rcases Bool.eq_false_or_eq_true bh27 with h27 | h27
      ·
       obtain ⟨bh28, eh28⟩ : ∃ b, a0.Undo.toList.isEmpty = b := ⟨_, rfl⟩
       rcases Bool.eq_false_or_eq_true bh28 with h28 | h28
       ·
        go_wp2_with fail
        refine (sl1In_w a0.N (0 : Int) (7 : Int)  _ ).mono ?_
        rintro e w29 ⟨rfl, hb29⟩
        have B29 := via (w0 := w) (by simp (maxDischargeDepth := 9)) hb29
        have Xbx1_29 : Bx w29 (w.heap.size) [.int .i64 a0.Kind, .string a0.Name, .slice p0_2 a0.Args.length c0_2, .int .i64 a0.N, .string a0.Undo] := Bx.via (by simp (maxDischargeDepth := 9)) hb29
        have ⟨Xbx1_29k0, Xbx1_29k1, Xbx1_29k2, Xbx1_29k3, Xbx1_29k4⟩ := bx5 Xbx1_29
        obtain rfl : r = inR a0.N (0 : Int) (7 : Int) := hr.out.symm.trans (by simp only [sActOk_p, eh2, h2, eh3, h3, eh4, h4, eh11, h11, eh19, h19, eh27, h27, eh28, h28, cond_true, cond_false])
        go_wp2
        go_ret
        exact rbk (by simp (maxDischargeDepth := 9) [B29])
       ·
        obtain rfl : r = false := hr.out.symm.trans (by simp only [sActOk_p, eh2, h2, eh3, h3, eh4, h4, eh11, h11, eh19, h19, eh27, h27, eh28, h28, cond_true, cond_false])
        go_wp2
        go_ret
        exact rbk (by simp (maxDischargeDepth := 9))
      ·
       obtain ⟨bh30, eh30⟩ : ∃ b, (a0.Kind == 5) = b := ⟨_, rfl⟩
       rcases Bool.eq_false_or_eq_true bh30 with h30 | h30
       ·
        obtain ⟨bh31, eh31⟩ : ∃ b, a0.Undo.toList.isEmpty = b := ⟨_, rfl⟩
        rcases Bool.eq_false_or_eq_true bh31 with h31 | h31
        ·
         obtain ⟨bh32, eh32⟩ : ∃ b, (a0.N == 0) = b := ⟨_, rfl⟩
         rcases Bool.eq_false_or_eq_true bh32 with h32 | h32
         ·
          obtain rfl : r = true := hr.out.symm.trans (by simp only [sActOk_p, eh2, h2, eh3, h3, eh4, h4, eh11, h11, eh19, h19, eh27, h27, eh30, h30, eh31, h31, eh32, h32, cond_true, cond_false])
          go_wp2
          go_ret
          exact rbk (by simp (maxDischargeDepth := 9))
         ·
          obtain rfl : r = false := hr.out.symm.trans (by simp only [sActOk_p, eh2, h2, eh3, h3, eh4, h4, eh11, h11, eh19, h19, eh27, h27, eh30, h30, eh31, h31, eh32, h32, cond_true, cond_false])
          go_wp2
          go_ret
          exact rbk (by simp (maxDischargeDepth := 9))
        ·
         obtain rfl : r = false := hr.out.symm.trans (by simp only [sActOk_p, eh2, h2, eh3, h3, eh4, h4, eh11, h11, eh19, h19, eh27, h27, eh30, h30, eh31, h31, cond_true, cond_false])
         go_wp2
         go_ret
         exact rbk (by simp (maxDischargeDepth := 9))
       ·
        obtain ⟨bh33, eh33⟩ : ∃ b, (a0.Kind == 6) = b := ⟨_, rfl⟩
        rcases Bool.eq_false_or_eq_true bh33 with h33 | h33
        ·
         obtain ⟨bh34, eh34⟩ : ∃ b, a0.Undo.toList.isEmpty = b := ⟨_, rfl⟩
         rcases Bool.eq_false_or_eq_true bh34 with h34 | h34
         ·
          obtain ⟨bh35, eh35⟩ : ∃ b, (a0.N == 0) = b := ⟨_, rfl⟩
          rcases Bool.eq_false_or_eq_true bh35 with h35 | h35
          ·
           obtain rfl : r = true := hr.out.symm.trans (by simp only [sActOk_p, eh2, h2, eh3, h3, eh4, h4, eh11, h11, eh19, h19, eh27, h27, eh30, h30, eh33, h33, eh34, h34, eh35, h35, cond_true, cond_false])
           go_wp2
           go_ret
           exact rbk (by simp (maxDischargeDepth := 9))
          ·
           obtain rfl : r = false := hr.out.symm.trans (by simp only [sActOk_p, eh2, h2, eh3, h3, eh4, h4, eh11, h11, eh19, h19, eh27, h27, eh30, h30, eh33, h33, eh34, h34, eh35, h35, cond_true, cond_false])
           go_wp2
           go_ret
           exact rbk (by simp (maxDischargeDepth := 9))
         ·
          obtain rfl : r = false := hr.out.symm.trans (by simp only [sActOk_p, eh2, h2, eh3, h3, eh4, h4, eh11, h11, eh19, h19, eh27, h27, eh30, h30, eh33, h33, eh34, h34, cond_true, cond_false])
          go_wp2
          go_ret
          exact rbk (by simp (maxDischargeDepth := 9))
        ·
         obtain rfl : r = false := hr.out.symm.trans (by simp only [sActOk_p, eh2, h2, eh3, h3, eh4, h4, eh11, h11, eh19, h19, eh27, h27, eh30, h30, eh33, h33, cond_true, cond_false])
         go_wp2
         go_ret
         exact rbk (by simp (maxDischargeDepth := 9))
  ·
   obtain ⟨bh36, eh36⟩ : ∃ b, (a0.Kind == 1) = b := ⟨_, rfl⟩
   rcases Bool.eq_false_or_eq_true bh36 with h36 | h36
   ·
    go_wp2_with fail
    refine (sNameOk_w a0.Name  _ ok_a0.2.1).mono ?_
    rintro e w37 ⟨rfl, hb37⟩
    have B37 := via (w0 := w) (by simp (maxDischargeDepth := 9)) hb37
    have Xbx1_37 : Bx w37 (w.heap.size) [.int .i64 a0.Kind, .string a0.Name, .slice p0_2 a0.Args.length c0_2, .int .i64 a0.N, .string a0.Undo] := Bx.via (by simp (maxDischargeDepth := 9)) hb37
    have ⟨Xbx1_37k0, Xbx1_37k1, Xbx1_37k2, Xbx1_37k3, Xbx1_37k4⟩ := bx5 Xbx1_37
    cases h38 : sNameOk_p a0.Name with
    | true =>
     replace h38 := Lib.hid h38
     go_wp2_with fail
     refine (sl8Args_w a0.Args _ _ (s0_2.to (by simp (maxDischargeDepth := 9) [B37]))).mono ?_
     rintro e w39 ⟨rfl, hb39⟩
     have B39 := via (w0 := w) (by simp (maxDischargeDepth := 9) [B37]) hb39
     have U39 : Below w37.heap.size w37 w39 := via (by simp (maxDischargeDepth := 9)) hb39
     have Xbx1_39 := Xbx1_37.via U39
     clear Xbx1_37 Xbx1_37k0 Xbx1_37k1 Xbx1_37k2 Xbx1_37k3 Xbx1_37k4
     have ⟨Xbx1_39k0, Xbx1_39k1, Xbx1_39k2, Xbx1_39k3, Xbx1_39k4⟩ := bx5 Xbx1_39
     clear U39
     clear B37
     cases h40 : sl8Args_p a0.Args with
     | true =>
      replace h40 := Lib.hid h40
      obtain ⟨bh41, eh41⟩ : ∃ b, (a0.N == 0) = b := ⟨_, rfl⟩
      rcases Bool.eq_false_or_eq_true bh41 with h41 | h41
      ·
       obtain ⟨bh42, eh42⟩ : ∃ b, a0.Undo.toList.isEmpty = b := ⟨_, rfl⟩
       rcases Bool.eq_false_or_eq_true bh42 with h42 | h42
       ·
        obtain rfl : r = true := hr.out.symm.trans (by simp only [sActOk_p, eh2, h2, eh3, h3, eh36, h36, h38.out, h40.out, eh41, h41, eh42, h42, cond_true, cond_false])
        go_wp2
        go_ret
        exact rbk (by simp (maxDischargeDepth := 9) [B39])
       ·
        obtain rfl : r = false := hr.out.symm.trans (by simp only [sActOk_p, eh2, h2, eh3, h3, eh36, h36, h38.out, h40.out, eh41, h41, eh42, h42, cond_true, cond_false])
        go_wp2
        go_ret
        exact rbk (by simp (maxDischargeDepth := 9) [B39])
      ·
       obtain rfl : r = false := hr.out.symm.trans (by simp only [sActOk_p, eh2, h2, eh3, h3, eh36, h36, h38.out, h40.out, eh41, h41, cond_true, cond_false])
       go_wp2
       go_ret
       exact rbk (by simp (maxDischargeDepth := 9) [B39])
     | false =>
      replace h40 := Lib.hid h40
      obtain rfl : r = false := hr.out.symm.trans (by simp only [sActOk_p, eh2, h2, eh3, h3, eh36, h36, h38.out, h40.out, cond_true, cond_false])
      go_wp2
      go_ret
      exact rbk (by simp (maxDischargeDepth := 9) [B39])
    | false =>
     replace h38 := Lib.hid h38
     obtain rfl : r = false := hr.out.symm.trans (by simp only [sActOk_p, eh2, h2, eh3, h3, eh36, h36, h38.out, cond_true, cond_false])
     go_wp2
     go_ret
     exact rbk (by simp (maxDischargeDepth := 9) [B37])
   ·
    obtain ⟨bh43, eh43⟩ : ∃ b, (a0.Kind == 3) = b := ⟨_, rfl⟩
    rcases Bool.eq_false_or_eq_true bh43 with h43 | h43
    ·
     go_wp2_with fail
     refine (sNameOk_w a0.Name  _ ok_a0.2.1).mono ?_
     rintro e w44 ⟨rfl, hb44⟩
     have B44 := via (w0 := w) (by simp (maxDischargeDepth := 9)) hb44
     have Xbx1_44 : Bx w44 (w.heap.size) [.int .i64 a0.Kind, .string a0.Name, .slice p0_2 a0.Args.length c0_2, .int .i64 a0.N, .string a0.Undo] := Bx.via (by simp (maxDischargeDepth := 9)) hb44
     have ⟨Xbx1_44k0, Xbx1_44k1, Xbx1_44k2, Xbx1_44k3, Xbx1_44k4⟩ := bx5 Xbx1_44
     cases h45 : sNameOk_p a0.Name with
     | true =>
      replace h45 := Lib.hid h45
      go_wp2_with fail
      refine (sl8Args_w a0.Args _ _ (s0_2.to (by simp (maxDischargeDepth := 9) [B44]))).mono ?_
      rintro e w46 ⟨rfl, hb46⟩
      have B46 := via (w0 := w) (by simp (maxDischargeDepth := 9) [B44]) hb46
      have U46 : Below w44.heap.size w44 w46 := via (by simp (maxDischargeDepth := 9)) hb46
      have Xbx1_46 := Xbx1_44.via U46
      clear Xbx1_44 Xbx1_44k0 Xbx1_44k1 Xbx1_44k2 Xbx1_44k3 Xbx1_44k4
      have ⟨Xbx1_46k0, Xbx1_46k1, Xbx1_46k2, Xbx1_46k3, Xbx1_46k4⟩ := bx5 Xbx1_46
      clear U46
      clear B44
      cases h47 : sl8Args_p a0.Args with
      | true =>
       replace h47 := Lib.hid h47
       obtain ⟨bh48, eh48⟩ : ∃ b, (a0.N == 0) = b := ⟨_, rfl⟩
       rcases Bool.eq_false_or_eq_true bh48 with h48 | h48
       ·
        obtain ⟨bh49, eh49⟩ : ∃ b, a0.Undo.toList.isEmpty = b := ⟨_, rfl⟩
        rcases Bool.eq_false_or_eq_true bh49 with h49 | h49
        ·
         obtain rfl : r = true := hr.out.symm.trans (by simp only [sActOk_p, eh2, h2, eh3, h3, eh36, h36, eh43, h43, h45.out, h47.out, eh48, h48, eh49, h49, cond_true, cond_false])
         go_wp2
         go_ret
         exact rbk (by simp (maxDischargeDepth := 9) [B46])
        ·
         go_wp2_with fail
         refine (sNameOk_w a0.Undo  _ ok_a0.2.2.2).mono ?_
         rintro e w50 ⟨rfl, hb50⟩
         have B50 := via (w0 := w) (by simp (maxDischargeDepth := 9) [B46]) hb50
         have U50 : Below w46.heap.size w46 w50 := via (by simp (maxDischargeDepth := 9)) hb50
         have Xbx1_50 := Xbx1_46.via U50
         clear Xbx1_46 Xbx1_46k0 Xbx1_46k1 Xbx1_46k2 Xbx1_46k3 Xbx1_46k4
         have ⟨Xbx1_50k0, Xbx1_50k1, Xbx1_50k2, Xbx1_50k3, Xbx1_50k4⟩ := bx5 Xbx1_50
         clear U50
         clear B46
         obtain rfl : r = sNameOk_p a0.Undo := hr.out.symm.trans (by simp only [sActOk_p, eh2, h2, eh3, h3, eh36, h36, eh43, h43, h45.out, h47.out, eh48, h48, eh49, h49, cond_true, cond_false])
         go_wp2
         go_ret
         exact rbk (by simp (maxDischargeDepth := 9) [B50])
       ·
        obtain rfl : r = false := hr.out.symm.trans (by simp only [sActOk_p, eh2, h2, eh3, h3, eh36, h36, eh43, h43, h45.out, h47.out, eh48, h48, cond_true, cond_false])
        go_wp2
        go_ret
        exact rbk (by simp (maxDischargeDepth := 9) [B46])
      | false =>
       replace h47 := Lib.hid h47
       obtain rfl : r = false := hr.out.symm.trans (by simp only [sActOk_p, eh2, h2, eh3, h3, eh36, h36, eh43, h43, h45.out, h47.out, cond_true, cond_false])
       go_wp2
       go_ret
       exact rbk (by simp (maxDischargeDepth := 9) [B46])
     | false =>
      replace h45 := Lib.hid h45
      obtain rfl : r = false := hr.out.symm.trans (by simp only [sActOk_p, eh2, h2, eh3, h3, eh36, h36, eh43, h43, h45.out, cond_true, cond_false])
      go_wp2
      go_ret
      exact rbk (by simp (maxDischargeDepth := 9) [B44])
    ·
     obtain ⟨bh51, eh51⟩ : ∃ b, (a0.Kind == 4) = b := ⟨_, rfl⟩
     rcases Bool.eq_false_or_eq_true bh51 with h51 | h51
     ·
      go_wp2_with fail
      refine (sNameOk_w a0.Name  _ ok_a0.2.1).mono ?_
      rintro e w52 ⟨rfl, hb52⟩
      have B52 := via (w0 := w) (by simp (maxDischargeDepth := 9)) hb52
      have Xbx1_52 : Bx w52 (w.heap.size) [.int .i64 a0.Kind, .string a0.Name, .slice p0_2 a0.Args.length c0_2, .int .i64 a0.N, .string a0.Undo] := Bx.via (by simp (maxDischargeDepth := 9)) hb52
      have ⟨Xbx1_52k0, Xbx1_52k1, Xbx1_52k2, Xbx1_52k3, Xbx1_52k4⟩ := bx5 Xbx1_52
      cases h53 : sNameOk_p a0.Name with
      | true =>
       replace h53 := Lib.hid h53
       go_wp2_with fail
       refine (sl8Args_w a0.Args _ _ (s0_2.to (by simp (maxDischargeDepth := 9) [B52]))).mono ?_
       rintro e w54 ⟨rfl, hb54⟩
       have B54 := via (w0 := w) (by simp (maxDischargeDepth := 9) [B52]) hb54
       have U54 : Below w52.heap.size w52 w54 := via (by simp (maxDischargeDepth := 9)) hb54
       have Xbx1_54 := Xbx1_52.via U54
       clear Xbx1_52 Xbx1_52k0 Xbx1_52k1 Xbx1_52k2 Xbx1_52k3 Xbx1_52k4
       have ⟨Xbx1_54k0, Xbx1_54k1, Xbx1_54k2, Xbx1_54k3, Xbx1_54k4⟩ := bx5 Xbx1_54
       clear U54
       clear B52
       cases h55 : sl8Args_p a0.Args with
       | true =>
        replace h55 := Lib.hid h55
        go_wp2_with fail
        refine (sl1In_w a0.N (0 : Int) (100000 : Int)  _ ).mono ?_
        rintro e w56 ⟨rfl, hb56⟩
        have B56 := via (w0 := w) (by simp (maxDischargeDepth := 9) [B54]) hb56
        have U56 : Below w54.heap.size w54 w56 := via (by simp (maxDischargeDepth := 9)) hb56
        have Xbx1_56 := Xbx1_54.via U56
        clear Xbx1_54 Xbx1_54k0 Xbx1_54k1 Xbx1_54k2 Xbx1_54k3 Xbx1_54k4
        have ⟨Xbx1_56k0, Xbx1_56k1, Xbx1_56k2, Xbx1_56k3, Xbx1_56k4⟩ := bx5 Xbx1_56
        clear U56
        clear B54
        cases h57 : inR a0.N (0 : Int) (100000 : Int) with
        | true =>
         have ⟨h57a, h57b⟩ := inR_true h57
         replace h57 := Lib.hid h57
         obtain ⟨bh58, eh58⟩ : ∃ b, a0.Undo.toList.isEmpty = b := ⟨_, rfl⟩
         rcases Bool.eq_false_or_eq_true bh58 with h58 | h58
         ·
          obtain rfl : r = true := hr.out.symm.trans (by simp only [sActOk_p, eh2, h2, eh3, h3, eh36, h36, eh43, h43, eh51, h51, h53.out, h55.out, h57.out, eh58, h58, cond_true, cond_false])
          go_wp2
          go_ret
          exact rbk (by simp (maxDischargeDepth := 9) [B56])
         ·
          obtain rfl : r = false := hr.out.symm.trans (by simp only [sActOk_p, eh2, h2, eh3, h3, eh36, h36, eh43, h43, eh51, h51, h53.out, h55.out, h57.out, eh58, h58, cond_true, cond_false])
          go_wp2
          go_ret
          exact rbk (by simp (maxDischargeDepth := 9) [B56])
        | false =>
         replace h57 := Lib.hid h57
         obtain rfl : r = false := hr.out.symm.trans (by simp only [sActOk_p, eh2, h2, eh3, h3, eh36, h36, eh43, h43, eh51, h51, h53.out, h55.out, h57.out, cond_true, cond_false])
         go_wp2
         go_ret
         exact rbk (by simp (maxDischargeDepth := 9) [B56])
       | false =>
        replace h55 := Lib.hid h55
        obtain rfl : r = false := hr.out.symm.trans (by simp only [sActOk_p, eh2, h2, eh3, h3, eh36, h36, eh43, h43, eh51, h51, h53.out, h55.out, cond_true, cond_false])
        go_wp2
        go_ret
        exact rbk (by simp (maxDischargeDepth := 9) [B54])
      | false =>
       replace h53 := Lib.hid h53
       obtain rfl : r = false := hr.out.symm.trans (by simp only [sActOk_p, eh2, h2, eh3, h3, eh36, h36, eh43, h43, eh51, h51, h53.out, cond_true, cond_false])
       go_wp2
       go_ret
       exact rbk (by simp (maxDischargeDepth := 9) [B52])
     ·
      obtain ⟨bh59, eh59⟩ : ∃ b, (a0.Kind == 2) = b := ⟨_, rfl⟩
      rcases Bool.eq_false_or_eq_true bh59 with h59 | h59
      ·
       obtain rfl : r = false := hr.out.symm.trans (by simp only [sActOk_p, eh2, h2, eh3, h3, eh36, h36, eh43, h43, eh51, h51, eh59, h59, cond_true, cond_false])
       go_wp2
       go_ret
       exact rbk (by simp (maxDischargeDepth := 9))
      ·
       obtain ⟨bh60, eh60⟩ : ∃ b, (a0.Kind == 5) = b := ⟨_, rfl⟩
       rcases Bool.eq_false_or_eq_true bh60 with h60 | h60
       ·
        obtain rfl : r = false := hr.out.symm.trans (by simp only [sActOk_p, eh2, h2, eh3, h3, eh36, h36, eh43, h43, eh51, h51, eh59, h59, eh60, h60, cond_true, cond_false])
        go_wp2
        go_ret
        exact rbk (by simp (maxDischargeDepth := 9))
       ·
        obtain ⟨bh61, eh61⟩ : ∃ b, (a0.Kind == 6) = b := ⟨_, rfl⟩
        rcases Bool.eq_false_or_eq_true bh61 with h61 | h61
        ·
         obtain rfl : r = false := hr.out.symm.trans (by simp only [sActOk_p, eh2, h2, eh3, h3, eh36, h36, eh43, h43, eh51, h51, eh59, h59, eh60, h60, eh61, h61, cond_true, cond_false])
         go_wp2
         go_ret
         exact rbk (by simp (maxDischargeDepth := 9))
        ·
         obtain rfl : r = false := hr.out.symm.trans (by simp only [sActOk_p, eh2, h2, eh3, h3, eh36, h36, eh43, h43, eh51, h51, eh59, h59, eh60, h60, eh61, h61, cond_true, cond_false])
         go_wp2
         go_ret
         exact rbk (by simp (maxDischargeDepth := 9))
 ·
  obtain ⟨bh62, eh62⟩ : ∃ b, (a0.Kind == 1) = b := ⟨_, rfl⟩
  rcases Bool.eq_false_or_eq_true bh62 with h62 | h62
  ·
   go_wp2_with fail
   refine (sNameOk_w a0.Name  _ ok_a0.2.1).mono ?_
   rintro e w63 ⟨rfl, hb63⟩
   have B63 := via (w0 := w) (by simp (maxDischargeDepth := 9)) hb63
   have Xbx1_63 : Bx w63 (w.heap.size) [.int .i64 a0.Kind, .string a0.Name, .slice p0_2 a0.Args.length c0_2, .int .i64 a0.N, .string a0.Undo] := Bx.via (by simp (maxDischargeDepth := 9)) hb63
   have ⟨Xbx1_63k0, Xbx1_63k1, Xbx1_63k2, Xbx1_63k3, Xbx1_63k4⟩ := bx5 Xbx1_63
   cases h64 : sNameOk_p a0.Name with
   | true =>
    replace h64 := Lib.hid h64
    go_wp2_with fail
    refine (sl8Args_w a0.Args _ _ (s0_2.to (by simp (maxDischargeDepth := 9) [B63]))).mono ?_
    rintro e w65 ⟨rfl, hb65⟩
    have B65 := via (w0 := w) (by simp (maxDischargeDepth := 9) [B63]) hb65
    have U65 : Below w63.heap.size w63 w65 := via (by simp (maxDischargeDepth := 9)) hb65
    have Xbx1_65 := Xbx1_63.via U65
    clear Xbx1_63 Xbx1_63k0 Xbx1_63k1 Xbx1_63k2 Xbx1_63k3 Xbx1_63k4
    have ⟨Xbx1_65k0, Xbx1_65k1, Xbx1_65k2, Xbx1_65k3, Xbx1_65k4⟩ := bx5 Xbx1_65
    clear U65
    clear B63
    cases h66 : sl8Args_p a0.Args with
    | true =>
     replace h66 := Lib.hid h66
     obtain ⟨bh67, eh67⟩ : ∃ b, (a0.N == 0) = b := ⟨_, rfl⟩
     rcases Bool.eq_false_or_eq_true bh67 with h67 | h67
     ·
      obtain ⟨bh68, eh68⟩ : ∃ b, a0.Undo.toList.isEmpty = b := ⟨_, rfl⟩
      rcases Bool.eq_false_or_eq_true bh68 with h68 | h68
      ·
       obtain rfl : r = true := hr.out.symm.trans (by simp only [sActOk_p, eh2, h2, eh62, h62, h64.out, h66.out, eh67, h67, eh68, h68, cond_true, cond_false])
       go_wp2
       go_ret
       exact rbk (by simp (maxDischargeDepth := 9) [B65])
      ·
       obtain rfl : r = false := hr.out.symm.trans (by simp only [sActOk_p, eh2, h2, eh62, h62, h64.out, h66.out, eh67, h67, eh68, h68, cond_true, cond_false])
       go_wp2
       go_ret
       exact rbk (by simp (maxDischargeDepth := 9) [B65])
     ·
      obtain rfl : r = false := hr.out.symm.trans (by simp only [sActOk_p, eh2, h2, eh62, h62, h64.out, h66.out, eh67, h67, cond_true, cond_false])
      go_wp2
      go_ret
      exact rbk (by simp (maxDischargeDepth := 9) [B65])
    | false =>
     replace h66 := Lib.hid h66
     obtain rfl : r = false := hr.out.symm.trans (by simp only [sActOk_p, eh2, h2, eh62, h62, h64.out, h66.out, cond_true, cond_false])
     go_wp2
     go_ret
     exact rbk (by simp (maxDischargeDepth := 9) [B65])
   | false =>
    replace h64 := Lib.hid h64
    obtain rfl : r = false := hr.out.symm.trans (by simp only [sActOk_p, eh2, h2, eh62, h62, h64.out, cond_true, cond_false])
    go_wp2
    go_ret
    exact rbk (by simp (maxDischargeDepth := 9) [B63])
  ·
   obtain ⟨bh69, eh69⟩ : ∃ b, (a0.Kind == 3) = b := ⟨_, rfl⟩
   rcases Bool.eq_false_or_eq_true bh69 with h69 | h69
   ·
    go_wp2_with fail
    refine (sNameOk_w a0.Name  _ ok_a0.2.1).mono ?_
    rintro e w70 ⟨rfl, hb70⟩
    have B70 := via (w0 := w) (by simp (maxDischargeDepth := 9)) hb70
    have Xbx1_70 : Bx w70 (w.heap.size) [.int .i64 a0.Kind, .string a0.Name, .slice p0_2 a0.Args.length c0_2, .int .i64 a0.N, .string a0.Undo] := Bx.via (by simp (maxDischargeDepth := 9)) hb70
    have ⟨Xbx1_70k0, Xbx1_70k1, Xbx1_70k2, Xbx1_70k3, Xbx1_70k4⟩ := bx5 Xbx1_70
    cases h71 : sNameOk_p a0.Name with
    | true =>
     replace h71 := Lib.hid h71
     go_wp2_with fail
     refine (sl8Args_w a0.Args _ _ (s0_2.to (by simp (maxDischargeDepth := 9) [B70]))).mono ?_
     rintro e w72 ⟨rfl, hb72⟩
     have B72 := via (w0 := w) (by simp (maxDischargeDepth := 9) [B70]) hb72
     have U72 : Below w70.heap.size w70 w72 := via (by simp (maxDischargeDepth := 9)) hb72
     have Xbx1_72 := Xbx1_70.via U72
     clear Xbx1_70 Xbx1_70k0 Xbx1_70k1 Xbx1_70k2 Xbx1_70k3 Xbx1_70k4
     have ⟨Xbx1_72k0, Xbx1_72k1, Xbx1_72k2, Xbx1_72k3, Xbx1_72k4⟩ := bx5 Xbx1_72
     clear U72
     clear B70
     cases h73 : sl8Args_p a0.Args with
     | true =>
      replace h73 := Lib.hid h73
      obtain ⟨bh74, eh74⟩ : ∃ b, (a0.N == 0) = b := ⟨_, rfl⟩
      rcases Bool.eq_false_or_eq_true bh74 with h74 | h74
      ·
       obtain ⟨bh75, eh75⟩ : ∃ b, a0.Undo.toList.isEmpty = b := ⟨_, rfl⟩
       rcases Bool.eq_false_or_eq_true bh75 with h75 | h75
       ·
        obtain rfl : r = true := hr.out.symm.trans (by simp only [sActOk_p, eh2, h2, eh62, h62, eh69, h69, h71.out, h73.out, eh74, h74, eh75, h75, cond_true, cond_false])
        go_wp2
        go_ret
        exact rbk (by simp (maxDischargeDepth := 9) [B72])
       ·
        go_wp2_with fail
        refine (sNameOk_w a0.Undo  _ ok_a0.2.2.2).mono ?_
        rintro e w76 ⟨rfl, hb76⟩
        have B76 := via (w0 := w) (by simp (maxDischargeDepth := 9) [B72]) hb76
        have U76 : Below w72.heap.size w72 w76 := via (by simp (maxDischargeDepth := 9)) hb76
        have Xbx1_76 := Xbx1_72.via U76
        clear Xbx1_72 Xbx1_72k0 Xbx1_72k1 Xbx1_72k2 Xbx1_72k3 Xbx1_72k4
        have ⟨Xbx1_76k0, Xbx1_76k1, Xbx1_76k2, Xbx1_76k3, Xbx1_76k4⟩ := bx5 Xbx1_76
        clear U76
        clear B72
        obtain rfl : r = sNameOk_p a0.Undo := hr.out.symm.trans (by simp only [sActOk_p, eh2, h2, eh62, h62, eh69, h69, h71.out, h73.out, eh74, h74, eh75, h75, cond_true, cond_false])
        go_wp2
        go_ret
        exact rbk (by simp (maxDischargeDepth := 9) [B76])
      ·
       obtain rfl : r = false := hr.out.symm.trans (by simp only [sActOk_p, eh2, h2, eh62, h62, eh69, h69, h71.out, h73.out, eh74, h74, cond_true, cond_false])
       go_wp2
       go_ret
       exact rbk (by simp (maxDischargeDepth := 9) [B72])
     | false =>
      replace h73 := Lib.hid h73
      obtain rfl : r = false := hr.out.symm.trans (by simp only [sActOk_p, eh2, h2, eh62, h62, eh69, h69, h71.out, h73.out, cond_true, cond_false])
      go_wp2
      go_ret
      exact rbk (by simp (maxDischargeDepth := 9) [B72])
    | false =>
     replace h71 := Lib.hid h71
     obtain rfl : r = false := hr.out.symm.trans (by simp only [sActOk_p, eh2, h2, eh62, h62, eh69, h69, h71.out, cond_true, cond_false])
     go_wp2
     go_ret
     exact rbk (by simp (maxDischargeDepth := 9) [B70])
   ·
    obtain ⟨bh77, eh77⟩ : ∃ b, (a0.Kind == 4) = b := ⟨_, rfl⟩
    rcases Bool.eq_false_or_eq_true bh77 with h77 | h77
    ·
     go_wp2_with fail
     refine (sNameOk_w a0.Name  _ ok_a0.2.1).mono ?_
     rintro e w78 ⟨rfl, hb78⟩
     have B78 := via (w0 := w) (by simp (maxDischargeDepth := 9)) hb78
     have Xbx1_78 : Bx w78 (w.heap.size) [.int .i64 a0.Kind, .string a0.Name, .slice p0_2 a0.Args.length c0_2, .int .i64 a0.N, .string a0.Undo] := Bx.via (by simp (maxDischargeDepth := 9)) hb78
     have ⟨Xbx1_78k0, Xbx1_78k1, Xbx1_78k2, Xbx1_78k3, Xbx1_78k4⟩ := bx5 Xbx1_78
     cases h79 : sNameOk_p a0.Name with
     | true =>
      replace h79 := Lib.hid h79
      go_wp2_with fail
      refine (sl8Args_w a0.Args _ _ (s0_2.to (by simp (maxDischargeDepth := 9) [B78]))).mono ?_
      rintro e w80 ⟨rfl, hb80⟩
      have B80 := via (w0 := w) (by simp (maxDischargeDepth := 9) [B78]) hb80
      have U80 : Below w78.heap.size w78 w80 := via (by simp (maxDischargeDepth := 9)) hb80
      have Xbx1_80 := Xbx1_78.via U80
      clear Xbx1_78 Xbx1_78k0 Xbx1_78k1 Xbx1_78k2 Xbx1_78k3 Xbx1_78k4
      have ⟨Xbx1_80k0, Xbx1_80k1, Xbx1_80k2, Xbx1_80k3, Xbx1_80k4⟩ := bx5 Xbx1_80
      clear U80
      clear B78
      cases h81 : sl8Args_p a0.Args with
      | true =>
       replace h81 := Lib.hid h81
       go_wp2_with fail
       refine (sl1In_w a0.N (0 : Int) (100000 : Int)  _ ).mono ?_
       rintro e w82 ⟨rfl, hb82⟩
       have B82 := via (w0 := w) (by simp (maxDischargeDepth := 9) [B80]) hb82
       have U82 : Below w80.heap.size w80 w82 := via (by simp (maxDischargeDepth := 9)) hb82
       have Xbx1_82 := Xbx1_80.via U82
       clear Xbx1_80 Xbx1_80k0 Xbx1_80k1 Xbx1_80k2 Xbx1_80k3 Xbx1_80k4
       have ⟨Xbx1_82k0, Xbx1_82k1, Xbx1_82k2, Xbx1_82k3, Xbx1_82k4⟩ := bx5 Xbx1_82
       clear U82
       clear B80
       cases h83 : inR a0.N (0 : Int) (100000 : Int) with
       | true =>
        have ⟨h83a, h83b⟩ := inR_true h83
        replace h83 := Lib.hid h83
        obtain ⟨bh84, eh84⟩ : ∃ b, a0.Undo.toList.isEmpty = b := ⟨_, rfl⟩
        rcases Bool.eq_false_or_eq_true bh84 with h84 | h84
        ·
         obtain rfl : r = true := hr.out.symm.trans (by simp only [sActOk_p, eh2, h2, eh62, h62, eh69, h69, eh77, h77, h79.out, h81.out, h83.out, eh84, h84, cond_true, cond_false])
         go_wp2
         go_ret
         exact rbk (by simp (maxDischargeDepth := 9) [B82])
        ·
         obtain rfl : r = false := hr.out.symm.trans (by simp only [sActOk_p, eh2, h2, eh62, h62, eh69, h69, eh77, h77, h79.out, h81.out, h83.out, eh84, h84, cond_true, cond_false])
         go_wp2
         go_ret
         exact rbk (by simp (maxDischargeDepth := 9) [B82])
       | false =>
        replace h83 := Lib.hid h83
        obtain rfl : r = false := hr.out.symm.trans (by simp only [sActOk_p, eh2, h2, eh62, h62, eh69, h69, eh77, h77, h79.out, h81.out, h83.out, cond_true, cond_false])
        go_wp2
        go_ret
        exact rbk (by simp (maxDischargeDepth := 9) [B82])
      | false =>
       replace h81 := Lib.hid h81
       obtain rfl : r = false := hr.out.symm.trans (by simp only [sActOk_p, eh2, h2, eh62, h62, eh69, h69, eh77, h77, h79.out, h81.out, cond_true, cond_false])
       go_wp2
       go_ret
       exact rbk (by simp (maxDischargeDepth := 9) [B80])
     | false =>
      replace h79 := Lib.hid h79
      obtain rfl : r = false := hr.out.symm.trans (by simp only [sActOk_p, eh2, h2, eh62, h62, eh69, h69, eh77, h77, h79.out, cond_true, cond_false])
      go_wp2
      go_ret
      exact rbk (by simp (maxDischargeDepth := 9) [B78])
    ·
     obtain ⟨bh85, eh85⟩ : ∃ b, (a0.Kind == 2) = b := ⟨_, rfl⟩
     rcases Bool.eq_false_or_eq_true bh85 with h85 | h85
     ·
      obtain rfl : r = false := hr.out.symm.trans (by simp only [sActOk_p, eh2, h2, eh62, h62, eh69, h69, eh77, h77, eh85, h85, cond_true, cond_false])
      go_wp2
      go_ret
      exact rbk (by simp (maxDischargeDepth := 9))
     ·
      obtain ⟨bh86, eh86⟩ : ∃ b, (a0.Kind == 5) = b := ⟨_, rfl⟩
      rcases Bool.eq_false_or_eq_true bh86 with h86 | h86
      ·
       obtain rfl : r = false := hr.out.symm.trans (by simp only [sActOk_p, eh2, h2, eh62, h62, eh69, h69, eh77, h77, eh85, h85, eh86, h86, cond_true, cond_false])
       go_wp2
       go_ret
       exact rbk (by simp (maxDischargeDepth := 9))
      ·
       obtain ⟨bh87, eh87⟩ : ∃ b, (a0.Kind == 6) = b := ⟨_, rfl⟩
       rcases Bool.eq_false_or_eq_true bh87 with h87 | h87
       ·
        obtain rfl : r = false := hr.out.symm.trans (by simp only [sActOk_p, eh2, h2, eh62, h62, eh69, h69, eh77, h77, eh85, h85, eh86, h86, eh87, h87, cond_true, cond_false])
        go_wp2
        go_ret
        exact rbk (by simp (maxDischargeDepth := 9))
       ·
        obtain rfl : r = false := hr.out.symm.trans (by simp only [sActOk_p, eh2, h2, eh62, h62, eh69, h69, eh77, h77, eh85, h85, eh86, h86, eh87, h87, cond_false])
        go_wp2
        go_ret
        exact rbk (by simp (maxDischargeDepth := 9))

-- spec.l9Acts
def sl9Acts_p_b2 (a0 : List ActD) (a1 : List ByteArray) (a2 : Int) (k1 : Nat) (k12 : Nat) (_ : Unit) : St (Bool) (Unit) := bif sl9Known_p ((gt ((gt a0 k1).Args) k12).L) a1 then (bif sl9Known_p ((gt ((gt a0 k1).Args) k12).R) a1 then (.go ()) else (.ret false)) else (.ret false)
def sl9Acts_p_b3 (a0 : List ActD) (a1 : List ByteArray) (a2 : Int) (k1 : Nat) (k31 : Nat) (_ : Unit) : St (Bool) (Unit) := bif sl9Known_p ((gt ((gt a0 k1).Args) k31).L) a1 then (bif sl9Known_p ((gt ((gt a0 k1).Args) k31).R) a1 then (.go ()) else (.ret false)) else (.ret false)
def sl9Acts_p_b1 (a0 : List ActD) (a1 : List ByteArray) (a2 : Int) (k1 : Nat) (_ : Unit) : St (Bool) (Unit) := bif sActOk_p (gt a0 k1) then (bif ((gt a0 k1).Kind == 2) then (bif decide (a2 ≤ (gt a0 k1).N) then (.ret false) else (match rounds (sl9Acts_p_b2 a0 a1 a2 k1) ((gt a0 k1).Args.length) () with | .ret r => .ret r | .brk _ => .brk default | .go _ => .go ())) else (match rounds (sl9Acts_p_b3 a0 a1 a2 k1) ((gt a0 k1).Args.length) () with | .ret r => .ret r | .brk _ => .brk default | .go _ => .go ())) else (.ret false)
def sl9Acts_p (a0 : List ActD) (a1 : List ByteArray) (a2 : Int) : Bool := match rounds (sl9Acts_p_b1 a0 a1 a2) a0.length () with | .ret r => r | .brk _ => default | .go _ => inR ((a0.length : Nat) : Int) (1 : Int) (6 : Int)
set_option maxHeartbeats 1000000 in
set_option maxRecDepth 20000 in
theorem sl9Acts_w (a0 : List ActD) (a1 : List ByteArray) (a2 : Int) (v0_0 : Value) (v1_0 : Value) (w : World) (s0_0 : Sl w a0 v0_0) (s1_0 : Sl w a1 v1_0) :
    Calls Tryz.prog 241 #[v0_0, v1_0, .int .i64 a2] w (RetB (sl9Acts_p a0 a1 a2) w) := by
 obtain ⟨p0_0, c0_0, rfl, hl0_0, -, hk0_0, -⟩ := s0_0.open
 obtain ⟨p1_0, c1_0, rfl, hl1_0, -, hk1_0, -⟩ := s1_0.open
 obtain ⟨r, hr⟩ : ∃ r, sl9Acts_p a0 a1 a2 = r := ⟨_, rfl⟩
 rw [hr]
 replace hr := Lib.hid hr
 go_enter Tryz.func241, Tryz.ntmps241
 go_wp2
 go_loopw [7] (fun i7 wr1 => Below w.heap.size w wr1 ∧ ∃ (k1 : Nat), i7 = .int .i64 k1 ∧ k1 ≤ a0.length ∧ Hid (rounds (sl9Acts_p_b1 a0 a1 a2) k1 () = .go ())) (fun i7 _ => a0.length - (intOf i7).toNat)
 case atStart => exact ⟨(by simp (maxDischargeDepth := 9)), 0, rfl, by omega, Lib.hid rfl⟩
 case round =>
  rename World => wr1
  obtain ⟨B2, k1, rfl, hk2, hy2⟩ := hrel
  by_cases hlt2 : k1 < a0.length
  ·
   have hi5 : k1 < a0.length := by first | assumption | omega
   obtain ⟨e4b, e4o, ue4_2, rfl, e4bl, e4ok, ⟨e4d0, e4d1, e4d2, e4d3, e4d4⟩, te4_2⟩ := Sl.gtAct s0_0 k1 hi5
   obtain ⟨pe4_2, ce4_2, rfl, hlpe4_2, -⟩ := te4_2.open
   have e4E := Lib.hid (And.intro e4d0 (And.intro e4d1 (And.intro e4d2 (And.intro e4d3 e4d4))))
   clear e4d0 e4d1 e4d2 e4d3 e4d4
   have ⟨e4d0n, e4d1n, e4d2n, e4d3n, e4d4n⟩ := cb5 B2 e4bl e4E.out
   go_wp2_with fail
   refine (sActOk_w (gt a0 k1) _ _ (te4_2.to (by simp (maxDischargeDepth := 9) [B2])) e4ok).mono ?_
   rintro e w6 ⟨rfl, hb6⟩
   have B6 := via (w0 := w) (by simp (maxDischargeDepth := 9) [B2]) hb6
   clear e4d0n e4d1n e4d2n e4d3n e4d4n
   have ⟨e4d0n, e4d1n, e4d2n, e4d3n, e4d4n⟩ := cb5 B6 e4bl e4E.out
   clear B2
   cases h7 : sActOk_p (gt a0 k1) with
   | true =>
    replace h7 := Lib.hid h7
    obtain ⟨bh8, eh8⟩ : ∃ b, ((gt a0 k1).Kind == 2) = b := ⟨_, rfl⟩
    rcases Bool.eq_false_or_eq_true bh8 with h8 | h8
    ·
     by_cases h9 : a2 ≤ (gt a0 k1).N
     ·
      have h9d := Lib.hid (decide_eq_true h9)
      have q10 : sl9Acts_p_b1 a0 a1 a2 k1 () = .ret false := by simp only [sl9Acts_p_b1, h7.out, eh8, h8, h9d.out, cond_true]
      have q11 := rounds_ret hlt2 hy2.out q10
      obtain rfl : r = false := hr.out.symm.trans (by simp only [sl9Acts_p, q11])
      go_wp2
      go_ret
      exact rbk (by simp (maxDischargeDepth := 9) [B6])
     ·
      have h9d := Lib.hid (decide_eq_false h9)
      go_wp2
      go_loopw [8] (fun i8 wr12 => Below w.heap.size w wr12 ∧ ∃ (k12 : Nat), i8 = .int .i64 k12 ∧ k12 ≤ (gt a0 k1).Args.length ∧ Hid (rounds (sl9Acts_p_b2 a0 a1 a2 k1) k12 () = .go ())) (fun i8 _ => ((gt a0 k1).Args.length) - (intOf i8).toNat)
      case atStart => exact ⟨(by simp (maxDischargeDepth := 9) [B6]), 0, rfl, by omega, Lib.hid rfl⟩
      case round =>
       rename World => wr12
       clear B6
       obtain ⟨B13, k12, rfl, hk13, hy13⟩ := hrel
       clear e4d0n e4d1n e4d2n e4d3n e4d4n
       have ⟨e4d0n, e4d1n, e4d2n, e4d3n, e4d4n⟩ := cb5 B13 e4bl e4E.out
       by_cases hlt13 : k12 < (gt a0 k1).Args.length
       ·
        have hi16 : k12 < (gt a0 k1).Args.length := by first | assumption | omega
        obtain ⟨e15b, e15o, rfl, e15bl, e15ok, ⟨e15d0, e15d1, e15d2, e15d3, e15d4, e15d5, e15d6, e15d7, e15d8, e15d9, e15d10⟩⟩ := Sl.gtExpr te4_2 k12 hi16
        have e15E := Lib.hid (And.intro e15d0 (And.intro e15d1 (And.intro e15d2 (And.intro e15d3 (And.intro e15d4 (And.intro e15d5 (And.intro e15d6 (And.intro e15d7 (And.intro e15d8 (And.intro e15d9 e15d10))))))))))
        clear e15d0 e15d1 e15d2 e15d3 e15d4 e15d5 e15d6 e15d7 e15d8 e15d9 e15d10
        have ⟨e15d0n, e15d1n, e15d2n, e15d3n, e15d4n, e15d5n, e15d6n, e15d7n, e15d8n, e15d9n, e15d10n⟩ := cb11 B13 e15bl e15E.out
        go_wp2_with fail
        refine (sl9Known_w ((gt ((gt a0 k1).Args) k12).L) a1 _ _ (s1_0.to (by simp (maxDischargeDepth := 9) [B13]))).mono ?_
        rintro e w17 ⟨rfl, hb17⟩
        have B17 := via (w0 := w) (by simp (maxDischargeDepth := 9) [B13]) hb17
        clear e4d0n e4d1n e4d2n e4d3n e4d4n
        have ⟨e4d0n, e4d1n, e4d2n, e4d3n, e4d4n⟩ := cb5 B17 e4bl e4E.out
        clear e15d0n e15d1n e15d2n e15d3n e15d4n e15d5n e15d6n e15d7n e15d8n e15d9n e15d10n
        have ⟨e15d0n, e15d1n, e15d2n, e15d3n, e15d4n, e15d5n, e15d6n, e15d7n, e15d8n, e15d9n, e15d10n⟩ := cb11 B17 e15bl e15E.out
        clear B13
        cases h18 : sl9Known_p ((gt ((gt a0 k1).Args) k12).L) a1 with
        | true =>
         replace h18 := Lib.hid h18
         go_wp2_with fail
         refine (sl9Known_w ((gt ((gt a0 k1).Args) k12).R) a1 _ _ (s1_0.to (by simp (maxDischargeDepth := 9) [B17]))).mono ?_
         rintro e w19 ⟨rfl, hb19⟩
         have B19 := via (w0 := w) (by simp (maxDischargeDepth := 9) [B17]) hb19
         clear e4d0n e4d1n e4d2n e4d3n e4d4n
         have ⟨e4d0n, e4d1n, e4d2n, e4d3n, e4d4n⟩ := cb5 B19 e4bl e4E.out
         clear e15d0n e15d1n e15d2n e15d3n e15d4n e15d5n e15d6n e15d7n e15d8n e15d9n e15d10n
         have ⟨e15d0n, e15d1n, e15d2n, e15d3n, e15d4n, e15d5n, e15d6n, e15d7n, e15d8n, e15d9n, e15d10n⟩ := cb11 B19 e15bl e15E.out
         clear B17
         cases h20 : sl9Known_p ((gt ((gt a0 k1).Args) k12).R) a1 with
         | true =>
          replace h20 := Lib.hid h20
          have q21 : sl9Acts_p_b2 a0 a1 a2 k1 k12 () = .go () := by simp only [sl9Acts_p_b2, h18.out, h20.out, cond_true]
          replace q21 := Lib.hid (rounds_next hy13.out q21)
          go_wp2
          go_roundw
          case rel => exact ⟨(by simp (maxDischargeDepth := 9) [B19]), k12 + 1, by go_num, by omega, q21⟩
          case measure => simp [intOf]; omega
         | false =>
          replace h20 := Lib.hid h20
          have q22 : sl9Acts_p_b2 a0 a1 a2 k1 k12 () = .ret false := by simp only [sl9Acts_p_b2, h18.out, h20.out, cond_true, cond_false]
          have q23 := rounds_ret hlt13 hy13.out q22
          have q24 : sl9Acts_p_b1 a0 a1 a2 k1 () = .ret false := by simp only [sl9Acts_p_b1, h7.out, eh8, h8, h9d.out, q23, cond_true, cond_false]
          have q25 := rounds_ret hlt2 hy2.out q24
          obtain rfl : r = false := hr.out.symm.trans (by simp only [sl9Acts_p, q25])
          go_wp2
          go_ret
          exact rbk (by simp (maxDischargeDepth := 9) [B19])
        | false =>
         replace h18 := Lib.hid h18
         have q26 : sl9Acts_p_b2 a0 a1 a2 k1 k12 () = .ret false := by simp only [sl9Acts_p_b2, h18.out, cond_false]
         have q27 := rounds_ret hlt13 hy13.out q26
         have q28 : sl9Acts_p_b1 a0 a1 a2 k1 () = .ret false := by simp only [sl9Acts_p_b1, h7.out, eh8, h8, h9d.out, q27, cond_true, cond_false]
         have q29 := rounds_ret hlt2 hy2.out q28
         obtain rfl : r = false := hr.out.symm.trans (by simp only [sl9Acts_p, q29])
         go_wp2
         go_ret
         exact rbk (by simp (maxDischargeDepth := 9) [B17])
       ·
        obtain rfl : (gt a0 k1).Args.length = k12 := by omega
        have q30 : sl9Acts_p_b1 a0 a1 a2 k1 () = .go () := by simp only [sl9Acts_p_b1, h7.out, eh8, h8, h9d.out, hy13.out, cond_true, cond_false]
        replace q30 := Lib.hid (rounds_next hy2.out q30)
        go_wp2
        go_roundw
        case rel => exact ⟨(by simp (maxDischargeDepth := 9) [B13]), k1 + 1, by go_num, by omega, q30⟩
        case measure => simp [intOf]; omega
    ·
     go_wp2
     go_loopw [8] (fun i8 wr31 => Below w.heap.size w wr31 ∧ ∃ (k31 : Nat), i8 = .int .i64 k31 ∧ k31 ≤ (gt a0 k1).Args.length ∧ Hid (rounds (sl9Acts_p_b3 a0 a1 a2 k1) k31 () = .go ())) (fun i8 _ => ((gt a0 k1).Args.length) - (intOf i8).toNat)
     case atStart => exact ⟨(by simp (maxDischargeDepth := 9) [B6]), 0, rfl, by omega, Lib.hid rfl⟩
     case round =>
      rename World => wr31
      clear B6
      obtain ⟨B32, k31, rfl, hk32, hy32⟩ := hrel
      clear e4d0n e4d1n e4d2n e4d3n e4d4n
      have ⟨e4d0n, e4d1n, e4d2n, e4d3n, e4d4n⟩ := cb5 B32 e4bl e4E.out
      by_cases hlt32 : k31 < (gt a0 k1).Args.length
      ·
       have hi35 : k31 < (gt a0 k1).Args.length := by first | assumption | omega
       obtain ⟨e34b, e34o, rfl, e34bl, e34ok, ⟨e34d0, e34d1, e34d2, e34d3, e34d4, e34d5, e34d6, e34d7, e34d8, e34d9, e34d10⟩⟩ := Sl.gtExpr te4_2 k31 hi35
       have e34E := Lib.hid (And.intro e34d0 (And.intro e34d1 (And.intro e34d2 (And.intro e34d3 (And.intro e34d4 (And.intro e34d5 (And.intro e34d6 (And.intro e34d7 (And.intro e34d8 (And.intro e34d9 e34d10))))))))))
       clear e34d0 e34d1 e34d2 e34d3 e34d4 e34d5 e34d6 e34d7 e34d8 e34d9 e34d10
       have ⟨e34d0n, e34d1n, e34d2n, e34d3n, e34d4n, e34d5n, e34d6n, e34d7n, e34d8n, e34d9n, e34d10n⟩ := cb11 B32 e34bl e34E.out
       go_wp2_with fail
       refine (sl9Known_w ((gt ((gt a0 k1).Args) k31).L) a1 _ _ (s1_0.to (by simp (maxDischargeDepth := 9) [B32]))).mono ?_
       rintro e w36 ⟨rfl, hb36⟩
       have B36 := via (w0 := w) (by simp (maxDischargeDepth := 9) [B32]) hb36
       clear e4d0n e4d1n e4d2n e4d3n e4d4n
       have ⟨e4d0n, e4d1n, e4d2n, e4d3n, e4d4n⟩ := cb5 B36 e4bl e4E.out
       clear e34d0n e34d1n e34d2n e34d3n e34d4n e34d5n e34d6n e34d7n e34d8n e34d9n e34d10n
       have ⟨e34d0n, e34d1n, e34d2n, e34d3n, e34d4n, e34d5n, e34d6n, e34d7n, e34d8n, e34d9n, e34d10n⟩ := cb11 B36 e34bl e34E.out
       clear B32
       cases h37 : sl9Known_p ((gt ((gt a0 k1).Args) k31).L) a1 with
       | true =>
        replace h37 := Lib.hid h37
        go_wp2_with fail
        refine (sl9Known_w ((gt ((gt a0 k1).Args) k31).R) a1 _ _ (s1_0.to (by simp (maxDischargeDepth := 9) [B36]))).mono ?_
        rintro e w38 ⟨rfl, hb38⟩
        have B38 := via (w0 := w) (by simp (maxDischargeDepth := 9) [B36]) hb38
        clear e4d0n e4d1n e4d2n e4d3n e4d4n
        have ⟨e4d0n, e4d1n, e4d2n, e4d3n, e4d4n⟩ := cb5 B38 e4bl e4E.out
        clear e34d0n e34d1n e34d2n e34d3n e34d4n e34d5n e34d6n e34d7n e34d8n e34d9n e34d10n
        have ⟨e34d0n, e34d1n, e34d2n, e34d3n, e34d4n, e34d5n, e34d6n, e34d7n, e34d8n, e34d9n, e34d10n⟩ := cb11 B38 e34bl e34E.out
        clear B36
        cases h39 : sl9Known_p ((gt ((gt a0 k1).Args) k31).R) a1 with
        | true =>
         replace h39 := Lib.hid h39
         have q40 : sl9Acts_p_b3 a0 a1 a2 k1 k31 () = .go () := by simp only [sl9Acts_p_b3, h37.out, h39.out, cond_true]
         replace q40 := Lib.hid (rounds_next hy32.out q40)
         go_wp2
         go_roundw
         case rel => exact ⟨(by simp (maxDischargeDepth := 9) [B38]), k31 + 1, by go_num, by omega, q40⟩
         case measure => simp [intOf]; omega
        | false =>
         replace h39 := Lib.hid h39
         have q41 : sl9Acts_p_b3 a0 a1 a2 k1 k31 () = .ret false := by simp only [sl9Acts_p_b3, h37.out, h39.out, cond_true, cond_false]
         have q42 := rounds_ret hlt32 hy32.out q41
         have q43 : sl9Acts_p_b1 a0 a1 a2 k1 () = .ret false := by simp only [sl9Acts_p_b1, h7.out, eh8, h8, q42, cond_true, cond_false]
         have q44 := rounds_ret hlt2 hy2.out q43
         obtain rfl : r = false := hr.out.symm.trans (by simp only [sl9Acts_p, q44])
         go_wp2
         go_ret
         exact rbk (by simp (maxDischargeDepth := 9) [B38])
       | false =>
        replace h37 := Lib.hid h37
        have q45 : sl9Acts_p_b3 a0 a1 a2 k1 k31 () = .ret false := by simp only [sl9Acts_p_b3, h37.out, cond_false]
        have q46 := rounds_ret hlt32 hy32.out q45
        have q47 : sl9Acts_p_b1 a0 a1 a2 k1 () = .ret false := by simp only [sl9Acts_p_b1, h7.out, eh8, h8, q46, cond_true, cond_false]
        have q48 := rounds_ret hlt2 hy2.out q47
        obtain rfl : r = false := hr.out.symm.trans (by simp only [sl9Acts_p, q48])
        go_wp2
        go_ret
        exact rbk (by simp (maxDischargeDepth := 9) [B36])
      ·
       obtain rfl : (gt a0 k1).Args.length = k31 := by omega
       have q49 : sl9Acts_p_b1 a0 a1 a2 k1 () = .go () := by simp only [sl9Acts_p_b1, h7.out, eh8, h8, hy32.out, cond_true, cond_false]
       replace q49 := Lib.hid (rounds_next hy2.out q49)
       go_wp2
       go_roundw
       case rel => exact ⟨(by simp (maxDischargeDepth := 9) [B32]), k1 + 1, by go_num, by omega, q49⟩
       case measure => simp [intOf]; omega
   | false =>
    replace h7 := Lib.hid h7
    have q50 : sl9Acts_p_b1 a0 a1 a2 k1 () = .ret false := by simp only [sl9Acts_p_b1, h7.out, cond_false]
    have q51 := rounds_ret hlt2 hy2.out q50
    obtain rfl : r = false := hr.out.symm.trans (by simp only [sl9Acts_p, q51])
    go_wp2
    go_ret
    exact rbk (by simp (maxDischargeDepth := 9) [B6])
  ·
   obtain rfl : a0.length = k1 := by omega
   go_wp2_with fail
   refine (sl1In_w ((a0.length : Nat) : Int) (1 : Int) (6 : Int)  _ ).mono ?_
   rintro e w52 ⟨rfl, hb52⟩
   have B52 := via (w0 := w) (by simp (maxDischargeDepth := 9) [B2]) hb52
   clear B2
   obtain rfl : r = inR ((a0.length : Nat) : Int) (1 : Int) (6 : Int) := hr.out.symm.trans (by simp only [sl9Acts_p, hy2.out])
   go_wp2
   go_ret
   exact rbk (by simp (maxDischargeDepth := 9) [B52])

-- spec.RuleAt
def sRuleAt_p_b1 (a0 : DefD) (a1 : ByteArray) (k2 : Nat) (_ : Unit) : St (Int) (Unit) := bif (((gt a0.Rules k2).Name).toList == a1.toList) then (.ret (k2 : Int)) else (.go ())
def sRuleAt_p (a0 : DefD) (a1 : ByteArray) : Int := match rounds (sRuleAt_p_b1 a0 a1) a0.Rules.length () with | .ret r => r | .brk _ => default | .go _ => (-1 : Int)
set_option maxHeartbeats 1000000 in
set_option maxRecDepth 20000 in
theorem sRuleAt_w (a0 : DefD) (a1 : ByteArray) (v0_1 : Value) (w : World) (s0_1 : Sl w a0.Rules v0_1) :
    Calls Tryz.prog 155 #[.agg #[.string a0.Name, v0_1], .string a1] w (RetI (sRuleAt_p a0 a1) w) := by
 obtain ⟨p0_1, c0_1, rfl, hl0_1, -, hk0_1, -⟩ := s0_1.open
 obtain ⟨r, hr⟩ : ∃ r, sRuleAt_p a0 a1 = r := ⟨_, rfl⟩
 rw [hr]
 replace hr := Lib.hid hr
 go_enter Tryz.func155, Tryz.ntmps155
 go_wp2
 go_loopw [5] (fun i5 wr2 => Below w.heap.size w wr2 ∧ Bx wr2 (w.heap.size) [.string a0.Name, .slice p0_1 a0.Rules.length c0_1] ∧ ∃ (k2 : Nat), i5 = .int .i64 k2 ∧ k2 ≤ a0.Rules.length ∧ Hid (rounds (sRuleAt_p_b1 a0 a1) k2 () = .go ())) (fun i5 _ => a0.Rules.length - (intOf i5).toNat)
 case atStart => exact ⟨(by simp (maxDischargeDepth := 9)), (by simp (maxDischargeDepth := 9)), 0, rfl, by omega, Lib.hid rfl⟩
 case round =>
  rename World => wr2
  obtain ⟨B3, Xbx1_3, k2, rfl, hk3, hy3⟩ := hrel
  have ⟨Xbx1_3k0, Xbx1_3k1⟩ := bx2 Xbx1_3
  by_cases hlt3 : k2 < a0.Rules.length
  ·
   have hi6 : k2 < a0.Rules.length := by first | assumption | omega
   obtain ⟨e5b, e5o, ue5_2, ue5_3, ue5_4, rfl, e5bl, e5ok, ⟨e5d0, e5d1, e5d2, e5d3, e5d4⟩, te5_2, te5_3, te5_4⟩ := Sl.gtRule s0_1 k2 hi6
   obtain ⟨pe5_2, ce5_2, rfl, hlpe5_2, -⟩ := te5_2.open
   obtain ⟨pe5_3, ce5_3, rfl, hlpe5_3, -⟩ := te5_3.open
   obtain ⟨pe5_4, ce5_4, rfl, hlpe5_4, -⟩ := te5_4.open
   have e5E := Lib.hid (And.intro e5d0 (And.intro e5d1 (And.intro e5d2 (And.intro e5d3 e5d4))))
   clear e5d0 e5d1 e5d2 e5d3 e5d4
   have ⟨e5d0n, e5d1n, e5d2n, e5d3n, e5d4n⟩ := cb5 B3 e5bl e5E.out
   obtain ⟨bh7, eh7⟩ : ∃ b, (((gt a0.Rules k2).Name).toList == a1.toList) = b := ⟨_, rfl⟩
   rcases Bool.eq_false_or_eq_true bh7 with h7 | h7
   ·
    have q8 : sRuleAt_p_b1 a0 a1 k2 () = .ret (k2 : Int) := by simp only [sRuleAt_p_b1, eh7, h7, cond_true]
    have q9 := rounds_ret hlt3 hy3.out q8
    obtain rfl : r = (k2 : Int) := hr.out.symm.trans (by simp only [sRuleAt_p, q9])
    go_wp2
    go_ret
    exact ⟨by first | rfl | simp, (by simp (maxDischargeDepth := 9) [B3])⟩
   ·
    have q10 : sRuleAt_p_b1 a0 a1 k2 () = .go () := by simp only [sRuleAt_p_b1, eh7, h7, cond_false]
    replace q10 := Lib.hid (rounds_next hy3.out q10)
    go_wp2
    go_roundw
    case rel => exact ⟨(by simp (maxDischargeDepth := 9) [B3]), (by simp (maxDischargeDepth := 9) [Xbx1_3]), k2 + 1, by go_num, by omega, q10⟩
    case measure => simp [intOf]; omega
  ·
   obtain rfl : a0.Rules.length = k2 := by omega
   obtain rfl : r = (-1 : Int) := hr.out.symm.trans (by simp only [sRuleAt_p, hy3.out])
   go_wp2
   go_ret
   exact ⟨by first | rfl | simp, (by simp (maxDischargeDepth := 9) [B3])⟩
end Go.Proofs.YthnilnggpbploaaGreat
