/- Functions that only read, walked (S). Printed by a program. -/
import Derived.Test.YthnilnggpbploaaGreatCmS1
import Derived.Test.YthnilnggpbploaaGreatRd
namespace Go.Proofs.YthnilnggpbploaaGreat
open Go.RowKit
open Cel (rd own rd_len rd_one own_rd own_lt rd_below rd_mono own_keep)

-- spec.l9Pats
def sl9Pats_p_b1 (a0 : List PatD) (k1 : Nat) (_ : Unit) : St (Bool) (Unit) := bif decide (2 < k1) then (bif (gt a0 k1).Not then (bif sPatOk_p (gt a0 k1) then (bif ((k1 : Int) == 0) then (.ret false) else (bif decide (0 < k1) then (bif (gt a0 (k1 - 1)).Not then (.go ()) else (.go ())) else (.go ()))) else (.ret false)) else (.ret false)) else (bif sPatOk_p (gt a0 k1) then (bif ((k1 : Int) == 0) then (bif (gt a0 k1).Not then (.ret false) else (bif decide (0 < k1) then (bif (gt a0 (k1 - 1)).Not then (.ret false) else (.go ())) else (.go ()))) else (bif decide (0 < k1) then (bif (gt a0 (k1 - 1)).Not then (bif (gt a0 k1).Not then (.go ()) else (.ret false)) else (.go ())) else (.go ()))) else (.ret false))
def sl9Pats_p (a0 : List PatD) : Bool := match rounds (sl9Pats_p_b1 a0) a0.length () with | .ret r => r | .brk _ => default | .go _ => inR ((a0.length : Nat) : Int) (1 : Int) (6 : Int)
set_option maxHeartbeats 1000000 in
set_option maxRecDepth 20000 in
theorem sl9Pats_w (a0 : List PatD) (v0_0 : Value) (w : World) (s0_0 : Sl w a0 v0_0) :
    Calls Tryz.prog 239 #[v0_0] w (RetB (sl9Pats_p a0) w) := by
 obtain ⟨p0_0, c0_0, rfl, hl0_0, -, hk0_0, -⟩ := s0_0.open
 obtain ⟨r, hr⟩ : ∃ r, sl9Pats_p a0 = r := ⟨_, rfl⟩
 rw [hr]
 replace hr := Lib.hid hr
 go_enter Tryz.func239, Tryz.ntmps239
 go_wp2
 go_loopw [3] (fun i3 wr1 => Below w.heap.size w wr1 ∧ ∃ (k1 : Nat), i3 = .int .i64 k1 ∧ k1 ≤ a0.length ∧ Hid (rounds (sl9Pats_p_b1 a0) k1 () = .go ())) (fun i3 _ => a0.length - (intOf i3).toNat)
 case atStart => exact ⟨(by simp (maxDischargeDepth := 9)), 0, rfl, by omega, Lib.hid rfl⟩
 case round =>
  rename World => wr1
  obtain ⟨B2, k1, rfl, hk2, hy2⟩ := hrel
  by_cases hlt2 : k1 < a0.length
  ·
   by_cases h4 : 2 < k1
   ·
    have h4d := Lib.hid (decide_eq_true h4)
    have hi6 : k1 < a0.length := by first | assumption | omega
    obtain ⟨e5b, e5o, ue5_1, rfl, e5bl, e5ok, ⟨e5d0, e5d1, e5d2⟩, te5_1⟩ := Sl.gtPat s0_0 k1 hi6
    obtain ⟨pe5_1, ce5_1, rfl, hlpe5_1, -⟩ := te5_1.open
    have e5E := Lib.hid (And.intro e5d0 (And.intro e5d1 e5d2))
    clear e5d0 e5d1 e5d2
    have ⟨e5d0n, e5d1n, e5d2n⟩ := cb3 B2 e5bl e5E.out
    rcases Bool.eq_false_or_eq_true ((gt a0 k1).Not) with h7 | h7
    ·
     go_wp2_with fail
     refine (args_eq (by simp only [h7]) (sPatOk_w (gt a0 k1) _ _ (te5_1.to (by simp (maxDischargeDepth := 9) [B2])) e5ok)).mono ?_
     rintro e w8 ⟨rfl, hb8⟩
     have B8 := via (w0 := w) (by simp (maxDischargeDepth := 9) [B2]) hb8
     clear e5d0n e5d1n e5d2n
     have ⟨e5d0n, e5d1n, e5d2n⟩ := cb3 B8 e5bl e5E.out
     clear B2
     cases h9 : sPatOk_p (gt a0 k1) with
     | true =>
      replace h9 := Lib.hid h9
      obtain ⟨bh10, eh10⟩ : ∃ b, ((k1 : Int) == 0) = b := ⟨_, rfl⟩
      rcases Bool.eq_false_or_eq_true bh10 with h10 | h10
      ·
       have gh10 : Hid (k1 = 0) := Lib.hid (by have z := eh10.trans h10; simp only [beq_iff_eq] at z; omega)
       have q11 : sl9Pats_p_b1 a0 k1 () = .ret false := by simp only [sl9Pats_p_b1, h4d.out, h7, h9.out, eh10, h10, cond_true]
       have q12 := rounds_ret hlt2 hy2.out q11
       obtain rfl : r = false := hr.out.symm.trans (by simp only [sl9Pats_p, q12])
       go_wp2
       go_ret
       exact rbk (by simp (maxDischargeDepth := 9) [B8])
      ·
       by_cases h13 : 0 < k1
       ·
        have h13d := Lib.hid (decide_eq_true h13)
        have hw14 : wrap64 ((k1 : Int) - 1) = ((k1 - 1 : Nat) : Int) := by have z := w64_in ((k1 : Int) - 1) ⟨by omega, by omega⟩; omega
        have hi16 : k1 - 1 < a0.length := by first | assumption | omega
        obtain ⟨ue15_1, e15bl, e15ok, ⟨e15d0, e15d1, e15d2⟩, te15_1⟩ := Sl.guPat s0_0 (k1 - 1) hi16
        obtain ⟨pe15_1, ce15_1, rfl, hlpe15_1, -⟩ := te15_1.open
        have e15E := Lib.hid (And.intro e15d0 (And.intro e15d1 e15d2))
        clear e15d0 e15d1 e15d2
        have ⟨e15d0n, e15d1n, e15d2n⟩ := cb3 B8 e15bl e15E.out
        rcases Bool.eq_false_or_eq_true ((gt a0 (k1 - 1)).Not) with h17 | h17
        ·
         have q18 : sl9Pats_p_b1 a0 k1 () = .go () := by simp only [sl9Pats_p_b1, h4d.out, h7, h9.out, eh10, h10, h13d.out, h17, cond_true, cond_false]
         replace q18 := Lib.hid (rounds_next hy2.out q18)
         go_wp2
         go_roundw
         case rel => exact ⟨(by simp (maxDischargeDepth := 9) [B8]), k1 + 1, by go_num, by omega, q18⟩
         case measure => simp [intOf]; omega
        ·
         have q19 : sl9Pats_p_b1 a0 k1 () = .go () := by simp only [sl9Pats_p_b1, h4d.out, h7, h9.out, eh10, h10, h13d.out, h17, cond_true, cond_false]
         replace q19 := Lib.hid (rounds_next hy2.out q19)
         go_wp2
         go_roundw
         case rel => exact ⟨(by simp (maxDischargeDepth := 9) [B8]), k1 + 1, by go_num, by omega, q19⟩
         case measure => simp [intOf]; omega
       ·
        have h13d := Lib.hid (decide_eq_false h13)
        have q20 : sl9Pats_p_b1 a0 k1 () = .go () := by simp only [sl9Pats_p_b1, h4d.out, h7, h9.out, eh10, h10, h13d.out, cond_true, cond_false]
        replace q20 := Lib.hid (rounds_next hy2.out q20)
        go_wp2
        go_roundw
        case rel => exact ⟨(by simp (maxDischargeDepth := 9) [B8]), k1 + 1, by go_num, by omega, q20⟩
        case measure => simp [intOf]; omega
     | false =>
      replace h9 := Lib.hid h9
      have q21 : sl9Pats_p_b1 a0 k1 () = .ret false := by simp only [sl9Pats_p_b1, h4d.out, h7, h9.out, cond_true, cond_false]
      have q22 := rounds_ret hlt2 hy2.out q21
      obtain rfl : r = false := hr.out.symm.trans (by simp only [sl9Pats_p, q22])
      go_wp2
      go_ret
      exact rbk (by simp (maxDischargeDepth := 9) [B8])
    ·
     have q23 : sl9Pats_p_b1 a0 k1 () = .ret false := by simp only [sl9Pats_p_b1, h4d.out, h7, cond_true, cond_false]
     have q24 := rounds_ret hlt2 hy2.out q23
     obtain rfl : r = false := hr.out.symm.trans (by simp only [sl9Pats_p, q24])
     go_wp2
     go_ret
     exact rbk (by simp (maxDischargeDepth := 9) [B2])
   ·
    have h4d := Lib.hid (decide_eq_false h4)
    have hi26 : k1 < a0.length := by first | assumption | omega
    obtain ⟨e25b, e25o, ue25_1, rfl, e25bl, e25ok, ⟨e25d0, e25d1, e25d2⟩, te25_1⟩ := Sl.gtPat s0_0 k1 hi26
    obtain ⟨pe25_1, ce25_1, rfl, hlpe25_1, -⟩ := te25_1.open
    have e25E := Lib.hid (And.intro e25d0 (And.intro e25d1 e25d2))
    clear e25d0 e25d1 e25d2
    have ⟨e25d0n, e25d1n, e25d2n⟩ := cb3 B2 e25bl e25E.out
    go_wp2_with fail
    refine (sPatOk_w (gt a0 k1) _ _ (te25_1.to (by simp (maxDischargeDepth := 9) [B2])) e25ok).mono ?_
    rintro e w27 ⟨rfl, hb27⟩
    have B27 := via (w0 := w) (by simp (maxDischargeDepth := 9) [B2]) hb27
    clear e25d0n e25d1n e25d2n
    have ⟨e25d0n, e25d1n, e25d2n⟩ := cb3 B27 e25bl e25E.out
    clear B2
    cases h28 : sPatOk_p (gt a0 k1) with
    | true =>
     replace h28 := Lib.hid h28
     obtain ⟨bh29, eh29⟩ : ∃ b, ((k1 : Int) == 0) = b := ⟨_, rfl⟩
     rcases Bool.eq_false_or_eq_true bh29 with h29 | h29
     ·
      have gh29 : Hid (k1 = 0) := Lib.hid (by have z := eh29.trans h29; simp only [beq_iff_eq] at z; omega)
      rcases Bool.eq_false_or_eq_true ((gt a0 k1).Not) with h30 | h30
      ·
       have q31 : sl9Pats_p_b1 a0 k1 () = .ret false := by simp only [sl9Pats_p_b1, h4d.out, h28.out, eh29, h29, h30, cond_true, cond_false]
       have q32 := rounds_ret hlt2 hy2.out q31
       obtain rfl : r = false := hr.out.symm.trans (by simp only [sl9Pats_p, q32])
       go_wp2
       go_ret
       exact rbk (by simp (maxDischargeDepth := 9) [B27])
      ·
       by_cases h33 : 0 < k1
       ·
        have h33d := Lib.hid (decide_eq_true h33)
        have hw34 : wrap64 ((k1 : Int) - 1) = ((k1 - 1 : Nat) : Int) := by have z := w64_in ((k1 : Int) - 1) ⟨by omega, by omega⟩; omega
        have hi36 : k1 - 1 < a0.length := by first | assumption | omega | (have := gh29.out; omega)
        obtain ⟨ue35_1, e35bl, e35ok, ⟨e35d0, e35d1, e35d2⟩, te35_1⟩ := Sl.guPat s0_0 (k1 - 1) hi36
        obtain ⟨pe35_1, ce35_1, rfl, hlpe35_1, -⟩ := te35_1.open
        have e35E := Lib.hid (And.intro e35d0 (And.intro e35d1 e35d2))
        clear e35d0 e35d1 e35d2
        have ⟨e35d0n, e35d1n, e35d2n⟩ := cb3 B27 e35bl e35E.out
        rcases Bool.eq_false_or_eq_true ((gt a0 (k1 - 1)).Not) with h37 | h37
        ·
         have q38 : sl9Pats_p_b1 a0 k1 () = .ret false := by simp only [sl9Pats_p_b1, h4d.out, h28.out, eh29, h29, h30, h33d.out, h37, cond_true, cond_false]
         have q39 := rounds_ret hlt2 hy2.out q38
         obtain rfl : r = false := hr.out.symm.trans (by simp only [sl9Pats_p, q39])
         go_wp2
         go_ret
         exact rbk (by simp (maxDischargeDepth := 9) [B27])
        ·
         have q40 : sl9Pats_p_b1 a0 k1 () = .go () := by simp only [sl9Pats_p_b1, h4d.out, h28.out, eh29, h29, h30, h33d.out, h37, cond_true, cond_false]
         replace q40 := Lib.hid (rounds_next hy2.out q40)
         go_wp2
         go_roundw
         case rel => exact ⟨(by simp (maxDischargeDepth := 9) [B27]), k1 + 1, by go_num, by omega, q40⟩
         case measure => simp [intOf]; omega
       ·
        have h33d := Lib.hid (decide_eq_false h33)
        have q41 : sl9Pats_p_b1 a0 k1 () = .go () := by simp only [sl9Pats_p_b1, h4d.out, h28.out, eh29, h29, h30, h33d.out, cond_true, cond_false]
        replace q41 := Lib.hid (rounds_next hy2.out q41)
        go_wp2
        go_roundw
        case rel => exact ⟨(by simp (maxDischargeDepth := 9) [B27]), k1 + 1, by go_num, by omega, q41⟩
        case measure => simp [intOf]; omega
     ·
      by_cases h42 : 0 < k1
      ·
       have h42d := Lib.hid (decide_eq_true h42)
       have hw43 : wrap64 ((k1 : Int) - 1) = ((k1 - 1 : Nat) : Int) := by have z := w64_in ((k1 : Int) - 1) ⟨by omega, by omega⟩; omega
       have hi45 : k1 - 1 < a0.length := by first | assumption | omega
       obtain ⟨ue44_1, e44bl, e44ok, ⟨e44d0, e44d1, e44d2⟩, te44_1⟩ := Sl.guPat s0_0 (k1 - 1) hi45
       obtain ⟨pe44_1, ce44_1, rfl, hlpe44_1, -⟩ := te44_1.open
       have e44E := Lib.hid (And.intro e44d0 (And.intro e44d1 e44d2))
       clear e44d0 e44d1 e44d2
       have ⟨e44d0n, e44d1n, e44d2n⟩ := cb3 B27 e44bl e44E.out
       rcases Bool.eq_false_or_eq_true ((gt a0 (k1 - 1)).Not) with h46 | h46
       ·
        rcases Bool.eq_false_or_eq_true ((gt a0 k1).Not) with h47 | h47
        ·
         have q48 : sl9Pats_p_b1 a0 k1 () = .go () := by simp only [sl9Pats_p_b1, h4d.out, h28.out, eh29, h29, h42d.out, h46, h47, cond_true, cond_false]
         replace q48 := Lib.hid (rounds_next hy2.out q48)
         go_wp2
         go_roundw
         case rel => exact ⟨(by simp (maxDischargeDepth := 9) [B27]), k1 + 1, by go_num, by omega, q48⟩
         case measure => simp [intOf]; omega
        ·
         have q49 : sl9Pats_p_b1 a0 k1 () = .ret false := by simp only [sl9Pats_p_b1, h4d.out, h28.out, eh29, h29, h42d.out, h46, h47, cond_true, cond_false]
         have q50 := rounds_ret hlt2 hy2.out q49
         obtain rfl : r = false := hr.out.symm.trans (by simp only [sl9Pats_p, q50])
         go_wp2
         go_ret
         exact rbk (by simp (maxDischargeDepth := 9) [B27])
       ·
        have q51 : sl9Pats_p_b1 a0 k1 () = .go () := by simp only [sl9Pats_p_b1, h4d.out, h28.out, eh29, h29, h42d.out, h46, cond_true, cond_false]
        replace q51 := Lib.hid (rounds_next hy2.out q51)
        go_wp2
        go_roundw
        case rel => exact ⟨(by simp (maxDischargeDepth := 9) [B27]), k1 + 1, by go_num, by omega, q51⟩
        case measure => simp [intOf]; omega
      ·
       have h42d := Lib.hid (decide_eq_false h42)
       have q52 : sl9Pats_p_b1 a0 k1 () = .go () := by simp only [sl9Pats_p_b1, h4d.out, h28.out, eh29, h29, h42d.out, cond_true, cond_false]
       replace q52 := Lib.hid (rounds_next hy2.out q52)
       go_wp2
       go_roundw
       case rel => exact ⟨(by simp (maxDischargeDepth := 9) [B27]), k1 + 1, by go_num, by omega, q52⟩
       case measure => simp [intOf]; omega
    | false =>
     replace h28 := Lib.hid h28
     have q53 : sl9Pats_p_b1 a0 k1 () = .ret false := by simp only [sl9Pats_p_b1, h4d.out, h28.out, cond_false]
     have q54 := rounds_ret hlt2 hy2.out q53
     obtain rfl : r = false := hr.out.symm.trans (by simp only [sl9Pats_p, q54])
     go_wp2
     go_ret
     exact rbk (by simp (maxDischargeDepth := 9) [B27])
  ·
   obtain rfl : a0.length = k1 := by omega
   go_wp2_with fail
   refine (sl1In_w ((a0.length : Nat) : Int) (1 : Int) (6 : Int)  _ ).mono ?_
   rintro e w55 ⟨rfl, hb55⟩
   have B55 := via (w0 := w) (by simp (maxDischargeDepth := 9) [B2]) hb55
   clear B2
   obtain rfl : r = inR ((a0.length : Nat) : Int) (1 : Int) (6 : Int) := hr.out.symm.trans (by simp only [sl9Pats_p, hy2.out])
   go_wp2
   go_ret
   exact rbk (by simp (maxDischargeDepth := 9) [B55])

-- spec.CondOk
def sCondOk_p (a0 : CondD) : Bool := bif inR a0.Op (1 : Int) (3 : Int) then (bif sArgOk_p a0.L then (bif sArgOk_p a0.R then (bif (a0.L.K == 3) then (false) else (bif (a0.R.K == 3) then (false) else (true))) else (false)) else (false)) else (false)
set_option maxHeartbeats 1000000 in
set_option maxRecDepth 20000 in
theorem sCondOk_w (a0 : CondD) (w : World) (ok_a0 : okCond a0) :
    Calls Tryz.prog 333 #[.agg #[.int .i64 a0.Op, .int .i64 a0.L.K, .string a0.L.S, .int .i64 a0.L.V.K, .int .i64 a0.L.V.N, .string a0.L.V.S, .int .i64 a0.R.K, .string a0.R.S, .int .i64 a0.R.V.K, .int .i64 a0.R.V.N, .string a0.R.V.S]] w (RetB (sCondOk_p a0) w) := by
 obtain ⟨r, hr⟩ : ∃ r, sCondOk_p a0 = r := ⟨_, rfl⟩
 rw [hr]
 replace hr := Lib.hid hr
 go_enter Tryz.func333, Tryz.ntmps333
 go_wp2_with fail
 refine (sl1In_w a0.Op (1 : Int) (3 : Int)  _ ).mono ?_
 rintro e w2 ⟨rfl, hb2⟩
 have B2 := via (w0 := w) (by simp (maxDischargeDepth := 9)) hb2
 have Xbx1_2 : Bx w2 (w.heap.size) [.int .i64 a0.Op, .int .i64 a0.L.K, .string a0.L.S, .int .i64 a0.L.V.K, .int .i64 a0.L.V.N, .string a0.L.V.S, .int .i64 a0.R.K, .string a0.R.S, .int .i64 a0.R.V.K, .int .i64 a0.R.V.N, .string a0.R.V.S] := Bx.via (by simp (maxDischargeDepth := 9)) hb2
 have ⟨Xbx1_2k0, Xbx1_2k1, Xbx1_2k2, Xbx1_2k3, Xbx1_2k4, Xbx1_2k5, Xbx1_2k6, Xbx1_2k7, Xbx1_2k8, Xbx1_2k9, Xbx1_2k10⟩ := bx11 Xbx1_2
 cases h3 : inR a0.Op (1 : Int) (3 : Int) with
 | true =>
  have ⟨h3a, h3b⟩ := inR_true h3
  replace h3 := Lib.hid h3
  go_wp2_with fail
  refine (sArgOk_w a0.L  _ ok_a0.2.1).mono ?_
  rintro e w4 ⟨rfl, hb4⟩
  have B4 := via (w0 := w) (by simp (maxDischargeDepth := 9) [B2]) hb4
  have U4 : Below w2.heap.size w2 w4 := via (by simp (maxDischargeDepth := 9)) hb4
  have Xbx1_4 := Xbx1_2.via U4
  clear Xbx1_2 Xbx1_2k0 Xbx1_2k1 Xbx1_2k2 Xbx1_2k3 Xbx1_2k4 Xbx1_2k5 Xbx1_2k6 Xbx1_2k7 Xbx1_2k8 Xbx1_2k9 Xbx1_2k10
  have ⟨Xbx1_4k0, Xbx1_4k1, Xbx1_4k2, Xbx1_4k3, Xbx1_4k4, Xbx1_4k5, Xbx1_4k6, Xbx1_4k7, Xbx1_4k8, Xbx1_4k9, Xbx1_4k10⟩ := bx11 Xbx1_4
  clear U4
  clear B2
  cases h5 : sArgOk_p a0.L with
  | true =>
   replace h5 := Lib.hid h5
   go_wp2_with fail
   refine (sArgOk_w a0.R  _ ok_a0.2.2).mono ?_
   rintro e w6 ⟨rfl, hb6⟩
   have B6 := via (w0 := w) (by simp (maxDischargeDepth := 9) [B4]) hb6
   have U6 : Below w4.heap.size w4 w6 := via (by simp (maxDischargeDepth := 9)) hb6
   have Xbx1_6 := Xbx1_4.via U6
   clear Xbx1_4 Xbx1_4k0 Xbx1_4k1 Xbx1_4k2 Xbx1_4k3 Xbx1_4k4 Xbx1_4k5 Xbx1_4k6 Xbx1_4k7 Xbx1_4k8 Xbx1_4k9 Xbx1_4k10
   have ⟨Xbx1_6k0, Xbx1_6k1, Xbx1_6k2, Xbx1_6k3, Xbx1_6k4, Xbx1_6k5, Xbx1_6k6, Xbx1_6k7, Xbx1_6k8, Xbx1_6k9, Xbx1_6k10⟩ := bx11 Xbx1_6
   clear U6
   clear B4
   cases h7 : sArgOk_p a0.R with
   | true =>
    replace h7 := Lib.hid h7
    obtain ⟨bh8, eh8⟩ : ∃ b, (a0.L.K == 3) = b := ⟨_, rfl⟩
    have nh8 : (a0.L.K != 3) = !bh8 := by rw [← eh8]; rfl
    rcases Bool.eq_false_or_eq_true bh8 with h8 | h8
    ·
     obtain rfl : r = false := hr.out.symm.trans (by simp only [sCondOk_p, h3.out, h5.out, h7.out, eh8, h8, cond_true])
     go_wp2
     go_ret
     exact rbk (by simp (maxDischargeDepth := 9) [B6])
    ·
     obtain ⟨bh9, eh9⟩ : ∃ b, (a0.R.K == 3) = b := ⟨_, rfl⟩
     have nh9 : (a0.R.K != 3) = !bh9 := by rw [← eh9]; rfl
     rcases Bool.eq_false_or_eq_true bh9 with h9 | h9
     ·
      obtain rfl : r = false := hr.out.symm.trans (by simp only [sCondOk_p, h3.out, h5.out, h7.out, eh8, h8, eh9, h9, cond_true, cond_false])
      go_wp2
      go_ret
      exact rbk (by simp (maxDischargeDepth := 9) [B6])
     ·
      obtain rfl : r = true := hr.out.symm.trans (by simp only [sCondOk_p, h3.out, h5.out, h7.out, eh8, h8, eh9, h9, cond_true, cond_false])
      go_wp2
      go_ret
      exact rbk (by simp (maxDischargeDepth := 9) [B6])
   | false =>
    replace h7 := Lib.hid h7
    obtain rfl : r = false := hr.out.symm.trans (by simp only [sCondOk_p, h3.out, h5.out, h7.out, cond_true, cond_false])
    go_wp2
    go_ret
    exact rbk (by simp (maxDischargeDepth := 9) [B6])
  | false =>
   replace h5 := Lib.hid h5
   obtain rfl : r = false := hr.out.symm.trans (by simp only [sCondOk_p, h3.out, h5.out, cond_true, cond_false])
   go_wp2
   go_ret
   exact rbk (by simp (maxDischargeDepth := 9) [B4])
 | false =>
  replace h3 := Lib.hid h3
  obtain rfl : r = false := hr.out.symm.trans (by simp only [sCondOk_p, h3.out, cond_false])
  go_wp2
  go_ret
  exact rbk (by simp (maxDischargeDepth := 9) [B2])

-- spec.l9Known
def sl9Known_p (a0 : ArgD) (a1 : List ByteArray) : Bool := bif (a0.K == 1) then (sl6Has_p a1 a0.S) else (true)
set_option maxHeartbeats 1000000 in
set_option maxRecDepth 20000 in
theorem sl9Known_w (a0 : ArgD) (a1 : List ByteArray) (v1_0 : Value) (w : World) (s1_0 : Sl w a1 v1_0) :
    Calls Tryz.prog 334 #[.agg #[.int .i64 a0.K, .string a0.S, .int .i64 a0.V.K, .int .i64 a0.V.N, .string a0.V.S], v1_0] w (RetB (sl9Known_p a0 a1) w) := by
 obtain ⟨p1_0, c1_0, rfl, hl1_0, -, hk1_0, -⟩ := s1_0.open
 obtain ⟨r, hr⟩ : ∃ r, sl9Known_p a0 a1 = r := ⟨_, rfl⟩
 rw [hr]
 replace hr := Lib.hid hr
 go_enter Tryz.func334, Tryz.ntmps334
 obtain ⟨bh2, eh2⟩ : ∃ b, (a0.K == 1) = b := ⟨_, rfl⟩
 have nh2 : (a0.K != 1) = !bh2 := by rw [← eh2]; rfl
 rcases Bool.eq_false_or_eq_true bh2 with h2 | h2
 ·
  go_wp2_with fail
  refine (sl6Has_w a1 a0.S _ _ (s1_0.to (by simp (maxDischargeDepth := 9)))).mono ?_
  rintro e w3 ⟨rfl, hb3⟩
  have B3 := via (w0 := w) (by simp (maxDischargeDepth := 9)) hb3
  have Xbx1_3 : Bx w3 (w.heap.size) [.int .i64 a0.K, .string a0.S, .int .i64 a0.V.K, .int .i64 a0.V.N, .string a0.V.S] := Bx.via (by simp (maxDischargeDepth := 9)) hb3
  have ⟨Xbx1_3k0, Xbx1_3k1, Xbx1_3k2, Xbx1_3k3, Xbx1_3k4⟩ := bx5 Xbx1_3
  obtain rfl : r = sl6Has_p a1 a0.S := hr.out.symm.trans (by simp only [sl9Known_p, eh2, h2, cond_true])
  go_wp2
  go_ret
  exact rbk (by simp (maxDischargeDepth := 9) [B3])
 ·
  obtain rfl : r = true := hr.out.symm.trans (by simp only [sl9Known_p, eh2, h2, cond_false])
  go_wp2
  go_ret
  exact rbk (by simp (maxDischargeDepth := 9))

-- spec.l9Conds
def sl9Conds_p_b1 (a0 : List CondD) (a1 : List ByteArray) (k1 : Nat) (_ : Unit) : St (Bool) (Unit) := bif sCondOk_p (gt a0 k1) then (bif sl9Known_p ((gt a0 k1).L) a1 then (bif sl9Known_p ((gt a0 k1).R) a1 then (.go ()) else (.ret false)) else (.ret false)) else (.ret false)
def sl9Conds_p (a0 : List CondD) (a1 : List ByteArray) : Bool := match rounds (sl9Conds_p_b1 a0 a1) a0.length () with | .ret r => r | .brk _ => default | .go _ => bif decide (a0.length ≤ 6) then (true) else (false)
set_option maxHeartbeats 1000000 in
set_option maxRecDepth 20000 in
theorem sl9Conds_w (a0 : List CondD) (a1 : List ByteArray) (v0_0 : Value) (v1_0 : Value) (w : World) (s0_0 : Sl w a0 v0_0) (s1_0 : Sl w a1 v1_0) :
    Calls Tryz.prog 240 #[v0_0, v1_0] w (RetB (sl9Conds_p a0 a1) w) := by
 obtain ⟨p0_0, c0_0, rfl, hl0_0, -, hk0_0, -⟩ := s0_0.open
 obtain ⟨p1_0, c1_0, rfl, hl1_0, -, hk1_0, -⟩ := s1_0.open
 obtain ⟨r, hr⟩ : ∃ r, sl9Conds_p a0 a1 = r := ⟨_, rfl⟩
 rw [hr]
 replace hr := Lib.hid hr
 go_enter Tryz.func240, Tryz.ntmps240
 go_wp2
 go_loopw [5] (fun i5 wr1 => Below w.heap.size w wr1 ∧ ∃ (k1 : Nat), i5 = .int .i64 k1 ∧ k1 ≤ a0.length ∧ Hid (rounds (sl9Conds_p_b1 a0 a1) k1 () = .go ())) (fun i5 _ => a0.length - (intOf i5).toNat)
 case atStart => exact ⟨(by simp (maxDischargeDepth := 9)), 0, rfl, by omega, Lib.hid rfl⟩
 case round =>
  rename World => wr1
  obtain ⟨B2, k1, rfl, hk2, hy2⟩ := hrel
  by_cases hlt2 : k1 < a0.length
  ·
   have hi5 : k1 < a0.length := by first | assumption | omega
   obtain ⟨e4b, e4o, rfl, e4bl, e4ok, ⟨e4d0, e4d1, e4d2, e4d3, e4d4, e4d5, e4d6, e4d7, e4d8, e4d9, e4d10⟩⟩ := Sl.gtCond s0_0 k1 hi5
   have e4E := Lib.hid (And.intro e4d0 (And.intro e4d1 (And.intro e4d2 (And.intro e4d3 (And.intro e4d4 (And.intro e4d5 (And.intro e4d6 (And.intro e4d7 (And.intro e4d8 (And.intro e4d9 e4d10))))))))))
   clear e4d0 e4d1 e4d2 e4d3 e4d4 e4d5 e4d6 e4d7 e4d8 e4d9 e4d10
   have ⟨e4d0n, e4d1n, e4d2n, e4d3n, e4d4n, e4d5n, e4d6n, e4d7n, e4d8n, e4d9n, e4d10n⟩ := cb11 B2 e4bl e4E.out
   go_wp2_with fail
   refine (sCondOk_w (gt a0 k1)  _ e4ok).mono ?_
   rintro e w6 ⟨rfl, hb6⟩
   have B6 := via (w0 := w) (by simp (maxDischargeDepth := 9) [B2]) hb6
   clear e4d0n e4d1n e4d2n e4d3n e4d4n e4d5n e4d6n e4d7n e4d8n e4d9n e4d10n
   have ⟨e4d0n, e4d1n, e4d2n, e4d3n, e4d4n, e4d5n, e4d6n, e4d7n, e4d8n, e4d9n, e4d10n⟩ := cb11 B6 e4bl e4E.out
   clear B2
   cases h7 : sCondOk_p (gt a0 k1) with
   | true =>
    replace h7 := Lib.hid h7
    go_wp2_with fail
    refine (sl9Known_w ((gt a0 k1).L) a1 _ _ (s1_0.to (by simp (maxDischargeDepth := 9) [B6]))).mono ?_
    rintro e w8 ⟨rfl, hb8⟩
    have B8 := via (w0 := w) (by simp (maxDischargeDepth := 9) [B6]) hb8
    clear e4d0n e4d1n e4d2n e4d3n e4d4n e4d5n e4d6n e4d7n e4d8n e4d9n e4d10n
    have ⟨e4d0n, e4d1n, e4d2n, e4d3n, e4d4n, e4d5n, e4d6n, e4d7n, e4d8n, e4d9n, e4d10n⟩ := cb11 B8 e4bl e4E.out
    clear B6
    cases h9 : sl9Known_p ((gt a0 k1).L) a1 with
    | true =>
     replace h9 := Lib.hid h9
     go_wp2_with fail
     refine (sl9Known_w ((gt a0 k1).R) a1 _ _ (s1_0.to (by simp (maxDischargeDepth := 9) [B8]))).mono ?_
     rintro e w10 ⟨rfl, hb10⟩
     have B10 := via (w0 := w) (by simp (maxDischargeDepth := 9) [B8]) hb10
     clear e4d0n e4d1n e4d2n e4d3n e4d4n e4d5n e4d6n e4d7n e4d8n e4d9n e4d10n
     have ⟨e4d0n, e4d1n, e4d2n, e4d3n, e4d4n, e4d5n, e4d6n, e4d7n, e4d8n, e4d9n, e4d10n⟩ := cb11 B10 e4bl e4E.out
     clear B8
     cases h11 : sl9Known_p ((gt a0 k1).R) a1 with
     | true =>
      replace h11 := Lib.hid h11
      have q12 : sl9Conds_p_b1 a0 a1 k1 () = .go () := by simp only [sl9Conds_p_b1, h7.out, h9.out, h11.out, cond_true]
      replace q12 := Lib.hid (rounds_next hy2.out q12)
      go_wp2
      go_roundw
      case rel => exact ⟨(by simp (maxDischargeDepth := 9) [B10]), k1 + 1, by go_num, by omega, q12⟩
      case measure => simp [intOf]; omega
     | false =>
      replace h11 := Lib.hid h11
      have q13 : sl9Conds_p_b1 a0 a1 k1 () = .ret false := by simp only [sl9Conds_p_b1, h7.out, h9.out, h11.out, cond_true, cond_false]
      have q14 := rounds_ret hlt2 hy2.out q13
      obtain rfl : r = false := hr.out.symm.trans (by simp only [sl9Conds_p, q14])
      go_wp2
      go_ret
      exact rbk (by simp (maxDischargeDepth := 9) [B10])
    | false =>
     replace h9 := Lib.hid h9
     have q15 : sl9Conds_p_b1 a0 a1 k1 () = .ret false := by simp only [sl9Conds_p_b1, h7.out, h9.out, cond_true, cond_false]
     have q16 := rounds_ret hlt2 hy2.out q15
     obtain rfl : r = false := hr.out.symm.trans (by simp only [sl9Conds_p, q16])
     go_wp2
     go_ret
     exact rbk (by simp (maxDischargeDepth := 9) [B8])
   | false =>
    replace h7 := Lib.hid h7
    have q17 : sl9Conds_p_b1 a0 a1 k1 () = .ret false := by simp only [sl9Conds_p_b1, h7.out, cond_false]
    have q18 := rounds_ret hlt2 hy2.out q17
    obtain rfl : r = false := hr.out.symm.trans (by simp only [sl9Conds_p, q18])
    go_wp2
    go_ret
    exact rbk (by simp (maxDischargeDepth := 9) [B6])
  ·
   obtain rfl : a0.length = k1 := by omega
   by_cases h19 : a0.length ≤ 6
   ·
    have h19d := Lib.hid (decide_eq_true h19)
    obtain rfl : r = true := hr.out.symm.trans (by simp only [sl9Conds_p, hy2.out, h19d.out, cond_true])
    go_wp2
    go_ret
    exact rbk (by simp (maxDischargeDepth := 9) [B2])
   ·
    have h19d := Lib.hid (decide_eq_false h19)
    obtain rfl : r = false := hr.out.symm.trans (by simp only [sl9Conds_p, hy2.out, h19d.out, cond_false])
    go_wp2
    go_ret
    exact rbk (by simp (maxDischargeDepth := 9) [B2])

-- spec.l8Given
def sl8Given_p (a0 : ArgD) : Bool := bif sArgOk_p a0 then (bif (a0.K == 3) then (false) else (true)) else (false)
set_option maxHeartbeats 1000000 in
set_option maxRecDepth 20000 in
theorem sl8Given_w (a0 : ArgD) (w : World) (ok_a0 : okArg a0) :
    Calls Tryz.prog 473 #[.agg #[.int .i64 a0.K, .string a0.S, .int .i64 a0.V.K, .int .i64 a0.V.N, .string a0.V.S]] w (RetB (sl8Given_p a0) w) := by
 obtain ⟨r, hr⟩ : ∃ r, sl8Given_p a0 = r := ⟨_, rfl⟩
 rw [hr]
 replace hr := Lib.hid hr
 go_enter Tryz.func473, Tryz.ntmps473
 go_wp2_with fail
 refine (sArgOk_w a0  _ ok_a0).mono ?_
 rintro e w2 ⟨rfl, hb2⟩
 have B2 := via (w0 := w) (by simp (maxDischargeDepth := 9)) hb2
 have Xbx1_2 : Bx w2 (w.heap.size) [.int .i64 a0.K, .string a0.S, .int .i64 a0.V.K, .int .i64 a0.V.N, .string a0.V.S] := Bx.via (by simp (maxDischargeDepth := 9)) hb2
 have ⟨Xbx1_2k0, Xbx1_2k1, Xbx1_2k2, Xbx1_2k3, Xbx1_2k4⟩ := bx5 Xbx1_2
 cases h3 : sArgOk_p a0 with
 | true =>
  replace h3 := Lib.hid h3
  obtain ⟨bh4, eh4⟩ : ∃ b, (a0.K == 3) = b := ⟨_, rfl⟩
  have nh4 : (a0.K != 3) = !bh4 := by rw [← eh4]; rfl
  rcases Bool.eq_false_or_eq_true bh4 with h4 | h4
  ·
   obtain rfl : r = false := hr.out.symm.trans (by simp only [sl8Given_p, h3.out, eh4, h4, cond_true])
   go_wp2
   go_ret
   exact rbk (by simp (maxDischargeDepth := 9) [B2])
  ·
   obtain rfl : r = true := hr.out.symm.trans (by simp only [sl8Given_p, h3.out, eh4, h4, cond_true, cond_false])
   go_wp2
   go_ret
   exact rbk (by simp (maxDischargeDepth := 9) [B2])
 | false =>
  replace h3 := Lib.hid h3
  obtain rfl : r = false := hr.out.symm.trans (by simp only [sl8Given_p, h3.out, cond_false])
  go_wp2
  go_ret
  exact rbk (by simp (maxDischargeDepth := 9) [B2])

-- spec.ExprOk
def sExprOk_p (a0 : ExprD) : Bool := bif a0.Op.toList.isEmpty then (bif sl8Given_p a0.L then (bif (a0.R.K == 0) then (bif a0.R.S.toList.isEmpty then (bif (a0.R.V.K == 0) then (bif (a0.R.V.N == 0) then (bif a0.R.V.S.toList.isEmpty then (true) else (false)) else (false)) else (false)) else (false)) else (false)) else (false)) else (bif (a0.Op.toList == [43]) then (bif sl8Given_p a0.L then (sl8Given_p a0.R) else (false)) else (bif (a0.Op.toList == [45]) then (bif sl8Given_p a0.L then (sl8Given_p a0.R) else (false)) else (false)))
set_option maxHeartbeats 1000000 in
set_option maxRecDepth 20000 in
theorem sExprOk_w (a0 : ExprD) (w : World) (ok_a0 : okExpr a0) :
    Calls Tryz.prog 444 #[.agg #[.string a0.Op, .int .i64 a0.L.K, .string a0.L.S, .int .i64 a0.L.V.K, .int .i64 a0.L.V.N, .string a0.L.V.S, .int .i64 a0.R.K, .string a0.R.S, .int .i64 a0.R.V.K, .int .i64 a0.R.V.N, .string a0.R.V.S]] w (RetB (sExprOk_p a0) w) := by
 obtain ⟨r, hr⟩ : ∃ r, sExprOk_p a0 = r := ⟨_, rfl⟩
 rw [hr]
 replace hr := Lib.hid hr
 go_enter Tryz.func444, Tryz.ntmps444
 obtain ⟨bh2, eh2⟩ : ∃ b, a0.Op.toList.isEmpty = b := ⟨_, rfl⟩
 rcases Bool.eq_false_or_eq_true bh2 with h2 | h2
 ·
  go_wp2_with fail
  refine (sl8Given_w a0.L  _ ok_a0.2.1).mono ?_
  rintro e w3 ⟨rfl, hb3⟩
  have B3 := via (w0 := w) (by simp (maxDischargeDepth := 9)) hb3
  have Xbx1_3 : Bx w3 (w.heap.size) [.string a0.Op, .int .i64 a0.L.K, .string a0.L.S, .int .i64 a0.L.V.K, .int .i64 a0.L.V.N, .string a0.L.V.S, .int .i64 a0.R.K, .string a0.R.S, .int .i64 a0.R.V.K, .int .i64 a0.R.V.N, .string a0.R.V.S] := Bx.via (by simp (maxDischargeDepth := 9)) hb3
  have ⟨Xbx1_3k0, Xbx1_3k1, Xbx1_3k2, Xbx1_3k3, Xbx1_3k4, Xbx1_3k5, Xbx1_3k6, Xbx1_3k7, Xbx1_3k8, Xbx1_3k9, Xbx1_3k10⟩ := bx11 Xbx1_3
  cases h4 : sl8Given_p a0.L with
  | true =>
   replace h4 := Lib.hid h4
   obtain ⟨bh5, eh5⟩ : ∃ b, (a0.R.K == 0) = b := ⟨_, rfl⟩
   rcases Bool.eq_false_or_eq_true bh5 with h5 | h5
   ·
    obtain ⟨bh6, eh6⟩ : ∃ b, a0.R.S.toList.isEmpty = b := ⟨_, rfl⟩
    rcases Bool.eq_false_or_eq_true bh6 with h6 | h6
    ·
     obtain ⟨bh7, eh7⟩ : ∃ b, (a0.R.V.K == 0) = b := ⟨_, rfl⟩
     rcases Bool.eq_false_or_eq_true bh7 with h7 | h7
     ·
      obtain ⟨bh8, eh8⟩ : ∃ b, (a0.R.V.N == 0) = b := ⟨_, rfl⟩
      rcases Bool.eq_false_or_eq_true bh8 with h8 | h8
      ·
       obtain ⟨bh9, eh9⟩ : ∃ b, a0.R.V.S.toList.isEmpty = b := ⟨_, rfl⟩
       rcases Bool.eq_false_or_eq_true bh9 with h9 | h9
       ·
        obtain rfl : r = true := hr.out.symm.trans (by simp only [sExprOk_p, eh2, h2, h4.out, eh5, h5, eh6, h6, eh7, h7, eh8, h8, eh9, h9, cond_true])
        go_wp2
        go_ret
        exact rbk (by simp (maxDischargeDepth := 9) [B3])
       ·
        obtain rfl : r = false := hr.out.symm.trans (by simp only [sExprOk_p, eh2, h2, h4.out, eh5, h5, eh6, h6, eh7, h7, eh8, h8, eh9, h9, cond_true, cond_false])
        go_wp2
        go_ret
        exact rbk (by simp (maxDischargeDepth := 9) [B3])
      ·
       obtain rfl : r = false := hr.out.symm.trans (by simp only [sExprOk_p, eh2, h2, h4.out, eh5, h5, eh6, h6, eh7, h7, eh8, h8, cond_true, cond_false])
       go_wp2
       go_ret
       exact rbk (by simp (maxDischargeDepth := 9) [B3])
     ·
      obtain rfl : r = false := hr.out.symm.trans (by simp only [sExprOk_p, eh2, h2, h4.out, eh5, h5, eh6, h6, eh7, h7, cond_true, cond_false])
      go_wp2
      go_ret
      exact rbk (by simp (maxDischargeDepth := 9) [B3])
    ·
     obtain rfl : r = false := hr.out.symm.trans (by simp only [sExprOk_p, eh2, h2, h4.out, eh5, h5, eh6, h6, cond_true, cond_false])
     go_wp2
     go_ret
     exact rbk (by simp (maxDischargeDepth := 9) [B3])
   ·
    obtain rfl : r = false := hr.out.symm.trans (by simp only [sExprOk_p, eh2, h2, h4.out, eh5, h5, cond_true, cond_false])
    go_wp2
    go_ret
    exact rbk (by simp (maxDischargeDepth := 9) [B3])
  | false =>
   replace h4 := Lib.hid h4
   obtain rfl : r = false := hr.out.symm.trans (by simp only [sExprOk_p, eh2, h2, h4.out, cond_true, cond_false])
   go_wp2
   go_ret
   exact rbk (by simp (maxDischargeDepth := 9) [B3])
 ·
  obtain ⟨bh10, eh10⟩ : ∃ b, (a0.Op.toList == [43]) = b := ⟨_, rfl⟩
  rcases Bool.eq_false_or_eq_true bh10 with h10 | h10
  ·
   go_wp2_with fail
   refine (sl8Given_w a0.L  _ ok_a0.2.1).mono ?_
   rintro e w11 ⟨rfl, hb11⟩
   have B11 := via (w0 := w) (by simp (maxDischargeDepth := 9)) hb11
   have Xbx1_11 : Bx w11 (w.heap.size) [.string a0.Op, .int .i64 a0.L.K, .string a0.L.S, .int .i64 a0.L.V.K, .int .i64 a0.L.V.N, .string a0.L.V.S, .int .i64 a0.R.K, .string a0.R.S, .int .i64 a0.R.V.K, .int .i64 a0.R.V.N, .string a0.R.V.S] := Bx.via (by simp (maxDischargeDepth := 9)) hb11
   have ⟨Xbx1_11k0, Xbx1_11k1, Xbx1_11k2, Xbx1_11k3, Xbx1_11k4, Xbx1_11k5, Xbx1_11k6, Xbx1_11k7, Xbx1_11k8, Xbx1_11k9, Xbx1_11k10⟩ := bx11 Xbx1_11
   cases h12 : sl8Given_p a0.L with
   | true =>
    replace h12 := Lib.hid h12
    go_wp2_with fail
    refine (sl8Given_w a0.R  _ ok_a0.2.2).mono ?_
    rintro e w13 ⟨rfl, hb13⟩
    have B13 := via (w0 := w) (by simp (maxDischargeDepth := 9) [B11]) hb13
    have U13 : Below w11.heap.size w11 w13 := via (by simp (maxDischargeDepth := 9)) hb13
    have Xbx1_13 := Xbx1_11.via U13
    clear Xbx1_11 Xbx1_11k0 Xbx1_11k1 Xbx1_11k2 Xbx1_11k3 Xbx1_11k4 Xbx1_11k5 Xbx1_11k6 Xbx1_11k7 Xbx1_11k8 Xbx1_11k9 Xbx1_11k10
    have ⟨Xbx1_13k0, Xbx1_13k1, Xbx1_13k2, Xbx1_13k3, Xbx1_13k4, Xbx1_13k5, Xbx1_13k6, Xbx1_13k7, Xbx1_13k8, Xbx1_13k9, Xbx1_13k10⟩ := bx11 Xbx1_13
    clear U13
    clear B11
    obtain rfl : r = sl8Given_p a0.R := hr.out.symm.trans (by simp only [sExprOk_p, eh2, h2, eh10, h10, h12.out, cond_true, cond_false])
    go_wp2
    go_ret
    exact rbk (by simp (maxDischargeDepth := 9) [B13])
   | false =>
    replace h12 := Lib.hid h12
    obtain rfl : r = false := hr.out.symm.trans (by simp only [sExprOk_p, eh2, h2, eh10, h10, h12.out, cond_true, cond_false])
    go_wp2
    go_ret
    exact rbk (by simp (maxDischargeDepth := 9) [B11])
  ·
   obtain ⟨bh14, eh14⟩ : ∃ b, (a0.Op.toList == [45]) = b := ⟨_, rfl⟩
   rcases Bool.eq_false_or_eq_true bh14 with h14 | h14
   ·
    go_wp2_with fail
    refine (sl8Given_w a0.L  _ ok_a0.2.1).mono ?_
    rintro e w15 ⟨rfl, hb15⟩
    have B15 := via (w0 := w) (by simp (maxDischargeDepth := 9)) hb15
    have Xbx1_15 : Bx w15 (w.heap.size) [.string a0.Op, .int .i64 a0.L.K, .string a0.L.S, .int .i64 a0.L.V.K, .int .i64 a0.L.V.N, .string a0.L.V.S, .int .i64 a0.R.K, .string a0.R.S, .int .i64 a0.R.V.K, .int .i64 a0.R.V.N, .string a0.R.V.S] := Bx.via (by simp (maxDischargeDepth := 9)) hb15
    have ⟨Xbx1_15k0, Xbx1_15k1, Xbx1_15k2, Xbx1_15k3, Xbx1_15k4, Xbx1_15k5, Xbx1_15k6, Xbx1_15k7, Xbx1_15k8, Xbx1_15k9, Xbx1_15k10⟩ := bx11 Xbx1_15
    cases h16 : sl8Given_p a0.L with
    | true =>
     replace h16 := Lib.hid h16
     go_wp2_with fail
     refine (sl8Given_w a0.R  _ ok_a0.2.2).mono ?_
     rintro e w17 ⟨rfl, hb17⟩
     have B17 := via (w0 := w) (by simp (maxDischargeDepth := 9) [B15]) hb17
     have U17 : Below w15.heap.size w15 w17 := via (by simp (maxDischargeDepth := 9)) hb17
     have Xbx1_17 := Xbx1_15.via U17
     clear Xbx1_15 Xbx1_15k0 Xbx1_15k1 Xbx1_15k2 Xbx1_15k3 Xbx1_15k4 Xbx1_15k5 Xbx1_15k6 Xbx1_15k7 Xbx1_15k8 Xbx1_15k9 Xbx1_15k10
     have ⟨Xbx1_17k0, Xbx1_17k1, Xbx1_17k2, Xbx1_17k3, Xbx1_17k4, Xbx1_17k5, Xbx1_17k6, Xbx1_17k7, Xbx1_17k8, Xbx1_17k9, Xbx1_17k10⟩ := bx11 Xbx1_17
     clear U17
     clear B15
     obtain rfl : r = sl8Given_p a0.R := hr.out.symm.trans (by simp only [sExprOk_p, eh2, h2, eh10, h10, eh14, h14, h16.out, cond_true, cond_false])
     go_wp2
     go_ret
     exact rbk (by simp (maxDischargeDepth := 9) [B17])
    | false =>
     replace h16 := Lib.hid h16
     obtain rfl : r = false := hr.out.symm.trans (by simp only [sExprOk_p, eh2, h2, eh10, h10, eh14, h14, h16.out, cond_true, cond_false])
     go_wp2
     go_ret
     exact rbk (by simp (maxDischargeDepth := 9) [B15])
   ·
    obtain rfl : r = false := hr.out.symm.trans (by simp only [sExprOk_p, eh2, h2, eh10, h10, eh14, h14, cond_false])
    go_wp2
    go_ret
    exact rbk (by simp (maxDischargeDepth := 9))

-- spec.l8Args
def sl8Args_p_b1 (a0 : List ExprD) (k1 : Nat) (_ : Unit) : St (Bool) (Unit) := bif sExprOk_p (gt a0 k1) then (.go ()) else (.ret false)
def sl8Args_p (a0 : List ExprD) : Bool := match rounds (sl8Args_p_b1 a0) a0.length () with | .ret r => r | .brk _ => default | .go _ => bif decide (a0.length ≤ 5) then (true) else (false)
set_option maxHeartbeats 1000000 in
set_option maxRecDepth 20000 in
theorem sl8Args_w (a0 : List ExprD) (v0_0 : Value) (w : World) (s0_0 : Sl w a0 v0_0) :
    Calls Tryz.prog 400 #[v0_0] w (RetB (sl8Args_p a0) w) := by
 obtain ⟨p0_0, c0_0, rfl, hl0_0, -, hk0_0, -⟩ := s0_0.open
 obtain ⟨r, hr⟩ : ∃ r, sl8Args_p a0 = r := ⟨_, rfl⟩
 rw [hr]
 replace hr := Lib.hid hr
 go_enter Tryz.func400, Tryz.ntmps400
 go_wp2
 go_loopw [3] (fun i3 wr1 => Below w.heap.size w wr1 ∧ ∃ (k1 : Nat), i3 = .int .i64 k1 ∧ k1 ≤ a0.length ∧ Hid (rounds (sl8Args_p_b1 a0) k1 () = .go ())) (fun i3 _ => a0.length - (intOf i3).toNat)
 case atStart => exact ⟨(by simp (maxDischargeDepth := 9)), 0, rfl, by omega, Lib.hid rfl⟩
 case round =>
  rename World => wr1
  obtain ⟨B2, k1, rfl, hk2, hy2⟩ := hrel
  by_cases hlt2 : k1 < a0.length
  ·
   have hi5 : k1 < a0.length := by first | assumption | omega
   obtain ⟨e4b, e4o, rfl, e4bl, e4ok, ⟨e4d0, e4d1, e4d2, e4d3, e4d4, e4d5, e4d6, e4d7, e4d8, e4d9, e4d10⟩⟩ := Sl.gtExpr s0_0 k1 hi5
   have e4E := Lib.hid (And.intro e4d0 (And.intro e4d1 (And.intro e4d2 (And.intro e4d3 (And.intro e4d4 (And.intro e4d5 (And.intro e4d6 (And.intro e4d7 (And.intro e4d8 (And.intro e4d9 e4d10))))))))))
   clear e4d0 e4d1 e4d2 e4d3 e4d4 e4d5 e4d6 e4d7 e4d8 e4d9 e4d10
   have ⟨e4d0n, e4d1n, e4d2n, e4d3n, e4d4n, e4d5n, e4d6n, e4d7n, e4d8n, e4d9n, e4d10n⟩ := cb11 B2 e4bl e4E.out
   go_wp2_with fail
   refine (sExprOk_w (gt a0 k1)  _ e4ok).mono ?_
   rintro e w6 ⟨rfl, hb6⟩
   have B6 := via (w0 := w) (by simp (maxDischargeDepth := 9) [B2]) hb6
   clear e4d0n e4d1n e4d2n e4d3n e4d4n e4d5n e4d6n e4d7n e4d8n e4d9n e4d10n
   have ⟨e4d0n, e4d1n, e4d2n, e4d3n, e4d4n, e4d5n, e4d6n, e4d7n, e4d8n, e4d9n, e4d10n⟩ := cb11 B6 e4bl e4E.out
   clear B2
   cases h7 : sExprOk_p (gt a0 k1) with
   | true =>
    replace h7 := Lib.hid h7
    have q8 : sl8Args_p_b1 a0 k1 () = .go () := by simp only [sl8Args_p_b1, h7.out, cond_true]
    replace q8 := Lib.hid (rounds_next hy2.out q8)
    go_wp2
    go_roundw
    case rel => exact ⟨(by simp (maxDischargeDepth := 9) [B6]), k1 + 1, by go_num, by omega, q8⟩
    case measure => simp [intOf]; omega
   | false =>
    replace h7 := Lib.hid h7
    have q9 : sl8Args_p_b1 a0 k1 () = .ret false := by simp only [sl8Args_p_b1, h7.out, cond_false]
    have q10 := rounds_ret hlt2 hy2.out q9
    obtain rfl : r = false := hr.out.symm.trans (by simp only [sl8Args_p, q10])
    go_wp2
    go_ret
    exact rbk (by simp (maxDischargeDepth := 9) [B6])
  ·
   obtain rfl : a0.length = k1 := by omega
   by_cases h11 : a0.length ≤ 5
   ·
    have h11d := Lib.hid (decide_eq_true h11)
    obtain rfl : r = true := hr.out.symm.trans (by simp only [sl8Args_p, hy2.out, h11d.out, cond_true])
    go_wp2
    go_ret
    exact rbk (by simp (maxDischargeDepth := 9) [B2])
   ·
    have h11d := Lib.hid (decide_eq_false h11)
    obtain rfl : r = false := hr.out.symm.trans (by simp only [sl8Args_p, hy2.out, h11d.out, cond_false])
    go_wp2
    go_ret
    exact rbk (by simp (maxDischargeDepth := 9) [B2])
end Go.Proofs.YthnilnggpbploaaGreat
