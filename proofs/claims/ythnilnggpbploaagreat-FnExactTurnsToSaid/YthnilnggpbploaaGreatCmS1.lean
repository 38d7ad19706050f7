/- Functions that only read, walked (S). Printed by a program. -/
import Derived.Test.YthnilnggpbploaaGreatRd
namespace Go.Proofs.YthnilnggpbploaaGreat
open Go.RowKit
open Cel (rd own rd_len rd_one own_rd own_lt rd_below rd_mono own_keep)

-- spec.WorkAt
def sWorkAt_p_b1 (a0 : BookD) (a1 : ByteArray) (k2 : Nat) (_ : Unit) : St (Int) (Unit) := bif (((gt a0.Works k2).Name).toList == a1.toList) then (.ret (k2 : Int)) else (.go ())
def sWorkAt_p (a0 : BookD) (a1 : ByteArray) : Int := match rounds (sWorkAt_p_b1 a0 a1) a0.Works.length () with | .ret r => r | .brk _ => default | .go _ => (-1 : Int)
set_option maxHeartbeats 1000000 in
set_option maxRecDepth 20000 in
theorem sWorkAt_w (a0 : BookD) (a1 : ByteArray) (v0_0 : Value) (v0_1 : Value) (w : World) (s0_0 : Sl w a0.Defs v0_0) (s0_1 : Sl w a0.Works v0_1) :
    Calls Tryz.prog 57 #[.agg #[v0_0, v0_1, .int .i64 a0.Now, .int .i64 a0.Ring], .string a1] w (RetI (sWorkAt_p a0 a1) w) := by
 obtain ⟨p0_0, c0_0, rfl, hl0_0, -, hk0_0, -⟩ := s0_0.open
 obtain ⟨p0_1, c0_1, rfl, hl0_1, -, hk0_1, -⟩ := s0_1.open
 obtain ⟨r, hr⟩ : ∃ r, sWorkAt_p a0 a1 = r := ⟨_, rfl⟩
 rw [hr]
 replace hr := Lib.hid hr
 go_enter Tryz.func57, Tryz.ntmps57
 go_wp2
 go_loopw [5] (fun i5 wr2 => Below w.heap.size w wr2 ∧ Bx wr2 (w.heap.size) [.slice p0_0 a0.Defs.length c0_0, .slice p0_1 a0.Works.length c0_1, .int .i64 a0.Now, .int .i64 a0.Ring] ∧ ∃ (k2 : Nat), i5 = .int .i64 k2 ∧ k2 ≤ a0.Works.length ∧ Hid (rounds (sWorkAt_p_b1 a0 a1) k2 () = .go ())) (fun i5 _ => a0.Works.length - (intOf i5).toNat)
 case atStart => exact ⟨(by simp (maxDischargeDepth := 9)), (by simp (maxDischargeDepth := 9)), 0, rfl, by omega, Lib.hid rfl⟩
 case round =>
  rename World => wr2
  obtain ⟨B3, Xbx1_3, k2, rfl, hk3, hy3⟩ := hrel
  have ⟨Xbx1_3k0, Xbx1_3k1, Xbx1_3k2, Xbx1_3k3⟩ := bx4 Xbx1_3
  by_cases hlt3 : k2 < a0.Works.length
  ·
   have hi6 : k2 < a0.Works.length := by first | assumption | omega
   obtain ⟨e5b, e5o, ue5_2, ue5_4, ue5_5, ue5_6, ue5_7, rfl, e5bl, e5ok, ⟨e5d0, e5d1, e5d2, e5d3, e5d4, e5d5, e5d6, e5d7, e5d8, e5d9⟩, te5_2, te5_4, te5_5, te5_6, te5_7⟩ := Sl.gtWork s0_1 k2 hi6
   obtain ⟨pe5_2, ce5_2, rfl, hlpe5_2, -⟩ := te5_2.open
   obtain ⟨pe5_4, ce5_4, rfl, hlpe5_4, -⟩ := te5_4.open
   obtain ⟨pe5_5, ce5_5, rfl, hlpe5_5, -⟩ := te5_5.open
   obtain ⟨pe5_6, ce5_6, rfl, hlpe5_6, -⟩ := te5_6.open
   obtain ⟨pe5_7, ce5_7, rfl, hlpe5_7, -⟩ := te5_7.open
   have e5E := Lib.hid (And.intro e5d0 (And.intro e5d1 (And.intro e5d2 (And.intro e5d3 (And.intro e5d4 (And.intro e5d5 (And.intro e5d6 (And.intro e5d7 (And.intro e5d8 e5d9)))))))))
   clear e5d0 e5d1 e5d2 e5d3 e5d4 e5d5 e5d6 e5d7 e5d8 e5d9
   have ⟨e5d0n, e5d1n, e5d2n, e5d3n, e5d4n, e5d5n, e5d6n, e5d7n, e5d8n, e5d9n⟩ := cb10 B3 e5bl e5E.out
   obtain ⟨bh7, eh7⟩ : ∃ b, (((gt a0.Works k2).Name).toList == a1.toList) = b := ⟨_, rfl⟩
   rcases Bool.eq_false_or_eq_true bh7 with h7 | h7
   ·
    have q8 : sWorkAt_p_b1 a0 a1 k2 () = .ret (k2 : Int) := by simp only [sWorkAt_p_b1, eh7, h7, cond_true]
    have q9 := rounds_ret hlt3 hy3.out q8
    obtain rfl : r = (k2 : Int) := hr.out.symm.trans (by simp only [sWorkAt_p, q9])
    go_wp2
    go_ret
    exact ⟨by first | rfl | simp, (by simp (maxDischargeDepth := 9) [B3])⟩
   ·
    have q10 : sWorkAt_p_b1 a0 a1 k2 () = .go () := by simp only [sWorkAt_p_b1, eh7, h7, cond_false]
    replace q10 := Lib.hid (rounds_next hy3.out q10)
    go_wp2
    go_roundw
    case rel => exact ⟨(by simp (maxDischargeDepth := 9) [B3]), (by simp (maxDischargeDepth := 9) [Xbx1_3]), k2 + 1, by go_num, by omega, q10⟩
    case measure => simp [intOf]; omega
  ·
   obtain rfl : a0.Works.length = k2 := by omega
   obtain rfl : r = (-1 : Int) := hr.out.symm.trans (by simp only [sWorkAt_p, hy3.out])
   go_wp2
   go_ret
   exact ⟨by first | rfl | simp, (by simp (maxDischargeDepth := 9) [B3])⟩

-- spec.l1Letter
def sl1Letter_p (a0 : UInt8) : Bool := bif inR (a0.toNat : Int) (97 : Int) (122 : Int) then (true) else (bif inR (a0.toNat : Int) (48 : Int) (57 : Int) then (true) else (bif ((a0.toNat : Int) == 95) then (true) else (false)))
set_option maxHeartbeats 1000000 in
set_option maxRecDepth 20000 in
theorem sl1Letter_w (a0 : UInt8) (w : World) :
    Calls Tryz.prog 156 #[.int .u8 (a0.toNat : Int)] w (RetB (sl1Letter_p a0) w) := by
 obtain ⟨r, hr⟩ : ∃ r, sl1Letter_p a0 = r := ⟨_, rfl⟩
 rw [hr]
 replace hr := Lib.hid hr
 go_enter Tryz.func156, Tryz.ntmps156
 go_wp2_with fail
 refine (sl1In_w (a0.toNat : Int) (97 : Int) (122 : Int)  _ ).mono ?_
 rintro e w1 ⟨rfl, hb1⟩
 have B1 := via (w0 := w) (by simp (maxDischargeDepth := 9)) hb1
 cases h2 : inR (a0.toNat : Int) (97 : Int) (122 : Int) with
 | true =>
  have ⟨h2a, h2b⟩ := inR_true h2
  replace h2 := Lib.hid h2
  obtain rfl : r = true := hr.out.symm.trans (by simp only [sl1Letter_p, h2.out, cond_true])
  go_wp2
  go_ret
  exact rbk (by simp (maxDischargeDepth := 9) [B1])
 | false =>
  replace h2 := Lib.hid h2
  go_wp2_with fail
  refine (sl1In_w (a0.toNat : Int) (48 : Int) (57 : Int)  _ ).mono ?_
  rintro e w3 ⟨rfl, hb3⟩
  have B3 := via (w0 := w) (by simp (maxDischargeDepth := 9) [B1]) hb3
  clear B1
  cases h4 : inR (a0.toNat : Int) (48 : Int) (57 : Int) with
  | true =>
   have ⟨h4a, h4b⟩ := inR_true h4
   replace h4 := Lib.hid h4
   obtain rfl : r = true := hr.out.symm.trans (by simp only [sl1Letter_p, h2.out, h4.out, cond_true, cond_false])
   go_wp2
   go_ret
   exact rbk (by simp (maxDischargeDepth := 9) [B3])
  | false =>
   replace h4 := Lib.hid h4
   obtain ⟨bh5, eh5⟩ : ∃ b, ((a0.toNat : Int) == 95) = b := ⟨_, rfl⟩
   rcases Bool.eq_false_or_eq_true bh5 with h5 | h5
   ·
    obtain rfl : r = true := hr.out.symm.trans (by simp only [sl1Letter_p, h2.out, h4.out, eh5, h5, cond_true, cond_false])
    go_wp2
    go_ret
    exact rbk (by simp (maxDischargeDepth := 9) [B3])
   ·
    obtain rfl : r = false := hr.out.symm.trans (by simp only [sl1Letter_p, h2.out, h4.out, eh5, h5, cond_false])
    go_wp2
    go_ret
    exact rbk (by simp (maxDischargeDepth := 9) [B3])

-- spec.NameOk
def sNameOk_p_b1 (a0 : ByteArray) (k1 : Nat) (_ : Unit) : St (Bool) (Unit) := bif sl1Letter_p (bt a0 k1) then (bif ((k1 : Int) == 0) then (bif inR ((bt a0 k1).toNat : Int) (97 : Int) (122 : Int) then (.go ()) else (.ret false)) else (.go ())) else (.ret false)
def sNameOk_p (a0 : ByteArray) : Bool := match rounds (sNameOk_p_b1 a0) a0.size () with | .ret r => r | .brk _ => default | .go _ => inR ((a0.size : Nat) : Int) (1 : Int) (12 : Int)
set_option maxHeartbeats 1000000 in
set_option maxRecDepth 20000 in
theorem sNameOk_w (a0 : ByteArray) (w : World) (ok_a0 : a0.size ≤ maxLen) :
    Calls Tryz.prog 91 #[.string a0] w (RetB (sNameOk_p a0) w) := by
 obtain ⟨r, hr⟩ : ∃ r, sNameOk_p a0 = r := ⟨_, rfl⟩
 rw [hr]
 replace hr := Lib.hid hr
 go_enter Tryz.func91, Tryz.ntmps91
 have hmk1 : a0.size ≤ 9223372036854775807 := by have h := ok_a0; simpa [maxLen] using h
 go_wp2
 go_loopw [3] (fun i3 wr1 => Below w.heap.size w wr1 ∧ ∃ (k1 : Nat), i3 = .int .i64 k1 ∧ k1 ≤ a0.size ∧ Hid (rounds (sNameOk_p_b1 a0) k1 () = .go ())) (fun i3 _ => a0.size - (intOf i3).toNat)
 case atStart => exact ⟨(by simp (maxDischargeDepth := 9)), 0, rfl, by omega, Lib.hid rfl⟩
 case round =>
  rename World => wr1
  obtain ⟨B2, k1, rfl, hk2, hy2⟩ := hrel
  by_cases hlt2 : k1 < a0.size
  ·
   have hs4 : k1 < a0.size := by first | assumption | omega
   go_wp2_with fail
   refine (sl1Letter_w (bt a0 k1)  _ ).mono ?_
   rintro e w5 ⟨rfl, hb5⟩
   have B5 := via (w0 := w) (by simp (maxDischargeDepth := 9) [B2]) hb5
   clear B2
   cases h6 : sl1Letter_p (bt a0 k1) with
   | true =>
    replace h6 := Lib.hid h6
    obtain ⟨bh7, eh7⟩ : ∃ b, ((k1 : Int) == 0) = b := ⟨_, rfl⟩
    rcases Bool.eq_false_or_eq_true bh7 with h7 | h7
    ·
     have gh7 : Hid (k1 = 0) := Lib.hid (by have z := eh7.trans h7; simp only [beq_iff_eq] at z; omega)
     have hs8 : k1 < a0.size := by first | assumption | omega
     go_wp2_with fail
     refine (sl1In_w ((bt a0 k1).toNat : Int) (97 : Int) (122 : Int)  _ ).mono ?_
     rintro e w9 ⟨rfl, hb9⟩
     have B9 := via (w0 := w) (by simp (maxDischargeDepth := 9) [B5]) hb9
     clear B5
     cases h10 : inR ((bt a0 k1).toNat : Int) (97 : Int) (122 : Int) with
     | true =>
      have ⟨h10a, h10b⟩ := inR_true h10
      replace h10 := Lib.hid h10
      have q11 : sNameOk_p_b1 a0 k1 () = .go () := by simp only [sNameOk_p_b1, h6.out, eh7, h7, h10.out, cond_true]
      replace q11 := Lib.hid (rounds_next hy2.out q11)
      go_wp2
      go_roundw
      case rel => exact ⟨(by simp (maxDischargeDepth := 9) [B9]), k1 + 1, by go_num, by omega, q11⟩
      case measure => simp [intOf]; omega
     | false =>
      replace h10 := Lib.hid h10
      have q12 : sNameOk_p_b1 a0 k1 () = .ret false := by simp only [sNameOk_p_b1, h6.out, eh7, h7, h10.out, cond_true, cond_false]
      have q13 := rounds_ret hlt2 hy2.out q12
      obtain rfl : r = false := hr.out.symm.trans (by simp only [sNameOk_p, q13])
      go_wp2
      go_ret
      exact rbk (by simp (maxDischargeDepth := 9) [B9])
    ·
     have q14 : sNameOk_p_b1 a0 k1 () = .go () := by simp only [sNameOk_p_b1, h6.out, eh7, h7, cond_true, cond_false]
     replace q14 := Lib.hid (rounds_next hy2.out q14)
     go_wp2
     go_roundw
     case rel => exact ⟨(by simp (maxDischargeDepth := 9) [B5]), k1 + 1, by go_num, by omega, q14⟩
     case measure => simp [intOf]; omega
   | false =>
    replace h6 := Lib.hid h6
    have q15 : sNameOk_p_b1 a0 k1 () = .ret false := by simp only [sNameOk_p_b1, h6.out, cond_false]
    have q16 := rounds_ret hlt2 hy2.out q15
    obtain rfl : r = false := hr.out.symm.trans (by simp only [sNameOk_p, q16])
    go_wp2
    go_ret
    exact rbk (by simp (maxDischargeDepth := 9) [B5])
  ·
   obtain rfl : a0.size = k1 := by omega
   go_wp2_with fail
   refine (sl1In_w ((a0.size : Nat) : Int) (1 : Int) (12 : Int)  _ ).mono ?_
   rintro e w17 ⟨rfl, hb17⟩
   have B17 := via (w0 := w) (by simp (maxDischargeDepth := 9) [B2]) hb17
   clear B2
   obtain rfl : r = inR ((a0.size : Nat) : Int) (1 : Int) (12 : Int) := hr.out.symm.trans (by simp only [sNameOk_p, hy2.out])
   go_wp2
   go_ret
   exact rbk (by simp (maxDischargeDepth := 9) [B17])

-- spec.PosCount
def sPosCount_p_b1 (a0 : RuleD) (k2 : Nat) (y3 : Int) : St (Int) (Int) := bif (gt a0.Pats k2).Not then (.go y3) else (.go (y3 + 1))
def sPosCount_p (a0 : RuleD) : Int := match rounds (sPosCount_p_b1 a0) a0.Pats.length (0 : Int) with | .ret r => r | .brk _ => default | .go y3 => y3
set_option maxHeartbeats 1000000 in
set_option maxRecDepth 20000 in
theorem sPosCount_w (a0 : RuleD) (v0_2 : Value) (v0_3 : Value) (v0_4 : Value) (w : World) (s0_2 : Sl w a0.Pats v0_2) (s0_3 : Sl w a0.Conds v0_3) (s0_4 : Sl w a0.Acts v0_4) :
    Calls Tryz.prog 205 #[.agg #[.string a0.Name, .int .i64 a0.Sal, v0_2, v0_3, v0_4]] w (RetI (sPosCount_p a0) w) := by
 obtain ⟨p0_2, c0_2, rfl, hl0_2, -, hk0_2, -⟩ := s0_2.open
 obtain ⟨p0_3, c0_3, rfl, hl0_3, -, hk0_3, -⟩ := s0_3.open
 obtain ⟨p0_4, c0_4, rfl, hl0_4, -, hk0_4, -⟩ := s0_4.open
 obtain ⟨r, hr⟩ : ∃ r, sPosCount_p a0 = r := ⟨_, rfl⟩
 rw [hr]
 replace hr := Lib.hid hr
 go_enter Tryz.func205, Tryz.ntmps205
 go_wp2
 go_loopw [3, 4] (fun i3 i4 wr2 => Below w.heap.size w wr2 ∧ Bx wr2 (w.heap.size) [.string a0.Name, .int .i64 a0.Sal, .slice p0_2 a0.Pats.length c0_2, .slice p0_3 a0.Conds.length c0_3, .slice p0_4 a0.Acts.length c0_4] ∧ ∃ (k2 : Nat) (y3 : Int), i3 = .int .i64 y3 ∧ i4 = .int .i64 k2 ∧ k2 ≤ a0.Pats.length ∧ (0 ≤ y3 ∧ y3 ≤ k2) ∧ Hid (rounds (sPosCount_p_b1 a0) k2 (0 : Int) = .go y3)) (fun _ i4 _ => a0.Pats.length - (intOf i4).toNat)
 case atStart => exact ⟨(by simp (maxDischargeDepth := 9)), (by simp (maxDischargeDepth := 9)), 0, (0 : Int), rfl, rfl, by omega, by omega, Lib.hid rfl⟩
 case round =>
  rename World => wr2
  obtain ⟨B4, Xbx1_4, k2, y3, rfl, rfl, hk4, hc4_0, hy4⟩ := hrel
  have ⟨Xbx1_4k0, Xbx1_4k1, Xbx1_4k2, Xbx1_4k3, Xbx1_4k4⟩ := bx5 Xbx1_4
  by_cases hlt4 : k2 < a0.Pats.length
  ·
   have hi7 : k2 < a0.Pats.length := by first | assumption | omega
   obtain ⟨e6b, e6o, ue6_1, rfl, e6bl, e6ok, ⟨e6d0, e6d1, e6d2⟩, te6_1⟩ := Sl.gtPat s0_2 k2 hi7
   obtain ⟨pe6_1, ce6_1, rfl, hlpe6_1, -⟩ := te6_1.open
   have e6E := Lib.hid (And.intro e6d0 (And.intro e6d1 e6d2))
   clear e6d0 e6d1 e6d2
   have ⟨e6d0n, e6d1n, e6d2n⟩ := cb3 B4 e6bl e6E.out
   rcases Bool.eq_false_or_eq_true ((gt a0.Pats k2).Not) with h8 | h8
   ·
    have q9 : sPosCount_p_b1 a0 k2 y3 = .go y3 := by simp only [sPosCount_p_b1, h8, cond_true]
    replace q9 := Lib.hid (rounds_next hy4.out q9)
    go_wp2
    go_roundw
    case rel => exact ⟨(by simp (maxDischargeDepth := 9) [B4]), (by simp (maxDischargeDepth := 9) [Xbx1_4]), k2 + 1, y3, rfl, by go_num, by omega, by omega, q9⟩
    case measure => simp [intOf]; omega
   ·
    have q10 : sPosCount_p_b1 a0 k2 y3 = .go (y3 + 1) := by simp only [sPosCount_p_b1, h8, cond_false]
    replace q10 := Lib.hid (rounds_next hy4.out q10)
    go_wp2
    go_roundw
    case rel => exact ⟨(by simp (maxDischargeDepth := 9) [B4]), (by simp (maxDischargeDepth := 9) [Xbx1_4]), k2 + 1, (y3 + 1), rfl, by go_num, by omega, by omega, q10⟩
    case measure => simp [intOf]; omega
  ·
   obtain rfl : a0.Pats.length = k2 := by omega
   obtain rfl : r = y3 := hr.out.symm.trans (by simp only [sPosCount_p, hy4.out])
   go_wp2
   go_ret
   exact ⟨by first | rfl | simp, (by simp (maxDischargeDepth := 9) [B4])⟩

-- spec.l6Has
def sl6Has_p_b1 (a0 : List ByteArray) (a1 : ByteArray) (k1 : Nat) (_ : Unit) : St (Bool) (Unit) := bif ((gt a0 k1).toList == a1.toList) then (.ret true) else (.go ())
def sl6Has_p (a0 : List ByteArray) (a1 : ByteArray) : Bool := match rounds (sl6Has_p_b1 a0 a1) a0.length () with | .ret r => r | .brk _ => default | .go _ => false
set_option maxHeartbeats 1000000 in
set_option maxRecDepth 20000 in
theorem sl6Has_w (a0 : List ByteArray) (a1 : ByteArray) (v0_0 : Value) (w : World) (s0_0 : Sl w a0 v0_0) :
    Calls Tryz.prog 331 #[v0_0, .string a1] w (RetB (sl6Has_p a0 a1) w) := by
 obtain ⟨p0_0, c0_0, rfl, hl0_0, -, hk0_0, -⟩ := s0_0.open
 obtain ⟨r, hr⟩ : ∃ r, sl6Has_p a0 a1 = r := ⟨_, rfl⟩
 rw [hr]
 replace hr := Lib.hid hr
 go_enter Tryz.func331, Tryz.ntmps331
 go_wp2
 go_loopw [5] (fun i5 wr1 => Below w.heap.size w wr1 ∧ ∃ (k1 : Nat), i5 = .int .i64 k1 ∧ k1 ≤ a0.length ∧ Hid (rounds (sl6Has_p_b1 a0 a1) k1 () = .go ())) (fun i5 _ => a0.length - (intOf i5).toNat)
 case atStart => exact ⟨(by simp (maxDischargeDepth := 9)), 0, rfl, by omega, Lib.hid rfl⟩
 case round =>
  rename World => wr1
  obtain ⟨B2, k1, rfl, hk2, hy2⟩ := hrel
  by_cases hlt2 : k1 < a0.length
  ·
   have hi5 : k1 < a0.length := by first | assumption | omega
   obtain ⟨e4b, e4o, rfl, e4bl, e4ok, e4d0⟩ := Sl.gtString s0_0 k1 hi5
   have e4E := Lib.hid e4d0
   clear e4d0
   have e4d0n := cb1 B2 e4bl e4E.out
   obtain ⟨bh6, eh6⟩ : ∃ b, ((gt a0 k1).toList == a1.toList) = b := ⟨_, rfl⟩
   rcases Bool.eq_false_or_eq_true bh6 with h6 | h6
   ·
    have q7 : sl6Has_p_b1 a0 a1 k1 () = .ret true := by simp only [sl6Has_p_b1, eh6, h6, cond_true]
    have q8 := rounds_ret hlt2 hy2.out q7
    obtain rfl : r = true := hr.out.symm.trans (by simp only [sl6Has_p, q8])
    go_wp2
    go_ret
    exact rbk (by simp (maxDischargeDepth := 9) [B2])
   ·
    have q9 : sl6Has_p_b1 a0 a1 k1 () = .go () := by simp only [sl6Has_p_b1, eh6, h6, cond_false]
    replace q9 := Lib.hid (rounds_next hy2.out q9)
    go_wp2
    go_roundw
    case rel => exact ⟨(by simp (maxDischargeDepth := 9) [B2]), k1 + 1, by go_num, by omega, q9⟩
    case measure => simp [intOf]; omega
  ·
   obtain rfl : a0.length = k1 := by omega
   obtain rfl : r = false := hr.out.symm.trans (by simp only [sl6Has_p, hy2.out])
   go_wp2
   go_ret
   exact rbk (by simp (maxDischargeDepth := 9) [B2])

-- spec.l2Plain
def sl2Plain_p_b1 (a0 : ByteArray) (k1 : Nat) (_ : Unit) : St (Bool) (Unit) := bif sl1Letter_p (bt a0 k1) then (.go ()) else (.ret false)
def sl2Plain_p (a0 : ByteArray) : Bool := match rounds (sl2Plain_p_b1 a0) a0.size () with | .ret r => r | .brk _ => default | .go _ => bif decide (a0.size ≤ 20) then (true) else (false)
set_option maxHeartbeats 1000000 in
set_option maxRecDepth 20000 in
theorem sl2Plain_w (a0 : ByteArray) (w : World) (ok_a0 : a0.size ≤ maxLen) :
    Calls Tryz.prog 401 #[.string a0] w (RetB (sl2Plain_p a0) w) := by
 obtain ⟨r, hr⟩ : ∃ r, sl2Plain_p a0 = r := ⟨_, rfl⟩
 rw [hr]
 replace hr := Lib.hid hr
 go_enter Tryz.func401, Tryz.ntmps401
 have hmk1 : a0.size ≤ 9223372036854775807 := by have h := ok_a0; simpa [maxLen] using h
 go_wp2
 go_loopw [3] (fun i3 wr1 => Below w.heap.size w wr1 ∧ ∃ (k1 : Nat), i3 = .int .i64 k1 ∧ k1 ≤ a0.size ∧ Hid (rounds (sl2Plain_p_b1 a0) k1 () = .go ())) (fun i3 _ => a0.size - (intOf i3).toNat)
 case atStart => exact ⟨(by simp (maxDischargeDepth := 9)), 0, rfl, by omega, Lib.hid rfl⟩
 case round =>
  rename World => wr1
  obtain ⟨B2, k1, rfl, hk2, hy2⟩ := hrel
  by_cases hlt2 : k1 < a0.size
  ·
   have hs4 : k1 < a0.size := by first | assumption | omega
   go_wp2_with fail
   refine (sl1Letter_w (bt a0 k1)  _ ).mono ?_
   rintro e w5 ⟨rfl, hb5⟩
   have B5 := via (w0 := w) (by simp (maxDischargeDepth := 9) [B2]) hb5
   clear B2
   cases h6 : sl1Letter_p (bt a0 k1) with
   | true =>
    replace h6 := Lib.hid h6
    have q7 : sl2Plain_p_b1 a0 k1 () = .go () := by simp only [sl2Plain_p_b1, h6.out, cond_true]
    replace q7 := Lib.hid (rounds_next hy2.out q7)
    go_wp2
    go_roundw
    case rel => exact ⟨(by simp (maxDischargeDepth := 9) [B5]), k1 + 1, by go_num, by omega, q7⟩
    case measure => simp [intOf]; omega
   | false =>
    replace h6 := Lib.hid h6
    have q8 : sl2Plain_p_b1 a0 k1 () = .ret false := by simp only [sl2Plain_p_b1, h6.out, cond_false]
    have q9 := rounds_ret hlt2 hy2.out q8
    obtain rfl : r = false := hr.out.symm.trans (by simp only [sl2Plain_p, q9])
    go_wp2
    go_ret
    exact rbk (by simp (maxDischargeDepth := 9) [B5])
  ·
   obtain rfl : a0.size = k1 := by omega
   by_cases h10 : a0.size ≤ 20
   ·
    have h10d := Lib.hid (decide_eq_true h10)
    obtain rfl : r = true := hr.out.symm.trans (by simp only [sl2Plain_p, hy2.out, h10d.out, cond_true])
    go_wp2
    go_ret
    exact rbk (by simp (maxDischargeDepth := 9) [B2])
   ·
    have h10d := Lib.hid (decide_eq_false h10)
    obtain rfl : r = false := hr.out.symm.trans (by simp only [sl2Plain_p, hy2.out, h10d.out, cond_false])
    go_wp2
    go_ret
    exact rbk (by simp (maxDischargeDepth := 9) [B2])

-- spec.ValOk
def sValOk_p (a0 : ValD) : Bool := bif (a0.K == 1) then (bif inR a0.N (-1000000000 : Int) (1000000000 : Int) then (bif a0.S.toList.isEmpty then (true) else (false)) else (false)) else (bif (a0.K == 2) then (bif sl2Plain_p a0.S then (bif (a0.N == 0) then (true) else (false)) else (false)) else (false))
set_option maxHeartbeats 1000000 in
set_option maxRecDepth 20000 in
theorem sValOk_w (a0 : ValD) (w : World) (ok_a0 : okVal a0) :
    Calls Tryz.prog 338 #[.agg #[.int .i64 a0.K, .int .i64 a0.N, .string a0.S]] w (RetB (sValOk_p a0) w) := by
 obtain ⟨r, hr⟩ : ∃ r, sValOk_p a0 = r := ⟨_, rfl⟩
 rw [hr]
 replace hr := Lib.hid hr
 go_enter Tryz.func338, Tryz.ntmps338
 obtain ⟨bh2, eh2⟩ : ∃ b, (a0.K == 1) = b := ⟨_, rfl⟩
 rcases Bool.eq_false_or_eq_true bh2 with h2 | h2
 ·
  go_wp2_with fail
  refine (sl1In_w a0.N (-1000000000 : Int) (1000000000 : Int)  _ ).mono ?_
  rintro e w3 ⟨rfl, hb3⟩
  have B3 := via (w0 := w) (by simp (maxDischargeDepth := 9)) hb3
  have Xbx1_3 : Bx w3 (w.heap.size) [.int .i64 a0.K, .int .i64 a0.N, .string a0.S] := Bx.via (by simp (maxDischargeDepth := 9)) hb3
  have ⟨Xbx1_3k0, Xbx1_3k1, Xbx1_3k2⟩ := bx3 Xbx1_3
  cases h4 : inR a0.N (-1000000000 : Int) (1000000000 : Int) with
  | true =>
   have ⟨h4a, h4b⟩ := inR_true h4
   replace h4 := Lib.hid h4
   obtain ⟨bh5, eh5⟩ : ∃ b, a0.S.toList.isEmpty = b := ⟨_, rfl⟩
   rcases Bool.eq_false_or_eq_true bh5 with h5 | h5
   ·
    obtain rfl : r = true := hr.out.symm.trans (by simp only [sValOk_p, eh2, h2, h4.out, eh5, h5, cond_true])
    go_wp2
    go_ret
    exact rbk (by simp (maxDischargeDepth := 9) [B3])
   ·
    obtain rfl : r = false := hr.out.symm.trans (by simp only [sValOk_p, eh2, h2, h4.out, eh5, h5, cond_true, cond_false])
    go_wp2
    go_ret
    exact rbk (by simp (maxDischargeDepth := 9) [B3])
  | false =>
   replace h4 := Lib.hid h4
   obtain rfl : r = false := hr.out.symm.trans (by simp only [sValOk_p, eh2, h2, h4.out, cond_true, cond_false])
   go_wp2
   go_ret
   exact rbk (by simp (maxDischargeDepth := 9) [B3])
 ·
  obtain ⟨bh6, eh6⟩ : ∃ b, (a0.K == 2) = b := ⟨_, rfl⟩
  rcases Bool.eq_false_or_eq_true bh6 with h6 | h6
  ·
   go_wp2_with fail
   refine (sl2Plain_w a0.S  _ ok_a0.2.2).mono ?_
   rintro e w7 ⟨rfl, hb7⟩
   have B7 := via (w0 := w) (by simp (maxDischargeDepth := 9)) hb7
   have Xbx1_7 : Bx w7 (w.heap.size) [.int .i64 a0.K, .int .i64 a0.N, .string a0.S] := Bx.via (by simp (maxDischargeDepth := 9)) hb7
   have ⟨Xbx1_7k0, Xbx1_7k1, Xbx1_7k2⟩ := bx3 Xbx1_7
   cases h8 : sl2Plain_p a0.S with
   | true =>
    replace h8 := Lib.hid h8
    obtain ⟨bh9, eh9⟩ : ∃ b, (a0.N == 0) = b := ⟨_, rfl⟩
    rcases Bool.eq_false_or_eq_true bh9 with h9 | h9
    ·
     obtain rfl : r = true := hr.out.symm.trans (by simp only [sValOk_p, eh2, h2, eh6, h6, h8.out, eh9, h9, cond_true, cond_false])
     go_wp2
     go_ret
     exact rbk (by simp (maxDischargeDepth := 9) [B7])
    ·
     obtain rfl : r = false := hr.out.symm.trans (by simp only [sValOk_p, eh2, h2, eh6, h6, h8.out, eh9, h9, cond_true, cond_false])
     go_wp2
     go_ret
     exact rbk (by simp (maxDischargeDepth := 9) [B7])
   | false =>
    replace h8 := Lib.hid h8
    obtain rfl : r = false := hr.out.symm.trans (by simp only [sValOk_p, eh2, h2, eh6, h6, h8.out, cond_true, cond_false])
    go_wp2
    go_ret
    exact rbk (by simp (maxDischargeDepth := 9) [B7])
  ·
   obtain rfl : r = false := hr.out.symm.trans (by simp only [sValOk_p, eh2, h2, eh6, h6, cond_false])
   go_wp2
   go_ret
   exact rbk (by simp (maxDischargeDepth := 9))

-- spec.l5Large
def sl5Large_p (a0 : UInt8) : Bool := inR (a0.toNat : Int) (65 : Int) (90 : Int)
set_option maxHeartbeats 1000000 in
set_option maxRecDepth 20000 in
theorem sl5Large_w (a0 : UInt8) (w : World) :
    Calls Tryz.prog 472 #[.int .u8 (a0.toNat : Int)] w (RetB (sl5Large_p a0) w) := by
 obtain ⟨r, hr⟩ : ∃ r, sl5Large_p a0 = r := ⟨_, rfl⟩
 rw [hr]
 replace hr := Lib.hid hr
 go_enter Tryz.func472, Tryz.ntmps472
 go_wp2_with fail
 refine (sl1In_w (a0.toNat : Int) (65 : Int) (90 : Int)  _ ).mono ?_
 rintro e w1 ⟨rfl, hb1⟩
 have B1 := via (w0 := w) (by simp (maxDischargeDepth := 9)) hb1
 obtain rfl : r = inR (a0.toNat : Int) (65 : Int) (90 : Int) := hr.out.symm.trans (by simp only [sl5Large_p])
 go_wp2
 go_ret
 exact rbk (by simp (maxDischargeDepth := 9) [B1])

-- spec.l5VarOk
def sl5VarOk_p_b1 (a0 : ByteArray) (k1 : Nat) (_ : Unit) : St (Bool) (Unit) := bif sl5Large_p (bt a0 k1) then (.go ()) else (bif ((k1 : Int) == 0) then (.ret false) else (bif sl1Letter_p (bt a0 k1) then (.go ()) else (.ret false)))
def sl5VarOk_p (a0 : ByteArray) : Bool := match rounds (sl5VarOk_p_b1 a0) a0.size () with | .ret r => r | .brk _ => default | .go _ => inR ((a0.size : Nat) : Int) (1 : Int) (12 : Int)
set_option maxHeartbeats 1000000 in
set_option maxRecDepth 20000 in
theorem sl5VarOk_w (a0 : ByteArray) (w : World) (ok_a0 : a0.size ≤ maxLen) :
    Calls Tryz.prog 443 #[.string a0] w (RetB (sl5VarOk_p a0) w) := by
 obtain ⟨r, hr⟩ : ∃ r, sl5VarOk_p a0 = r := ⟨_, rfl⟩
 rw [hr]
 replace hr := Lib.hid hr
 go_enter Tryz.func443, Tryz.ntmps443
 have hmk1 : a0.size ≤ 9223372036854775807 := by have h := ok_a0; simpa [maxLen] using h
 go_wp2
 go_loopw [3] (fun i3 wr1 => Below w.heap.size w wr1 ∧ ∃ (k1 : Nat), i3 = .int .i64 k1 ∧ k1 ≤ a0.size ∧ Hid (rounds (sl5VarOk_p_b1 a0) k1 () = .go ())) (fun i3 _ => a0.size - (intOf i3).toNat)
 case atStart => exact ⟨(by simp (maxDischargeDepth := 9)), 0, rfl, by omega, Lib.hid rfl⟩
 case round =>
  rename World => wr1
  obtain ⟨B2, k1, rfl, hk2, hy2⟩ := hrel
  by_cases hlt2 : k1 < a0.size
  ·
   have hs4 : k1 < a0.size := by first | assumption | omega
   go_wp2_with fail
   refine (sl5Large_w (bt a0 k1)  _ ).mono ?_
   rintro e w5 ⟨rfl, hb5⟩
   have B5 := via (w0 := w) (by simp (maxDischargeDepth := 9) [B2]) hb5
   clear B2
   cases h6 : sl5Large_p (bt a0 k1) with
   | true =>
    replace h6 := Lib.hid h6
    have q7 : sl5VarOk_p_b1 a0 k1 () = .go () := by simp only [sl5VarOk_p_b1, h6.out, cond_true]
    replace q7 := Lib.hid (rounds_next hy2.out q7)
    go_wp2
    go_roundw
    case rel => exact ⟨(by simp (maxDischargeDepth := 9) [B5]), k1 + 1, by go_num, by omega, q7⟩
    case measure => simp [intOf]; omega
   | false =>
    replace h6 := Lib.hid h6
    obtain ⟨bh8, eh8⟩ : ∃ b, ((k1 : Int) == 0) = b := ⟨_, rfl⟩
    rcases Bool.eq_false_or_eq_true bh8 with h8 | h8
    ·
     have gh8 : Hid (k1 = 0) := Lib.hid (by have z := eh8.trans h8; simp only [beq_iff_eq] at z; omega)
     have q9 : sl5VarOk_p_b1 a0 k1 () = .ret false := by simp only [sl5VarOk_p_b1, h6.out, eh8, h8, cond_true, cond_false]
     have q10 := rounds_ret hlt2 hy2.out q9
     obtain rfl : r = false := hr.out.symm.trans (by simp only [sl5VarOk_p, q10])
     go_wp2
     go_ret
     exact rbk (by simp (maxDischargeDepth := 9) [B5])
    ·
     have hs11 : k1 < a0.size := by first | assumption | omega
     go_wp2_with fail
     refine (sl1Letter_w (bt a0 k1)  _ ).mono ?_
     rintro e w12 ⟨rfl, hb12⟩
     have B12 := via (w0 := w) (by simp (maxDischargeDepth := 9) [B5]) hb12
     clear B5
     cases h13 : sl1Letter_p (bt a0 k1) with
     | true =>
      replace h13 := Lib.hid h13
      have q14 : sl5VarOk_p_b1 a0 k1 () = .go () := by simp only [sl5VarOk_p_b1, h6.out, eh8, h8, h13.out, cond_true, cond_false]
      replace q14 := Lib.hid (rounds_next hy2.out q14)
      go_wp2
      go_roundw
      case rel => exact ⟨(by simp (maxDischargeDepth := 9) [B12]), k1 + 1, by go_num, by omega, q14⟩
      case measure => simp [intOf]; omega
     | false =>
      replace h13 := Lib.hid h13
      have q15 : sl5VarOk_p_b1 a0 k1 () = .ret false := by simp only [sl5VarOk_p_b1, h6.out, eh8, h8, h13.out, cond_false]
      have q16 := rounds_ret hlt2 hy2.out q15
      obtain rfl : r = false := hr.out.symm.trans (by simp only [sl5VarOk_p, q16])
      go_wp2
      go_ret
      exact rbk (by simp (maxDischargeDepth := 9) [B12])
  ·
   obtain rfl : a0.size = k1 := by omega
   go_wp2_with fail
   refine (sl1In_w ((a0.size : Nat) : Int) (1 : Int) (12 : Int)  _ ).mono ?_
   rintro e w17 ⟨rfl, hb17⟩
   have B17 := via (w0 := w) (by simp (maxDischargeDepth := 9) [B2]) hb17
   clear B2
   obtain rfl : r = inR ((a0.size : Nat) : Int) (1 : Int) (12 : Int) := hr.out.symm.trans (by simp only [sl5VarOk_p, hy2.out])
   go_wp2
   go_ret
   exact rbk (by simp (maxDischargeDepth := 9) [B17])

-- spec.ArgOk
def sArgOk_p (a0 : ArgD) : Bool := bif (a0.V.K == 0) then (bif (a0.V.N == 0) then (bif a0.V.S.toList.isEmpty then (bif (a0.K == 1) then (bif sl5VarOk_p a0.S then (true) else (false)) else (bif (a0.K == 2) then (bif sValOk_p a0.V then (bif a0.S.toList.isEmpty then (true) else (false)) else (false)) else (bif (a0.K == 3) then (bif a0.S.toList.isEmpty then (true) else (false)) else (false)))) else (bif (a0.K == 1) then (bif sl5VarOk_p a0.S then (false) else (false)) else (bif (a0.K == 2) then (bif sValOk_p a0.V then (bif a0.S.toList.isEmpty then (true) else (false)) else (false)) else (bif (a0.K == 3) then (bif a0.S.toList.isEmpty then (false) else (false)) else (false))))) else (bif (a0.K == 1) then (bif sl5VarOk_p a0.S then (false) else (false)) else (bif (a0.K == 2) then (bif sValOk_p a0.V then (bif a0.S.toList.isEmpty then (true) else (false)) else (false)) else (bif (a0.K == 3) then (bif a0.S.toList.isEmpty then (false) else (false)) else (false))))) else (bif (a0.K == 1) then (bif sl5VarOk_p a0.S then (false) else (false)) else (bif (a0.K == 2) then (bif sValOk_p a0.V then (bif a0.S.toList.isEmpty then (true) else (false)) else (false)) else (bif (a0.K == 3) then (bif a0.S.toList.isEmpty then (false) else (false)) else (false))))
set_option maxHeartbeats 1000000 in
set_option maxRecDepth 20000 in
theorem sArgOk_w (a0 : ArgD) (w : World) (ok_a0 : okArg a0) :
    Calls Tryz.prog 399 #[.agg #[.int .i64 a0.K, .string a0.S, .int .i64 a0.V.K, .int .i64 a0.V.N, .string a0.V.S]] w (RetB (sArgOk_p a0) w) := by
 obtain ⟨r, hr⟩ : ∃ r, sArgOk_p a0 = r := ⟨_, rfl⟩
 rw [hr]
 replace hr := Lib.hid hr
 go_enter Tryz.func399, Tryz.ntmps399
 obtain ⟨bh2, eh2⟩ : ∃ b, (a0.V.K == 0) = b := ⟨_, rfl⟩
 rcases Bool.eq_false_or_eq_true bh2 with h2 | h2
 ·
  obtain ⟨bh3, eh3⟩ : ∃ b, (a0.V.N == 0) = b := ⟨_, rfl⟩
  rcases Bool.eq_false_or_eq_true bh3 with h3 | h3
  ·
   obtain ⟨bh4, eh4⟩ : ∃ b, a0.V.S.toList.isEmpty = b := ⟨_, rfl⟩
   rcases Bool.eq_false_or_eq_true bh4 with h4 | h4
   ·
    obtain ⟨bh5, eh5⟩ : ∃ b, (a0.K == 1) = b := ⟨_, rfl⟩
    rcases Bool.eq_false_or_eq_true bh5 with h5 | h5
    ·
     go_wp2_with fail
     refine (sl5VarOk_w a0.S  _ ok_a0.2.1).mono ?_
     rintro e w6 ⟨rfl, hb6⟩
     have B6 := via (w0 := w) (by simp (maxDischargeDepth := 9)) hb6
     have Xbx1_6 : Bx w6 (w.heap.size) [.int .i64 a0.K, .string a0.S, .int .i64 a0.V.K, .int .i64 a0.V.N, .string a0.V.S] := Bx.via (by simp (maxDischargeDepth := 9)) hb6
     have ⟨Xbx1_6k0, Xbx1_6k1, Xbx1_6k2, Xbx1_6k3, Xbx1_6k4⟩ := bx5 Xbx1_6
     cases h7 : sl5VarOk_p a0.S with
     | true =>
      replace h7 := Lib.hid h7
      obtain rfl : r = true := hr.out.symm.trans (by simp only [sArgOk_p, eh2, h2, eh3, h3, eh4, h4, eh5, h5, h7.out, cond_true])
      go_wp2
      go_ret
      exact rbk (by simp (maxDischargeDepth := 9) [B6])
     | false =>
      replace h7 := Lib.hid h7
      obtain rfl : r = false := hr.out.symm.trans (by simp only [sArgOk_p, eh2, h2, eh3, h3, eh4, h4, eh5, h5, h7.out, cond_true, cond_false])
      go_wp2
      go_ret
      exact rbk (by simp (maxDischargeDepth := 9) [B6])
    ·
     obtain ⟨bh8, eh8⟩ : ∃ b, (a0.K == 2) = b := ⟨_, rfl⟩
     rcases Bool.eq_false_or_eq_true bh8 with h8 | h8
     ·
      go_wp2_with fail
      refine (sValOk_w a0.V  _ ok_a0.2.2).mono ?_
      rintro e w9 ⟨rfl, hb9⟩
      have B9 := via (w0 := w) (by simp (maxDischargeDepth := 9)) hb9
      have Xbx1_9 : Bx w9 (w.heap.size) [.int .i64 a0.K, .string a0.S, .int .i64 a0.V.K, .int .i64 a0.V.N, .string a0.V.S] := Bx.via (by simp (maxDischargeDepth := 9)) hb9
      have ⟨Xbx1_9k0, Xbx1_9k1, Xbx1_9k2, Xbx1_9k3, Xbx1_9k4⟩ := bx5 Xbx1_9
      cases h10 : sValOk_p a0.V with
      | true =>
       replace h10 := Lib.hid h10
       obtain ⟨bh11, eh11⟩ : ∃ b, a0.S.toList.isEmpty = b := ⟨_, rfl⟩
       rcases Bool.eq_false_or_eq_true bh11 with h11 | h11
       ·
        obtain rfl : r = true := hr.out.symm.trans (by simp only [sArgOk_p, eh2, h2, eh3, h3, eh4, h4, eh5, h5, eh8, h8, h10.out, eh11, h11, cond_true, cond_false])
        go_wp2
        go_ret
        exact rbk (by simp (maxDischargeDepth := 9) [B9])
       ·
        obtain rfl : r = false := hr.out.symm.trans (by simp only [sArgOk_p, eh2, h2, eh3, h3, eh4, h4, eh5, h5, eh8, h8, h10.out, eh11, h11, cond_true, cond_false])
        go_wp2
        go_ret
        exact rbk (by simp (maxDischargeDepth := 9) [B9])
      | false =>
       replace h10 := Lib.hid h10
       obtain rfl : r = false := hr.out.symm.trans (by simp only [sArgOk_p, eh2, h2, eh3, h3, eh4, h4, eh5, h5, eh8, h8, h10.out, cond_true, cond_false])
       go_wp2
       go_ret
       exact rbk (by simp (maxDischargeDepth := 9) [B9])
     ·
      obtain ⟨bh12, eh12⟩ : ∃ b, (a0.K == 3) = b := ⟨_, rfl⟩
      rcases Bool.eq_false_or_eq_true bh12 with h12 | h12
      ·
       obtain ⟨bh13, eh13⟩ : ∃ b, a0.S.toList.isEmpty = b := ⟨_, rfl⟩
       rcases Bool.eq_false_or_eq_true bh13 with h13 | h13
       ·
        obtain rfl : r = true := hr.out.symm.trans (by simp only [sArgOk_p, eh2, h2, eh3, h3, eh4, h4, eh5, h5, eh8, h8, eh12, h12, eh13, h13, cond_true, cond_false])
        go_wp2
        go_ret
        exact rbk (by simp (maxDischargeDepth := 9))
       ·
        obtain rfl : r = false := hr.out.symm.trans (by simp only [sArgOk_p, eh2, h2, eh3, h3, eh4, h4, eh5, h5, eh8, h8, eh12, h12, eh13, h13, cond_true, cond_false])
        go_wp2
        go_ret
        exact rbk (by simp (maxDischargeDepth := 9))
      ·
       obtain rfl : r = false := hr.out.symm.trans (by simp only [sArgOk_p, eh2, h2, eh3, h3, eh4, h4, eh5, h5, eh8, h8, eh12, h12, cond_true, cond_false])
       go_wp2
       go_ret
       exact rbk (by simp (maxDischargeDepth := 9))
   ·
    obtain ⟨bh14, eh14⟩ : ∃ b, (a0.K == 1) = b := ⟨_, rfl⟩
    rcases Bool.eq_false_or_eq_true bh14 with h14 | h14
    ·
     go_wp2_with fail
     refine (sl5VarOk_w a0.S  _ ok_a0.2.1).mono ?_
     rintro e w15 ⟨rfl, hb15⟩
     have B15 := via (w0 := w) (by simp (maxDischargeDepth := 9)) hb15
     have Xbx1_15 : Bx w15 (w.heap.size) [.int .i64 a0.K, .string a0.S, .int .i64 a0.V.K, .int .i64 a0.V.N, .string a0.V.S] := Bx.via (by simp (maxDischargeDepth := 9)) hb15
     have ⟨Xbx1_15k0, Xbx1_15k1, Xbx1_15k2, Xbx1_15k3, Xbx1_15k4⟩ := bx5 Xbx1_15
     cases h16 : sl5VarOk_p a0.S with
     | true =>
      replace h16 := Lib.hid h16
      obtain rfl : r = false := hr.out.symm.trans (by simp only [sArgOk_p, eh2, h2, eh3, h3, eh4, h4, eh14, h14, h16.out, cond_true, cond_false])
      go_wp2
      go_ret
      exact rbk (by simp (maxDischargeDepth := 9) [B15])
     | false =>
      replace h16 := Lib.hid h16
      obtain rfl : r = false := hr.out.symm.trans (by simp only [sArgOk_p, eh2, h2, eh3, h3, eh4, h4, eh14, h14, h16.out, cond_true, cond_false])
      go_wp2
      go_ret
      exact rbk (by simp (maxDischargeDepth := 9) [B15])
    ·
     obtain ⟨bh17, eh17⟩ : ∃ b, (a0.K == 2) = b := ⟨_, rfl⟩
     rcases Bool.eq_false_or_eq_true bh17 with h17 | h17
     ·
      go_wp2_with fail
      refine (sValOk_w a0.V  _ ok_a0.2.2).mono ?_
      rintro e w18 ⟨rfl, hb18⟩
      have B18 := via (w0 := w) (by simp (maxDischargeDepth := 9)) hb18
      have Xbx1_18 : Bx w18 (w.heap.size) [.int .i64 a0.K, .string a0.S, .int .i64 a0.V.K, .int .i64 a0.V.N, .string a0.V.S] := Bx.via (by simp (maxDischargeDepth := 9)) hb18
      have ⟨Xbx1_18k0, Xbx1_18k1, Xbx1_18k2, Xbx1_18k3, Xbx1_18k4⟩ := bx5 Xbx1_18
      cases h19 : sValOk_p a0.V with
      | true =>
       replace h19 := Lib.hid h19
       obtain ⟨bh20, eh20⟩ : ∃ b, a0.S.toList.isEmpty = b := ⟨_, rfl⟩
       rcases Bool.eq_false_or_eq_true bh20 with h20 | h20
       ·
        obtain rfl : r = true := hr.out.symm.trans (by simp only [sArgOk_p, eh2, h2, eh3, h3, eh4, h4, eh14, h14, eh17, h17, h19.out, eh20, h20, cond_true, cond_false])
        go_wp2
        go_ret
        exact rbk (by simp (maxDischargeDepth := 9) [B18])
       ·
        obtain rfl : r = false := hr.out.symm.trans (by simp only [sArgOk_p, eh2, h2, eh3, h3, eh4, h4, eh14, h14, eh17, h17, h19.out, eh20, h20, cond_true, cond_false])
        go_wp2
        go_ret
        exact rbk (by simp (maxDischargeDepth := 9) [B18])
      | false =>
       replace h19 := Lib.hid h19
       obtain rfl : r = false := hr.out.symm.trans (by simp only [sArgOk_p, eh2, h2, eh3, h3, eh4, h4, eh14, h14, eh17, h17, h19.out, cond_true, cond_false])
       go_wp2
       go_ret
       exact rbk (by simp (maxDischargeDepth := 9) [B18])
     ·
      obtain ⟨bh21, eh21⟩ : ∃ b, (a0.K == 3) = b := ⟨_, rfl⟩
      rcases Bool.eq_false_or_eq_true bh21 with h21 | h21
      ·
       obtain ⟨bh22, eh22⟩ : ∃ b, a0.S.toList.isEmpty = b := ⟨_, rfl⟩
       rcases Bool.eq_false_or_eq_true bh22 with h22 | h22
       ·
        obtain rfl : r = false := hr.out.symm.trans (by simp only [sArgOk_p, eh2, h2, eh3, h3, eh4, h4, eh14, h14, eh17, h17, eh21, h21, eh22, h22, cond_true, cond_false])
        go_wp2
        go_ret
        exact rbk (by simp (maxDischargeDepth := 9))
       ·
        obtain rfl : r = false := hr.out.symm.trans (by simp only [sArgOk_p, eh2, h2, eh3, h3, eh4, h4, eh14, h14, eh17, h17, eh21, h21, eh22, h22, cond_true, cond_false])
        go_wp2
        go_ret
        exact rbk (by simp (maxDischargeDepth := 9))
      ·
       obtain rfl : r = false := hr.out.symm.trans (by simp only [sArgOk_p, eh2, h2, eh3, h3, eh4, h4, eh14, h14, eh17, h17, eh21, h21, cond_true, cond_false])
       go_wp2
       go_ret
       exact rbk (by simp (maxDischargeDepth := 9))
  ·
   obtain ⟨bh23, eh23⟩ : ∃ b, (a0.K == 1) = b := ⟨_, rfl⟩
   rcases Bool.eq_false_or_eq_true bh23 with h23 | h23
   ·
    go_wp2_with fail
    refine (sl5VarOk_w a0.S  _ ok_a0.2.1).mono ?_
    rintro e w24 ⟨rfl, hb24⟩
    have B24 := via (w0 := w) (by simp (maxDischargeDepth := 9)) hb24
    have Xbx1_24 : Bx w24 (w.heap.size) [.int .i64 a0.K, .string a0.S, .int .i64 a0.V.K, .int .i64 a0.V.N, .string a0.V.S] := Bx.via (by simp (maxDischargeDepth := 9)) hb24
    have ⟨Xbx1_24k0, Xbx1_24k1, Xbx1_24k2, Xbx1_24k3, Xbx1_24k4⟩ := bx5 Xbx1_24
    cases h25 : sl5VarOk_p a0.S with
    | true =>
     replace h25 := Lib.hid h25
     obtain rfl : r = false := hr.out.symm.trans (by simp only [sArgOk_p, eh2, h2, eh3, h3, eh23, h23, h25.out, cond_true, cond_false])
     go_wp2
     go_ret
     exact rbk (by simp (maxDischargeDepth := 9) [B24])
    | false =>
     replace h25 := Lib.hid h25
     obtain rfl : r = false := hr.out.symm.trans (by simp only [sArgOk_p, eh2, h2, eh3, h3, eh23, h23, h25.out, cond_true, cond_false])
     go_wp2
     go_ret
     exact rbk (by simp (maxDischargeDepth := 9) [B24])
   ·
    obtain ⟨bh26, eh26⟩ : ∃ b, (a0.K == 2) = b := ⟨_, rfl⟩
    rcases Bool.eq_false_or_eq_true bh26 with h26 | h26
    ·
     go_wp2_with fail
     refine (sValOk_w a0.V  _ ok_a0.2.2).mono ?_
     rintro e w27 ⟨rfl, hb27⟩
     have B27 := via (w0 := w) (by simp (maxDischargeDepth := 9)) hb27
     have Xbx1_27 : Bx w27 (w.heap.size) [.int .i64 a0.K, .string a0.S, .int .i64 a0.V.K, .int .i64 a0.V.N, .string a0.V.S] := Bx.via (by simp (maxDischargeDepth := 9)) hb27
     have ⟨Xbx1_27k0, Xbx1_27k1, Xbx1_27k2, Xbx1_27k3, Xbx1_27k4⟩ := bx5 Xbx1_27
     cases h28 : sValOk_p a0.V with
     | true =>
      replace h28 := Lib.hid h28
      obtain ⟨bh29, eh29⟩ : ∃ b, a0.S.toList.isEmpty = b := ⟨_, rfl⟩
      rcases Bool.eq_false_or_eq_true bh29 with h29 | h29
      ·
       obtain rfl : r = true := hr.out.symm.trans (by simp only [sArgOk_p, eh2, h2, eh3, h3, eh23, h23, eh26, h26, h28.out, eh29, h29, cond_true, cond_false])
       go_wp2
       go_ret
       exact rbk (by simp (maxDischargeDepth := 9) [B27])
      ·
       obtain rfl : r = false := hr.out.symm.trans (by simp only [sArgOk_p, eh2, h2, eh3, h3, eh23, h23, eh26, h26, h28.out, eh29, h29, cond_true, cond_false])
       go_wp2
       go_ret
       exact rbk (by simp (maxDischargeDepth := 9) [B27])
     | false =>
      replace h28 := Lib.hid h28
      obtain rfl : r = false := hr.out.symm.trans (by simp only [sArgOk_p, eh2, h2, eh3, h3, eh23, h23, eh26, h26, h28.out, cond_true, cond_false])
      go_wp2
      go_ret
      exact rbk (by simp (maxDischargeDepth := 9) [B27])
    ·
     obtain ⟨bh30, eh30⟩ : ∃ b, (a0.K == 3) = b := ⟨_, rfl⟩
     rcases Bool.eq_false_or_eq_true bh30 with h30 | h30
     ·
      obtain ⟨bh31, eh31⟩ : ∃ b, a0.S.toList.isEmpty = b := ⟨_, rfl⟩
      rcases Bool.eq_false_or_eq_true bh31 with h31 | h31
      ·
       obtain rfl : r = false := hr.out.symm.trans (by simp only [sArgOk_p, eh2, h2, eh3, h3, eh23, h23, eh26, h26, eh30, h30, eh31, h31, cond_true, cond_false])
       go_wp2
       go_ret
       exact rbk (by simp (maxDischargeDepth := 9))
      ·
       obtain rfl : r = false := hr.out.symm.trans (by simp only [sArgOk_p, eh2, h2, eh3, h3, eh23, h23, eh26, h26, eh30, h30, eh31, h31, cond_true, cond_false])
       go_wp2
       go_ret
       exact rbk (by simp (maxDischargeDepth := 9))
     ·
      obtain rfl : r = false := hr.out.symm.trans (by simp only [sArgOk_p, eh2, h2, eh3, h3, eh23, h23, eh26, h26, eh30, h30, cond_true, cond_false])
      go_wp2
      go_ret
      exact rbk (by simp (maxDischargeDepth := 9))
 ·
  obtain ⟨bh32, eh32⟩ : ∃ b, (a0.K == 1) = b := ⟨_, rfl⟩
  rcases Bool.eq_false_or_eq_true bh32 with h32 | h32
  ·
   go_wp2_with fail
   refine (sl5VarOk_w a0.S  _ ok_a0.2.1).mono ?_
   rintro e w33 ⟨rfl, hb33⟩
   have B33 := via (w0 := w) (by simp (maxDischargeDepth := 9)) hb33
   have Xbx1_33 : Bx w33 (w.heap.size) [.int .i64 a0.K, .string a0.S, .int .i64 a0.V.K, .int .i64 a0.V.N, .string a0.V.S] := Bx.via (by simp (maxDischargeDepth := 9)) hb33
   have ⟨Xbx1_33k0, Xbx1_33k1, Xbx1_33k2, Xbx1_33k3, Xbx1_33k4⟩ := bx5 Xbx1_33
   cases h34 : sl5VarOk_p a0.S with
   | true =>
    replace h34 := Lib.hid h34
    obtain rfl : r = false := hr.out.symm.trans (by simp only [sArgOk_p, eh2, h2, eh32, h32, h34.out, cond_true, cond_false])
    go_wp2
    go_ret
    exact rbk (by simp (maxDischargeDepth := 9) [B33])
   | false =>
    replace h34 := Lib.hid h34
    obtain rfl : r = false := hr.out.symm.trans (by simp only [sArgOk_p, eh2, h2, eh32, h32, h34.out, cond_true, cond_false])
    go_wp2
    go_ret
    exact rbk (by simp (maxDischargeDepth := 9) [B33])
  ·
   obtain ⟨bh35, eh35⟩ : ∃ b, (a0.K == 2) = b := ⟨_, rfl⟩
   rcases Bool.eq_false_or_eq_true bh35 with h35 | h35
   ·
    go_wp2_with fail
    refine (sValOk_w a0.V  _ ok_a0.2.2).mono ?_
    rintro e w36 ⟨rfl, hb36⟩
    have B36 := via (w0 := w) (by simp (maxDischargeDepth := 9)) hb36
    have Xbx1_36 : Bx w36 (w.heap.size) [.int .i64 a0.K, .string a0.S, .int .i64 a0.V.K, .int .i64 a0.V.N, .string a0.V.S] := Bx.via (by simp (maxDischargeDepth := 9)) hb36
    have ⟨Xbx1_36k0, Xbx1_36k1, Xbx1_36k2, Xbx1_36k3, Xbx1_36k4⟩ := bx5 Xbx1_36
    cases h37 : sValOk_p a0.V with
    | true =>
     replace h37 := Lib.hid h37
     obtain ⟨bh38, eh38⟩ : ∃ b, a0.S.toList.isEmpty = b := ⟨_, rfl⟩
     rcases Bool.eq_false_or_eq_true bh38 with h38 | h38
     ·
      obtain rfl : r = true := hr.out.symm.trans (by simp only [sArgOk_p, eh2, h2, eh32, h32, eh35, h35, h37.out, eh38, h38, cond_true, cond_false])
      go_wp2
      go_ret
      exact rbk (by simp (maxDischargeDepth := 9) [B36])
     ·
      obtain rfl : r = false := hr.out.symm.trans (by simp only [sArgOk_p, eh2, h2, eh32, h32, eh35, h35, h37.out, eh38, h38, cond_true, cond_false])
      go_wp2
      go_ret
      exact rbk (by simp (maxDischargeDepth := 9) [B36])
    | false =>
     replace h37 := Lib.hid h37
     obtain rfl : r = false := hr.out.symm.trans (by simp only [sArgOk_p, eh2, h2, eh32, h32, eh35, h35, h37.out, cond_true, cond_false])
     go_wp2
     go_ret
     exact rbk (by simp (maxDischargeDepth := 9) [B36])
   ·
    obtain ⟨bh39, eh39⟩ : ∃ b, (a0.K == 3) = b := ⟨_, rfl⟩
    rcases Bool.eq_false_or_eq_true bh39 with h39 | h39
    ·
     obtain ⟨bh40, eh40⟩ : ∃ b, a0.S.toList.isEmpty = b := ⟨_, rfl⟩
     rcases Bool.eq_false_or_eq_true bh40 with h40 | h40
     ·
      obtain rfl : r = false := hr.out.symm.trans (by simp only [sArgOk_p, eh2, h2, eh32, h32, eh35, h35, eh39, h39, eh40, h40, cond_true, cond_false])
      go_wp2
      go_ret
      exact rbk (by simp (maxDischargeDepth := 9))
     ·
      obtain rfl : r = false := hr.out.symm.trans (by simp only [sArgOk_p, eh2, h2, eh32, h32, eh35, h35, eh39, h39, eh40, h40, cond_true, cond_false])
      go_wp2
      go_ret
      exact rbk (by simp (maxDischargeDepth := 9))
    ·
     obtain rfl : r = false := hr.out.symm.trans (by simp only [sArgOk_p, eh2, h2, eh32, h32, eh35, h35, eh39, h39, cond_false])
     go_wp2
     go_ret
     exact rbk (by simp (maxDischargeDepth := 9))

-- spec.PatOk
def sPatOk_p_b1 (a0 : PatD) (k2 : Nat) (_ : Unit) : St (Bool) (Unit) := bif sArgOk_p (gt a0.Args k2) then (.go ()) else (.ret false)
def sPatOk_p (a0 : PatD) : Bool := match rounds (sPatOk_p_b1 a0) a0.Args.length () with | .ret r => r | .brk _ => default | .go _ => bif sNameOk_p a0.Kind then (bif decide (a0.Args.length ≤ 5) then (true) else (false)) else (false)
set_option maxHeartbeats 1000000 in
set_option maxRecDepth 20000 in
theorem sPatOk_w (a0 : PatD) (v0_1 : Value) (w : World) (s0_1 : Sl w a0.Args v0_1) (ok_a0 : okPat a0) :
    Calls Tryz.prog 332 #[.agg #[.string a0.Kind, v0_1, .bool a0.Not]] w (RetB (sPatOk_p a0) w) := by
 obtain ⟨p0_1, c0_1, rfl, hl0_1, -, hk0_1, -⟩ := s0_1.open
 obtain ⟨r, hr⟩ : ∃ r, sPatOk_p a0 = r := ⟨_, rfl⟩
 rw [hr]
 replace hr := Lib.hid hr
 go_enter Tryz.func332, Tryz.ntmps332
 go_wp2
 go_loopw [3] (fun i3 wr2 => Below w.heap.size w wr2 ∧ Bx wr2 (w.heap.size) [.string a0.Kind, .slice p0_1 a0.Args.length c0_1, .bool a0.Not] ∧ ∃ (k2 : Nat), i3 = .int .i64 k2 ∧ k2 ≤ a0.Args.length ∧ Hid (rounds (sPatOk_p_b1 a0) k2 () = .go ())) (fun i3 _ => a0.Args.length - (intOf i3).toNat)
 case atStart => exact ⟨(by simp (maxDischargeDepth := 9)), (by simp (maxDischargeDepth := 9)), 0, rfl, by omega, Lib.hid rfl⟩
 case round =>
  rename World => wr2
  obtain ⟨B3, Xbx1_3, k2, rfl, hk3, hy3⟩ := hrel
  have ⟨Xbx1_3k0, Xbx1_3k1, Xbx1_3k2⟩ := bx3 Xbx1_3
  by_cases hlt3 : k2 < a0.Args.length
  ·
   have hi6 : k2 < a0.Args.length := by first | assumption | omega
   obtain ⟨e5b, e5o, rfl, e5bl, e5ok, ⟨e5d0, e5d1, e5d2, e5d3, e5d4⟩⟩ := Sl.gtArg s0_1 k2 hi6
   have e5E := Lib.hid (And.intro e5d0 (And.intro e5d1 (And.intro e5d2 (And.intro e5d3 e5d4))))
   clear e5d0 e5d1 e5d2 e5d3 e5d4
   have ⟨e5d0n, e5d1n, e5d2n, e5d3n, e5d4n⟩ := cb5 B3 e5bl e5E.out
   go_wp2_with fail
   refine (sArgOk_w (gt a0.Args k2)  _ e5ok).mono ?_
   rintro e w7 ⟨rfl, hb7⟩
   have B7 := via (w0 := w) (by simp (maxDischargeDepth := 9) [B3]) hb7
   have U7 : Below wr2.heap.size wr2 w7 := via (by simp (maxDischargeDepth := 9)) hb7
   have Xbx1_7 := Xbx1_3.via U7
   clear Xbx1_3 Xbx1_3k0 Xbx1_3k1 Xbx1_3k2
   have ⟨Xbx1_7k0, Xbx1_7k1, Xbx1_7k2⟩ := bx3 Xbx1_7
   clear e5d0n e5d1n e5d2n e5d3n e5d4n
   have ⟨e5d0n, e5d1n, e5d2n, e5d3n, e5d4n⟩ := cb5 B7 e5bl e5E.out
   clear U7
   clear B3
   cases h8 : sArgOk_p (gt a0.Args k2) with
   | true =>
    replace h8 := Lib.hid h8
    have q9 : sPatOk_p_b1 a0 k2 () = .go () := by simp only [sPatOk_p_b1, h8.out, cond_true]
    replace q9 := Lib.hid (rounds_next hy3.out q9)
    go_wp2
    go_roundw
    case rel => exact ⟨(by simp (maxDischargeDepth := 9) [B7]), (by simp (maxDischargeDepth := 9) [Xbx1_7]), k2 + 1, by go_num, by omega, q9⟩
    case measure => simp [intOf]; omega
   | false =>
    replace h8 := Lib.hid h8
    have q10 : sPatOk_p_b1 a0 k2 () = .ret false := by simp only [sPatOk_p_b1, h8.out, cond_false]
    have q11 := rounds_ret hlt3 hy3.out q10
    obtain rfl : r = false := hr.out.symm.trans (by simp only [sPatOk_p, q11])
    go_wp2
    go_ret
    exact rbk (by simp (maxDischargeDepth := 9) [B7])
  ·
   obtain rfl : a0.Args.length = k2 := by omega
   go_wp2_with fail
   refine (sNameOk_w a0.Kind  _ ok_a0).mono ?_
   rintro e w12 ⟨rfl, hb12⟩
   have B12 := via (w0 := w) (by simp (maxDischargeDepth := 9) [B3]) hb12
   have U12 : Below wr2.heap.size wr2 w12 := via (by simp (maxDischargeDepth := 9)) hb12
   have Xbx1_12 := Xbx1_3.via U12
   clear Xbx1_3 Xbx1_3k0 Xbx1_3k1 Xbx1_3k2
   have ⟨Xbx1_12k0, Xbx1_12k1, Xbx1_12k2⟩ := bx3 Xbx1_12
   clear U12
   clear B3
   cases h13 : sNameOk_p a0.Kind with
   | true =>
    replace h13 := Lib.hid h13
    by_cases h14 : a0.Args.length ≤ 5
    ·
     have h14d := Lib.hid (decide_eq_true h14)
     obtain rfl : r = true := hr.out.symm.trans (by simp only [sPatOk_p, hy3.out, h13.out, h14d.out, cond_true])
     go_wp2
     go_ret
     exact rbk (by simp (maxDischargeDepth := 9) [B12])
    ·
     have h14d := Lib.hid (decide_eq_false h14)
     obtain rfl : r = false := hr.out.symm.trans (by simp only [sPatOk_p, hy3.out, h13.out, h14d.out, cond_true, cond_false])
     go_wp2
     go_ret
     exact rbk (by simp (maxDischargeDepth := 9) [B12])
   | false =>
    replace h13 := Lib.hid h13
    obtain rfl : r = false := hr.out.symm.trans (by simp only [sPatOk_p, hy3.out, h13.out, cond_false])
    go_wp2
    go_ret
    exact rbk (by simp (maxDischargeDepth := 9) [B12])
end Go.Proofs.YthnilnggpbploaaGreat
