/- Functions that only read, walked (A). Printed by a program. -/
import Derived.Test.YthnilnggpbploaaGreatRd
namespace Go.Proofs.YthnilnggpbploaaGreat
open Go.RowKit
open Cel (rd own rd_len rd_one own_rd own_lt rd_below rd_mono own_keep)

-- impl.Ended
def iEnded_p (a0 : InstD) : Bool := bif (a0.State == 2) then (true) else (bif (a0.State == 4) then (true) else (bif (a0.State == 6) then (true) else (false)))
set_option maxHeartbeats 1000000 in
set_option maxRecDepth 20000 in
theorem iEnded_w (a0 : InstD) (v0_0 : Value) (v0_2 : Value) (v0_3 : Value) (v0_4 : Value) (v0_5 : Value) (w : World) (s0_0 : Sl w a0.S.Items v0_0) (s0_2 : Sl w a0.Fired v0_2) (s0_3 : Sl w a0.Tasks v0_3) (s0_4 : Sl w a0.Timers v0_4) (s0_5 : Sl w a0.Undos v0_5) :
    Calls Tryz.prog 39 #[.agg #[v0_0, .int .i64 a0.S.Next, v0_2, v0_3, v0_4, v0_5, .int .i64 a0.State, .int .i64 a0.Now]] w (RetB (iEnded_p a0) w) := by
 obtain ⟨p0_0, c0_0, rfl, hl0_0, -, hk0_0, -⟩ := s0_0.open
 obtain ⟨p0_2, c0_2, rfl, hl0_2, -, hk0_2, -⟩ := s0_2.open
 obtain ⟨p0_3, c0_3, rfl, hl0_3, -, hk0_3, -⟩ := s0_3.open
 obtain ⟨p0_4, c0_4, rfl, hl0_4, -, hk0_4, -⟩ := s0_4.open
 obtain ⟨p0_5, c0_5, rfl, hl0_5, -, hk0_5, -⟩ := s0_5.open
 obtain ⟨r, hr⟩ : ∃ r, iEnded_p a0 = r := ⟨_, rfl⟩
 rw [hr]
 replace hr := Lib.hid hr
 go_enter Tryz.func39, Tryz.ntmps39
 obtain ⟨bh2, eh2⟩ : ∃ b, (a0.State == 2) = b := ⟨_, rfl⟩
 rcases Bool.eq_false_or_eq_true bh2 with h2 | h2
 ·
  obtain rfl : r = true := hr.out.symm.trans (by simp only [iEnded_p, eh2, h2, cond_true])
  go_wp2
  go_ret
  exact rbk (by simp (maxDischargeDepth := 9))
 ·
  obtain ⟨bh3, eh3⟩ : ∃ b, (a0.State == 4) = b := ⟨_, rfl⟩
  rcases Bool.eq_false_or_eq_true bh3 with h3 | h3
  ·
   obtain rfl : r = true := hr.out.symm.trans (by simp only [iEnded_p, eh2, h2, eh3, h3, cond_true, cond_false])
   go_wp2
   go_ret
   exact rbk (by simp (maxDischargeDepth := 9))
  ·
   obtain ⟨bh4, eh4⟩ : ∃ b, (a0.State == 6) = b := ⟨_, rfl⟩
   rcases Bool.eq_false_or_eq_true bh4 with h4 | h4
   ·
    obtain rfl : r = true := hr.out.symm.trans (by simp only [iEnded_p, eh2, h2, eh3, h3, eh4, h4, cond_true, cond_false])
    go_wp2
    go_ret
    exact rbk (by simp (maxDischargeDepth := 9))
   ·
    obtain rfl : r = false := hr.out.symm.trans (by simp only [iEnded_p, eh2, h2, eh3, h3, eh4, h4, cond_false])
    go_wp2
    go_ret
    exact rbk (by simp (maxDischargeDepth := 9))

-- impl.isSmall
def iisSmall_p (a0 : UInt8) : Bool := bif decide (97 ≤ a0.toNat) then (bif decide (a0.toNat ≤ 122) then (true) else (false)) else (false)
set_option maxHeartbeats 1000000 in
set_option maxRecDepth 20000 in
theorem iisSmall_w (a0 : UInt8) (w : World) :
    Calls Tryz.prog 150 #[.int .u8 (a0.toNat : Int)] w (RetB (iisSmall_p a0) w) := by
 obtain ⟨r, hr⟩ : ∃ r, iisSmall_p a0 = r := ⟨_, rfl⟩
 rw [hr]
 replace hr := Lib.hid hr
 go_enter Tryz.func150, Tryz.ntmps150
 by_cases h1 : 97 ≤ a0.toNat
 ·
  have h1d := Lib.hid (decide_eq_true h1)
  by_cases h2 : a0.toNat ≤ 122
  ·
   have h2d := Lib.hid (decide_eq_true h2)
   obtain rfl : r = true := hr.out.symm.trans (by simp only [iisSmall_p, h1d.out, h2d.out, cond_true])
   go_wp2
   go_ret
   exact rbk (by simp (maxDischargeDepth := 9))
  ·
   have h2d := Lib.hid (decide_eq_false h2)
   obtain rfl : r = false := hr.out.symm.trans (by simp only [iisSmall_p, h1d.out, h2d.out, cond_true, cond_false])
   go_wp2
   go_ret
   exact rbk (by simp (maxDischargeDepth := 9))
 ·
  have h1d := Lib.hid (decide_eq_false h1)
  obtain rfl : r = false := hr.out.symm.trans (by simp only [iisSmall_p, h1d.out, cond_false])
  go_wp2
  go_ret
  exact rbk (by simp (maxDischargeDepth := 9))

-- impl.isDigit
def iisDigit_p (a0 : UInt8) : Bool := bif decide (48 ≤ a0.toNat) then (bif decide (a0.toNat ≤ 57) then (true) else (false)) else (false)
set_option maxHeartbeats 1000000 in
set_option maxRecDepth 20000 in
theorem iisDigit_w (a0 : UInt8) (w : World) :
    Calls Tryz.prog 321 #[.int .u8 (a0.toNat : Int)] w (RetB (iisDigit_p a0) w) := by
 obtain ⟨r, hr⟩ : ∃ r, iisDigit_p a0 = r := ⟨_, rfl⟩
 rw [hr]
 replace hr := Lib.hid hr
 go_enter Tryz.func321, Tryz.ntmps321
 by_cases h1 : 48 ≤ a0.toNat
 ·
  have h1d := Lib.hid (decide_eq_true h1)
  by_cases h2 : a0.toNat ≤ 57
  ·
   have h2d := Lib.hid (decide_eq_true h2)
   obtain rfl : r = true := hr.out.symm.trans (by simp only [iisDigit_p, h1d.out, h2d.out, cond_true])
   go_wp2
   go_ret
   exact rbk (by simp (maxDischargeDepth := 9))
  ·
   have h2d := Lib.hid (decide_eq_false h2)
   obtain rfl : r = false := hr.out.symm.trans (by simp only [iisDigit_p, h1d.out, h2d.out, cond_true, cond_false])
   go_wp2
   go_ret
   exact rbk (by simp (maxDischargeDepth := 9))
 ·
  have h1d := Lib.hid (decide_eq_false h1)
  obtain rfl : r = false := hr.out.symm.trans (by simp only [iisDigit_p, h1d.out, cond_false])
  go_wp2
  go_ret
  exact rbk (by simp (maxDischargeDepth := 9))

-- impl.isWordByte
def iisWordByte_p (a0 : UInt8) : Bool := bif iisSmall_p a0 then (true) else (bif iisDigit_p a0 then (true) else (bif ((a0.toNat : Int) == 95) then (true) else (false)))
set_option maxHeartbeats 1000000 in
set_option maxRecDepth 20000 in
theorem iisWordByte_w (a0 : UInt8) (w : World) :
    Calls Tryz.prog 231 #[.int .u8 (a0.toNat : Int)] w (RetB (iisWordByte_p a0) w) := by
 obtain ⟨r, hr⟩ : ∃ r, iisWordByte_p a0 = r := ⟨_, rfl⟩
 rw [hr]
 replace hr := Lib.hid hr
 go_enter Tryz.func231, Tryz.ntmps231
 go_wp2_with fail
 refine (iisSmall_w a0  _ ).mono ?_
 rintro e w1 ⟨rfl, hb1⟩
 have B1 := via (w0 := w) (by simp (maxDischargeDepth := 9)) hb1
 cases h2 : iisSmall_p a0 with
 | true =>
  replace h2 := Lib.hid h2
  obtain rfl : r = true := hr.out.symm.trans (by simp only [iisWordByte_p, h2.out, cond_true])
  go_wp2
  go_ret
  exact rbk (by simp (maxDischargeDepth := 9) [B1])
 | false =>
  replace h2 := Lib.hid h2
  go_wp2_with fail
  refine (iisDigit_w a0  _ ).mono ?_
  rintro e w3 ⟨rfl, hb3⟩
  have B3 := via (w0 := w) (by simp (maxDischargeDepth := 9) [B1]) hb3
  clear B1
  cases h4 : iisDigit_p a0 with
  | true =>
   replace h4 := Lib.hid h4
   obtain rfl : r = true := hr.out.symm.trans (by simp only [iisWordByte_p, h2.out, h4.out, cond_true, cond_false])
   go_wp2
   go_ret
   exact rbk (by simp (maxDischargeDepth := 9) [B3])
  | false =>
   replace h4 := Lib.hid h4
   obtain ⟨bh5, eh5⟩ : ∃ b, ((a0.toNat : Int) == 95) = b := ⟨_, rfl⟩
   rcases Bool.eq_false_or_eq_true bh5 with h5 | h5
   ·
    obtain rfl : r = true := hr.out.symm.trans (by simp only [iisWordByte_p, h2.out, h4.out, eh5, h5, cond_true, cond_false])
    go_wp2
    go_ret
    exact rbk (by simp (maxDischargeDepth := 9) [B3])
   ·
    obtain rfl : r = false := hr.out.symm.trans (by simp only [iisWordByte_p, h2.out, h4.out, eh5, h5, cond_false])
    go_wp2
    go_ret
    exact rbk (by simp (maxDischargeDepth := 9) [B3])

-- impl.isWord
def iisWord_p_b1 (a0 : ByteArray) (a1 : Int) (k2 : Nat) (_ : Unit) : St (Bool) (Unit) := bif iisWordByte_p (bt a0 k2) then (.go ()) else (.ret false)
def iisWord_p (a0 : ByteArray) (a1 : Int) : Bool := bif decide (a1 < ((a0.size : Nat) : Int)) then (false) else (match rounds (iisWord_p_b1 a0 a1) a0.size () with | .ret r => r | .brk _ => default | .go _ => true)
set_option maxHeartbeats 1000000 in
set_option maxRecDepth 20000 in
theorem iisWord_w (a0 : ByteArray) (a1 : Int) (w : World) (ok_a0 : a0.size ≤ maxLen) :
    Calls Tryz.prog 151 #[.string a0, .int .i64 a1] w (RetB (iisWord_p a0 a1) w) := by
 obtain ⟨r, hr⟩ : ∃ r, iisWord_p a0 a1 = r := ⟨_, rfl⟩
 rw [hr]
 replace hr := Lib.hid hr
 go_enter Tryz.func151, Tryz.ntmps151
 by_cases h1 : a1 < ((a0.size : Nat) : Int)
 ·
  have h1d := Lib.hid (decide_eq_true h1)
  obtain rfl : r = false := hr.out.symm.trans (by simp only [iisWord_p, h1d.out, cond_true])
  go_wp2
  go_ret
  exact rbk (by simp (maxDischargeDepth := 9))
 ·
  have h1d := Lib.hid (decide_eq_false h1)
  have hmk2 : a0.size ≤ 9223372036854775807 := by have h := ok_a0; simpa [maxLen] using h
  go_wp2
  go_loopw [5] (fun i5 wr2 => Below w.heap.size w wr2 ∧ ∃ (k2 : Nat), i5 = .int .i64 k2 ∧ k2 ≤ a0.size ∧ Hid (rounds (iisWord_p_b1 a0 a1) k2 () = .go ())) (fun i5 _ => a0.size - (intOf i5).toNat)
  case atStart => exact ⟨(by simp (maxDischargeDepth := 9)), 0, rfl, by omega, Lib.hid rfl⟩
  case round =>
   rename World => wr2
   obtain ⟨B3, k2, rfl, hk3, hy3⟩ := hrel
   by_cases hlt3 : k2 < a0.size
   ·
    have hs5 : k2 < a0.size := by first | assumption | omega
    go_wp2_with fail
    refine (iisWordByte_w (bt a0 k2)  _ ).mono ?_
    rintro e w6 ⟨rfl, hb6⟩
    have B6 := via (w0 := w) (by simp (maxDischargeDepth := 9) [B3]) hb6
    clear B3
    cases h7 : iisWordByte_p (bt a0 k2) with
    | true =>
     replace h7 := Lib.hid h7
     have q8 : iisWord_p_b1 a0 a1 k2 () = .go () := by simp only [iisWord_p_b1, h7.out, cond_true]
     replace q8 := Lib.hid (rounds_next hy3.out q8)
     go_wp2
     go_roundw
     case rel => exact ⟨(by simp (maxDischargeDepth := 9) [B6]), k2 + 1, by go_num, by omega, q8⟩
     case measure => simp [intOf]; omega
    | false =>
     replace h7 := Lib.hid h7
     have q9 : iisWord_p_b1 a0 a1 k2 () = .ret false := by simp only [iisWord_p_b1, h7.out, cond_false]
     have q10 := rounds_ret hlt3 hy3.out q9
     obtain rfl : r = false := hr.out.symm.trans (by simp only [iisWord_p, h1d.out, q10, cond_false])
     go_wp2
     go_ret
     exact rbk (by simp (maxDischargeDepth := 9) [B6])
   ·
    obtain rfl : a0.size = k2 := by omega
    obtain rfl : r = true := hr.out.symm.trans (by simp only [iisWord_p, h1d.out, hy3.out, cond_false])
    go_wp2
    go_ret
    exact rbk (by simp (maxDischargeDepth := 9) [B3])

-- impl.NameOk
def iNameOk_p (a0 : ByteArray) : Bool := bif decide (0 < a0.size) then (bif iisSmall_p (bt a0 0) then (iisWord_p a0 (12 : Int)) else (false)) else (false)
set_option maxHeartbeats 1000000 in
set_option maxRecDepth 20000 in
theorem iNameOk_w (a0 : ByteArray) (w : World) (ok_a0 : a0.size ≤ maxLen) :
    Calls Tryz.prog 84 #[.string a0] w (RetB (iNameOk_p a0) w) := by
 obtain ⟨r, hr⟩ : ∃ r, iNameOk_p a0 = r := ⟨_, rfl⟩
 rw [hr]
 replace hr := Lib.hid hr
 go_enter Tryz.func84, Tryz.ntmps84
 by_cases h1 : 0 < a0.size
 ·
  have h1d := Lib.hid (decide_eq_true h1)
  have hs2 : 0 < a0.size := by first | assumption | omega
  go_wp2_with fail
  refine (iisSmall_w (bt a0 0)  _ ).mono ?_
  rintro e w3 ⟨rfl, hb3⟩
  have B3 := via (w0 := w) (by simp (maxDischargeDepth := 9)) hb3
  cases h4 : iisSmall_p (bt a0 0) with
  | true =>
   replace h4 := Lib.hid h4
   go_wp2_with fail
   refine (iisWord_w a0 (12 : Int)  _ ok_a0).mono ?_
   rintro e w5 ⟨rfl, hb5⟩
   have B5 := via (w0 := w) (by simp (maxDischargeDepth := 9) [B3]) hb5
   clear B3
   obtain rfl : r = iisWord_p a0 (12 : Int) := hr.out.symm.trans (by simp only [iNameOk_p, h1d.out, h4.out, cond_true])
   go_wp2
   go_ret
   exact rbk (by simp (maxDischargeDepth := 9) [B5])
  | false =>
   replace h4 := Lib.hid h4
   obtain rfl : r = false := hr.out.symm.trans (by simp only [iNameOk_p, h1d.out, h4.out, cond_true, cond_false])
   go_wp2
   go_ret
   exact rbk (by simp (maxDischargeDepth := 9) [B3])
 ·
  have h1d := Lib.hid (decide_eq_false h1)
  obtain rfl : r = false := hr.out.symm.trans (by simp only [iNameOk_p, h1d.out, cond_false])
  go_wp2
  go_ret
  exact rbk (by simp (maxDischargeDepth := 9))

-- impl.PosCount
def iPosCount_p_b1 (a0 : RuleD) (k2 : Nat) (y3 : Int) : St (Int) (Int) := bif (gt a0.Pats k2).Not then (.go y3) else (.go (y3 + 1))
def iPosCount_p (a0 : RuleD) : Int := match rounds (iPosCount_p_b1 a0) a0.Pats.length (0 : Int) with | .ret r => r | .brk _ => default | .go y3 => y3
set_option maxHeartbeats 1000000 in
set_option maxRecDepth 20000 in
theorem iPosCount_w (a0 : RuleD) (v0_2 : Value) (v0_3 : Value) (v0_4 : Value) (w : World) (s0_2 : Sl w a0.Pats v0_2) (s0_3 : Sl w a0.Conds v0_3) (s0_4 : Sl w a0.Acts v0_4) :
    Calls Tryz.prog 145 #[.agg #[.string a0.Name, .int .i64 a0.Sal, v0_2, v0_3, v0_4]] w (RetI (iPosCount_p a0) w) := by
 obtain ⟨p0_2, c0_2, rfl, hl0_2, -, hk0_2, -⟩ := s0_2.open
 obtain ⟨p0_3, c0_3, rfl, hl0_3, -, hk0_3, -⟩ := s0_3.open
 obtain ⟨p0_4, c0_4, rfl, hl0_4, -, hk0_4, -⟩ := s0_4.open
 obtain ⟨r, hr⟩ : ∃ r, iPosCount_p a0 = r := ⟨_, rfl⟩
 rw [hr]
 replace hr := Lib.hid hr
 go_enter Tryz.func145, Tryz.ntmps145
 go_wp2
 go_loopw [3, 9] (fun i3 i9 wr2 => Below w.heap.size w wr2 ∧ Bx wr2 (w.heap.size) [.string a0.Name, .int .i64 a0.Sal, .slice p0_2 a0.Pats.length c0_2, .slice p0_3 a0.Conds.length c0_3, .slice p0_4 a0.Acts.length c0_4] ∧ ∃ (k2 : Nat) (y3 : Int), i3 = .int .i64 y3 ∧ i9 = .int .i64 k2 ∧ k2 ≤ a0.Pats.length ∧ (0 ≤ y3 ∧ y3 ≤ k2) ∧ Hid (rounds (iPosCount_p_b1 a0) k2 (0 : Int) = .go y3)) (fun _ i9 _ => a0.Pats.length - (intOf i9).toNat)
 case atStart => exact ⟨(by simp (maxDischargeDepth := 9)), (by simp (maxDischargeDepth := 9)), 0, (0 : Int), rfl, rfl, by omega, by omega, Lib.hid rfl⟩
 case round =>
  rename World => wr2
  obtain ⟨B4, Xbx1_4, k2, y3, rfl, rfl, hk4, hc4_0, hy4⟩ := hrel
  have ⟨Xbx1_4k0, Xbx1_4k1, Xbx1_4k2, Xbx1_4k3, Xbx1_4k4⟩ := bx5 Xbx1_4
  by_cases hlt4 : k2 < a0.Pats.length
  ·
   have hi7 : k2 < a0.Pats.length := by first | assumption | omega
   obtain ⟨e6b, e6o, ue6_1, rfl, e6bl, e6ok, ⟨e6d0, e6d1, e6d2⟩, te6_1⟩ := Sl.gtPat s0_2 k2 hi7
   obtain ⟨pe6_1, ce6_1, rfl, hlpe6_1, -⟩ := te6_1.open
   have e6E := Lib.hid (And.intro e6d0 (And.intro e6d1 e6d2))
   clear e6d0 e6d1 e6d2
   have ⟨e6d0n, e6d1n, e6d2n⟩ := cb3 B4 e6bl e6E.out
   rcases Bool.eq_false_or_eq_true ((gt a0.Pats k2).Not) with h9 | h9
   ·
    have q10 : iPosCount_p_b1 a0 k2 y3 = .go y3 := by simp only [iPosCount_p_b1, h9, cond_true]
    replace q10 := Lib.hid (rounds_next hy4.out q10)
    go_wp2
    go_roundw
    case rel => exact ⟨(by simp (maxDischargeDepth := 9) [B4]), (by simp (maxDischargeDepth := 9) [Xbx1_4]), k2 + 1, y3, rfl, by go_num, by omega, by omega, q10⟩
    case measure => simp [intOf]; omega
   ·
    have q11 : iPosCount_p_b1 a0 k2 y3 = .go (y3 + 1) := by simp only [iPosCount_p_b1, h9, cond_false]
    replace q11 := Lib.hid (rounds_next hy4.out q11)
    go_wp2
    go_roundw
    case rel => exact ⟨(by simp (maxDischargeDepth := 9) [B4]), (by simp (maxDischargeDepth := 9) [Xbx1_4]), k2 + 1, (y3 + 1), rfl, by go_num, by omega, by omega, q11⟩
    case measure => simp [intOf]; omega
  ·
   obtain rfl : a0.Pats.length = k2 := by omega
   obtain rfl : r = y3 := hr.out.symm.trans (by simp only [iPosCount_p, hy4.out])
   go_wp2
   go_ret
   exact ⟨by first | rfl | simp, (by simp (maxDischargeDepth := 9) [B4])⟩

-- impl.ValOk
def iValOk_p (a0 : ValD) : Bool := bif (a0.K == 1) then (bif inR a0.N (-1000000000 : Int) (1000000000 : Int) then (bif a0.S.toList.isEmpty then (true) else (false)) else (false)) else (bif (a0.K == 2) then (bif (a0.N == 0) then (iisWord_p a0.S (20 : Int)) else (false)) else (false))
set_option maxHeartbeats 1000000 in
set_option maxRecDepth 20000 in
theorem iValOk_w (a0 : ValD) (w : World) (ok_a0 : okVal a0) :
    Calls Tryz.prog 225 #[.agg #[.int .i64 a0.K, .int .i64 a0.N, .string a0.S]] w (RetB (iValOk_p a0) w) := by
 obtain ⟨r, hr⟩ : ∃ r, iValOk_p a0 = r := ⟨_, rfl⟩
 rw [hr]
 replace hr := Lib.hid hr
 go_enter Tryz.func225, Tryz.ntmps225
 obtain ⟨bh2, eh2⟩ : ∃ b, (a0.K == 1) = b := ⟨_, rfl⟩
 rcases Bool.eq_false_or_eq_true bh2 with h2 | h2
 ·
  go_wp2_with fail
  refine (iinRange_w a0.N (-1000000000 : Int) (1000000000 : Int)  _ ).mono ?_
  rintro e w3 ⟨rfl, hb3⟩
  have B3 := via (w0 := w) (by simp (maxDischargeDepth := 9)) hb3
  have Xbx1_3 : Bx w3 (w.heap.size) [.int .i64 a0.K, .int .i64 a0.N, .string a0.S] := Bx.via (by simp (maxDischargeDepth := 9)) hb3
  have ⟨Xbx1_3k0, Xbx1_3k1, Xbx1_3k2⟩ := bx3 Xbx1_3
  cases h4 : inR a0.N (-1000000000 : Int) (1000000000 : Int) with
  | true =>
   have ⟨h4a, h4b⟩ := inR_true h4
   replace h4 := Lib.hid h4
   obtain ⟨bh5, eh5⟩ : ∃ b, a0.S.toList.isEmpty = b := ⟨_, rfl⟩
   rcases Bool.eq_false_or_eq_true bh5 with h5 | h5
   ·
    obtain rfl : r = true := hr.out.symm.trans (by simp only [iValOk_p, eh2, h2, h4.out, eh5, h5, cond_true])
    go_wp2
    go_ret
    exact rbk (by simp (maxDischargeDepth := 9) [B3])
   ·
    obtain rfl : r = false := hr.out.symm.trans (by simp only [iValOk_p, eh2, h2, h4.out, eh5, h5, cond_true, cond_false])
    go_wp2
    go_ret
    exact rbk (by simp (maxDischargeDepth := 9) [B3])
  | false =>
   replace h4 := Lib.hid h4
   obtain rfl : r = false := hr.out.symm.trans (by simp only [iValOk_p, eh2, h2, h4.out, cond_true, cond_false])
   go_wp2
   go_ret
   exact rbk (by simp (maxDischargeDepth := 9) [B3])
 ·
  obtain ⟨bh6, eh6⟩ : ∃ b, (a0.K == 2) = b := ⟨_, rfl⟩
  rcases Bool.eq_false_or_eq_true bh6 with h6 | h6
  ·
   obtain ⟨bh7, eh7⟩ : ∃ b, (a0.N == 0) = b := ⟨_, rfl⟩
   rcases Bool.eq_false_or_eq_true bh7 with h7 | h7
   ·
    go_wp2_with fail
    refine (iisWord_w a0.S (20 : Int)  _ ok_a0.2.2).mono ?_
    rintro e w8 ⟨rfl, hb8⟩
    have B8 := via (w0 := w) (by simp (maxDischargeDepth := 9)) hb8
    have Xbx1_8 : Bx w8 (w.heap.size) [.int .i64 a0.K, .int .i64 a0.N, .string a0.S] := Bx.via (by simp (maxDischargeDepth := 9)) hb8
    have ⟨Xbx1_8k0, Xbx1_8k1, Xbx1_8k2⟩ := bx3 Xbx1_8
    obtain rfl : r = iisWord_p a0.S (20 : Int) := hr.out.symm.trans (by simp only [iValOk_p, eh2, h2, eh6, h6, eh7, h7, cond_true, cond_false])
    go_wp2
    go_ret
    exact rbk (by simp (maxDischargeDepth := 9) [B8])
   ·
    obtain rfl : r = false := hr.out.symm.trans (by simp only [iValOk_p, eh2, h2, eh6, h6, eh7, h7, cond_true, cond_false])
    go_wp2
    go_ret
    exact rbk (by simp (maxDischargeDepth := 9))
  ·
   obtain rfl : r = false := hr.out.symm.trans (by simp only [iValOk_p, eh2, h2, eh6, h6, cond_false])
   go_wp2
   go_ret
   exact rbk (by simp (maxDischargeDepth := 9))

-- impl.isLarge
def iisLarge_p (a0 : UInt8) : Bool := bif decide (65 ≤ a0.toNat) then (bif decide (a0.toNat ≤ 90) then (true) else (false)) else (false)
set_option maxHeartbeats 1000000 in
set_option maxRecDepth 20000 in
theorem iisLarge_w (a0 : UInt8) (w : World) :
    Calls Tryz.prog 470 #[.int .u8 (a0.toNat : Int)] w (RetB (iisLarge_p a0) w) := by
 obtain ⟨r, hr⟩ : ∃ r, iisLarge_p a0 = r := ⟨_, rfl⟩
 rw [hr]
 replace hr := Lib.hid hr
 go_enter Tryz.func470, Tryz.ntmps470
 by_cases h1 : 65 ≤ a0.toNat
 ·
  have h1d := Lib.hid (decide_eq_true h1)
  by_cases h2 : a0.toNat ≤ 90
  ·
   have h2d := Lib.hid (decide_eq_true h2)
   obtain rfl : r = true := hr.out.symm.trans (by simp only [iisLarge_p, h1d.out, h2d.out, cond_true])
   go_wp2
   go_ret
   exact rbk (by simp (maxDischargeDepth := 9))
  ·
   have h2d := Lib.hid (decide_eq_false h2)
   obtain rfl : r = false := hr.out.symm.trans (by simp only [iisLarge_p, h1d.out, h2d.out, cond_true, cond_false])
   go_wp2
   go_ret
   exact rbk (by simp (maxDischargeDepth := 9))
 ·
  have h1d := Lib.hid (decide_eq_false h1)
  obtain rfl : r = false := hr.out.symm.trans (by simp only [iisLarge_p, h1d.out, cond_false])
  go_wp2
  go_ret
  exact rbk (by simp (maxDischargeDepth := 9))

-- impl.isVar
def iisVar_p_b1 (a0 : ByteArray) (k6 : Nat) (_ : Unit) : St (Bool) (Unit) := bif iisWordByte_p (bt a0 k6) then (.go ()) else (bif iisLarge_p (bt a0 k6) then (.go ()) else (.ret false))
def iisVar_p (a0 : ByteArray) : Bool := bif decide (a0.size < 1) then (false) else (bif decide (12 < a0.size) then (false) else (bif iisLarge_p (bt a0 0) then (match rounds (iisVar_p_b1 a0) a0.size () with | .ret r => r | .brk _ => default | .go _ => true) else (false)))
set_option maxHeartbeats 1000000 in
set_option maxRecDepth 20000 in
theorem iisVar_w (a0 : ByteArray) (w : World) (ok_a0 : a0.size ≤ maxLen) :
    Calls Tryz.prog 437 #[.string a0] w (RetB (iisVar_p a0) w) := by
 obtain ⟨r, hr⟩ : ∃ r, iisVar_p a0 = r := ⟨_, rfl⟩
 rw [hr]
 replace hr := Lib.hid hr
 go_enter Tryz.func437, Tryz.ntmps437
 by_cases h1 : a0.size < 1
 ·
  have h1d := Lib.hid (decide_eq_true h1)
  obtain rfl : r = false := hr.out.symm.trans (by simp only [iisVar_p, h1d.out, cond_true])
  go_wp2
  go_ret
  exact rbk (by simp (maxDischargeDepth := 9))
 ·
  have h1d := Lib.hid (decide_eq_false h1)
  by_cases h2 : 12 < a0.size
  ·
   have h2d := Lib.hid (decide_eq_true h2)
   obtain rfl : r = false := hr.out.symm.trans (by simp only [iisVar_p, h1d.out, h2d.out, cond_true, cond_false])
   go_wp2
   go_ret
   exact rbk (by simp (maxDischargeDepth := 9))
  ·
   have h2d := Lib.hid (decide_eq_false h2)
   have hs3 : 0 < a0.size := by first | assumption | omega
   go_wp2_with fail
   refine (iisLarge_w (bt a0 0)  _ ).mono ?_
   rintro e w4 ⟨rfl, hb4⟩
   have B4 := via (w0 := w) (by simp (maxDischargeDepth := 9)) hb4
   cases h5 : iisLarge_p (bt a0 0) with
   | true =>
    replace h5 := Lib.hid h5
    have hmk6 : a0.size ≤ 9223372036854775807 := by have h := ok_a0; simpa [maxLen] using h
    go_wp2
    go_loopw [3] (fun i3 wr6 => Below w.heap.size w wr6 ∧ ∃ (k6 : Nat), i3 = .int .i64 k6 ∧ k6 ≤ a0.size ∧ Hid (rounds (iisVar_p_b1 a0) k6 () = .go ())) (fun i3 _ => a0.size - (intOf i3).toNat)
    case atStart => exact ⟨(by simp (maxDischargeDepth := 9) [B4]), 0, rfl, by omega, Lib.hid rfl⟩
    case round =>
     rename World => wr6
     clear B4
     obtain ⟨B7, k6, rfl, hk7, hy7⟩ := hrel
     by_cases hlt7 : k6 < a0.size
     ·
      have hs9 : k6 < a0.size := by first | assumption | omega
      go_wp2_with fail
      refine (iisWordByte_w (bt a0 k6)  _ ).mono ?_
      rintro e w10 ⟨rfl, hb10⟩
      have B10 := via (w0 := w) (by simp (maxDischargeDepth := 9) [B7]) hb10
      clear B7
      cases h11 : iisWordByte_p (bt a0 k6) with
      | true =>
       replace h11 := Lib.hid h11
       have q12 : iisVar_p_b1 a0 k6 () = .go () := by simp only [iisVar_p_b1, h11.out, cond_true]
       replace q12 := Lib.hid (rounds_next hy7.out q12)
       go_wp2
       go_roundw
       case rel => exact ⟨(by simp (maxDischargeDepth := 9) [B10]), k6 + 1, by go_num, by omega, q12⟩
       case measure => simp [intOf]; omega
      | false =>
       replace h11 := Lib.hid h11
       have hs13 : k6 < a0.size := by first | assumption | omega
       go_wp2_with fail
       refine (iisLarge_w (bt a0 k6)  _ ).mono ?_
       rintro e w14 ⟨rfl, hb14⟩
       have B14 := via (w0 := w) (by simp (maxDischargeDepth := 9) [B10]) hb14
       clear B10
       cases h15 : iisLarge_p (bt a0 k6) with
       | true =>
        replace h15 := Lib.hid h15
        have q16 : iisVar_p_b1 a0 k6 () = .go () := by simp only [iisVar_p_b1, h11.out, h15.out, cond_true, cond_false]
        replace q16 := Lib.hid (rounds_next hy7.out q16)
        go_wp2
        go_roundw
        case rel => exact ⟨(by simp (maxDischargeDepth := 9) [B14]), k6 + 1, by go_num, by omega, q16⟩
        case measure => simp [intOf]; omega
       | false =>
        replace h15 := Lib.hid h15
        have q17 : iisVar_p_b1 a0 k6 () = .ret false := by simp only [iisVar_p_b1, h11.out, h15.out, cond_false]
        have q18 := rounds_ret hlt7 hy7.out q17
        obtain rfl : r = false := hr.out.symm.trans (by simp only [iisVar_p, h1d.out, h2d.out, h5.out, q18, cond_true, cond_false])
        go_wp2
        go_ret
        exact rbk (by simp (maxDischargeDepth := 9) [B14])
     ·
      obtain rfl : a0.size = k6 := by omega
      obtain rfl : r = true := hr.out.symm.trans (by simp only [iisVar_p, h1d.out, h2d.out, h5.out, hy7.out, cond_true, cond_false])
      go_wp2
      go_ret
      exact rbk (by simp (maxDischargeDepth := 9) [B7])
   | false =>
    replace h5 := Lib.hid h5
    obtain rfl : r = false := hr.out.symm.trans (by simp only [iisVar_p, h1d.out, h2d.out, h5.out, cond_false])
    go_wp2
    go_ret
    exact rbk (by simp (maxDischargeDepth := 9) [B4])

-- impl.ArgOk
def iArgOk_p (a0 : ArgD) : Bool := bif (a0.K == 1) then (bif iisVar_p a0.S then (bif (a0.V.K == 0) then (bif (a0.V.N == 0) then (bif a0.V.S.toList.isEmpty then (true) else (false)) else (false)) else (false)) else (false)) else (bif (a0.K == 2) then (bif a0.S.toList.isEmpty then (iValOk_p a0.V) else (false)) else (bif (a0.K == 3) then (bif a0.S.toList.isEmpty then (bif (a0.V.K == 0) then (bif (a0.V.N == 0) then (bif a0.V.S.toList.isEmpty then (true) else (false)) else (false)) else (false)) else (false)) else (false)))
set_option maxHeartbeats 1000000 in
set_option maxRecDepth 20000 in
theorem iArgOk_w (a0 : ArgD) (w : World) (ok_a0 : okArg a0) :
    Calls Tryz.prog 388 #[.agg #[.int .i64 a0.K, .string a0.S, .int .i64 a0.V.K, .int .i64 a0.V.N, .string a0.V.S]] w (RetB (iArgOk_p a0) w) := by
 obtain ⟨r, hr⟩ : ∃ r, iArgOk_p a0 = r := ⟨_, rfl⟩
 rw [hr]
 replace hr := Lib.hid hr
 go_enter Tryz.func388, Tryz.ntmps388
 obtain ⟨bh2, eh2⟩ : ∃ b, (a0.K == 1) = b := ⟨_, rfl⟩
 rcases Bool.eq_false_or_eq_true bh2 with h2 | h2
 ·
  go_wp2_with fail
  refine (iisVar_w a0.S  _ ok_a0.2.1).mono ?_
  rintro e w3 ⟨rfl, hb3⟩
  have B3 := via (w0 := w) (by simp (maxDischargeDepth := 9)) hb3
  have Xbx1_3 : Bx w3 (w.heap.size) [.int .i64 a0.K, .string a0.S, .int .i64 a0.V.K, .int .i64 a0.V.N, .string a0.V.S] := Bx.via (by simp (maxDischargeDepth := 9)) hb3
  have ⟨Xbx1_3k0, Xbx1_3k1, Xbx1_3k2, Xbx1_3k3, Xbx1_3k4⟩ := bx5 Xbx1_3
  cases h4 : iisVar_p a0.S with
  | true =>
   replace h4 := Lib.hid h4
   obtain ⟨bh5, eh5⟩ : ∃ b, (a0.V.K == 0) = b := ⟨_, rfl⟩
   rcases Bool.eq_false_or_eq_true bh5 with h5 | h5
   ·
    obtain ⟨bh6, eh6⟩ : ∃ b, (a0.V.N == 0) = b := ⟨_, rfl⟩
    rcases Bool.eq_false_or_eq_true bh6 with h6 | h6
    ·
     obtain ⟨bh7, eh7⟩ : ∃ b, a0.V.S.toList.isEmpty = b := ⟨_, rfl⟩
     rcases Bool.eq_false_or_eq_true bh7 with h7 | h7
     ·
      obtain rfl : r = true := hr.out.symm.trans (by simp only [iArgOk_p, eh2, h2, h4.out, eh5, h5, eh6, h6, eh7, h7, cond_true])
      go_wp2
      go_ret
      exact rbk (by simp (maxDischargeDepth := 9) [B3])
     ·
      obtain rfl : r = false := hr.out.symm.trans (by simp only [iArgOk_p, eh2, h2, h4.out, eh5, h5, eh6, h6, eh7, h7, cond_true, cond_false])
      go_wp2
      go_ret
      exact rbk (by simp (maxDischargeDepth := 9) [B3])
    ·
     obtain rfl : r = false := hr.out.symm.trans (by simp only [iArgOk_p, eh2, h2, h4.out, eh5, h5, eh6, h6, cond_true, cond_false])
     go_wp2
     go_ret
     exact rbk (by simp (maxDischargeDepth := 9) [B3])
   ·
    obtain rfl : r = false := hr.out.symm.trans (by simp only [iArgOk_p, eh2, h2, h4.out, eh5, h5, cond_true, cond_false])
    go_wp2
    go_ret
    exact rbk (by simp (maxDischargeDepth := 9) [B3])
  | false =>
   replace h4 := Lib.hid h4
   obtain rfl : r = false := hr.out.symm.trans (by simp only [iArgOk_p, eh2, h2, h4.out, cond_true, cond_false])
   go_wp2
   go_ret
   exact rbk (by simp (maxDischargeDepth := 9) [B3])
 ·
  obtain ⟨bh8, eh8⟩ : ∃ b, (a0.K == 2) = b := ⟨_, rfl⟩
  rcases Bool.eq_false_or_eq_true bh8 with h8 | h8
  ·
   obtain ⟨bh9, eh9⟩ : ∃ b, a0.S.toList.isEmpty = b := ⟨_, rfl⟩
   rcases Bool.eq_false_or_eq_true bh9 with h9 | h9
   ·
    go_wp2_with fail
    refine (iValOk_w a0.V  _ ok_a0.2.2).mono ?_
    rintro e w10 ⟨rfl, hb10⟩
    have B10 := via (w0 := w) (by simp (maxDischargeDepth := 9)) hb10
    have Xbx1_10 : Bx w10 (w.heap.size) [.int .i64 a0.K, .string a0.S, .int .i64 a0.V.K, .int .i64 a0.V.N, .string a0.V.S] := Bx.via (by simp (maxDischargeDepth := 9)) hb10
    have ⟨Xbx1_10k0, Xbx1_10k1, Xbx1_10k2, Xbx1_10k3, Xbx1_10k4⟩ := bx5 Xbx1_10
    obtain rfl : r = iValOk_p a0.V := hr.out.symm.trans (by simp only [iArgOk_p, eh2, h2, eh8, h8, eh9, h9, cond_true, cond_false])
    go_wp2
    go_ret
    exact rbk (by simp (maxDischargeDepth := 9) [B10])
   ·
    obtain rfl : r = false := hr.out.symm.trans (by simp only [iArgOk_p, eh2, h2, eh8, h8, eh9, h9, cond_true, cond_false])
    go_wp2
    go_ret
    exact rbk (by simp (maxDischargeDepth := 9))
  ·
   obtain ⟨bh11, eh11⟩ : ∃ b, (a0.K == 3) = b := ⟨_, rfl⟩
   rcases Bool.eq_false_or_eq_true bh11 with h11 | h11
   ·
    obtain ⟨bh12, eh12⟩ : ∃ b, a0.S.toList.isEmpty = b := ⟨_, rfl⟩
    rcases Bool.eq_false_or_eq_true bh12 with h12 | h12
    ·
     obtain ⟨bh13, eh13⟩ : ∃ b, (a0.V.K == 0) = b := ⟨_, rfl⟩
     rcases Bool.eq_false_or_eq_true bh13 with h13 | h13
     ·
      obtain ⟨bh14, eh14⟩ : ∃ b, (a0.V.N == 0) = b := ⟨_, rfl⟩
      rcases Bool.eq_false_or_eq_true bh14 with h14 | h14
      ·
       obtain ⟨bh15, eh15⟩ : ∃ b, a0.V.S.toList.isEmpty = b := ⟨_, rfl⟩
       rcases Bool.eq_false_or_eq_true bh15 with h15 | h15
       ·
        obtain rfl : r = true := hr.out.symm.trans (by simp only [iArgOk_p, eh2, h2, eh8, h8, eh11, h11, eh12, h12, eh13, h13, eh14, h14, eh15, h15, cond_true, cond_false])
        go_wp2
        go_ret
        exact rbk (by simp (maxDischargeDepth := 9))
       ·
        obtain rfl : r = false := hr.out.symm.trans (by simp only [iArgOk_p, eh2, h2, eh8, h8, eh11, h11, eh12, h12, eh13, h13, eh14, h14, eh15, h15, cond_true, cond_false])
        go_wp2
        go_ret
        exact rbk (by simp (maxDischargeDepth := 9))
      ·
       obtain rfl : r = false := hr.out.symm.trans (by simp only [iArgOk_p, eh2, h2, eh8, h8, eh11, h11, eh12, h12, eh13, h13, eh14, h14, cond_true, cond_false])
       go_wp2
       go_ret
       exact rbk (by simp (maxDischargeDepth := 9))
     ·
      obtain rfl : r = false := hr.out.symm.trans (by simp only [iArgOk_p, eh2, h2, eh8, h8, eh11, h11, eh12, h12, eh13, h13, cond_true, cond_false])
      go_wp2
      go_ret
      exact rbk (by simp (maxDischargeDepth := 9))
    ·
     obtain rfl : r = false := hr.out.symm.trans (by simp only [iArgOk_p, eh2, h2, eh8, h8, eh11, h11, eh12, h12, cond_true, cond_false])
     go_wp2
     go_ret
     exact rbk (by simp (maxDischargeDepth := 9))
   ·
    obtain rfl : r = false := hr.out.symm.trans (by simp only [iArgOk_p, eh2, h2, eh8, h8, eh11, h11, cond_false])
    go_wp2
    go_ret
    exact rbk (by simp (maxDischargeDepth := 9))

-- impl.PatOk
def iPatOk_p_b1 (a0 : PatD) (k5 : Nat) (_ : Unit) : St (Bool) (Unit) := bif iArgOk_p (gt a0.Args k5) then (.go ()) else (.ret false)
def iPatOk_p (a0 : PatD) : Bool := bif iNameOk_p a0.Kind then (bif decide (5 < a0.Args.length) then (false) else (match rounds (iPatOk_p_b1 a0) a0.Args.length () with | .ret r => r | .brk _ => default | .go _ => true)) else (false)
set_option maxHeartbeats 1000000 in
set_option maxRecDepth 20000 in
theorem iPatOk_w (a0 : PatD) (v0_1 : Value) (w : World) (s0_1 : Sl w a0.Args v0_1) (ok_a0 : okPat a0) :
    Calls Tryz.prog 315 #[.agg #[.string a0.Kind, v0_1, .bool a0.Not]] w (RetB (iPatOk_p a0) w) := by
 obtain ⟨p0_1, c0_1, rfl, hl0_1, -, hk0_1, -⟩ := s0_1.open
 obtain ⟨r, hr⟩ : ∃ r, iPatOk_p a0 = r := ⟨_, rfl⟩
 rw [hr]
 replace hr := Lib.hid hr
 go_enter Tryz.func315, Tryz.ntmps315
 go_wp2_with fail
 refine (iNameOk_w a0.Kind  _ ok_a0).mono ?_
 rintro e w2 ⟨rfl, hb2⟩
 have B2 := via (w0 := w) (by simp (maxDischargeDepth := 9)) hb2
 have Xbx1_2 : Bx w2 (w.heap.size) [.string a0.Kind, .slice p0_1 a0.Args.length c0_1, .bool a0.Not] := Bx.via (by simp (maxDischargeDepth := 9)) hb2
 have ⟨Xbx1_2k0, Xbx1_2k1, Xbx1_2k2⟩ := bx3 Xbx1_2
 cases h3 : iNameOk_p a0.Kind with
 | true =>
  replace h3 := Lib.hid h3
  by_cases h4 : 5 < a0.Args.length
  ·
   have h4d := Lib.hid (decide_eq_true h4)
   obtain rfl : r = false := hr.out.symm.trans (by simp only [iPatOk_p, h3.out, h4d.out, cond_true])
   go_wp2
   go_ret
   exact rbk (by simp (maxDischargeDepth := 9) [B2])
  ·
   have h4d := Lib.hid (decide_eq_false h4)
   go_wp2
   go_loopw [18] (fun i18 wr5 => Below w.heap.size w wr5 ∧ Bx wr5 (w.heap.size) [.string a0.Kind, .slice p0_1 a0.Args.length c0_1, .bool a0.Not] ∧ ∃ (k5 : Nat), i18 = .int .i64 k5 ∧ k5 ≤ a0.Args.length ∧ Hid (rounds (iPatOk_p_b1 a0) k5 () = .go ())) (fun i18 _ => a0.Args.length - (intOf i18).toNat)
   case atStart => exact ⟨(by simp (maxDischargeDepth := 9) [B2]), (by simp (maxDischargeDepth := 9) [Xbx1_2]), 0, rfl, by omega, Lib.hid rfl⟩
   case round =>
    rename World => wr5
    clear Xbx1_2 Xbx1_2k0 Xbx1_2k1 Xbx1_2k2 B2
    obtain ⟨B6, Xbx1_6, k5, rfl, hk6, hy6⟩ := hrel
    have ⟨Xbx1_6k0, Xbx1_6k1, Xbx1_6k2⟩ := bx3 Xbx1_6
    by_cases hlt6 : k5 < a0.Args.length
    ·
     have hi9 : k5 < a0.Args.length := by first | assumption | omega
     obtain ⟨e8b, e8o, rfl, e8bl, e8ok, ⟨e8d0, e8d1, e8d2, e8d3, e8d4⟩⟩ := Sl.gtArg s0_1 k5 hi9
     have e8E := Lib.hid (And.intro e8d0 (And.intro e8d1 (And.intro e8d2 (And.intro e8d3 e8d4))))
     clear e8d0 e8d1 e8d2 e8d3 e8d4
     have ⟨e8d0n, e8d1n, e8d2n, e8d3n, e8d4n⟩ := cb5 B6 e8bl e8E.out
     go_wp2_with fail
     refine (iArgOk_w (gt a0.Args k5)  _ e8ok).mono ?_
     rintro e w11 ⟨rfl, hb11⟩
     have B11 := via (w0 := w) (by simp (maxDischargeDepth := 9) [B6]) hb11
     have U11 : Below wr5.heap.size wr5 w11 := via (by simp (maxDischargeDepth := 9)) hb11
     have Xbx1_11 := Xbx1_6.via U11
     clear Xbx1_6 Xbx1_6k0 Xbx1_6k1 Xbx1_6k2
     have ⟨Xbx1_11k0, Xbx1_11k1, Xbx1_11k2⟩ := bx3 Xbx1_11
     have Xbx10_11 : Bx w11 (wr5.heap.size) [.int .i64 ((gt a0.Args k5).K), .string ((gt a0.Args k5).S), .int .i64 ((gt a0.Args k5).V.K), .int .i64 ((gt a0.Args k5).V.N), .string ((gt a0.Args k5).V.S)] := Bx.via (by simp (maxDischargeDepth := 9)) hb11
     have ⟨Xbx10_11k0, Xbx10_11k1, Xbx10_11k2, Xbx10_11k3, Xbx10_11k4⟩ := bx5 Xbx10_11
     clear e8d0n e8d1n e8d2n e8d3n e8d4n
     have ⟨e8d0n, e8d1n, e8d2n, e8d3n, e8d4n⟩ := cb5 B11 e8bl e8E.out
     clear U11
     clear B6
     cases h12 : iArgOk_p (gt a0.Args k5) with
     | true =>
      replace h12 := Lib.hid h12
      have q13 : iPatOk_p_b1 a0 k5 () = .go () := by simp only [iPatOk_p_b1, h12.out, cond_true]
      replace q13 := Lib.hid (rounds_next hy6.out q13)
      go_wp2
      go_roundw
      case rel => exact ⟨(by simp (maxDischargeDepth := 9) [B11]), (by simp (maxDischargeDepth := 9) [Xbx1_11]), k5 + 1, by go_num, by omega, q13⟩
      case measure => simp [intOf]; omega
     | false =>
      replace h12 := Lib.hid h12
      have q14 : iPatOk_p_b1 a0 k5 () = .ret false := by simp only [iPatOk_p_b1, h12.out, cond_false]
      have q15 := rounds_ret hlt6 hy6.out q14
      obtain rfl : r = false := hr.out.symm.trans (by simp only [iPatOk_p, h3.out, h4d.out, q15, cond_true, cond_false])
      go_wp2
      go_ret
      exact rbk (by simp (maxDischargeDepth := 9) [B11])
    ·
     obtain rfl : a0.Args.length = k5 := by omega
     obtain rfl : r = true := hr.out.symm.trans (by simp only [iPatOk_p, h3.out, h4d.out, hy6.out, cond_true, cond_false])
     go_wp2
     go_ret
     exact rbk (by simp (maxDischargeDepth := 9) [B6])
 | false =>
  replace h3 := Lib.hid h3
  obtain rfl : r = false := hr.out.symm.trans (by simp only [iPatOk_p, h3.out, cond_false])
  go_wp2
  go_ret
  exact rbk (by simp (maxDischargeDepth := 9) [B2])

-- impl.patsOk
def ipatsOk_p_b1 (a0 : RuleD) (k7 : Nat) (_ : Unit) : St (Bool) (Unit) := bif iPatOk_p (gt a0.Pats k7) then (bif decide ((iPosCount_p a0) ≤ (k7 : Int)) then (bif (gt a0.Pats k7).Not then (.go ()) else (.ret false)) else (bif (gt a0.Pats k7).Not then (.ret false) else (.go ()))) else (.ret false)
def ipatsOk_p (a0 : RuleD) : Bool := bif inR ((a0.Pats.length : Nat) : Int) (1 : Int) (6 : Int) then (bif inR (iPosCount_p a0) (1 : Int) (3 : Int) then (match rounds (ipatsOk_p_b1 a0) a0.Pats.length () with | .ret r => r | .brk _ => default | .go _ => true) else (false)) else (false)
set_option maxHeartbeats 1000000 in
set_option maxRecDepth 20000 in
theorem ipatsOk_w (a0 : RuleD) (v0_2 : Value) (v0_3 : Value) (v0_4 : Value) (w : World) (s0_2 : Sl w a0.Pats v0_2) (s0_3 : Sl w a0.Conds v0_3) (s0_4 : Sl w a0.Acts v0_4) :
    Calls Tryz.prog 217 #[.agg #[.string a0.Name, .int .i64 a0.Sal, v0_2, v0_3, v0_4]] w (RetB (ipatsOk_p a0) w) := by
 obtain ⟨p0_2, c0_2, rfl, hl0_2, -, hk0_2, -⟩ := s0_2.open
 obtain ⟨p0_3, c0_3, rfl, hl0_3, -, hk0_3, -⟩ := s0_3.open
 obtain ⟨p0_4, c0_4, rfl, hl0_4, -, hk0_4, -⟩ := s0_4.open
 obtain ⟨r, hr⟩ : ∃ r, ipatsOk_p a0 = r := ⟨_, rfl⟩
 rw [hr]
 replace hr := Lib.hid hr
 go_enter Tryz.func217, Tryz.ntmps217
 go_wp2_with fail
 refine (iinRange_w ((a0.Pats.length : Nat) : Int) (1 : Int) (6 : Int)  _ ).mono ?_
 rintro e w2 ⟨rfl, hb2⟩
 have B2 := via (w0 := w) (by simp (maxDischargeDepth := 9)) hb2
 have Xbx1_2 : Bx w2 (w.heap.size) [.string a0.Name, .int .i64 a0.Sal, .slice p0_2 a0.Pats.length c0_2, .slice p0_3 a0.Conds.length c0_3, .slice p0_4 a0.Acts.length c0_4] := Bx.via (by simp (maxDischargeDepth := 9)) hb2
 have ⟨Xbx1_2k0, Xbx1_2k1, Xbx1_2k2, Xbx1_2k3, Xbx1_2k4⟩ := bx5 Xbx1_2
 cases h3 : inR ((a0.Pats.length : Nat) : Int) (1 : Int) (6 : Int) with
 | true =>
  have ⟨h3a, h3b⟩ := inR_true h3
  replace h3 := Lib.hid h3
  go_wp2_with fail
  refine (iPosCount_w a0 _ _ _ _ (s0_2.to (by simp (maxDischargeDepth := 9) [B2])) (s0_3.to (by simp (maxDischargeDepth := 9) [B2])) (s0_4.to (by simp (maxDischargeDepth := 9) [B2]))).mono ?_
  rintro e w4 ⟨rfl, hb4⟩
  have B4 := via (w0 := w) (by simp (maxDischargeDepth := 9) [B2]) hb4
  have U4 : Below w2.heap.size w2 w4 := via (by simp (maxDischargeDepth := 9)) hb4
  have Xbx1_4 := Xbx1_2.via U4
  clear Xbx1_2 Xbx1_2k0 Xbx1_2k1 Xbx1_2k2 Xbx1_2k3 Xbx1_2k4
  have ⟨Xbx1_4k0, Xbx1_4k1, Xbx1_4k2, Xbx1_4k3, Xbx1_4k4⟩ := bx5 Xbx1_4
  clear U4
  clear B2
  go_wp2_with fail
  refine (iinRange_w (iPosCount_p a0) (1 : Int) (3 : Int)  _ ).mono ?_
  rintro e w5 ⟨rfl, hb5⟩
  have B5 := via (w0 := w) (by simp (maxDischargeDepth := 9) [B4]) hb5
  have U5 : Below w4.heap.size w4 w5 := via (by simp (maxDischargeDepth := 9)) hb5
  have Xbx1_5 := Xbx1_4.via U5
  clear Xbx1_4 Xbx1_4k0 Xbx1_4k1 Xbx1_4k2 Xbx1_4k3 Xbx1_4k4
  have ⟨Xbx1_5k0, Xbx1_5k1, Xbx1_5k2, Xbx1_5k3, Xbx1_5k4⟩ := bx5 Xbx1_5
  clear U5
  clear B4
  cases h6 : inR (iPosCount_p a0) (1 : Int) (3 : Int) with
  | true =>
   have ⟨h6a, h6b⟩ := inR_true h6
   replace h6 := Lib.hid h6
   go_wp2
   go_loopw [19] (fun i19 wr7 => Below w.heap.size w wr7 ∧ Bx wr7 (w.heap.size) [.string a0.Name, .int .i64 a0.Sal, .slice p0_2 a0.Pats.length c0_2, .slice p0_3 a0.Conds.length c0_3, .slice p0_4 a0.Acts.length c0_4] ∧ ∃ (k7 : Nat), i19 = .int .i64 k7 ∧ k7 ≤ a0.Pats.length ∧ Hid (rounds (ipatsOk_p_b1 a0) k7 () = .go ())) (fun i19 _ => a0.Pats.length - (intOf i19).toNat)
   case atStart => exact ⟨(by simp (maxDischargeDepth := 9) [B5]), (by simp (maxDischargeDepth := 9) [Xbx1_5]), 0, rfl, by omega, Lib.hid rfl⟩
   case round =>
    rename World => wr7
    clear Xbx1_5 Xbx1_5k0 Xbx1_5k1 Xbx1_5k2 Xbx1_5k3 Xbx1_5k4 B5
    obtain ⟨B8, Xbx1_8, k7, rfl, hk8, hy8⟩ := hrel
    have ⟨Xbx1_8k0, Xbx1_8k1, Xbx1_8k2, Xbx1_8k3, Xbx1_8k4⟩ := bx5 Xbx1_8
    by_cases hlt8 : k7 < a0.Pats.length
    ·
     have hi11 : k7 < a0.Pats.length := by first | assumption | omega
     obtain ⟨e10b, e10o, ue10_1, rfl, e10bl, e10ok, ⟨e10d0, e10d1, e10d2⟩, te10_1⟩ := Sl.gtPat s0_2 k7 hi11
     obtain ⟨pe10_1, ce10_1, rfl, hlpe10_1, -⟩ := te10_1.open
     have e10E := Lib.hid (And.intro e10d0 (And.intro e10d1 e10d2))
     clear e10d0 e10d1 e10d2
     have ⟨e10d0n, e10d1n, e10d2n⟩ := cb3 B8 e10bl e10E.out
     go_wp2
     refine wp_region_noPanic ?_
     refine wp_region_held_drew (S := (fun w' => w'.cell? ⟨w.heap.size, 0, none⟩ = some (.string a0.Name) ∧ w'.cell? ⟨w.heap.size, 1, none⟩ = some (.int .i64 a0.Sal) ∧ w'.cell? ⟨w.heap.size, 2, none⟩ = some (.slice (some ⟨e10b, e10o, none⟩) a0.Pats.length c0_2) ∧ w'.cell? ⟨w.heap.size, 3, none⟩ = some (.slice p0_3 a0.Conds.length c0_3) ∧ w'.cell? ⟨w.heap.size, 4, none⟩ = some (.slice p0_4 a0.Acts.length c0_4) ∧ w'.cell? ⟨wr7.heap.size, 0, none⟩ = some (.string ((gt a0.Pats k7).Kind)) ∧ w'.cell? ⟨wr7.heap.size, 1, none⟩ = some (.slice pe10_1 ((gt a0.Pats k7).Args.length) ce10_1) ∧ w'.cell? ⟨wr7.heap.size, 2, none⟩ = some (.bool ((gt a0.Pats k7).Not)) ∧ w'.cell? ⟨e10b, e10o + k7 * 3, none⟩ = some (.string ((gt a0.Pats k7).Kind)) ∧ w'.cell? ⟨e10b, e10o + k7 * 3 + 1, none⟩ = some (.slice pe10_1 ((gt a0.Pats k7).Args.length) ce10_1) ∧ w'.cell? ⟨e10b, e10o + k7 * 3 + 2, none⟩ = some (.bool ((gt a0.Pats k7).Not)))) (by kernel_rfl) ?_ (fun hHeld0 => ?_)
     · go_keep
     refine tt 0 ?_
     simp only [Act.put, sa, s0, ss]
     refine wpAnyH_ready (rs := [1]) (by kernel_rfl) (by simp) ?_
     refine' AllReadyH.cons (o := _) ?hi1003_1 (fun K hK => ?_) AllReadyH.nil
     case hi1003_1 => simp only [List.getElem?_toArray, List.getElem?_cons_succ, List.getElem?_cons_zero]; exact rfl
     go_simp
     go_at_call 315
     refine (iPatOk_w (gt a0.Pats k7) _ _ (te10_1.to (by simp (maxDischargeDepth := 9) [B8])) e10ok).mono ?_
     rintro e w13 ⟨rfl, hb13⟩
     have B13 := via (w0 := w) (by simp (maxDischargeDepth := 9) [B8]) hb13
     have U13 : Below wr7.heap.size wr7 w13 := via (by simp (maxDischargeDepth := 9)) hb13
     have Xbx1_13 := Xbx1_8.via U13
     clear Xbx1_8 Xbx1_8k0 Xbx1_8k1 Xbx1_8k2 Xbx1_8k3 Xbx1_8k4
     have ⟨Xbx1_13k0, Xbx1_13k1, Xbx1_13k2, Xbx1_13k3, Xbx1_13k4⟩ := bx5 Xbx1_13
     have Xbx12_13 : Bx w13 (wr7.heap.size) [.string ((gt a0.Pats k7).Kind), .slice pe10_1 ((gt a0.Pats k7).Args.length) ce10_1, .bool ((gt a0.Pats k7).Not)] := Bx.via (by simp (maxDischargeDepth := 9)) hb13
     have ⟨Xbx12_13k0, Xbx12_13k1, Xbx12_13k2⟩ := bx3 Xbx12_13
     clear e10d0n e10d1n e10d2n
     have ⟨e10d0n, e10d1n, e10d2n⟩ := cb3 B13 e10bl e10E.out
     clear U13
     clear B8
     cases h14 : iPatOk_p (gt a0.Pats k7) with
     | true =>
      replace h14 := Lib.hid h14
      go_wp2_with fail
      refine hK.out _ _ ?_ (fun hHeld1 => ?_)
      · go_keep
      clear hK K hHeld0
      refine tt 2 ?_
      simp only [Act.put, sa, s0, ss]
      refine tt 3 ?_
      simp only [Act.put, sa, s0, ss]
      refine tt 4 ?_
      simp only [Act.put, sa, s0, ss]
      refine tt 5 ?_
      simp only [Act.put, sa, s0, ss]
      refine tt 6 ?_
      simp only [Act.put, sa, s0, ss]
      refine tt 7 ?_
      simp only [Act.put, sa, s0, ss]
      refine wpAnyH_ready (rs := [8]) (by kernel_rfl) (by simp) ?_
      refine' AllReadyH.cons (o := _) ?hi1004_8 (fun K hK => ?_) AllReadyH.nil
      case hi1004_8 => simp only [List.getElem?_toArray, List.getElem?_cons_succ, List.getElem?_cons_zero]; exact rfl
      go_simp
      go_at_call 145
      refine (iPosCount_w a0 _ _ _ _ (s0_2.to (by simp (maxDischargeDepth := 9) [B13])) (s0_3.to (by simp (maxDischargeDepth := 9) [B13])) (s0_4.to (by simp (maxDischargeDepth := 9) [B13]))).mono ?_
      rintro e w15 ⟨rfl, hb15⟩
      have B15 := via (w0 := w) (by simp (maxDischargeDepth := 9) [B13]) hb15
      have U15 : Below w13.heap.size w13 w15 := via (by simp (maxDischargeDepth := 9)) hb15
      have Xbx1_15 := Xbx1_13.via U15
      clear Xbx1_13 Xbx1_13k0 Xbx1_13k1 Xbx1_13k2 Xbx1_13k3 Xbx1_13k4
      have ⟨Xbx1_15k0, Xbx1_15k1, Xbx1_15k2, Xbx1_15k3, Xbx1_15k4⟩ := bx5 Xbx1_15
      have Xbx12_15 := Xbx12_13.via U15
      clear Xbx12_13 Xbx12_13k0 Xbx12_13k1 Xbx12_13k2
      have ⟨Xbx12_15k0, Xbx12_15k1, Xbx12_15k2⟩ := bx3 Xbx12_15
      clear e10d0n e10d1n e10d2n
      have ⟨e10d0n, e10d1n, e10d2n⟩ := cb3 B15 e10bl e10E.out
      clear U15
      clear B13
      go_wp2_with fail
      refine hK.out _ _ ?_ (fun hHeld8 => ?_)
      · go_keep
      clear hK K hHeld1
      by_cases h16 : (iPosCount_p a0) ≤ (k7 : Int)
      ·
       have h16d := Lib.hid (decide_eq_true h16)
       refine tt 9 ?_
       simp only [Act.put, sa, s0, ss]
       rcases Bool.eq_false_or_eq_true ((gt a0.Pats k7).Not) with h17 | h17
       ·
        refine tt 10 ?_
        simp only [Act.put, sa, s0, ss]
        refine tt 11 ?_
        simp only [Act.put, sa, s0, ss]
        refine wpAnyH_done (by kernel_rfl) ?_ _
        clear hHeld8
        refine NoPanic.normal ?_
        have q18 : ipatsOk_p_b1 a0 k7 () = .go () := by simp only [ipatsOk_p_b1, h14.out, h16d.out, h17, cond_true]
        replace q18 := Lib.hid (rounds_next hy8.out q18)
        go_wp2
        go_roundw
        case rel => exact ⟨(by simp (maxDischargeDepth := 9) [B15]), (by simp (maxDischargeDepth := 9) [Xbx1_15]), k7 + 1, by go_num, by omega, q18⟩
        case measure => simp [intOf]; omega
       ·
        refine tt 10 ?_
        simp only [Act.put, sa, s0, ss]
        refine tt 11 ?_
        simp only [Act.put, sa, s0, ss]
        refine wpAnyH_done (by kernel_rfl) ?_ _
        clear hHeld8
        refine NoPanic.normal ?_
        have q19 : ipatsOk_p_b1 a0 k7 () = .ret false := by simp only [ipatsOk_p_b1, h14.out, h16d.out, h17, cond_true, cond_false]
        have q20 := rounds_ret hlt8 hy8.out q19
        obtain rfl : r = false := hr.out.symm.trans (by simp only [ipatsOk_p, h3.out, h6.out, q20, cond_true])
        go_wp2
        go_ret
        exact rbk (by simp (maxDischargeDepth := 9) [B15])
      ·
       have h16d := Lib.hid (decide_eq_false h16)
       refine tt 9 ?_
       simp only [Act.put, sa, s0, ss]
       rcases Bool.eq_false_or_eq_true ((gt a0.Pats k7).Not) with h21 | h21
       ·
        refine tt 10 ?_
        simp only [Act.put, sa, s0, ss]
        refine tt 11 ?_
        simp only [Act.put, sa, s0, ss]
        refine wpAnyH_done (by kernel_rfl) ?_ _
        clear hHeld8
        refine NoPanic.normal ?_
        have q22 : ipatsOk_p_b1 a0 k7 () = .ret false := by simp only [ipatsOk_p_b1, h14.out, h16d.out, h21, cond_true, cond_false]
        have q23 := rounds_ret hlt8 hy8.out q22
        obtain rfl : r = false := hr.out.symm.trans (by simp only [ipatsOk_p, h3.out, h6.out, q23, cond_true])
        go_wp2
        go_ret
        exact rbk (by simp (maxDischargeDepth := 9) [B15])
       ·
        refine tt 10 ?_
        simp only [Act.put, sa, s0, ss]
        refine tt 11 ?_
        simp only [Act.put, sa, s0, ss]
        refine wpAnyH_done (by kernel_rfl) ?_ _
        clear hHeld8
        refine NoPanic.normal ?_
        have q24 : ipatsOk_p_b1 a0 k7 () = .go () := by simp only [ipatsOk_p_b1, h14.out, h16d.out, h21, cond_true, cond_false]
        replace q24 := Lib.hid (rounds_next hy8.out q24)
        go_wp2
        go_roundw
        case rel => exact ⟨(by simp (maxDischargeDepth := 9) [B15]), (by simp (maxDischargeDepth := 9) [Xbx1_15]), k7 + 1, by go_num, by omega, q24⟩
        case measure => simp [intOf]; omega
     | false =>
      replace h14 := Lib.hid h14
      go_wp2_with fail
      refine hK.out _ _ ?_ (fun hHeld1 => ?_)
      · go_keep
      clear hK K hHeld0
      refine tt 2 ?_
      simp only [Act.put, sa, s0, ss]
      refine tt 3 ?_
      simp only [Act.put, sa, s0, ss]
      refine tu 4 ?_
      simp only [Act.put, sa, s0, ss]
      refine tu 5 ?_
      simp only [Act.put, sa, s0, ss]
      refine tu 6 ?_
      simp only [Act.put, sa, s0, ss]
      refine tu 7 ?_
      simp only [Act.put, sa, s0, ss]
      refine tu 8 ?_
      simp only [Act.put, sa, s0, ss]
      refine tu 9 ?_
      simp only [Act.put, sa, s0, ss]
      refine tu 10 ?_
      simp only [Act.put, sa, s0, ss]
      refine tt 11 ?_
      simp only [Act.put, sa, s0, ss]
      refine wpAnyH_done (by kernel_rfl) ?_ _
      clear hHeld1
      refine NoPanic.normal ?_
      have q25 : ipatsOk_p_b1 a0 k7 () = .ret false := by simp only [ipatsOk_p_b1, h14.out, cond_false]
      have q26 := rounds_ret hlt8 hy8.out q25
      obtain rfl : r = false := hr.out.symm.trans (by simp only [ipatsOk_p, h3.out, h6.out, q26, cond_true])
      go_wp2
      go_ret
      exact rbk (by simp (maxDischargeDepth := 9) [B13])
    ·
     obtain rfl : a0.Pats.length = k7 := by omega
     obtain rfl : r = true := hr.out.symm.trans (by simp only [ipatsOk_p, h3.out, h6.out, hy8.out, cond_true])
     go_wp2
     go_ret
     exact rbk (by simp (maxDischargeDepth := 9) [B8])
  | false =>
   replace h6 := Lib.hid h6
   obtain rfl : r = false := hr.out.symm.trans (by simp only [ipatsOk_p, h3.out, h6.out, cond_true, cond_false])
   go_wp2
   go_ret
   exact rbk (by simp (maxDischargeDepth := 9) [B5])
 | false =>
  replace h3 := Lib.hid h3
  obtain rfl : r = false := hr.out.symm.trans (by simp only [ipatsOk_p, h3.out, cond_false])
  go_wp2
  go_ret
  exact rbk (by simp (maxDischargeDepth := 9) [B2])

-- impl.isTerm
def iisTerm_p (a0 : ArgD) : Bool := bif (a0.K == 3) then (false) else (iArgOk_p a0)
set_option maxHeartbeats 1000000 in
set_option maxRecDepth 20000 in
theorem iisTerm_w (a0 : ArgD) (w : World) (ok_a0 : okArg a0) :
    Calls Tryz.prog 316 #[.agg #[.int .i64 a0.K, .string a0.S, .int .i64 a0.V.K, .int .i64 a0.V.N, .string a0.V.S]] w (RetB (iisTerm_p a0) w) := by
 obtain ⟨r, hr⟩ : ∃ r, iisTerm_p a0 = r := ⟨_, rfl⟩
 rw [hr]
 replace hr := Lib.hid hr
 go_enter Tryz.func316, Tryz.ntmps316
 obtain ⟨bh2, eh2⟩ : ∃ b, (a0.K == 3) = b := ⟨_, rfl⟩
 have nh2 : (a0.K != 3) = !bh2 := by rw [← eh2]; rfl
 rcases Bool.eq_false_or_eq_true bh2 with h2 | h2
 ·
  obtain rfl : r = false := hr.out.symm.trans (by simp only [iisTerm_p, eh2, h2, cond_true])
  go_wp2
  go_ret
  exact rbk (by simp (maxDischargeDepth := 9))
 ·
  go_wp2_with fail
  refine (iArgOk_w a0  _ ok_a0).mono ?_
  rintro e w3 ⟨rfl, hb3⟩
  have B3 := via (w0 := w) (by simp (maxDischargeDepth := 9)) hb3
  have Xbx1_3 : Bx w3 (w.heap.size) [.int .i64 a0.K, .string a0.S, .int .i64 a0.V.K, .int .i64 a0.V.N, .string a0.V.S] := Bx.via (by simp (maxDischargeDepth := 9)) hb3
  have ⟨Xbx1_3k0, Xbx1_3k1, Xbx1_3k2, Xbx1_3k3, Xbx1_3k4⟩ := bx5 Xbx1_3
  obtain rfl : r = iArgOk_p a0 := hr.out.symm.trans (by simp only [iisTerm_p, eh2, h2, cond_false])
  go_wp2
  go_ret
  exact rbk (by simp (maxDischargeDepth := 9) [B3])

-- impl.CondOk
def iCondOk_p (a0 : CondD) : Bool := bif inR a0.Op (1 : Int) (3 : Int) then (bif iisTerm_p a0.L then (iisTerm_p a0.R) else (false)) else (false)
set_option maxHeartbeats 1000000 in
set_option maxRecDepth 20000 in
theorem iCondOk_w (a0 : CondD) (w : World) (ok_a0 : okCond a0) :
    Calls Tryz.prog 218 #[.agg #[.int .i64 a0.Op, .int .i64 a0.L.K, .string a0.L.S, .int .i64 a0.L.V.K, .int .i64 a0.L.V.N, .string a0.L.V.S, .int .i64 a0.R.K, .string a0.R.S, .int .i64 a0.R.V.K, .int .i64 a0.R.V.N, .string a0.R.V.S]] w (RetB (iCondOk_p a0) w) := by
 obtain ⟨r, hr⟩ : ∃ r, iCondOk_p a0 = r := ⟨_, rfl⟩
 rw [hr]
 replace hr := Lib.hid hr
 go_enter Tryz.func218, Tryz.ntmps218
 go_wp2_with fail
 refine (iinRange_w a0.Op (1 : Int) (3 : Int)  _ ).mono ?_
 rintro e w2 ⟨rfl, hb2⟩
 have B2 := via (w0 := w) (by simp (maxDischargeDepth := 9)) hb2
 have Xbx1_2 : Bx w2 (w.heap.size) [.int .i64 a0.Op, .int .i64 a0.L.K, .string a0.L.S, .int .i64 a0.L.V.K, .int .i64 a0.L.V.N, .string a0.L.V.S, .int .i64 a0.R.K, .string a0.R.S, .int .i64 a0.R.V.K, .int .i64 a0.R.V.N, .string a0.R.V.S] := Bx.via (by simp (maxDischargeDepth := 9)) hb2
 have ⟨Xbx1_2k0, Xbx1_2k1, Xbx1_2k2, Xbx1_2k3, Xbx1_2k4, Xbx1_2k5, Xbx1_2k6, Xbx1_2k7, Xbx1_2k8, Xbx1_2k9, Xbx1_2k10⟩ := bx11 Xbx1_2
 cases h3 : inR a0.Op (1 : Int) (3 : Int) with
 | true =>
  have ⟨h3a, h3b⟩ := inR_true h3
  replace h3 := Lib.hid h3
  go_wp2_with fail
  refine (iisTerm_w a0.L  _ ok_a0.2.1).mono ?_
  rintro e w4 ⟨rfl, hb4⟩
  have B4 := via (w0 := w) (by simp (maxDischargeDepth := 9) [B2]) hb4
  have U4 : Below w2.heap.size w2 w4 := via (by simp (maxDischargeDepth := 9)) hb4
  have Xbx1_4 := Xbx1_2.via U4
  clear Xbx1_2 Xbx1_2k0 Xbx1_2k1 Xbx1_2k2 Xbx1_2k3 Xbx1_2k4 Xbx1_2k5 Xbx1_2k6 Xbx1_2k7 Xbx1_2k8 Xbx1_2k9 Xbx1_2k10
  have ⟨Xbx1_4k0, Xbx1_4k1, Xbx1_4k2, Xbx1_4k3, Xbx1_4k4, Xbx1_4k5, Xbx1_4k6, Xbx1_4k7, Xbx1_4k8, Xbx1_4k9, Xbx1_4k10⟩ := bx11 Xbx1_4
  clear U4
  clear B2
  cases h5 : iisTerm_p a0.L with
  | true =>
   replace h5 := Lib.hid h5
   go_wp2_with fail
   refine (iisTerm_w a0.R  _ ok_a0.2.2).mono ?_
   rintro e w6 ⟨rfl, hb6⟩
   have B6 := via (w0 := w) (by simp (maxDischargeDepth := 9) [B4]) hb6
   have U6 : Below w4.heap.size w4 w6 := via (by simp (maxDischargeDepth := 9)) hb6
   have Xbx1_6 := Xbx1_4.via U6
   clear Xbx1_4 Xbx1_4k0 Xbx1_4k1 Xbx1_4k2 Xbx1_4k3 Xbx1_4k4 Xbx1_4k5 Xbx1_4k6 Xbx1_4k7 Xbx1_4k8 Xbx1_4k9 Xbx1_4k10
   have ⟨Xbx1_6k0, Xbx1_6k1, Xbx1_6k2, Xbx1_6k3, Xbx1_6k4, Xbx1_6k5, Xbx1_6k6, Xbx1_6k7, Xbx1_6k8, Xbx1_6k9, Xbx1_6k10⟩ := bx11 Xbx1_6
   clear U6
   clear B4
   obtain rfl : r = iisTerm_p a0.R := hr.out.symm.trans (by simp only [iCondOk_p, h3.out, h5.out, cond_true])
   go_wp2
   go_ret
   exact rbk (by simp (maxDischargeDepth := 9) [B6])
  | false =>
   replace h5 := Lib.hid h5
   obtain rfl : r = false := hr.out.symm.trans (by simp only [iCondOk_p, h3.out, h5.out, cond_true, cond_false])
   go_wp2
   go_ret
   exact rbk (by simp (maxDischargeDepth := 9) [B4])
 | false =>
  replace h3 := Lib.hid h3
  obtain rfl : r = false := hr.out.symm.trans (by simp only [iCondOk_p, h3.out, cond_false])
  go_wp2
  go_ret
  exact rbk (by simp (maxDischargeDepth := 9) [B2])

-- impl.isUndo
def iisUndo_p (a0 : ByteArray) : Bool := bif a0.toList.isEmpty then (true) else (iNameOk_p a0)
set_option maxHeartbeats 1000000 in
set_option maxRecDepth 20000 in
theorem iisUndo_w (a0 : ByteArray) (w : World) (ok_a0 : a0.size ≤ maxLen) :
    Calls Tryz.prog 227 #[.string a0] w (RetB (iisUndo_p a0) w) := by
 obtain ⟨r, hr⟩ : ∃ r, iisUndo_p a0 = r := ⟨_, rfl⟩
 rw [hr]
 replace hr := Lib.hid hr
 go_enter Tryz.func227, Tryz.ntmps227
 obtain ⟨bh1, eh1⟩ : ∃ b, a0.toList.isEmpty = b := ⟨_, rfl⟩
 rcases Bool.eq_false_or_eq_true bh1 with h1 | h1
 ·
  obtain rfl : r = true := hr.out.symm.trans (by simp only [iisUndo_p, eh1, h1, cond_true])
  go_wp2
  go_ret
  exact rbk (by simp (maxDischargeDepth := 9))
 ·
  go_wp2_with fail
  refine (iNameOk_w a0  _ ok_a0).mono ?_
  rintro e w2 ⟨rfl, hb2⟩
  have B2 := via (w0 := w) (by simp (maxDischargeDepth := 9)) hb2
  obtain rfl : r = iNameOk_p a0 := hr.out.symm.trans (by simp only [iisUndo_p, eh1, h1, cond_false])
  go_wp2
  go_ret
  exact rbk (by simp (maxDischargeDepth := 9) [B2])
end Go.Proofs.YthnilnggpbploaaGreat
