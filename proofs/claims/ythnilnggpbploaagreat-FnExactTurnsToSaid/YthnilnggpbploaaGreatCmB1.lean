/- Functions that only read, walked (B). Printed by a program. -/
import Derived.Test.YthnilnggpbploaaGreatCmA1
import Derived.Test.YthnilnggpbploaaGreatRd
namespace Go.Proofs.YthnilnggpbploaaGreat
open Go.RowKit
open Cel (rd own rd_len rd_one own_rd own_lt rd_below rd_mono own_keep)

-- impl.RuleAt$1
def iRuleAt_1_p (a0 : RuleD) (b0 : ByteArray) : Bool := bif (a0.Name.toList == b0.toList) then (true) else (false)
set_option maxHeartbeats 1000000 in
set_option maxRecDepth 20000 in
theorem iRuleAt_1_w (a0 : RuleD) (b0 : ByteArray) (v0_2 : Value) (v0_3 : Value) (v0_4 : Value) (g0 : Nat) (w : World) (s0_2 : Sl w a0.Pats v0_2) (s0_3 : Sl w a0.Conds v0_3) (s0_4 : Sl w a0.Acts v0_4) (hg0 : Bx w g0 [.string b0]) :
    Calls Tryz.prog 224 #[.agg #[.string a0.Name, .int .i64 a0.Sal, v0_2, v0_3, v0_4], .pointer (some ⟨g0, 0, none⟩)] w (RetB (iRuleAt_1_p a0 b0) w) := by
 obtain ⟨p0_2, c0_2, rfl, hl0_2, -, hk0_2, -⟩ := s0_2.open
 obtain ⟨p0_3, c0_3, rfl, hl0_3, -, hk0_3, -⟩ := s0_3.open
 obtain ⟨p0_4, c0_4, rfl, hl0_4, -, hk0_4, -⟩ := s0_4.open
 have hg0k0 := hg0.c 0 _ rfl
 obtain ⟨r, hr⟩ : ∃ r, iRuleAt_1_p a0 b0 = r := ⟨_, rfl⟩
 rw [hr]
 replace hr := Lib.hid hr
 go_enter Tryz.func224, Tryz.ntmps224
 obtain ⟨bh2, eh2⟩ : ∃ b, (a0.Name.toList == b0.toList) = b := ⟨_, rfl⟩
 rcases Bool.eq_false_or_eq_true bh2 with h2 | h2
 ·
  obtain rfl : r = true := hr.out.symm.trans (by simp only [iRuleAt_1_p, eh2, h2, cond_true])
  go_wp2
  go_ret
  exact rbk (by simp (maxDischargeDepth := 9))
 ·
  obtain rfl : r = false := hr.out.symm.trans (by simp only [iRuleAt_1_p, eh2, h2, cond_false])
  go_wp2
  go_ret
  exact rbk (by simp (maxDischargeDepth := 9))

-- slices.IndexFunc[[]impl.Rule,impl.Rule]@impl.RuleAt$1
def slices_IndexFunc_iRule_iRuleAt_1_p_b1 (a0 : List RuleD) (b0 : ByteArray) (k1 : Nat) (_ : Unit) : St (Int) (Unit) := bif iRuleAt_1_p (gt a0 k1) b0 then (.ret (k1 : Int)) else (.go ())
def slices_IndexFunc_iRule_iRuleAt_1_p (a0 : List RuleD) (b0 : ByteArray) : Int := match rounds (slices_IndexFunc_iRule_iRuleAt_1_p_b1 a0 b0) a0.length () with | .ret r => r | .brk _ => default | .go _ => (-1 : Int)
set_option maxHeartbeats 1000000 in
set_option maxRecDepth 20000 in
theorem slices_IndexFunc_iRule_iRuleAt_1_w (a0 : List RuleD) (b0 : ByteArray) (v0_0 : Value) (g0 : Nat) (w : World) (s0_0 : Sl w a0 v0_0) (hg0 : Bx w g0 [.string b0]) :
    Calls Tryz.prog 223 #[v0_0, .func (.func 224) #[] #[.pointer (some ⟨g0, 0, none⟩)]] w (RetI (slices_IndexFunc_iRule_iRuleAt_1_p a0 b0) w) := by
 obtain ⟨p0_0, c0_0, rfl, hl0_0, -, hk0_0, -⟩ := s0_0.open
 have hg0k0 := hg0.c 0 _ rfl
 obtain ⟨r, hr⟩ : ∃ r, slices_IndexFunc_iRule_iRuleAt_1_p a0 b0 = r := ⟨_, rfl⟩
 rw [hr]
 replace hr := Lib.hid hr
 go_enter Tryz.func223, Tryz.ntmps223
 go_wp2
 go_loopw [8] (fun i8 wr1 => Below w.heap.size w wr1 ∧ Bx wr1 (g0) [.string b0] ∧ ∃ (k1 : Nat), i8 = .int .i64 k1 ∧ k1 ≤ a0.length ∧ Hid (rounds (slices_IndexFunc_iRule_iRuleAt_1_p_b1 a0 b0) k1 () = .go ())) (fun i8 _ => a0.length - (intOf i8).toNat)
 case atStart => exact ⟨(by simp (maxDischargeDepth := 9)), (by simp (maxDischargeDepth := 9) [hg0]), 0, rfl, by omega, Lib.hid rfl⟩
 case round =>
  rename World => wr1
  obtain ⟨B2, Xg0_2, k1, rfl, hk2, hy2⟩ := hrel
  have Xg0_2k0 := bx1 Xg0_2
  by_cases hlt2 : k1 < a0.length
  ·
   have hi5 : k1 < a0.length := by first | assumption | omega
   obtain ⟨e4b, e4o, ue4_2, ue4_3, ue4_4, rfl, e4bl, e4ok, ⟨e4d0, e4d1, e4d2, e4d3, e4d4⟩, te4_2, te4_3, te4_4⟩ := Sl.gtRule s0_0 k1 hi5
   obtain ⟨pe4_2, ce4_2, rfl, hlpe4_2, -⟩ := te4_2.open
   obtain ⟨pe4_3, ce4_3, rfl, hlpe4_3, -⟩ := te4_3.open
   obtain ⟨pe4_4, ce4_4, rfl, hlpe4_4, -⟩ := te4_4.open
   have e4E := Lib.hid (And.intro e4d0 (And.intro e4d1 (And.intro e4d2 (And.intro e4d3 e4d4))))
   clear e4d0 e4d1 e4d2 e4d3 e4d4
   have ⟨e4d0n, e4d1n, e4d2n, e4d3n, e4d4n⟩ := cb5 B2 e4bl e4E.out
   go_wp2_with fail
   refine (iRuleAt_1_w (gt a0 k1) b0 _ _ _ _ _ (te4_2.to (by simp (maxDischargeDepth := 9) [B2])) (te4_3.to (by simp (maxDischargeDepth := 9) [B2])) (te4_4.to (by simp (maxDischargeDepth := 9) [B2])) (by simp (maxDischargeDepth := 9) [Xg0_2])).mono ?_
   rintro e w6 ⟨rfl, hb6⟩
   have B6 := via (w0 := w) (by simp (maxDischargeDepth := 9) [B2]) hb6
   have U6 : Below wr1.heap.size wr1 w6 := via (by simp (maxDischargeDepth := 9)) hb6
   have Xg0_6 := Xg0_2.via U6
   clear Xg0_2 Xg0_2k0
   have Xg0_6k0 := bx1 Xg0_6
   clear e4d0n e4d1n e4d2n e4d3n e4d4n
   have ⟨e4d0n, e4d1n, e4d2n, e4d3n, e4d4n⟩ := cb5 B6 e4bl e4E.out
   clear U6
   clear B2
   cases h7 : iRuleAt_1_p (gt a0 k1) b0 with
   | true =>
    replace h7 := Lib.hid h7
    have q8 : slices_IndexFunc_iRule_iRuleAt_1_p_b1 a0 b0 k1 () = .ret (k1 : Int) := by simp only [slices_IndexFunc_iRule_iRuleAt_1_p_b1, h7.out, cond_true]
    have q9 := rounds_ret hlt2 hy2.out q8
    obtain rfl : r = (k1 : Int) := hr.out.symm.trans (by simp only [slices_IndexFunc_iRule_iRuleAt_1_p, q9])
    go_wp2
    go_ret
    exact ⟨by first | rfl | simp, (by simp (maxDischargeDepth := 9) [B6])⟩
   | false =>
    replace h7 := Lib.hid h7
    have q10 : slices_IndexFunc_iRule_iRuleAt_1_p_b1 a0 b0 k1 () = .go () := by simp only [slices_IndexFunc_iRule_iRuleAt_1_p_b1, h7.out, cond_false]
    replace q10 := Lib.hid (rounds_next hy2.out q10)
    go_wp2
    go_roundw
    case rel => exact ⟨(by simp (maxDischargeDepth := 9) [B6]), (by simp (maxDischargeDepth := 9) [Xg0_6]), k1 + 1, by go_num, by omega, q10⟩
    case measure => simp [intOf]; omega
  ·
   obtain rfl : a0.length = k1 := by omega
   obtain rfl : r = (-1 : Int) := hr.out.symm.trans (by simp only [slices_IndexFunc_iRule_iRuleAt_1_p, hy2.out])
   go_wp2
   go_ret
   exact ⟨by first | rfl | simp, (by simp (maxDischargeDepth := 9) [B2])⟩

-- impl.RuleAt
def iRuleAt_p (a0 : DefD) (a1 : ByteArray) : Int := (slices_IndexFunc_iRule_iRuleAt_1_p a0.Rules a1)
set_option maxHeartbeats 1000000 in
set_option maxRecDepth 20000 in
theorem iRuleAt_w (a0 : DefD) (a1 : ByteArray) (v0_1 : Value) (w : World) (s0_1 : Sl w a0.Rules v0_1) :
    Calls Tryz.prog 137 #[.agg #[.string a0.Name, v0_1], .string a1] w (RetI (iRuleAt_p a0 a1) w) := by
 obtain ⟨p0_1, c0_1, rfl, hl0_1, -, hk0_1, -⟩ := s0_1.open
 obtain ⟨r, hr⟩ : ∃ r, iRuleAt_p a0 a1 = r := ⟨_, rfl⟩
 rw [hr]
 replace hr := Lib.hid hr
 go_enter Tryz.func137, Tryz.ntmps137
 go_wp2_with fail
 refine (slices_IndexFunc_iRule_iRuleAt_1_w a0.Rules a1 _ _ _ (s0_1.to (by simp (maxDischargeDepth := 9))) (by simp (maxDischargeDepth := 9))).mono ?_
 rintro e w3 ⟨rfl, hb3⟩
 have B3 := via (w0 := w) (by simp (maxDischargeDepth := 9)) hb3
 have Xbx1_3 : Bx w3 (w.heap.size) [.string a0.Name, .slice p0_1 a0.Rules.length c0_1] := Bx.via (by simp (maxDischargeDepth := 9)) hb3
 have ⟨Xbx1_3k0, Xbx1_3k1⟩ := bx2 Xbx1_3
 have Xbx2_3 : Bx w3 (w.heap.size + 1) [.string a1] := Bx.via (by simp (maxDischargeDepth := 9)) hb3
 have Xbx2_3k0 := bx1 Xbx2_3
 obtain rfl : r = (slices_IndexFunc_iRule_iRuleAt_1_p a0.Rules a1) := hr.out.symm.trans (by simp only [iRuleAt_p])
 go_wp2
 go_ret
 exact ⟨by first | rfl | simp, (by simp (maxDischargeDepth := 9) [B3])⟩

-- impl.FactOk
def iFactOk_p_b1 (a0 : FactD) (k5 : Nat) (_ : Unit) : St (Bool) (Unit) := bif iValOk_p (gt a0.Fields k5) then (.go ()) else (.ret false)
def iFactOk_p (a0 : FactD) : Bool := bif iNameOk_p a0.Kind then (bif decide (5 < a0.Fields.length) then (false) else (match rounds (iFactOk_p_b1 a0) a0.Fields.length () with | .ret r => r | .brk _ => default | .go _ => true)) else (false)
set_option maxHeartbeats 1000000 in
set_option maxRecDepth 20000 in
theorem iFactOk_w (a0 : FactD) (v0_1 : Value) (w : World) (s0_1 : Sl w a0.Fields v0_1) (ok_a0 : okFact a0) :
    Calls Tryz.prog 138 #[.agg #[.string a0.Kind, v0_1]] w (RetB (iFactOk_p a0) w) := by
 obtain ⟨p0_1, c0_1, rfl, hl0_1, -, hk0_1, -⟩ := s0_1.open
 obtain ⟨r, hr⟩ : ∃ r, iFactOk_p a0 = r := ⟨_, rfl⟩
 rw [hr]
 replace hr := Lib.hid hr
 go_enter Tryz.func138, Tryz.ntmps138
 go_wp2_with fail
 refine (iNameOk_w a0.Kind  _ ok_a0).mono ?_
 rintro e w2 ⟨rfl, hb2⟩
 have B2 := via (w0 := w) (by simp (maxDischargeDepth := 9)) hb2
 have Xbx1_2 : Bx w2 (w.heap.size) [.string a0.Kind, .slice p0_1 a0.Fields.length c0_1] := Bx.via (by simp (maxDischargeDepth := 9)) hb2
 have ⟨Xbx1_2k0, Xbx1_2k1⟩ := bx2 Xbx1_2
 cases h3 : iNameOk_p a0.Kind with
 | true =>
  replace h3 := Lib.hid h3
  by_cases h4 : 5 < a0.Fields.length
  ·
   have h4d := Lib.hid (decide_eq_true h4)
   obtain rfl : r = false := hr.out.symm.trans (by simp only [iFactOk_p, h3.out, h4d.out, cond_true])
   go_wp2
   go_ret
   exact rbk (by simp (maxDischargeDepth := 9) [B2])
  ·
   have h4d := Lib.hid (decide_eq_false h4)
   go_wp2
   go_loopw [18] (fun i18 wr5 => Below w.heap.size w wr5 ∧ Bx wr5 (w.heap.size) [.string a0.Kind, .slice p0_1 a0.Fields.length c0_1] ∧ ∃ (k5 : Nat), i18 = .int .i64 k5 ∧ k5 ≤ a0.Fields.length ∧ Hid (rounds (iFactOk_p_b1 a0) k5 () = .go ())) (fun i18 _ => a0.Fields.length - (intOf i18).toNat)
   case atStart => exact ⟨(by simp (maxDischargeDepth := 9) [B2]), (by simp (maxDischargeDepth := 9) [Xbx1_2]), 0, rfl, by omega, Lib.hid rfl⟩
   case round =>
    rename World => wr5
    clear Xbx1_2 Xbx1_2k0 Xbx1_2k1 B2
    obtain ⟨B6, Xbx1_6, k5, rfl, hk6, hy6⟩ := hrel
    have ⟨Xbx1_6k0, Xbx1_6k1⟩ := bx2 Xbx1_6
    by_cases hlt6 : k5 < a0.Fields.length
    ·
     have hi9 : k5 < a0.Fields.length := by first | assumption | omega
     obtain ⟨e8b, e8o, rfl, e8bl, e8ok, ⟨e8d0, e8d1, e8d2⟩⟩ := Sl.gtVal s0_1 k5 hi9
     have e8E := Lib.hid (And.intro e8d0 (And.intro e8d1 e8d2))
     clear e8d0 e8d1 e8d2
     have ⟨e8d0n, e8d1n, e8d2n⟩ := cb3 B6 e8bl e8E.out
     go_wp2_with fail
     refine (iValOk_w (gt a0.Fields k5)  _ e8ok).mono ?_
     rintro e w11 ⟨rfl, hb11⟩
     have B11 := via (w0 := w) (by simp (maxDischargeDepth := 9) [B6]) hb11
     have U11 : Below wr5.heap.size wr5 w11 := via (by simp (maxDischargeDepth := 9)) hb11
     have Xbx1_11 := Xbx1_6.via U11
     clear Xbx1_6 Xbx1_6k0 Xbx1_6k1
     have ⟨Xbx1_11k0, Xbx1_11k1⟩ := bx2 Xbx1_11
     have Xbx10_11 : Bx w11 (wr5.heap.size) [.int .i64 ((gt a0.Fields k5).K), .int .i64 ((gt a0.Fields k5).N), .string ((gt a0.Fields k5).S)] := Bx.via (by simp (maxDischargeDepth := 9)) hb11
     have ⟨Xbx10_11k0, Xbx10_11k1, Xbx10_11k2⟩ := bx3 Xbx10_11
     clear e8d0n e8d1n e8d2n
     have ⟨e8d0n, e8d1n, e8d2n⟩ := cb3 B11 e8bl e8E.out
     clear U11
     clear B6
     cases h12 : iValOk_p (gt a0.Fields k5) with
     | true =>
      replace h12 := Lib.hid h12
      have q13 : iFactOk_p_b1 a0 k5 () = .go () := by simp only [iFactOk_p_b1, h12.out, cond_true]
      replace q13 := Lib.hid (rounds_next hy6.out q13)
      go_wp2
      go_roundw
      case rel => exact ⟨(by simp (maxDischargeDepth := 9) [B11]), (by simp (maxDischargeDepth := 9) [Xbx1_11]), k5 + 1, by go_num, by omega, q13⟩
      case measure => simp [intOf]; omega
     | false =>
      replace h12 := Lib.hid h12
      have q14 : iFactOk_p_b1 a0 k5 () = .ret false := by simp only [iFactOk_p_b1, h12.out, cond_false]
      have q15 := rounds_ret hlt6 hy6.out q14
      obtain rfl : r = false := hr.out.symm.trans (by simp only [iFactOk_p, h3.out, h4d.out, q15, cond_true, cond_false])
      go_wp2
      go_ret
      exact rbk (by simp (maxDischargeDepth := 9) [B11])
    ·
     obtain rfl : a0.Fields.length = k5 := by omega
     obtain rfl : r = true := hr.out.symm.trans (by simp only [iFactOk_p, h3.out, h4d.out, hy6.out, cond_true, cond_false])
     go_wp2
     go_ret
     exact rbk (by simp (maxDischargeDepth := 9) [B6])
 | false =>
  replace h3 := Lib.hid h3
  obtain rfl : r = false := hr.out.symm.trans (by simp only [iFactOk_p, h3.out, cond_false])
  go_wp2
  go_ret
  exact rbk (by simp (maxDischargeDepth := 9) [B2])

-- slices.Equal[[]impl.Val,impl.Val]
def slices_Equal_iVal_p_b1 (a0 : List ValD) (a1 : List ValD) (k2 : Nat) (_ : Unit) : St (Bool) (Unit) := bif ((gt a0 k2).K == (gt a1 k2).K) then (bif ((gt a0 k2).N == (gt a1 k2).N) then (bif (((gt a0 k2).S).toList == ((gt a1 k2).S).toList) then (.go ()) else (.ret false)) else (.ret false)) else (.ret false)
def slices_Equal_iVal_p (a0 : List ValD) (a1 : List ValD) : Bool := bif (((a0.length : Nat) : Int) == ((a1.length : Nat) : Int)) then (match rounds (slices_Equal_iVal_p_b1 a0 a1) a0.length () with | .ret r => r | .brk _ => default | .go _ => true) else (false)
set_option maxHeartbeats 1000000 in
set_option maxRecDepth 20000 in
theorem slices_Equal_iVal_w (a0 : List ValD) (a1 : List ValD) (v0_0 : Value) (v1_0 : Value) (w : World) (s0_0 : Sl w a0 v0_0) (s1_0 : Sl w a1 v1_0) :
    Calls Tryz.prog 226 #[v0_0, v1_0] w (RetB (slices_Equal_iVal_p a0 a1) w) := by
 obtain ⟨p0_0, c0_0, rfl, hl0_0, -, hk0_0, -⟩ := s0_0.open
 obtain ⟨p1_0, c1_0, rfl, hl1_0, -, hk1_0, -⟩ := s1_0.open
 obtain ⟨r, hr⟩ : ∃ r, slices_Equal_iVal_p a0 a1 = r := ⟨_, rfl⟩
 rw [hr]
 replace hr := Lib.hid hr
 go_enter Tryz.func226, Tryz.ntmps226
 obtain ⟨bh1, eh1⟩ : ∃ b, (((a0.length : Nat) : Int) == ((a1.length : Nat) : Int)) = b := ⟨_, rfl⟩
 have nh1 : (((a0.length : Nat) : Int) != ((a1.length : Nat) : Int)) = !bh1 := by rw [← eh1]; rfl
 rcases Bool.eq_false_or_eq_true bh1 with h1 | h1
 ·
  have gh1 : Hid (a0.length = a1.length) := Lib.hid (by have z := eh1.trans h1; simp only [beq_iff_eq] at z; omega)
  go_wp2
  go_loopw [13] (fun i13 wr2 => Below w.heap.size w wr2 ∧ ∃ (k2 : Nat), i13 = .int .i64 k2 ∧ k2 ≤ a0.length ∧ Hid (rounds (slices_Equal_iVal_p_b1 a0 a1) k2 () = .go ())) (fun i13 _ => a0.length - (intOf i13).toNat)
  case atStart => exact ⟨(by simp (maxDischargeDepth := 9)), 0, rfl, by omega, Lib.hid rfl⟩
  case round =>
   rename World => wr2
   obtain ⟨B3, k2, rfl, hk3, hy3⟩ := hrel
   by_cases hlt3 : k2 < a0.length
   ·
    have hi6 : k2 < a0.length := by first | assumption | omega | (have := gh1.out; omega)
    obtain ⟨e5b, e5o, rfl, e5bl, e5ok, ⟨e5d0, e5d1, e5d2⟩⟩ := Sl.gtVal s0_0 k2 hi6
    have e5E := Lib.hid (And.intro e5d0 (And.intro e5d1 e5d2))
    clear e5d0 e5d1 e5d2
    have ⟨e5d0n, e5d1n, e5d2n⟩ := cb3 B3 e5bl e5E.out
    have hi8 : k2 < a1.length := by first | assumption | omega | (have := gh1.out; omega)
    obtain ⟨e7b, e7o, rfl, e7bl, e7ok, ⟨e7d0, e7d1, e7d2⟩⟩ := Sl.gtVal s1_0 k2 hi8
    have e7E := Lib.hid (And.intro e7d0 (And.intro e7d1 e7d2))
    clear e7d0 e7d1 e7d2
    have ⟨e7d0n, e7d1n, e7d2n⟩ := cb3 B3 e7bl e7E.out
    go_wp2
    refine wp_region_noPanic ?_
    refine wp_region_held_drew (S := (fun w' => w'.cell? ⟨e5b, e5o + k2 * 3, none⟩ = some (.int .i64 ((gt a0 k2).K)) ∧ w'.cell? ⟨e5b, e5o + k2 * 3 + 1, none⟩ = some (.int .i64 ((gt a0 k2).N)) ∧ w'.cell? ⟨e5b, e5o + k2 * 3 + 2, none⟩ = some (.string ((gt a0 k2).S)) ∧ w'.cell? ⟨e7b, e7o + k2 * 3, none⟩ = some (.int .i64 ((gt a1 k2).K)) ∧ w'.cell? ⟨e7b, e7o + k2 * 3 + 1, none⟩ = some (.int .i64 ((gt a1 k2).N)) ∧ w'.cell? ⟨e7b, e7o + k2 * 3 + 2, none⟩ = some (.string ((gt a1 k2).S)))) (by kernel_rfl) ?_ (fun hHeld0 => ?_)
    · go_keep
    refine tt 0 ?_
    simp only [Act.put, sa, s0, ss]
    refine tt 1 ?_
    simp only [Act.put, sa, s0, ss]
    refine tt 2 ?_
    simp only [Act.put, sa, s0, ss]
    refine tt 3 ?_
    simp only [Act.put, sa, s0, ss]
    refine tt 4 ?_
    simp only [Act.put, sa, s0, ss]
    refine tt 5 ?_
    simp only [Act.put, sa, s0, ss]
    refine tt 6 ?_
    simp only [Act.put, sa, s0, ss]
    refine tt 7 ?_
    simp only [Act.put, sa, s0, ss]
    obtain ⟨bh9, eh9⟩ : ∃ b, ((gt a0 k2).K == (gt a1 k2).K) = b := ⟨_, rfl⟩
    rcases Bool.eq_false_or_eq_true bh9 with h9 | h9
    ·
     obtain ⟨bh10, eh10⟩ : ∃ b, ((gt a0 k2).N == (gt a1 k2).N) = b := ⟨_, rfl⟩
     rcases Bool.eq_false_or_eq_true bh10 with h10 | h10
     ·
      obtain ⟨bh11, eh11⟩ : ∃ b, (((gt a0 k2).S).toList == ((gt a1 k2).S).toList) = b := ⟨_, rfl⟩
      rcases Bool.eq_false_or_eq_true bh11 with h11 | h11
      ·
       refine tt 8 ?_
       simp only [Act.put, sa, s0, ss]
       refine wpAnyH_done (by kernel_rfl) ?_ _
       clear hHeld0
       refine NoPanic.normal ?_
       have q12 : slices_Equal_iVal_p_b1 a0 a1 k2 () = .go () := by simp only [slices_Equal_iVal_p_b1, eh9, h9, eh10, h10, eh11, h11, cond_true]
       replace q12 := Lib.hid (rounds_next hy3.out q12)
       go_wp2
       go_roundw
       case rel => exact ⟨(by simp (maxDischargeDepth := 9) [B3]), k2 + 1, by go_num, by omega, q12⟩
       case measure => simp [intOf]; omega
      ·
       refine tt 8 ?_
       simp only [Act.put, sa, s0, ss]
       refine wpAnyH_done (by kernel_rfl) ?_ _
       clear hHeld0
       refine NoPanic.normal ?_
       have q13 : slices_Equal_iVal_p_b1 a0 a1 k2 () = .ret false := by simp only [slices_Equal_iVal_p_b1, eh9, h9, eh10, h10, eh11, h11, cond_true, cond_false]
       have q14 := rounds_ret hlt3 hy3.out q13
       obtain rfl : r = false := hr.out.symm.trans (by simp only [slices_Equal_iVal_p, eh1, h1, q14, cond_true])
       go_wp2
       go_ret
       exact rbk (by simp (maxDischargeDepth := 9) [B3])
     ·
      refine tt 8 ?_
      simp only [Act.put, sa, s0, ss]
      refine wpAnyH_done (by kernel_rfl) ?_ _
      clear hHeld0
      refine NoPanic.normal ?_
      have q15 : slices_Equal_iVal_p_b1 a0 a1 k2 () = .ret false := by simp only [slices_Equal_iVal_p_b1, eh9, h9, eh10, h10, cond_true, cond_false]
      have q16 := rounds_ret hlt3 hy3.out q15
      obtain rfl : r = false := hr.out.symm.trans (by simp only [slices_Equal_iVal_p, eh1, h1, q16, cond_true])
      go_wp2
      go_ret
      exact rbk (by simp (maxDischargeDepth := 9) [B3])
    ·
     refine tt 8 ?_
     simp only [Act.put, sa, s0, ss]
     refine wpAnyH_done (by kernel_rfl) ?_ _
     clear hHeld0
     refine NoPanic.normal ?_
     have q17 : slices_Equal_iVal_p_b1 a0 a1 k2 () = .ret false := by simp only [slices_Equal_iVal_p_b1, eh9, h9, cond_false]
     have q18 := rounds_ret hlt3 hy3.out q17
     obtain rfl : r = false := hr.out.symm.trans (by simp only [slices_Equal_iVal_p, eh1, h1, q18, cond_true])
     go_wp2
     go_ret
     exact rbk (by simp (maxDischargeDepth := 9) [B3])
   ·
    obtain rfl : a0.length = k2 := by omega
    obtain rfl : r = true := hr.out.symm.trans (by simp only [slices_Equal_iVal_p, eh1, h1, hy3.out, cond_true])
    go_wp2
    go_ret
    exact rbk (by simp (maxDischargeDepth := 9) [B3])
 ·
  obtain rfl : r = false := hr.out.symm.trans (by simp only [slices_Equal_iVal_p, eh1, h1, cond_false])
  go_wp2
  go_ret
  exact rbk (by simp (maxDischargeDepth := 9))

-- impl.SameFact
def iSameFact_p (a0 : FactD) (a1 : FactD) : Bool := bif (a0.Kind.toList == a1.Kind.toList) then (slices_Equal_iVal_p a0.Fields a1.Fields) else (false)
set_option maxHeartbeats 1000000 in
set_option maxRecDepth 20000 in
theorem iSameFact_w (a0 : FactD) (a1 : FactD) (v0_1 : Value) (v1_1 : Value) (w : World) (s0_1 : Sl w a0.Fields v0_1) (s1_1 : Sl w a1.Fields v1_1) :
    Calls Tryz.prog 139 #[.agg #[.string a0.Kind, v0_1], .agg #[.string a1.Kind, v1_1]] w (RetB (iSameFact_p a0 a1) w) := by
 obtain ⟨p0_1, c0_1, rfl, hl0_1, -, hk0_1, -⟩ := s0_1.open
 obtain ⟨p1_1, c1_1, rfl, hl1_1, -, hk1_1, -⟩ := s1_1.open
 obtain ⟨r, hr⟩ : ∃ r, iSameFact_p a0 a1 = r := ⟨_, rfl⟩
 rw [hr]
 replace hr := Lib.hid hr
 go_enter Tryz.func139, Tryz.ntmps139
 obtain ⟨bh3, eh3⟩ : ∃ b, (a0.Kind.toList == a1.Kind.toList) = b := ⟨_, rfl⟩
 rcases Bool.eq_false_or_eq_true bh3 with h3 | h3
 ·
  go_wp2_with fail
  refine (slices_Equal_iVal_w a0.Fields a1.Fields _ _ _ (s0_1.to (by simp (maxDischargeDepth := 9))) (s1_1.to (by simp (maxDischargeDepth := 9)))).mono ?_
  rintro e w4 ⟨rfl, hb4⟩
  have B4 := via (w0 := w) (by simp (maxDischargeDepth := 9)) hb4
  have Xbx1_4 : Bx w4 (w.heap.size) [.string a0.Kind, .slice p0_1 a0.Fields.length c0_1] := Bx.via (by simp (maxDischargeDepth := 9)) hb4
  have ⟨Xbx1_4k0, Xbx1_4k1⟩ := bx2 Xbx1_4
  have Xbx2_4 : Bx w4 (w.heap.size + 1) [.string a1.Kind, .slice p1_1 a1.Fields.length c1_1] := Bx.via (by simp (maxDischargeDepth := 9)) hb4
  have ⟨Xbx2_4k0, Xbx2_4k1⟩ := bx2 Xbx2_4
  obtain rfl : r = slices_Equal_iVal_p a0.Fields a1.Fields := hr.out.symm.trans (by simp only [iSameFact_p, eh3, h3, cond_true])
  go_wp2
  go_ret
  exact rbk (by simp (maxDischargeDepth := 9) [B4])
 ·
  obtain rfl : r = false := hr.out.symm.trans (by simp only [iSameFact_p, eh3, h3, cond_false])
  go_wp2
  go_ret
  exact rbk (by simp (maxDischargeDepth := 9))

-- impl.StoreOk
def iStoreOk_p_b2 (a0 : StoreD) (k5 : Nat) (k24 : Nat) (_ : Unit) : St (Bool) (Unit) := bif iSameFact_p ((gt a0.Items k5).F) ((gt a0.Items k24).F) then (.ret false) else (.go ())
def iStoreOk_p_b3 (a0 : StoreD) (k5 : Nat) (k48 : Nat) (_ : Unit) : St (Bool) (Unit) := .go ()
def iStoreOk_p_b1 (a0 : StoreD) (k5 : Nat) (_ : Unit) : St (Bool) (Unit) := bif decide (0 < k5) then (bif iFactOk_p ((gt a0.Items k5).F) then (bif inR ((gt a0.Items k5).Id) (1 : Int) (a0.Next - 1) then (bif decide ((gt a0.Items k5).Id ≤ (gt a0.Items (k5 - 1)).Id) then (.ret false) else (match rounds (iStoreOk_p_b2 a0 k5) k5 () with | .ret r => .ret r | .brk _ => .brk default | .go _ => .go ())) else (.ret false)) else (.ret false)) else (bif iFactOk_p ((gt a0.Items k5).F) then (bif inR ((gt a0.Items k5).Id) (1 : Int) (a0.Next - 1) then (match rounds (iStoreOk_p_b3 a0 k5) k5 () with | .ret r => .ret r | .brk _ => .brk default | .go _ => .go ()) else (.ret false)) else (.ret false))
def iStoreOk_p (a0 : StoreD) : Bool := bif decide (40 < a0.Items.length) then (false) else (bif inR a0.Next (1 : Int) (1000000 : Int) then (match rounds (iStoreOk_p_b1 a0) a0.Items.length () with | .ret r => r | .brk _ => default | .go _ => true) else (false))
set_option maxHeartbeats 1000000 in
set_option maxRecDepth 20000 in
theorem iStoreOk_w (a0 : StoreD) (v0_0 : Value) (w : World) (s0_0 : Sl w a0.Items v0_0) :
    Calls Tryz.prog 73 #[.agg #[v0_0, .int .i64 a0.Next]] w (RetB (iStoreOk_p a0) w) := by
 obtain ⟨p0_0, c0_0, rfl, hl0_0, -, hk0_0, -⟩ := s0_0.open
 obtain ⟨r, hr⟩ : ∃ r, iStoreOk_p a0 = r := ⟨_, rfl⟩
 rw [hr]
 replace hr := Lib.hid hr
 go_enter Tryz.func73, Tryz.ntmps73
 by_cases h2 : 40 < a0.Items.length
 ·
  have h2d := Lib.hid (decide_eq_true h2)
  obtain rfl : r = false := hr.out.symm.trans (by simp only [iStoreOk_p, h2d.out, cond_true])
  go_wp2
  go_ret
  exact rbk (by simp (maxDischargeDepth := 9))
 ·
  have h2d := Lib.hid (decide_eq_false h2)
  go_wp2_with fail
  refine (iinRange_w a0.Next (1 : Int) (1000000 : Int)  _ ).mono ?_
  rintro e w3 ⟨rfl, hb3⟩
  have B3 := via (w0 := w) (by simp (maxDischargeDepth := 9)) hb3
  have Xbx1_3 : Bx w3 (w.heap.size) [.slice p0_0 a0.Items.length c0_0, .int .i64 a0.Next] := Bx.via (by simp (maxDischargeDepth := 9)) hb3
  have ⟨Xbx1_3k0, Xbx1_3k1⟩ := bx2 Xbx1_3
  cases h4 : inR a0.Next (1 : Int) (1000000 : Int) with
  | true =>
   have ⟨h4a, h4b⟩ := inR_true h4
   replace h4 := Lib.hid h4
   go_wp2
   go_loopw [20] (fun i20 wr5 => Below w.heap.size w wr5 ∧ Bx wr5 (w.heap.size) [.slice p0_0 a0.Items.length c0_0, .int .i64 a0.Next] ∧ ∃ (k5 : Nat), i20 = .int .i64 k5 ∧ k5 ≤ a0.Items.length ∧ Hid (rounds (iStoreOk_p_b1 a0) k5 () = .go ())) (fun i20 _ => a0.Items.length - (intOf i20).toNat)
   case atStart => exact ⟨(by simp (maxDischargeDepth := 9) [B3]), (by simp (maxDischargeDepth := 9) [Xbx1_3]), 0, rfl, by omega, Lib.hid rfl⟩
   case round =>
    rename World => wr5
    clear Xbx1_3 Xbx1_3k0 Xbx1_3k1 B3
    obtain ⟨B6, Xbx1_6, k5, rfl, hk6, hy6⟩ := hrel
    have ⟨Xbx1_6k0, Xbx1_6k1⟩ := bx2 Xbx1_6
    by_cases hlt6 : k5 < a0.Items.length
    ·
     have hi9 : k5 < a0.Items.length := by first | assumption | omega
     obtain ⟨e8b, e8o, ue8_2, rfl, e8bl, e8ok, ⟨e8d0, e8d1, e8d2⟩, te8_2⟩ := Sl.gtItem s0_0 k5 hi9
     obtain ⟨pe8_2, ce8_2, rfl, hlpe8_2, -⟩ := te8_2.open
     have e8E := Lib.hid (And.intro e8d0 (And.intro e8d1 e8d2))
     clear e8d0 e8d1 e8d2
     have ⟨e8d0n, e8d1n, e8d2n⟩ := cb3 B6 e8bl e8E.out
     by_cases h11 : 0 < k5
     ·
      have h11d := Lib.hid (decide_eq_true h11)
      have hi13 : k5 - 1 < a0.Items.length := by first | assumption | omega
      obtain ⟨ue12_2, e12bl, e12ok, ⟨e12d0, e12d1, e12d2⟩, te12_2⟩ := Sl.guItem s0_0 (k5 - 1) hi13
      obtain ⟨pe12_2, ce12_2, rfl, hlpe12_2, -⟩ := te12_2.open
      have e12E := Lib.hid (And.intro e12d0 (And.intro e12d1 e12d2))
      clear e12d0 e12d1 e12d2
      have ⟨e12d0n, e12d1n, e12d2n⟩ := cb3 B6 e12bl e12E.out
      go_wp2
      refine wp_region_noPanic ?_
      refine wp_region_held_drew (S := (fun w' => w'.cell? ⟨w.heap.size, 0, none⟩ = some (.slice (some ⟨e8b, e8o, none⟩) a0.Items.length c0_0) ∧ w'.cell? ⟨w.heap.size, 1, none⟩ = some (.int .i64 a0.Next) ∧ w'.cell? ⟨wr5.heap.size, 0, none⟩ = some (.int .i64 ((gt a0.Items k5).Id)) ∧ w'.cell? ⟨wr5.heap.size, 1, none⟩ = some (.string ((gt a0.Items k5).F.Kind)) ∧ w'.cell? ⟨wr5.heap.size, 2, none⟩ = some (.slice pe8_2 ((gt a0.Items k5).F.Fields.length) ce8_2) ∧ w'.cell? ⟨e8b, e8o + k5 * 3, none⟩ = some (.int .i64 ((gt a0.Items k5).Id)) ∧ w'.cell? ⟨e8b, e8o + k5 * 3 + 1, none⟩ = some (.string ((gt a0.Items k5).F.Kind)) ∧ w'.cell? ⟨e8b, e8o + k5 * 3 + 2, none⟩ = some (.slice pe8_2 ((gt a0.Items k5).F.Fields.length) ce8_2) ∧ w'.cell? ⟨e8b, e8o + (k5 - 1) * 3, none⟩ = some (.int .i64 ((gt a0.Items (k5 - 1)).Id)) ∧ w'.cell? ⟨e8b, e8o + (k5 - 1) * 3 + 1, none⟩ = some (.string ((gt a0.Items (k5 - 1)).F.Kind)) ∧ w'.cell? ⟨e8b, e8o + (k5 - 1) * 3 + 2, none⟩ = some (.slice pe12_2 ((gt a0.Items (k5 - 1)).F.Fields.length) ce12_2))) (by kernel_rfl) ?_ (fun hHeld0 => ?_)
      · go_keep
      refine tt 0 ?_
      simp only [Act.put, sa, s0, ss]
      refine tt 1 ?_
      simp only [Act.put, sa, s0, ss]
      refine wpAnyH_ready (rs := [2]) (by kernel_rfl) (by simp) ?_
      refine' AllReadyH.cons (o := _) ?hi1009_2 (fun K hK => ?_) AllReadyH.nil
      case hi1009_2 => simp only [List.getElem?_toArray, List.getElem?_cons_succ, List.getElem?_cons_zero]; exact rfl
      go_simp
      go_at_call 138
      refine (iFactOk_w ((gt a0.Items k5).F) _ _ (te8_2.to (by simp (maxDischargeDepth := 9) [B6])) e8ok.2).mono ?_
      rintro e w14 ⟨rfl, hb14⟩
      have B14 := via (w0 := w) (by simp (maxDischargeDepth := 9) [B6]) hb14
      have U14 : Below wr5.heap.size wr5 w14 := via (by simp (maxDischargeDepth := 9)) hb14
      have Xbx1_14 := Xbx1_6.via U14
      clear Xbx1_6 Xbx1_6k0 Xbx1_6k1
      have ⟨Xbx1_14k0, Xbx1_14k1⟩ := bx2 Xbx1_14
      have Xbx10_14 : Bx w14 (wr5.heap.size) [.int .i64 ((gt a0.Items k5).Id), .string ((gt a0.Items k5).F.Kind), .slice pe8_2 ((gt a0.Items k5).F.Fields.length) ce8_2] := Bx.via (by simp (maxDischargeDepth := 9)) hb14
      have ⟨Xbx10_14k0, Xbx10_14k1, Xbx10_14k2⟩ := bx3 Xbx10_14
      clear e8d0n e8d1n e8d2n
      have ⟨e8d0n, e8d1n, e8d2n⟩ := cb3 B14 e8bl e8E.out
      clear e12d0n e12d1n e12d2n
      have ⟨e12d0n, e12d1n, e12d2n⟩ := cb3 B14 e12bl e12E.out
      clear U14
      clear B6
      cases h15 : iFactOk_p ((gt a0.Items k5).F) with
      | true =>
       replace h15 := Lib.hid h15
       go_wp2_with fail
       refine hK.out _ _ ?_ (fun hHeld2 => ?_)
       · go_keep
       clear hK K hHeld0
       refine tt 3 ?_
       simp only [Act.put, sa, s0, ss]
       refine tt 4 ?_
       simp only [Act.put, sa, s0, ss]
       refine tt 5 ?_
       simp only [Act.put, sa, s0, ss]
       refine tt 6 ?_
       simp only [Act.put, sa, s0, ss]
       refine tt 7 ?_
       simp only [Act.put, sa, s0, ss]
       refine tt 8 ?_
       simp only [Act.put, sa, s0, ss]
       have hw16 : wrap64 (a0.Next - 1) = (a0.Next - 1) := by have z := w64_in (a0.Next - 1) ⟨by omega, by omega⟩; omega
       have hw16i : IntKind.i64.wrap (a0.Next - 1) = (a0.Next - 1) := by have z := iw_in (a0.Next - 1) ⟨by omega, by omega⟩; omega
       refine tt 9 ?_
       simp only [Act.put, sa, s0, ss]
       refine wpAnyH_ready (rs := [10]) (by kernel_rfl) (by simp) ?_
       refine' AllReadyH.cons (o := _) ?hi1010_10 (fun K hK => ?_) AllReadyH.nil
       case hi1010_10 => simp only [List.getElem?_toArray, List.getElem?_cons_succ, List.getElem?_cons_zero]; exact rfl
       go_simp
       go_at_call 77
       refine (iinRange_w ((gt a0.Items k5).Id) (1 : Int) (a0.Next - 1)  _ ).mono ?_
       rintro e w17 ⟨rfl, hb17⟩
       have B17 := via (w0 := w) (by simp (maxDischargeDepth := 9) [B14]) hb17
       have U17 : Below w14.heap.size w14 w17 := via (by simp (maxDischargeDepth := 9)) hb17
       have Xbx1_17 := Xbx1_14.via U17
       clear Xbx1_14 Xbx1_14k0 Xbx1_14k1
       have ⟨Xbx1_17k0, Xbx1_17k1⟩ := bx2 Xbx1_17
       have Xbx10_17 := Xbx10_14.via U17
       clear Xbx10_14 Xbx10_14k0 Xbx10_14k1 Xbx10_14k2
       have ⟨Xbx10_17k0, Xbx10_17k1, Xbx10_17k2⟩ := bx3 Xbx10_17
       clear e8d0n e8d1n e8d2n
       have ⟨e8d0n, e8d1n, e8d2n⟩ := cb3 B17 e8bl e8E.out
       clear e12d0n e12d1n e12d2n
       have ⟨e12d0n, e12d1n, e12d2n⟩ := cb3 B17 e12bl e12E.out
       clear U17
       clear B14
       cases h18 : inR ((gt a0.Items k5).Id) (1 : Int) (a0.Next - 1) with
       | true =>
        have ⟨h18a, h18b⟩ := inR_true h18
        replace h18 := Lib.hid h18
        go_wp2_with fail
        refine hK.out _ _ ?_ (fun hHeld10 => ?_)
        · go_keep
        clear hK K hHeld2
        refine tt 11 ?_
        simp only [Act.put, sa, s0, ss]
        refine tt 12 ?_
        simp only [Act.put, sa, s0, ss]
        refine tt 13 ?_
        simp only [Act.put, sa, s0, ss]
        refine tt 14 ?_
        simp only [Act.put, sa, s0, ss]
        refine tt 15 ?_
        simp only [Act.put, sa, s0, ss]
        refine tt 16 ?_
        simp only [Act.put, sa, s0, ss]
        refine tt 17 ?_
        simp only [Act.put, sa, s0, ss]
        refine tt 18 ?_
        simp only [Act.put, sa, s0, ss]
        refine tt 19 ?_
        simp only [Act.put, sa, s0, ss]
        refine tt 20 ?_
        simp only [Act.put, sa, s0, ss]
        refine tt 21 ?_
        simp only [Act.put, sa, s0, ss]
        have hw19 : wrap64 ((k5 : Int) - 1) = ((k5 - 1 : Nat) : Int) := by have z := w64_in ((k5 : Int) - 1) ⟨by omega, by omega⟩; omega
        have hw19i : IntKind.i64.wrap ((k5 : Int) - 1) = ((k5 - 1 : Nat) : Int) := by have z := iw_in ((k5 : Int) - 1) ⟨by omega, by omega⟩; omega
        refine tt 22 ?_
        simp only [Act.put, sa, s0, ss]
        refine tt 23 ?_
        simp only [Act.put, sa, s0, ss]
        refine tt 24 ?_
        simp only [Act.put, sa, s0, ss]
        refine tt 25 ?_
        simp only [Act.put, sa, s0, ss]
        by_cases h20 : (gt a0.Items k5).Id ≤ (gt a0.Items (k5 - 1)).Id
        ·
         have h20d := Lib.hid (decide_eq_true h20)
         refine tt 26 ?_
         simp only [Act.put, sa, s0, ss]
         refine tt 27 ?_
         simp only [Act.put, sa, s0, ss]
         refine tt 28 ?_
         simp only [Act.put, sa, s0, ss]
         refine wpAnyH_done (by kernel_rfl) ?_ _
         clear hHeld10
         refine NoPanic.normal ?_
         have q21 : iStoreOk_p_b1 a0 k5 () = .ret false := by simp only [iStoreOk_p_b1, h11d.out, h15.out, h18.out, h20d.out, cond_true]
         have q22 := rounds_ret hlt6 hy6.out q21
         obtain rfl : r = false := hr.out.symm.trans (by simp only [iStoreOk_p, h2d.out, h4.out, q22, cond_true, cond_false])
         go_wp2
         go_ret
         exact rbk (by simp (maxDischargeDepth := 9) [B17])
        ·
         have h20d := Lib.hid (decide_eq_false h20)
         refine tt 26 ?_
         simp only [Act.put, sa, s0, ss]
         refine tt 27 ?_
         simp only [Act.put, sa, s0, ss]
         refine tt 28 ?_
         simp only [Act.put, sa, s0, ss]
         refine wpAnyH_done (by kernel_rfl) ?_ _
         clear hHeld10
         refine NoPanic.normal ?_
         have hsl23 : k5 ≤ c0_0 := by omega
         go_wp2
         go_loopw [59] (fun i59 wr24 => Below w.heap.size w wr24 ∧ Bx wr24 (w.heap.size) [.slice (some ⟨e8b, e8o, none⟩) a0.Items.length c0_0, .int .i64 a0.Next] ∧ Bx wr24 (wr5.heap.size) [.int .i64 ((gt a0.Items k5).Id), .string ((gt a0.Items k5).F.Kind), .slice pe8_2 ((gt a0.Items k5).F.Fields.length) ce8_2] ∧ ∃ (k24 : Nat), i59 = .int .i64 k24 ∧ k24 ≤ k5 ∧ Hid (rounds (iStoreOk_p_b2 a0 k5) k24 () = .go ())) (fun i59 _ => k5 - (intOf i59).toNat)
         case atStart => exact ⟨(by simp (maxDischargeDepth := 9) [B17]), (by simp (maxDischargeDepth := 9) [Xbx1_17]), (by simp (maxDischargeDepth := 9) [Xbx10_17]), 0, rfl, by omega, Lib.hid rfl⟩
         case round =>
          rename World => wr24
          clear Xbx1_17 Xbx1_17k0 Xbx1_17k1 Xbx10_17 Xbx10_17k0 Xbx10_17k1 Xbx10_17k2 B17
          obtain ⟨B25, Xbx1_25, Xbx10_25, k24, rfl, hk25, hy25⟩ := hrel
          have ⟨Xbx1_25k0, Xbx1_25k1⟩ := bx2 Xbx1_25
          have ⟨Xbx10_25k0, Xbx10_25k1, Xbx10_25k2⟩ := bx3 Xbx10_25
          clear e8d0n e8d1n e8d2n
          have ⟨e8d0n, e8d1n, e8d2n⟩ := cb3 B25 e8bl e8E.out
          clear e12d0n e12d1n e12d2n
          have ⟨e12d0n, e12d1n, e12d2n⟩ := cb3 B25 e12bl e12E.out
          by_cases hlt25 : k24 < k5
          ·
           have hi28 : k24 < a0.Items.length := by first | assumption | omega
           obtain ⟨ue27_2, e27bl, e27ok, ⟨e27d0, e27d1, e27d2⟩, te27_2⟩ := Sl.guItem s0_0 k24 hi28
           obtain ⟨pe27_2, ce27_2, rfl, hlpe27_2, -⟩ := te27_2.open
           have e27E := Lib.hid (And.intro e27d0 (And.intro e27d1 e27d2))
           clear e27d0 e27d1 e27d2
           have ⟨e27d0n, e27d1n, e27d2n⟩ := cb3 B25 e27bl e27E.out
           go_wp2_with fail
           refine (iSameFact_w ((gt a0.Items k5).F) ((gt a0.Items k24).F) _ _ _ (te8_2.to (by simp (maxDischargeDepth := 9) [B25])) (te27_2.to (by simp (maxDischargeDepth := 9) [B25]))).mono ?_
           rintro e w30 ⟨rfl, hb30⟩
           have B30 := via (w0 := w) (by simp (maxDischargeDepth := 9) [B25]) hb30
           have U30 : Below wr24.heap.size wr24 w30 := via (by simp (maxDischargeDepth := 9)) hb30
           have Xbx1_30 := Xbx1_25.via U30
           clear Xbx1_25 Xbx1_25k0 Xbx1_25k1
           have ⟨Xbx1_30k0, Xbx1_30k1⟩ := bx2 Xbx1_30
           have Xbx10_30 := Xbx10_25.via U30
           clear Xbx10_25 Xbx10_25k0 Xbx10_25k1 Xbx10_25k2
           have ⟨Xbx10_30k0, Xbx10_30k1, Xbx10_30k2⟩ := bx3 Xbx10_30
           have Xbx29_30 : Bx w30 (wr24.heap.size) [.int .i64 ((gt a0.Items k24).Id), .string ((gt a0.Items k24).F.Kind), .slice pe27_2 ((gt a0.Items k24).F.Fields.length) ce27_2] := Bx.via (by simp (maxDischargeDepth := 9)) hb30
           have ⟨Xbx29_30k0, Xbx29_30k1, Xbx29_30k2⟩ := bx3 Xbx29_30
           clear e8d0n e8d1n e8d2n
           have ⟨e8d0n, e8d1n, e8d2n⟩ := cb3 B30 e8bl e8E.out
           clear e12d0n e12d1n e12d2n
           have ⟨e12d0n, e12d1n, e12d2n⟩ := cb3 B30 e12bl e12E.out
           clear e27d0n e27d1n e27d2n
           have ⟨e27d0n, e27d1n, e27d2n⟩ := cb3 B30 e27bl e27E.out
           clear U30
           clear B25
           cases h31 : iSameFact_p ((gt a0.Items k5).F) ((gt a0.Items k24).F) with
           | true =>
            replace h31 := Lib.hid h31
            have q32 : iStoreOk_p_b2 a0 k5 k24 () = .ret false := by simp only [iStoreOk_p_b2, h31.out, cond_true]
            have q33 := rounds_ret hlt25 hy25.out q32
            have q34 : iStoreOk_p_b1 a0 k5 () = .ret false := by simp only [iStoreOk_p_b1, h11d.out, h15.out, h18.out, h20d.out, q33, cond_true, cond_false]
            have q35 := rounds_ret hlt6 hy6.out q34
            obtain rfl : r = false := hr.out.symm.trans (by simp only [iStoreOk_p, h2d.out, h4.out, q35, cond_true, cond_false])
            go_wp2
            go_ret
            exact rbk (by simp (maxDischargeDepth := 9) [B30])
           | false =>
            replace h31 := Lib.hid h31
            have q36 : iStoreOk_p_b2 a0 k5 k24 () = .go () := by simp only [iStoreOk_p_b2, h31.out, cond_false]
            replace q36 := Lib.hid (rounds_next hy25.out q36)
            go_wp2
            go_roundw
            case rel => exact ⟨(by simp (maxDischargeDepth := 9) [B30]), (by simp (maxDischargeDepth := 9) [Xbx1_30]), (by simp (maxDischargeDepth := 9) [Xbx10_30]), k24 + 1, by go_num, by omega, q36⟩
            case measure => simp [intOf]; omega
          ·
           obtain rfl : k5 = k24 := by omega
           have q37 : iStoreOk_p_b1 a0 k5 () = .go () := by simp only [iStoreOk_p_b1, h11d.out, h15.out, h18.out, h20d.out, hy25.out, cond_true, cond_false]
           replace q37 := Lib.hid (rounds_next hy6.out q37)
           go_wp2
           go_roundw
           case rel => exact ⟨(by simp (maxDischargeDepth := 9) [B25]), (by simp (maxDischargeDepth := 9) [Xbx1_25]), k5 + 1, by go_num, by omega, q37⟩
           case measure => simp [intOf]; omega
       | false =>
        replace h18 := Lib.hid h18
        go_wp2_with fail
        refine hK.out _ _ ?_ (fun hHeld10 => ?_)
        · go_keep
        clear hK K hHeld2
        refine tt 11 ?_
        simp only [Act.put, sa, s0, ss]
        refine tt 12 ?_
        simp only [Act.put, sa, s0, ss]
        refine tt 13 ?_
        simp only [Act.put, sa, s0, ss]
        refine tu 14 ?_
        simp only [Act.put, sa, s0, ss]
        refine tu 15 ?_
        simp only [Act.put, sa, s0, ss]
        refine tu 16 ?_
        simp only [Act.put, sa, s0, ss]
        refine tu 17 ?_
        simp only [Act.put, sa, s0, ss]
        refine tu 18 ?_
        simp only [Act.put, sa, s0, ss]
        refine tu 19 ?_
        simp only [Act.put, sa, s0, ss]
        refine tu 20 ?_
        simp only [Act.put, sa, s0, ss]
        refine tu 21 ?_
        simp only [Act.put, sa, s0, ss]
        refine tu 22 ?_
        simp only [Act.put, sa, s0, ss]
        refine tu 23 ?_
        simp only [Act.put, sa, s0, ss]
        refine tu 24 ?_
        simp only [Act.put, sa, s0, ss]
        refine tu 25 ?_
        simp only [Act.put, sa, s0, ss]
        refine tu 26 ?_
        simp only [Act.put, sa, s0, ss]
        refine tu 27 ?_
        simp only [Act.put, sa, s0, ss]
        refine tt 28 ?_
        simp only [Act.put, sa, s0, ss]
        refine wpAnyH_done (by kernel_rfl) ?_ _
        clear hHeld10
        refine NoPanic.normal ?_
        have q38 : iStoreOk_p_b1 a0 k5 () = .ret false := by simp only [iStoreOk_p_b1, h11d.out, h15.out, h18.out, cond_true, cond_false]
        have q39 := rounds_ret hlt6 hy6.out q38
        obtain rfl : r = false := hr.out.symm.trans (by simp only [iStoreOk_p, h2d.out, h4.out, q39, cond_true, cond_false])
        go_wp2
        go_ret
        exact rbk (by simp (maxDischargeDepth := 9) [B17])
      | false =>
       replace h15 := Lib.hid h15
       go_wp2_with fail
       refine hK.out _ _ ?_ (fun hHeld2 => ?_)
       · go_keep
       clear hK K hHeld0
       refine tt 3 ?_
       simp only [Act.put, sa, s0, ss]
       refine tt 4 ?_
       simp only [Act.put, sa, s0, ss]
       refine tu 5 ?_
       simp only [Act.put, sa, s0, ss]
       refine tu 6 ?_
       simp only [Act.put, sa, s0, ss]
       refine tu 7 ?_
       simp only [Act.put, sa, s0, ss]
       refine tu 8 ?_
       simp only [Act.put, sa, s0, ss]
       refine tu 9 ?_
       simp only [Act.put, sa, s0, ss]
       refine tu 10 ?_
       simp only [Act.put, sa, s0, ss]
       refine tu 11 ?_
       simp only [Act.put, sa, s0, ss]
       refine tt 12 ?_
       simp only [Act.put, sa, s0, ss]
       refine tt 13 ?_
       simp only [Act.put, sa, s0, ss]
       refine tu 14 ?_
       simp only [Act.put, sa, s0, ss]
       refine tu 15 ?_
       simp only [Act.put, sa, s0, ss]
       refine tu 16 ?_
       simp only [Act.put, sa, s0, ss]
       refine tu 17 ?_
       simp only [Act.put, sa, s0, ss]
       refine tu 18 ?_
       simp only [Act.put, sa, s0, ss]
       refine tu 19 ?_
       simp only [Act.put, sa, s0, ss]
       refine tu 20 ?_
       simp only [Act.put, sa, s0, ss]
       refine tu 21 ?_
       simp only [Act.put, sa, s0, ss]
       refine tu 22 ?_
       simp only [Act.put, sa, s0, ss]
       refine tu 23 ?_
       simp only [Act.put, sa, s0, ss]
       refine tu 24 ?_
       simp only [Act.put, sa, s0, ss]
       refine tu 25 ?_
       simp only [Act.put, sa, s0, ss]
       refine tu 26 ?_
       simp only [Act.put, sa, s0, ss]
       refine tu 27 ?_
       simp only [Act.put, sa, s0, ss]
       refine tt 28 ?_
       simp only [Act.put, sa, s0, ss]
       refine wpAnyH_done (by kernel_rfl) ?_ _
       clear hHeld2
       refine NoPanic.normal ?_
       have q40 : iStoreOk_p_b1 a0 k5 () = .ret false := by simp only [iStoreOk_p_b1, h11d.out, h15.out, cond_true, cond_false]
       have q41 := rounds_ret hlt6 hy6.out q40
       obtain rfl : r = false := hr.out.symm.trans (by simp only [iStoreOk_p, h2d.out, h4.out, q41, cond_true, cond_false])
       go_wp2
       go_ret
       exact rbk (by simp (maxDischargeDepth := 9) [B14])
     ·
      have h11d := Lib.hid (decide_eq_false h11)
      go_wp2
      refine wp_region_noPanic ?_
      refine wp_region_held_drew (S := (fun w' => w'.cell? ⟨w.heap.size, 0, none⟩ = some (.slice (some ⟨e8b, e8o, none⟩) a0.Items.length c0_0) ∧ w'.cell? ⟨w.heap.size, 1, none⟩ = some (.int .i64 a0.Next) ∧ w'.cell? ⟨wr5.heap.size, 0, none⟩ = some (.int .i64 ((gt a0.Items k5).Id)) ∧ w'.cell? ⟨wr5.heap.size, 1, none⟩ = some (.string ((gt a0.Items k5).F.Kind)) ∧ w'.cell? ⟨wr5.heap.size, 2, none⟩ = some (.slice pe8_2 ((gt a0.Items k5).F.Fields.length) ce8_2) ∧ w'.cell? ⟨e8b, e8o + k5 * 3, none⟩ = some (.int .i64 ((gt a0.Items k5).Id)) ∧ w'.cell? ⟨e8b, e8o + k5 * 3 + 1, none⟩ = some (.string ((gt a0.Items k5).F.Kind)) ∧ w'.cell? ⟨e8b, e8o + k5 * 3 + 2, none⟩ = some (.slice pe8_2 ((gt a0.Items k5).F.Fields.length) ce8_2))) (by kernel_rfl) ?_ (fun hHeld0 => ?_)
      · go_keep
      refine tt 0 ?_
      simp only [Act.put, sa, s0, ss]
      refine tt 1 ?_
      simp only [Act.put, sa, s0, ss]
      refine wpAnyH_ready (rs := [2]) (by kernel_rfl) (by simp) ?_
      refine' AllReadyH.cons (o := _) ?hi1013_2 (fun K hK => ?_) AllReadyH.nil
      case hi1013_2 => simp only [List.getElem?_toArray, List.getElem?_cons_succ, List.getElem?_cons_zero]; exact rfl
      go_simp
      go_at_call 138
      refine (iFactOk_w ((gt a0.Items k5).F) _ _ (te8_2.to (by simp (maxDischargeDepth := 9) [B6])) e8ok.2).mono ?_
      rintro e w42 ⟨rfl, hb42⟩
      have B42 := via (w0 := w) (by simp (maxDischargeDepth := 9) [B6]) hb42
      have U42 : Below wr5.heap.size wr5 w42 := via (by simp (maxDischargeDepth := 9)) hb42
      have Xbx1_42 := Xbx1_6.via U42
      clear Xbx1_6 Xbx1_6k0 Xbx1_6k1
      have ⟨Xbx1_42k0, Xbx1_42k1⟩ := bx2 Xbx1_42
      have Xbx10_42 : Bx w42 (wr5.heap.size) [.int .i64 ((gt a0.Items k5).Id), .string ((gt a0.Items k5).F.Kind), .slice pe8_2 ((gt a0.Items k5).F.Fields.length) ce8_2] := Bx.via (by simp (maxDischargeDepth := 9)) hb42
      have ⟨Xbx10_42k0, Xbx10_42k1, Xbx10_42k2⟩ := bx3 Xbx10_42
      clear e8d0n e8d1n e8d2n
      have ⟨e8d0n, e8d1n, e8d2n⟩ := cb3 B42 e8bl e8E.out
      clear U42
      clear B6
      cases h43 : iFactOk_p ((gt a0.Items k5).F) with
      | true =>
       replace h43 := Lib.hid h43
       go_wp2_with fail
       refine hK.out _ _ ?_ (fun hHeld2 => ?_)
       · go_keep
       clear hK K hHeld0
       refine tt 3 ?_
       simp only [Act.put, sa, s0, ss]
       refine tt 4 ?_
       simp only [Act.put, sa, s0, ss]
       refine tt 5 ?_
       simp only [Act.put, sa, s0, ss]
       refine tt 6 ?_
       simp only [Act.put, sa, s0, ss]
       refine tt 7 ?_
       simp only [Act.put, sa, s0, ss]
       refine tt 8 ?_
       simp only [Act.put, sa, s0, ss]
       have hw44 : wrap64 (a0.Next - 1) = (a0.Next - 1) := by have z := w64_in (a0.Next - 1) ⟨by omega, by omega⟩; omega
       have hw44i : IntKind.i64.wrap (a0.Next - 1) = (a0.Next - 1) := by have z := iw_in (a0.Next - 1) ⟨by omega, by omega⟩; omega
       refine tt 9 ?_
       simp only [Act.put, sa, s0, ss]
       refine wpAnyH_ready (rs := [10]) (by kernel_rfl) (by simp) ?_
       refine' AllReadyH.cons (o := _) ?hi1014_10 (fun K hK => ?_) AllReadyH.nil
       case hi1014_10 => simp only [List.getElem?_toArray, List.getElem?_cons_succ, List.getElem?_cons_zero]; exact rfl
       go_simp
       go_at_call 77
       refine (iinRange_w ((gt a0.Items k5).Id) (1 : Int) (a0.Next - 1)  _ ).mono ?_
       rintro e w45 ⟨rfl, hb45⟩
       have B45 := via (w0 := w) (by simp (maxDischargeDepth := 9) [B42]) hb45
       have U45 : Below w42.heap.size w42 w45 := via (by simp (maxDischargeDepth := 9)) hb45
       have Xbx1_45 := Xbx1_42.via U45
       clear Xbx1_42 Xbx1_42k0 Xbx1_42k1
       have ⟨Xbx1_45k0, Xbx1_45k1⟩ := bx2 Xbx1_45
       have Xbx10_45 := Xbx10_42.via U45
       clear Xbx10_42 Xbx10_42k0 Xbx10_42k1 Xbx10_42k2
       have ⟨Xbx10_45k0, Xbx10_45k1, Xbx10_45k2⟩ := bx3 Xbx10_45
       clear e8d0n e8d1n e8d2n
       have ⟨e8d0n, e8d1n, e8d2n⟩ := cb3 B45 e8bl e8E.out
       clear U45
       clear B42
       cases h46 : inR ((gt a0.Items k5).Id) (1 : Int) (a0.Next - 1) with
       | true =>
        have ⟨h46a, h46b⟩ := inR_true h46
        replace h46 := Lib.hid h46
        go_wp2_with fail
        refine hK.out _ _ ?_ (fun hHeld10 => ?_)
        · go_keep
        clear hK K hHeld2
        refine tt 11 ?_
        simp only [Act.put, sa, s0, ss]
        refine tt 12 ?_
        simp only [Act.put, sa, s0, ss]
        refine tt 13 ?_
        simp only [Act.put, sa, s0, ss]
        refine tt 14 ?_
        simp only [Act.put, sa, s0, ss]
        refine tt 15 ?_
        simp only [Act.put, sa, s0, ss]
        refine tt 16 ?_
        simp only [Act.put, sa, s0, ss]
        refine tu 17 ?_
        simp only [Act.put, sa, s0, ss]
        refine tu 18 ?_
        simp only [Act.put, sa, s0, ss]
        refine tu 19 ?_
        simp only [Act.put, sa, s0, ss]
        refine tu 20 ?_
        simp only [Act.put, sa, s0, ss]
        refine tu 21 ?_
        simp only [Act.put, sa, s0, ss]
        refine tu 22 ?_
        simp only [Act.put, sa, s0, ss]
        refine tu 23 ?_
        simp only [Act.put, sa, s0, ss]
        refine tu 24 ?_
        simp only [Act.put, sa, s0, ss]
        refine tu 25 ?_
        simp only [Act.put, sa, s0, ss]
        refine tu 26 ?_
        simp only [Act.put, sa, s0, ss]
        refine tt 27 ?_
        simp only [Act.put, sa, s0, ss]
        refine tt 28 ?_
        simp only [Act.put, sa, s0, ss]
        refine wpAnyH_done (by kernel_rfl) ?_ _
        clear hHeld10
        refine NoPanic.normal ?_
        have hsl47 : k5 ≤ c0_0 := by omega
        go_wp2
        go_loopw [59] (fun i59 wr48 => Below w.heap.size w wr48 ∧ Bx wr48 (w.heap.size) [.slice (some ⟨e8b, e8o, none⟩) a0.Items.length c0_0, .int .i64 a0.Next] ∧ Bx wr48 (wr5.heap.size) [.int .i64 ((gt a0.Items k5).Id), .string ((gt a0.Items k5).F.Kind), .slice pe8_2 ((gt a0.Items k5).F.Fields.length) ce8_2] ∧ ∃ (k48 : Nat), i59 = .int .i64 k48 ∧ k48 ≤ k5 ∧ Hid (rounds (iStoreOk_p_b3 a0 k5) k48 () = .go ())) (fun i59 _ => k5 - (intOf i59).toNat)
        case atStart => exact ⟨(by simp (maxDischargeDepth := 9) [B45]), (by simp (maxDischargeDepth := 9) [Xbx1_45]), (by simp (maxDischargeDepth := 9) [Xbx10_45]), 0, rfl, by omega, Lib.hid rfl⟩
        case round =>
         rename World => wr48
         clear Xbx1_45 Xbx1_45k0 Xbx1_45k1 Xbx10_45 Xbx10_45k0 Xbx10_45k1 Xbx10_45k2 B45
         obtain ⟨B49, Xbx1_49, Xbx10_49, k48, rfl, hk49, hy49⟩ := hrel
         have ⟨Xbx1_49k0, Xbx1_49k1⟩ := bx2 Xbx1_49
         have ⟨Xbx10_49k0, Xbx10_49k1, Xbx10_49k2⟩ := bx3 Xbx10_49
         clear e8d0n e8d1n e8d2n
         have ⟨e8d0n, e8d1n, e8d2n⟩ := cb3 B49 e8bl e8E.out
         by_cases hlt49 : k48 < k5
         ·
          exact absurd hlt49 (by omega)
         ·
          obtain rfl : k5 = k48 := by omega
          have q51 : iStoreOk_p_b1 a0 k5 () = .go () := by simp only [iStoreOk_p_b1, h11d.out, h43.out, h46.out, hy49.out, cond_true, cond_false]
          replace q51 := Lib.hid (rounds_next hy6.out q51)
          go_wp2
          go_roundw
          case rel => exact ⟨(by simp (maxDischargeDepth := 9) [B49]), (by simp (maxDischargeDepth := 9) [Xbx1_49]), k5 + 1, by go_num, by omega, q51⟩
          case measure => simp [intOf]; omega
       | false =>
        replace h46 := Lib.hid h46
        go_wp2_with fail
        refine hK.out _ _ ?_ (fun hHeld10 => ?_)
        · go_keep
        clear hK K hHeld2
        refine tt 11 ?_
        simp only [Act.put, sa, s0, ss]
        refine tt 12 ?_
        simp only [Act.put, sa, s0, ss]
        refine tt 13 ?_
        simp only [Act.put, sa, s0, ss]
        refine tu 14 ?_
        simp only [Act.put, sa, s0, ss]
        refine tu 15 ?_
        simp only [Act.put, sa, s0, ss]
        refine tu 16 ?_
        simp only [Act.put, sa, s0, ss]
        refine tu 17 ?_
        simp only [Act.put, sa, s0, ss]
        refine tu 18 ?_
        simp only [Act.put, sa, s0, ss]
        refine tu 19 ?_
        simp only [Act.put, sa, s0, ss]
        refine tu 20 ?_
        simp only [Act.put, sa, s0, ss]
        refine tu 21 ?_
        simp only [Act.put, sa, s0, ss]
        refine tu 22 ?_
        simp only [Act.put, sa, s0, ss]
        refine tu 23 ?_
        simp only [Act.put, sa, s0, ss]
        refine tu 24 ?_
        simp only [Act.put, sa, s0, ss]
        refine tu 25 ?_
        simp only [Act.put, sa, s0, ss]
        refine tu 26 ?_
        simp only [Act.put, sa, s0, ss]
        refine tu 27 ?_
        simp only [Act.put, sa, s0, ss]
        refine tt 28 ?_
        simp only [Act.put, sa, s0, ss]
        refine wpAnyH_done (by kernel_rfl) ?_ _
        clear hHeld10
        refine NoPanic.normal ?_
        have q52 : iStoreOk_p_b1 a0 k5 () = .ret false := by simp only [iStoreOk_p_b1, h11d.out, h43.out, h46.out, cond_true, cond_false]
        have q53 := rounds_ret hlt6 hy6.out q52
        obtain rfl : r = false := hr.out.symm.trans (by simp only [iStoreOk_p, h2d.out, h4.out, q53, cond_true, cond_false])
        go_wp2
        go_ret
        exact rbk (by simp (maxDischargeDepth := 9) [B45])
      | false =>
       replace h43 := Lib.hid h43
       go_wp2_with fail
       refine hK.out _ _ ?_ (fun hHeld2 => ?_)
       · go_keep
       clear hK K hHeld0
       refine tt 3 ?_
       simp only [Act.put, sa, s0, ss]
       refine tt 4 ?_
       simp only [Act.put, sa, s0, ss]
       refine tu 5 ?_
       simp only [Act.put, sa, s0, ss]
       refine tu 6 ?_
       simp only [Act.put, sa, s0, ss]
       refine tu 7 ?_
       simp only [Act.put, sa, s0, ss]
       refine tu 8 ?_
       simp only [Act.put, sa, s0, ss]
       refine tu 9 ?_
       simp only [Act.put, sa, s0, ss]
       refine tu 10 ?_
       simp only [Act.put, sa, s0, ss]
       refine tu 11 ?_
       simp only [Act.put, sa, s0, ss]
       refine tt 12 ?_
       simp only [Act.put, sa, s0, ss]
       refine tt 13 ?_
       simp only [Act.put, sa, s0, ss]
       refine tu 14 ?_
       simp only [Act.put, sa, s0, ss]
       refine tu 15 ?_
       simp only [Act.put, sa, s0, ss]
       refine tu 16 ?_
       simp only [Act.put, sa, s0, ss]
       refine tu 17 ?_
       simp only [Act.put, sa, s0, ss]
       refine tu 18 ?_
       simp only [Act.put, sa, s0, ss]
       refine tu 19 ?_
       simp only [Act.put, sa, s0, ss]
       refine tu 20 ?_
       simp only [Act.put, sa, s0, ss]
       refine tu 21 ?_
       simp only [Act.put, sa, s0, ss]
       refine tu 22 ?_
       simp only [Act.put, sa, s0, ss]
       refine tu 23 ?_
       simp only [Act.put, sa, s0, ss]
       refine tu 24 ?_
       simp only [Act.put, sa, s0, ss]
       refine tu 25 ?_
       simp only [Act.put, sa, s0, ss]
       refine tu 26 ?_
       simp only [Act.put, sa, s0, ss]
       refine tu 27 ?_
       simp only [Act.put, sa, s0, ss]
       refine tt 28 ?_
       simp only [Act.put, sa, s0, ss]
       refine wpAnyH_done (by kernel_rfl) ?_ _
       clear hHeld2
       refine NoPanic.normal ?_
       have q54 : iStoreOk_p_b1 a0 k5 () = .ret false := by simp only [iStoreOk_p_b1, h11d.out, h43.out, cond_false]
       have q55 := rounds_ret hlt6 hy6.out q54
       obtain rfl : r = false := hr.out.symm.trans (by simp only [iStoreOk_p, h2d.out, h4.out, q55, cond_true, cond_false])
       go_wp2
       go_ret
       exact rbk (by simp (maxDischargeDepth := 9) [B42])
    ·
     obtain rfl : a0.Items.length = k5 := by omega
     obtain rfl : r = true := hr.out.symm.trans (by simp only [iStoreOk_p, h2d.out, h4.out, hy6.out, cond_true, cond_false])
     go_wp2
     go_ret
     exact rbk (by simp (maxDischargeDepth := 9) [B6])
  | false =>
   replace h4 := Lib.hid h4
   obtain rfl : r = false := hr.out.symm.trans (by simp only [iStoreOk_p, h2d.out, h4.out, cond_false])
   go_wp2
   go_ret
   exact rbk (by simp (maxDischargeDepth := 9) [B3])
end Go.Proofs.YthnilnggpbploaaGreat
