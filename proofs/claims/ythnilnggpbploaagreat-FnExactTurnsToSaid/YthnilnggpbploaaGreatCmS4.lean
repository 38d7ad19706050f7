/- Functions that only read, walked (S). Printed by a program. -/
import Derived.Test.YthnilnggpbploaaGreatCmS1
namespace Go.Proofs.YthnilnggpbploaaGreat
open Go.RowKit
open Cel (rd own rd_len rd_one own_rd own_lt rd_below rd_mono own_keep)

-- spec.DefAt
def sDefAt_p_b1 (a0 : BookD) (a1 : ByteArray) (k2 : Nat) (_ : Unit) : St (Int) (Unit) := bif (((gt a0.Defs k2).Name).toList == a1.toList) then (.ret (k2 : Int)) else (.go ())
def sDefAt_p (a0 : BookD) (a1 : ByteArray) : Int := match rounds (sDefAt_p_b1 a0 a1) a0.Defs.length () with | .ret r => r | .brk _ => default | .go _ => (-1 : Int)
set_option maxHeartbeats 1000000 in
set_option maxRecDepth 20000 in
theorem sDefAt_w (a0 : BookD) (a1 : ByteArray) (v0_0 : Value) (v0_1 : Value) (w : World) (s0_0 : Sl w a0.Defs v0_0) (s0_1 : Sl w a0.Works v0_1) :
    Calls Tryz.prog 90 #[.agg #[v0_0, v0_1, .int .i64 a0.Now, .int .i64 a0.Ring], .string a1] w (RetI (sDefAt_p a0 a1) w) := by
 obtain ⟨p0_0, c0_0, rfl, hl0_0, -, hk0_0, -⟩ := s0_0.open
 obtain ⟨p0_1, c0_1, rfl, hl0_1, -, hk0_1, -⟩ := s0_1.open
 obtain ⟨r, hr⟩ : ∃ r, sDefAt_p a0 a1 = r := ⟨_, rfl⟩
 rw [hr]
 replace hr := Lib.hid hr
 go_enter Tryz.func90, Tryz.ntmps90
 go_wp2
 go_loopw [5] (fun i5 wr2 => Below w.heap.size w wr2 ∧ Bx wr2 (w.heap.size) [.slice p0_0 a0.Defs.length c0_0, .slice p0_1 a0.Works.length c0_1, .int .i64 a0.Now, .int .i64 a0.Ring] ∧ ∃ (k2 : Nat), i5 = .int .i64 k2 ∧ k2 ≤ a0.Defs.length ∧ Hid (rounds (sDefAt_p_b1 a0 a1) k2 () = .go ())) (fun i5 _ => a0.Defs.length - (intOf i5).toNat)
 case atStart => exact ⟨(by simp (maxDischargeDepth := 9)), (by simp (maxDischargeDepth := 9)), 0, rfl, by omega, Lib.hid rfl⟩
 case round =>
  rename World => wr2
  obtain ⟨B3, Xbx1_3, k2, rfl, hk3, hy3⟩ := hrel
  have ⟨Xbx1_3k0, Xbx1_3k1, Xbx1_3k2, Xbx1_3k3⟩ := bx4 Xbx1_3
  by_cases hlt3 : k2 < a0.Defs.length
  ·
   have hi6 : k2 < a0.Defs.length := by first | assumption | omega
   obtain ⟨e5b, e5o, ue5_1, rfl, e5bl, e5ok, ⟨e5d0, e5d1⟩, te5_1⟩ := Sl.gtDef s0_0 k2 hi6
   obtain ⟨pe5_1, ce5_1, rfl, hlpe5_1, -⟩ := te5_1.open
   have e5E := Lib.hid (And.intro e5d0 e5d1)
   clear e5d0 e5d1
   have ⟨e5d0n, e5d1n⟩ := cb2 B3 e5bl e5E.out
   obtain ⟨bh7, eh7⟩ : ∃ b, (((gt a0.Defs k2).Name).toList == a1.toList) = b := ⟨_, rfl⟩
   rcases Bool.eq_false_or_eq_true bh7 with h7 | h7
   ·
    have q8 : sDefAt_p_b1 a0 a1 k2 () = .ret (k2 : Int) := by simp only [sDefAt_p_b1, eh7, h7, cond_true]
    have q9 := rounds_ret hlt3 hy3.out q8
    obtain rfl : r = (k2 : Int) := hr.out.symm.trans (by simp only [sDefAt_p, q9])
    go_wp2
    go_ret
    exact ⟨by first | rfl | simp, (by simp (maxDischargeDepth := 9) [B3])⟩
   ·
    have q10 : sDefAt_p_b1 a0 a1 k2 () = .go () := by simp only [sDefAt_p_b1, eh7, h7, cond_false]
    replace q10 := Lib.hid (rounds_next hy3.out q10)
    go_wp2
    go_roundw
    case rel => exact ⟨(by simp (maxDischargeDepth := 9) [B3]), (by simp (maxDischargeDepth := 9) [Xbx1_3]), k2 + 1, by go_num, by omega, q10⟩
    case measure => simp [intOf]; omega
  ·
   obtain rfl : a0.Defs.length = k2 := by omega
   obtain rfl : r = (-1 : Int) := hr.out.symm.trans (by simp only [sDefAt_p, hy3.out])
   go_wp2
   go_ret
   exact ⟨by first | rfl | simp, (by simp (maxDischargeDepth := 9) [B3])⟩

-- spec.l3Vals
def sl3Vals_p_b1 (a0 : List ValD) (k1 : Nat) (_ : Unit) : St (Bool) (Unit) := bif sValOk_p (gt a0 k1) then (.go ()) else (.ret false)
def sl3Vals_p (a0 : List ValD) : Bool := match rounds (sl3Vals_p_b1 a0) a0.length () with | .ret r => r | .brk _ => default | .go _ => bif decide (a0.length ≤ 5) then (true) else (false)
set_option maxHeartbeats 1000000 in
set_option maxRecDepth 20000 in
theorem sl3Vals_w (a0 : List ValD) (v0_0 : Value) (w : World) (s0_0 : Sl w a0 v0_0) :
    Calls Tryz.prog 336 #[v0_0] w (RetB (sl3Vals_p a0) w) := by
 obtain ⟨p0_0, c0_0, rfl, hl0_0, -, hk0_0, -⟩ := s0_0.open
 obtain ⟨r, hr⟩ : ∃ r, sl3Vals_p a0 = r := ⟨_, rfl⟩
 rw [hr]
 replace hr := Lib.hid hr
 go_enter Tryz.func336, Tryz.ntmps336
 go_wp2
 go_loopw [3] (fun i3 wr1 => Below w.heap.size w wr1 ∧ ∃ (k1 : Nat), i3 = .int .i64 k1 ∧ k1 ≤ a0.length ∧ Hid (rounds (sl3Vals_p_b1 a0) k1 () = .go ())) (fun i3 _ => a0.length - (intOf i3).toNat)
 case atStart => exact ⟨(by simp (maxDischargeDepth := 9)), 0, rfl, by omega, Lib.hid rfl⟩
 case round =>
  rename World => wr1
  obtain ⟨B2, k1, rfl, hk2, hy2⟩ := hrel
  by_cases hlt2 : k1 < a0.length
  ·
   have hi5 : k1 < a0.length := by first | assumption | omega
   obtain ⟨e4b, e4o, rfl, e4bl, e4ok, ⟨e4d0, e4d1, e4d2⟩⟩ := Sl.gtVal s0_0 k1 hi5
   have e4E := Lib.hid (And.intro e4d0 (And.intro e4d1 e4d2))
   clear e4d0 e4d1 e4d2
   have ⟨e4d0n, e4d1n, e4d2n⟩ := cb3 B2 e4bl e4E.out
   go_wp2_with fail
   refine (sValOk_w (gt a0 k1)  _ e4ok).mono ?_
   rintro e w6 ⟨rfl, hb6⟩
   have B6 := via (w0 := w) (by simp (maxDischargeDepth := 9) [B2]) hb6
   clear e4d0n e4d1n e4d2n
   have ⟨e4d0n, e4d1n, e4d2n⟩ := cb3 B6 e4bl e4E.out
   clear B2
   cases h7 : sValOk_p (gt a0 k1) with
   | true =>
    replace h7 := Lib.hid h7
    have q8 : sl3Vals_p_b1 a0 k1 () = .go () := by simp only [sl3Vals_p_b1, h7.out, cond_true]
    replace q8 := Lib.hid (rounds_next hy2.out q8)
    go_wp2
    go_roundw
    case rel => exact ⟨(by simp (maxDischargeDepth := 9) [B6]), k1 + 1, by go_num, by omega, q8⟩
    case measure => simp [intOf]; omega
   | false =>
    replace h7 := Lib.hid h7
    have q9 : sl3Vals_p_b1 a0 k1 () = .ret false := by simp only [sl3Vals_p_b1, h7.out, cond_false]
    have q10 := rounds_ret hlt2 hy2.out q9
    obtain rfl : r = false := hr.out.symm.trans (by simp only [sl3Vals_p, q10])
    go_wp2
    go_ret
    exact rbk (by simp (maxDischargeDepth := 9) [B6])
  ·
   obtain rfl : a0.length = k1 := by omega
   by_cases h11 : a0.length ≤ 5
   ·
    have h11d := Lib.hid (decide_eq_true h11)
    obtain rfl : r = true := hr.out.symm.trans (by simp only [sl3Vals_p, hy2.out, h11d.out, cond_true])
    go_wp2
    go_ret
    exact rbk (by simp (maxDischargeDepth := 9) [B2])
   ·
    have h11d := Lib.hid (decide_eq_false h11)
    obtain rfl : r = false := hr.out.symm.trans (by simp only [sl3Vals_p, hy2.out, h11d.out, cond_false])
    go_wp2
    go_ret
    exact rbk (by simp (maxDischargeDepth := 9) [B2])

-- spec.FactOk
def sFactOk_p (a0 : FactD) : Bool := bif sNameOk_p a0.Kind then (sl3Vals_p a0.Fields) else (false)
set_option maxHeartbeats 1000000 in
set_option maxRecDepth 20000 in
theorem sFactOk_w (a0 : FactD) (v0_1 : Value) (w : World) (s0_1 : Sl w a0.Fields v0_1) (ok_a0 : okFact a0) :
    Calls Tryz.prog 242 #[.agg #[.string a0.Kind, v0_1]] w (RetB (sFactOk_p a0) w) := by
 obtain ⟨p0_1, c0_1, rfl, hl0_1, -, hk0_1, -⟩ := s0_1.open
 obtain ⟨r, hr⟩ : ∃ r, sFactOk_p a0 = r := ⟨_, rfl⟩
 rw [hr]
 replace hr := Lib.hid hr
 go_enter Tryz.func242, Tryz.ntmps242
 go_wp2_with fail
 refine (sNameOk_w a0.Kind  _ ok_a0).mono ?_
 rintro e w2 ⟨rfl, hb2⟩
 have B2 := via (w0 := w) (by simp (maxDischargeDepth := 9)) hb2
 have Xbx1_2 : Bx w2 (w.heap.size) [.string a0.Kind, .slice p0_1 a0.Fields.length c0_1] := Bx.via (by simp (maxDischargeDepth := 9)) hb2
 have ⟨Xbx1_2k0, Xbx1_2k1⟩ := bx2 Xbx1_2
 cases h3 : sNameOk_p a0.Kind with
 | true =>
  replace h3 := Lib.hid h3
  go_wp2_with fail
  refine (sl3Vals_w a0.Fields _ _ (s0_1.to (by simp (maxDischargeDepth := 9) [B2]))).mono ?_
  rintro e w4 ⟨rfl, hb4⟩
  have B4 := via (w0 := w) (by simp (maxDischargeDepth := 9) [B2]) hb4
  have U4 : Below w2.heap.size w2 w4 := via (by simp (maxDischargeDepth := 9)) hb4
  have Xbx1_4 := Xbx1_2.via U4
  clear Xbx1_2 Xbx1_2k0 Xbx1_2k1
  have ⟨Xbx1_4k0, Xbx1_4k1⟩ := bx2 Xbx1_4
  clear U4
  clear B2
  obtain rfl : r = sl3Vals_p a0.Fields := hr.out.symm.trans (by simp only [sFactOk_p, h3.out, cond_true])
  go_wp2
  go_ret
  exact rbk (by simp (maxDischargeDepth := 9) [B4])
 | false =>
  replace h3 := Lib.hid h3
  obtain rfl : r = false := hr.out.symm.trans (by simp only [sFactOk_p, h3.out, cond_false])
  go_wp2
  go_ret
  exact rbk (by simp (maxDischargeDepth := 9) [B2])

-- spec.l3SameVals
def sl3SameVals_p_b1 (a0 : List ValD) (a1 : List ValD) (k2 : Nat) (_ : Unit) : St (Bool) (Unit) := bif ((gt a0 k2).K == (gt a1 k2).K) then (bif ((gt a0 k2).N == (gt a1 k2).N) then (bif (((gt a0 k2).S).toList == ((gt a1 k2).S).toList) then (.go ()) else (.ret false)) else (.ret false)) else (.ret false)
def sl3SameVals_p (a0 : List ValD) (a1 : List ValD) : Bool := bif (((a0.length : Nat) : Int) == ((a1.length : Nat) : Int)) then (match rounds (sl3SameVals_p_b1 a0 a1) a0.length () with | .ret r => r | .brk _ => default | .go _ => true) else (false)
set_option maxHeartbeats 1000000 in
set_option maxRecDepth 20000 in
theorem sl3SameVals_w (a0 : List ValD) (a1 : List ValD) (v0_0 : Value) (v1_0 : Value) (w : World) (s0_0 : Sl w a0 v0_0) (s1_0 : Sl w a1 v1_0) :
    Calls Tryz.prog 314 #[v0_0, v1_0] w (RetB (sl3SameVals_p a0 a1) w) := by
 obtain ⟨p0_0, c0_0, rfl, hl0_0, -, hk0_0, -⟩ := s0_0.open
 obtain ⟨p1_0, c1_0, rfl, hl1_0, -, hk1_0, -⟩ := s1_0.open
 obtain ⟨r, hr⟩ : ∃ r, sl3SameVals_p a0 a1 = r := ⟨_, rfl⟩
 rw [hr]
 replace hr := Lib.hid hr
 go_enter Tryz.func314, Tryz.ntmps314
 obtain ⟨bh1, eh1⟩ : ∃ b, (((a0.length : Nat) : Int) == ((a1.length : Nat) : Int)) = b := ⟨_, rfl⟩
 have nh1 : (((a0.length : Nat) : Int) != ((a1.length : Nat) : Int)) = !bh1 := by rw [← eh1]; rfl
 rcases Bool.eq_false_or_eq_true bh1 with h1 | h1
 ·
  have gh1 : Hid (a0.length = a1.length) := Lib.hid (by have z := eh1.trans h1; simp only [beq_iff_eq] at z; omega)
  go_wp2
  go_loopw [5] (fun i5 wr2 => Below w.heap.size w wr2 ∧ ∃ (k2 : Nat), i5 = .int .i64 k2 ∧ k2 ≤ a0.length ∧ Hid (rounds (sl3SameVals_p_b1 a0 a1) k2 () = .go ())) (fun i5 _ => a0.length - (intOf i5).toNat)
  case atStart => exact ⟨(by simp (maxDischargeDepth := 9)), 0, rfl, by omega, Lib.hid rfl⟩
  case round =>
   rename World => wr2
   obtain ⟨B3, k2, rfl, hk3, hy3⟩ := hrel
   by_cases hlt3 : k2 < a0.length
   ·
    have hi6 : k2 < a0.length := by first | assumption | omega | (have := gh1.out; omega)
    obtain ⟨e5b, e5o, rfl, e5bl, e5ok, ⟨e5d0, e5d1, e5d2⟩⟩ := Sl.gtVal s0_0 k2 hi6
    have e5E := Lib.hid (And.intro e5d0 (And.intro e5d1 e5d2))
    clear e5d0 e5d1 e5d2
    have ⟨e5d0n, e5d1n, e5d2n⟩ := cb3 B3 e5bl e5E.out
    have hi8 : k2 < a1.length := by first | assumption | omega | (have := gh1.out; omega)
    obtain ⟨e7b, e7o, rfl, e7bl, e7ok, ⟨e7d0, e7d1, e7d2⟩⟩ := Sl.gtVal s1_0 k2 hi8
    have e7E := Lib.hid (And.intro e7d0 (And.intro e7d1 e7d2))
    clear e7d0 e7d1 e7d2
    have ⟨e7d0n, e7d1n, e7d2n⟩ := cb3 B3 e7bl e7E.out
    go_wp2
    refine wp_region_noPanic ?_
    refine wp_region_held_drew (S := (fun w' => w'.cell? ⟨e5b, e5o + k2 * 3, none⟩ = some (.int .i64 ((gt a0 k2).K)) ∧ w'.cell? ⟨e5b, e5o + k2 * 3 + 1, none⟩ = some (.int .i64 ((gt a0 k2).N)) ∧ w'.cell? ⟨e5b, e5o + k2 * 3 + 2, none⟩ = some (.string ((gt a0 k2).S)) ∧ w'.cell? ⟨e7b, e7o + k2 * 3, none⟩ = some (.int .i64 ((gt a1 k2).K)) ∧ w'.cell? ⟨e7b, e7o + k2 * 3 + 1, none⟩ = some (.int .i64 ((gt a1 k2).N)) ∧ w'.cell? ⟨e7b, e7o + k2 * 3 + 2, none⟩ = some (.string ((gt a1 k2).S)))) (by kernel_rfl) ?_ (fun hHeld0 => ?_)
    · go_keep
    refine tt 0 ?_
    simp only [Act.put, sa, s0, ss]
    refine tt 1 ?_
    simp only [Act.put, sa, s0, ss]
    refine tt 2 ?_
    simp only [Act.put, sa, s0, ss]
    refine tt 3 ?_
    simp only [Act.put, sa, s0, ss]
    refine tt 4 ?_
    simp only [Act.put, sa, s0, ss]
    refine tt 5 ?_
    simp only [Act.put, sa, s0, ss]
    refine tt 6 ?_
    simp only [Act.put, sa, s0, ss]
    refine tt 7 ?_
    simp only [Act.put, sa, s0, ss]
    obtain ⟨bh9, eh9⟩ : ∃ b, ((gt a0 k2).K == (gt a1 k2).K) = b := ⟨_, rfl⟩
    rcases Bool.eq_false_or_eq_true bh9 with h9 | h9
    ·
     obtain ⟨bh10, eh10⟩ : ∃ b, ((gt a0 k2).N == (gt a1 k2).N) = b := ⟨_, rfl⟩
     rcases Bool.eq_false_or_eq_true bh10 with h10 | h10
     ·
      obtain ⟨bh11, eh11⟩ : ∃ b, (((gt a0 k2).S).toList == ((gt a1 k2).S).toList) = b := ⟨_, rfl⟩
      rcases Bool.eq_false_or_eq_true bh11 with h11 | h11
      ·
       refine tt 8 ?_
       simp only [Act.put, sa, s0, ss]
       refine wpAnyH_done (by kernel_rfl) ?_ _
       clear hHeld0
       refine NoPanic.normal ?_
       have q12 : sl3SameVals_p_b1 a0 a1 k2 () = .go () := by simp only [sl3SameVals_p_b1, eh9, h9, eh10, h10, eh11, h11, cond_true]
       replace q12 := Lib.hid (rounds_next hy3.out q12)
       go_wp2
       go_roundw
       case rel => exact ⟨(by simp (maxDischargeDepth := 9) [B3]), k2 + 1, by go_num, by omega, q12⟩
       case measure => simp [intOf]; omega
      ·
       refine tt 8 ?_
       simp only [Act.put, sa, s0, ss]
       refine wpAnyH_done (by kernel_rfl) ?_ _
       clear hHeld0
       refine NoPanic.normal ?_
       have q13 : sl3SameVals_p_b1 a0 a1 k2 () = .ret false := by simp only [sl3SameVals_p_b1, eh9, h9, eh10, h10, eh11, h11, cond_true, cond_false]
       have q14 := rounds_ret hlt3 hy3.out q13
       obtain rfl : r = false := hr.out.symm.trans (by simp only [sl3SameVals_p, eh1, h1, q14, cond_true])
       go_wp2
       go_ret
       exact rbk (by simp (maxDischargeDepth := 9) [B3])
     ·
      refine tt 8 ?_
      simp only [Act.put, sa, s0, ss]
      refine wpAnyH_done (by kernel_rfl) ?_ _
      clear hHeld0
      refine NoPanic.normal ?_
      have q15 : sl3SameVals_p_b1 a0 a1 k2 () = .ret false := by simp only [sl3SameVals_p_b1, eh9, h9, eh10, h10, cond_true, cond_false]
      have q16 := rounds_ret hlt3 hy3.out q15
      obtain rfl : r = false := hr.out.symm.trans (by simp only [sl3SameVals_p, eh1, h1, q16, cond_true])
      go_wp2
      go_ret
      exact rbk (by simp (maxDischargeDepth := 9) [B3])
    ·
     refine tt 8 ?_
     simp only [Act.put, sa, s0, ss]
     refine wpAnyH_done (by kernel_rfl) ?_ _
     clear hHeld0
     refine NoPanic.normal ?_
     have q17 : sl3SameVals_p_b1 a0 a1 k2 () = .ret false := by simp only [sl3SameVals_p_b1, eh9, h9, cond_false]
     have q18 := rounds_ret hlt3 hy3.out q17
     obtain rfl : r = false := hr.out.symm.trans (by simp only [sl3SameVals_p, eh1, h1, q18, cond_true])
     go_wp2
     go_ret
     exact rbk (by simp (maxDischargeDepth := 9) [B3])
   ·
    obtain rfl : a0.length = k2 := by omega
    obtain rfl : r = true := hr.out.symm.trans (by simp only [sl3SameVals_p, eh1, h1, hy3.out, cond_true])
    go_wp2
    go_ret
    exact rbk (by simp (maxDischargeDepth := 9) [B3])
 ·
  obtain rfl : r = false := hr.out.symm.trans (by simp only [sl3SameVals_p, eh1, h1, cond_false])
  go_wp2
  go_ret
  exact rbk (by simp (maxDischargeDepth := 9))

-- spec.SameFact
def sSameFact_p (a0 : FactD) (a1 : FactD) : Bool := bif (a0.Kind.toList == a1.Kind.toList) then (sl3SameVals_p a0.Fields a1.Fields) else (false)
set_option maxHeartbeats 1000000 in
set_option maxRecDepth 20000 in
theorem sSameFact_w (a0 : FactD) (a1 : FactD) (v0_1 : Value) (v1_1 : Value) (w : World) (s0_1 : Sl w a0.Fields v0_1) (s1_1 : Sl w a1.Fields v1_1) :
    Calls Tryz.prog 216 #[.agg #[.string a0.Kind, v0_1], .agg #[.string a1.Kind, v1_1]] w (RetB (sSameFact_p a0 a1) w) := by
 obtain ⟨p0_1, c0_1, rfl, hl0_1, -, hk0_1, -⟩ := s0_1.open
 obtain ⟨p1_1, c1_1, rfl, hl1_1, -, hk1_1, -⟩ := s1_1.open
 obtain ⟨r, hr⟩ : ∃ r, sSameFact_p a0 a1 = r := ⟨_, rfl⟩
 rw [hr]
 replace hr := Lib.hid hr
 go_enter Tryz.func216, Tryz.ntmps216
 obtain ⟨bh3, eh3⟩ : ∃ b, (a0.Kind.toList == a1.Kind.toList) = b := ⟨_, rfl⟩
 rcases Bool.eq_false_or_eq_true bh3 with h3 | h3
 ·
  go_wp2_with fail
  refine (sl3SameVals_w a0.Fields a1.Fields _ _ _ (s0_1.to (by simp (maxDischargeDepth := 9))) (s1_1.to (by simp (maxDischargeDepth := 9)))).mono ?_
  rintro e w4 ⟨rfl, hb4⟩
  have B4 := via (w0 := w) (by simp (maxDischargeDepth := 9)) hb4
  have Xbx1_4 : Bx w4 (w.heap.size) [.string a0.Kind, .slice p0_1 a0.Fields.length c0_1] := Bx.via (by simp (maxDischargeDepth := 9)) hb4
  have ⟨Xbx1_4k0, Xbx1_4k1⟩ := bx2 Xbx1_4
  have Xbx2_4 : Bx w4 (w.heap.size + 1) [.string a1.Kind, .slice p1_1 a1.Fields.length c1_1] := Bx.via (by simp (maxDischargeDepth := 9)) hb4
  have ⟨Xbx2_4k0, Xbx2_4k1⟩ := bx2 Xbx2_4
  obtain rfl : r = sl3SameVals_p a0.Fields a1.Fields := hr.out.symm.trans (by simp only [sSameFact_p, eh3, h3, cond_true])
  go_wp2
  go_ret
  exact rbk (by simp (maxDischargeDepth := 9) [B4])
 ·
  obtain rfl : r = false := hr.out.symm.trans (by simp only [sSameFact_p, eh3, h3, cond_false])
  go_wp2
  go_ret
  exact rbk (by simp (maxDischargeDepth := 9))

-- spec.IdOf
def sIdOf_p_b1 (a0 : StoreD) (a1 : FactD) (k3 : Nat) (_ : Unit) : St (Int) (Unit) := bif sSameFact_p ((gt a0.Items k3).F) a1 then (.ret ((gt a0.Items k3).Id)) else (.go ())
def sIdOf_p (a0 : StoreD) (a1 : FactD) : Int := match rounds (sIdOf_p_b1 a0 a1) a0.Items.length () with | .ret r => r | .brk _ => default | .go _ => (0 : Int)
set_option maxHeartbeats 1000000 in
set_option maxRecDepth 20000 in
theorem sIdOf_w (a0 : StoreD) (a1 : FactD) (v0_0 : Value) (v1_1 : Value) (w : World) (s0_0 : Sl w a0.Items v0_0) (s1_1 : Sl w a1.Fields v1_1) :
    Calls Tryz.prog 243 #[.agg #[v0_0, .int .i64 a0.Next], .agg #[.string a1.Kind, v1_1]] w (RetI (sIdOf_p a0 a1) w) := by
 obtain ⟨p0_0, c0_0, rfl, hl0_0, -, hk0_0, -⟩ := s0_0.open
 obtain ⟨p1_1, c1_1, rfl, hl1_1, -, hk1_1, -⟩ := s1_1.open
 obtain ⟨r, hr⟩ : ∃ r, sIdOf_p a0 a1 = r := ⟨_, rfl⟩
 rw [hr]
 replace hr := Lib.hid hr
 go_enter Tryz.func243, Tryz.ntmps243
 go_wp2
 go_loopw [5] (fun i5 wr3 => Below w.heap.size w wr3 ∧ Bx wr3 (w.heap.size) [.slice p0_0 a0.Items.length c0_0, .int .i64 a0.Next] ∧ Bx wr3 (w.heap.size + 1) [.string a1.Kind, .slice p1_1 a1.Fields.length c1_1] ∧ ∃ (k3 : Nat), i5 = .int .i64 k3 ∧ k3 ≤ a0.Items.length ∧ Hid (rounds (sIdOf_p_b1 a0 a1) k3 () = .go ())) (fun i5 _ => a0.Items.length - (intOf i5).toNat)
 case atStart => exact ⟨(by simp (maxDischargeDepth := 9)), (by simp (maxDischargeDepth := 9)), (by simp (maxDischargeDepth := 9)), 0, rfl, by omega, Lib.hid rfl⟩
 case round =>
  rename World => wr3
  obtain ⟨B4, Xbx1_4, Xbx2_4, k3, rfl, hk4, hy4⟩ := hrel
  have ⟨Xbx1_4k0, Xbx1_4k1⟩ := bx2 Xbx1_4
  have ⟨Xbx2_4k0, Xbx2_4k1⟩ := bx2 Xbx2_4
  by_cases hlt4 : k3 < a0.Items.length
  ·
   have hi7 : k3 < a0.Items.length := by first | assumption | omega
   obtain ⟨e6b, e6o, ue6_2, rfl, e6bl, e6ok, ⟨e6d0, e6d1, e6d2⟩, te6_2⟩ := Sl.gtItem s0_0 k3 hi7
   obtain ⟨pe6_2, ce6_2, rfl, hlpe6_2, -⟩ := te6_2.open
   have e6E := Lib.hid (And.intro e6d0 (And.intro e6d1 e6d2))
   clear e6d0 e6d1 e6d2
   have ⟨e6d0n, e6d1n, e6d2n⟩ := cb3 B4 e6bl e6E.out
   go_wp2
   refine wp_region_noPanic ?_
   refine wp_region_held_drew (S := (fun w' => w'.cell? ⟨w.heap.size, 0, none⟩ = some (.slice (some ⟨e6b, e6o, none⟩) a0.Items.length c0_0) ∧ w'.cell? ⟨w.heap.size, 1, none⟩ = some (.int .i64 a0.Next) ∧ w'.cell? ⟨w.heap.size + 1, 0, none⟩ = some (.string a1.Kind) ∧ w'.cell? ⟨w.heap.size + 1, 1, none⟩ = some (.slice p1_1 a1.Fields.length c1_1) ∧ w'.cell? ⟨e6b, e6o + k3 * 3, none⟩ = some (.int .i64 ((gt a0.Items k3).Id)) ∧ w'.cell? ⟨e6b, e6o + k3 * 3 + 1, none⟩ = some (.string ((gt a0.Items k3).F.Kind)) ∧ w'.cell? ⟨e6b, e6o + k3 * 3 + 2, none⟩ = some (.slice pe6_2 ((gt a0.Items k3).F.Fields.length) ce6_2))) (by kernel_rfl) ?_ (fun hHeld0 => ?_)
   · go_keep
   refine tt 0 ?_
   simp only [Act.put, sa, s0, ss]
   refine tt 1 ?_
   simp only [Act.put, sa, s0, ss]
   refine tt 2 ?_
   simp only [Act.put, sa, s0, ss]
   refine tt 3 ?_
   simp only [Act.put, sa, s0, ss]
   refine tt 4 ?_
   simp only [Act.put, sa, s0, ss]
   refine tt 5 ?_
   simp only [Act.put, sa, s0, ss]
   refine tt 6 ?_
   simp only [Act.put, sa, s0, ss]
   refine wpAnyH_ready (rs := [7]) (by kernel_rfl) (by simp) ?_
   refine' AllReadyH.cons (o := _) ?hi1037_7 (fun K hK => ?_) AllReadyH.nil
   case hi1037_7 => simp only [List.getElem?_toArray, List.getElem?_cons_succ, List.getElem?_cons_zero]; exact rfl
   go_simp
   go_at_call 216
   refine (sSameFact_w ((gt a0.Items k3).F) a1 _ _ _ (te6_2.to (by simp (maxDischargeDepth := 9) [B4])) (s1_1.to (by simp (maxDischargeDepth := 9) [B4]))).mono ?_
   rintro e w8 ⟨rfl, hb8⟩
   have B8 := via (w0 := w) (by simp (maxDischargeDepth := 9) [B4]) hb8
   have U8 : Below wr3.heap.size wr3 w8 := via (by simp (maxDischargeDepth := 9)) hb8
   have Xbx1_8 := Xbx1_4.via U8
   clear Xbx1_4 Xbx1_4k0 Xbx1_4k1
   have ⟨Xbx1_8k0, Xbx1_8k1⟩ := bx2 Xbx1_8
   have Xbx2_8 := Xbx2_4.via U8
   clear Xbx2_4 Xbx2_4k0 Xbx2_4k1
   have ⟨Xbx2_8k0, Xbx2_8k1⟩ := bx2 Xbx2_8
   clear e6d0n e6d1n e6d2n
   have ⟨e6d0n, e6d1n, e6d2n⟩ := cb3 B8 e6bl e6E.out
   clear U8
   clear B4
   cases h9 : sSameFact_p ((gt a0.Items k3).F) a1 with
   | true =>
    replace h9 := Lib.hid h9
    go_wp2_with fail
    refine hK.out _ _ ?_ (fun hHeld7 => ?_)
    · go_keep
    clear hK K hHeld0
    refine wpAnyH_done (by kernel_rfl) ?_ _
    clear hHeld7
    refine NoPanic.normal ?_
    have q10 : sIdOf_p_b1 a0 a1 k3 () = .ret ((gt a0.Items k3).Id) := by simp only [sIdOf_p_b1, h9.out, cond_true]
    have q11 := rounds_ret hlt4 hy4.out q10
    obtain rfl : r = (gt a0.Items k3).Id := hr.out.symm.trans (by simp only [sIdOf_p, q11])
    go_wp2
    go_ret
    exact ⟨by first | rfl | simp, (by simp (maxDischargeDepth := 9) [B8])⟩
   | false =>
    replace h9 := Lib.hid h9
    go_wp2_with fail
    refine hK.out _ _ ?_ (fun hHeld7 => ?_)
    · go_keep
    clear hK K hHeld0
    refine wpAnyH_done (by kernel_rfl) ?_ _
    clear hHeld7
    refine NoPanic.normal ?_
    have q12 : sIdOf_p_b1 a0 a1 k3 () = .go () := by simp only [sIdOf_p_b1, h9.out, cond_false]
    replace q12 := Lib.hid (rounds_next hy4.out q12)
    go_wp2
    go_roundw
    case rel => exact ⟨(by simp (maxDischargeDepth := 9) [B8]), (by simp (maxDischargeDepth := 9) [Xbx1_8]), (by simp (maxDischargeDepth := 9) [Xbx2_8]), k3 + 1, by go_num, by omega, q12⟩
    case measure => simp [intOf]; omega
  ·
   obtain rfl : a0.Items.length = k3 := by omega
   obtain rfl : r = (0 : Int) := hr.out.symm.trans (by simp only [sIdOf_p, hy4.out])
   go_wp2
   go_ret
   exact ⟨by first | rfl | simp, (by simp (maxDischargeDepth := 9) [B4])⟩
end Go.Proofs.YthnilnggpbploaaGreat
