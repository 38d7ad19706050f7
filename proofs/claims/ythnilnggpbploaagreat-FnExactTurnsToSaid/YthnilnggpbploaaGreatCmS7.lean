/- Functions that only read, walked (S). Printed by a program. -/
import Derived.Test.YthnilnggpbploaaGreatCmS4
import Derived.Test.YthnilnggpbploaaGreatCmS6
import Derived.Test.YthnilnggpbploaaGreatCopy
import Derived.Test.YthnilnggpbploaaGreatRd
namespace Go.Proofs.YthnilnggpbploaaGreat
open Go.RowKit
open Cel (rd own rd_len rd_one own_rd own_lt rd_below rd_mono own_keep)

-- spec.TimersOk
def sTimersOk_p_b1 (a0 : List TimerD) (k1 : Nat) (_ : Unit) : St (Bool) (Unit) := bif decide (0 < k1) then (bif sl17Timer_p (gt a0 k1) then (bif decide ((gt a0 k1).At < (gt a0 (k1 - 1)).At) then (.ret false) else (.go ())) else (.ret false)) else (bif sl17Timer_p (gt a0 k1) then (.go ()) else (.ret false))
def sTimersOk_p (a0 : List TimerD) : Bool := match rounds (sTimersOk_p_b1 a0) a0.length () with | .ret r => r | .brk _ => default | .go _ => bif decide (a0.length ≤ 30) then (true) else (false)
set_option maxHeartbeats 1000000 in
set_option maxRecDepth 20000 in
theorem sTimersOk_w (a0 : List TimerD) (v0_0 : Value) (w : World) (s0_0 : Sl w a0 v0_0) :
    Calls Tryz.prog 159 #[v0_0] w (RetB (sTimersOk_p a0) w) := by
 obtain ⟨p0_0, c0_0, rfl, hl0_0, -, hk0_0, -⟩ := s0_0.open
 obtain ⟨r, hr⟩ : ∃ r, sTimersOk_p a0 = r := ⟨_, rfl⟩
 rw [hr]
 replace hr := Lib.hid hr
 go_enter Tryz.func159, Tryz.ntmps159
 go_wp2
 go_loopw [3] (fun i3 wr1 => Below w.heap.size w wr1 ∧ ∃ (k1 : Nat), i3 = .int .i64 k1 ∧ k1 ≤ a0.length ∧ Hid (rounds (sTimersOk_p_b1 a0) k1 () = .go ())) (fun i3 _ => a0.length - (intOf i3).toNat)
 case atStart => exact ⟨(by simp (maxDischargeDepth := 9)), 0, rfl, by omega, Lib.hid rfl⟩
 case round =>
  rename World => wr1
  obtain ⟨B2, k1, rfl, hk2, hy2⟩ := hrel
  by_cases hlt2 : k1 < a0.length
  ·
   have hi5 : k1 < a0.length := by first | assumption | omega
   obtain ⟨e4b, e4o, ue4_2, rfl, e4bl, e4ok, ⟨e4d0, e4d1, e4d2⟩, te4_2⟩ := Sl.gtTimer s0_0 k1 hi5
   obtain ⟨pe4_2, ce4_2, rfl, hlpe4_2, -⟩ := te4_2.open
   have e4E := Lib.hid (And.intro e4d0 (And.intro e4d1 e4d2))
   clear e4d0 e4d1 e4d2
   have ⟨e4d0n, e4d1n, e4d2n⟩ := cb3 B2 e4bl e4E.out
   by_cases h6 : 0 < k1
   ·
    have h6d := Lib.hid (decide_eq_true h6)
    have hi8 : k1 - 1 < a0.length := by first | assumption | omega
    obtain ⟨ue7_2, e7bl, e7ok, ⟨e7d0, e7d1, e7d2⟩, te7_2⟩ := Sl.guTimer s0_0 (k1 - 1) hi8
    obtain ⟨pe7_2, ce7_2, rfl, hlpe7_2, -⟩ := te7_2.open
    have e7E := Lib.hid (And.intro e7d0 (And.intro e7d1 e7d2))
    clear e7d0 e7d1 e7d2
    have ⟨e7d0n, e7d1n, e7d2n⟩ := cb3 B2 e7bl e7E.out
    go_wp2
    refine wp_region_noPanic ?_
    refine wp_region_held_drew (S := (fun w' => w'.cell? ⟨e4b, e4o + k1 * 3, none⟩ = some (.int .i64 ((gt a0 k1).At)) ∧ w'.cell? ⟨e4b, e4o + k1 * 3 + 1, none⟩ = some (.string ((gt a0 k1).F.Kind)) ∧ w'.cell? ⟨e4b, e4o + k1 * 3 + 2, none⟩ = some (.slice pe4_2 ((gt a0 k1).F.Fields.length) ce4_2) ∧ w'.cell? ⟨e4b, e4o + (k1 - 1) * 3, none⟩ = some (.int .i64 ((gt a0 (k1 - 1)).At)) ∧ w'.cell? ⟨e4b, e4o + (k1 - 1) * 3 + 1, none⟩ = some (.string ((gt a0 (k1 - 1)).F.Kind)) ∧ w'.cell? ⟨e4b, e4o + (k1 - 1) * 3 + 2, none⟩ = some (.slice pe7_2 ((gt a0 (k1 - 1)).F.Fields.length) ce7_2))) (by kernel_rfl) ?_ (fun hHeld0 => ?_)
    · go_keep
    refine tt 0 ?_
    simp only [Act.put, sa, s0, ss]
    refine tt 1 ?_
    simp only [Act.put, sa, s0, ss]
    refine tt 2 ?_
    simp only [Act.put, sa, s0, ss]
    refine tt 3 ?_
    simp only [Act.put, sa, s0, ss]
    refine wpAnyH_ready (rs := [4]) (by kernel_rfl) (by simp) ?_
    refine' AllReadyH.cons (o := _) ?hi1051_4 (fun K hK => ?_) AllReadyH.nil
    case hi1051_4 => simp only [List.getElem?_toArray, List.getElem?_cons_succ, List.getElem?_cons_zero]; exact rfl
    go_simp
    go_at_call 245
    refine (sl17Timer_w (gt a0 k1) _ _ (te4_2.to (by simp (maxDischargeDepth := 9) [B2])) e4ok).mono ?_
    rintro e w9 ⟨rfl, hb9⟩
    have B9 := via (w0 := w) (by simp (maxDischargeDepth := 9) [B2]) hb9
    clear e4d0n e4d1n e4d2n
    have ⟨e4d0n, e4d1n, e4d2n⟩ := cb3 B9 e4bl e4E.out
    clear e7d0n e7d1n e7d2n
    have ⟨e7d0n, e7d1n, e7d2n⟩ := cb3 B9 e7bl e7E.out
    clear B2
    cases h10 : sl17Timer_p (gt a0 k1) with
    | true =>
     replace h10 := Lib.hid h10
     go_wp2_with fail
     refine hK.out _ _ ?_ (fun hHeld4 => ?_)
     · go_keep
     clear hK K hHeld0
     refine tt 5 ?_
     simp only [Act.put, sa, s0, ss]
     refine tt 6 ?_
     simp only [Act.put, sa, s0, ss]
     refine tt 7 ?_
     simp only [Act.put, sa, s0, ss]
     refine tt 8 ?_
     simp only [Act.put, sa, s0, ss]
     refine tt 9 ?_
     simp only [Act.put, sa, s0, ss]
     refine tt 10 ?_
     simp only [Act.put, sa, s0, ss]
     refine tt 11 ?_
     simp only [Act.put, sa, s0, ss]
     have hw11 : wrap64 ((k1 : Int) - 1) = ((k1 - 1 : Nat) : Int) := by have z := w64_in ((k1 : Int) - 1) ⟨by omega, by omega⟩; omega
     have hw11i : IntKind.i64.wrap ((k1 : Int) - 1) = ((k1 - 1 : Nat) : Int) := by have z := iw_in ((k1 : Int) - 1) ⟨by omega, by omega⟩; omega
     refine tt 12 ?_
     simp only [Act.put, sa, s0, ss]
     refine tt 13 ?_
     simp only [Act.put, sa, s0, ss]
     refine tt 14 ?_
     simp only [Act.put, sa, s0, ss]
     refine tt 15 ?_
     simp only [Act.put, sa, s0, ss]
     refine tt 16 ?_
     simp only [Act.put, sa, s0, ss]
     refine tt 17 ?_
     simp only [Act.put, sa, s0, ss]
     refine tt 18 ?_
     simp only [Act.put, sa, s0, ss]
     refine tt 19 ?_
     simp only [Act.put, sa, s0, ss]
     refine tt 20 ?_
     simp only [Act.put, sa, s0, ss]
     by_cases h12 : (gt a0 k1).At < (gt a0 (k1 - 1)).At
     ·
      have h12d := Lib.hid (decide_eq_true h12)
      refine tt 21 ?_
      simp only [Act.put, sa, s0, ss]
      refine tt 22 ?_
      simp only [Act.put, sa, s0, ss]
      refine tt 23 ?_
      simp only [Act.put, sa, s0, ss]
      refine wpAnyH_done (by kernel_rfl) ?_ _
      clear hHeld4
      refine NoPanic.normal ?_
      have q13 : sTimersOk_p_b1 a0 k1 () = .ret false := by simp only [sTimersOk_p_b1, h6d.out, h10.out, h12d.out, cond_true]
      have q14 := rounds_ret hlt2 hy2.out q13
      obtain rfl : r = false := hr.out.symm.trans (by simp only [sTimersOk_p, q14])
      go_wp2
      go_ret
      exact rbk (by simp (maxDischargeDepth := 9) [B9])
     ·
      have h12d := Lib.hid (decide_eq_false h12)
      refine tt 21 ?_
      simp only [Act.put, sa, s0, ss]
      refine tt 22 ?_
      simp only [Act.put, sa, s0, ss]
      refine tt 23 ?_
      simp only [Act.put, sa, s0, ss]
      refine wpAnyH_done (by kernel_rfl) ?_ _
      clear hHeld4
      refine NoPanic.normal ?_
      have q15 : sTimersOk_p_b1 a0 k1 () = .go () := by simp only [sTimersOk_p_b1, h6d.out, h10.out, h12d.out, cond_true, cond_false]
      replace q15 := Lib.hid (rounds_next hy2.out q15)
      go_wp2
      go_roundw
      case rel => exact ⟨(by simp (maxDischargeDepth := 9) [B9]), k1 + 1, by go_num, by omega, q15⟩
      case measure => simp [intOf]; omega
    | false =>
     replace h10 := Lib.hid h10
     go_wp2_with fail
     refine hK.out _ _ ?_ (fun hHeld4 => ?_)
     · go_keep
     clear hK K hHeld0
     refine tt 5 ?_
     simp only [Act.put, sa, s0, ss]
     refine tt 6 ?_
     simp only [Act.put, sa, s0, ss]
     refine tu 7 ?_
     simp only [Act.put, sa, s0, ss]
     refine tu 8 ?_
     simp only [Act.put, sa, s0, ss]
     refine tu 9 ?_
     simp only [Act.put, sa, s0, ss]
     refine tu 10 ?_
     simp only [Act.put, sa, s0, ss]
     refine tu 11 ?_
     simp only [Act.put, sa, s0, ss]
     refine tu 12 ?_
     simp only [Act.put, sa, s0, ss]
     refine tu 13 ?_
     simp only [Act.put, sa, s0, ss]
     refine tu 14 ?_
     simp only [Act.put, sa, s0, ss]
     refine tu 15 ?_
     simp only [Act.put, sa, s0, ss]
     refine tu 16 ?_
     simp only [Act.put, sa, s0, ss]
     refine tu 17 ?_
     simp only [Act.put, sa, s0, ss]
     refine tu 18 ?_
     simp only [Act.put, sa, s0, ss]
     refine tu 19 ?_
     simp only [Act.put, sa, s0, ss]
     refine tu 20 ?_
     simp only [Act.put, sa, s0, ss]
     refine tu 21 ?_
     simp only [Act.put, sa, s0, ss]
     refine tu 22 ?_
     simp only [Act.put, sa, s0, ss]
     refine tt 23 ?_
     simp only [Act.put, sa, s0, ss]
     refine wpAnyH_done (by kernel_rfl) ?_ _
     clear hHeld4
     refine NoPanic.normal ?_
     have q16 : sTimersOk_p_b1 a0 k1 () = .ret false := by simp only [sTimersOk_p_b1, h6d.out, h10.out, cond_true, cond_false]
     have q17 := rounds_ret hlt2 hy2.out q16
     obtain rfl : r = false := hr.out.symm.trans (by simp only [sTimersOk_p, q17])
     go_wp2
     go_ret
     exact rbk (by simp (maxDischargeDepth := 9) [B9])
   ·
    have h6d := Lib.hid (decide_eq_false h6)
    go_wp2
    refine wp_region_noPanic ?_
    refine wp_region_held_drew (S := (fun w' => w'.cell? ⟨e4b, e4o + k1 * 3, none⟩ = some (.int .i64 ((gt a0 k1).At)) ∧ w'.cell? ⟨e4b, e4o + k1 * 3 + 1, none⟩ = some (.string ((gt a0 k1).F.Kind)) ∧ w'.cell? ⟨e4b, e4o + k1 * 3 + 2, none⟩ = some (.slice pe4_2 ((gt a0 k1).F.Fields.length) ce4_2))) (by kernel_rfl) ?_ (fun hHeld0 => ?_)
    · go_keep
    refine tt 0 ?_
    simp only [Act.put, sa, s0, ss]
    refine tt 1 ?_
    simp only [Act.put, sa, s0, ss]
    refine tt 2 ?_
    simp only [Act.put, sa, s0, ss]
    refine tt 3 ?_
    simp only [Act.put, sa, s0, ss]
    refine wpAnyH_ready (rs := [4]) (by kernel_rfl) (by simp) ?_
    refine' AllReadyH.cons (o := _) ?hi1054_4 (fun K hK => ?_) AllReadyH.nil
    case hi1054_4 => simp only [List.getElem?_toArray, List.getElem?_cons_succ, List.getElem?_cons_zero]; exact rfl
    go_simp
    go_at_call 245
    refine (sl17Timer_w (gt a0 k1) _ _ (te4_2.to (by simp (maxDischargeDepth := 9) [B2])) e4ok).mono ?_
    rintro e w18 ⟨rfl, hb18⟩
    have B18 := via (w0 := w) (by simp (maxDischargeDepth := 9) [B2]) hb18
    clear e4d0n e4d1n e4d2n
    have ⟨e4d0n, e4d1n, e4d2n⟩ := cb3 B18 e4bl e4E.out
    clear B2
    cases h19 : sl17Timer_p (gt a0 k1) with
    | true =>
     replace h19 := Lib.hid h19
     go_wp2_with fail
     refine hK.out _ _ ?_ (fun hHeld4 => ?_)
     · go_keep
     clear hK K hHeld0
     refine tt 5 ?_
     simp only [Act.put, sa, s0, ss]
     refine tt 6 ?_
     simp only [Act.put, sa, s0, ss]
     refine tt 7 ?_
     simp only [Act.put, sa, s0, ss]
     refine tt 8 ?_
     simp only [Act.put, sa, s0, ss]
     refine tt 9 ?_
     simp only [Act.put, sa, s0, ss]
     refine tu 10 ?_
     simp only [Act.put, sa, s0, ss]
     refine tu 11 ?_
     simp only [Act.put, sa, s0, ss]
     refine tu 12 ?_
     simp only [Act.put, sa, s0, ss]
     refine tu 13 ?_
     simp only [Act.put, sa, s0, ss]
     refine tu 14 ?_
     simp only [Act.put, sa, s0, ss]
     refine tu 15 ?_
     simp only [Act.put, sa, s0, ss]
     refine tu 16 ?_
     simp only [Act.put, sa, s0, ss]
     refine tu 17 ?_
     simp only [Act.put, sa, s0, ss]
     refine tu 18 ?_
     simp only [Act.put, sa, s0, ss]
     refine tu 19 ?_
     simp only [Act.put, sa, s0, ss]
     refine tu 20 ?_
     simp only [Act.put, sa, s0, ss]
     refine tu 21 ?_
     simp only [Act.put, sa, s0, ss]
     refine tt 22 ?_
     simp only [Act.put, sa, s0, ss]
     refine tt 23 ?_
     simp only [Act.put, sa, s0, ss]
     refine wpAnyH_done (by kernel_rfl) ?_ _
     clear hHeld4
     refine NoPanic.normal ?_
     have q20 : sTimersOk_p_b1 a0 k1 () = .go () := by simp only [sTimersOk_p_b1, h6d.out, h19.out, cond_true, cond_false]
     replace q20 := Lib.hid (rounds_next hy2.out q20)
     go_wp2
     go_roundw
     case rel => exact ⟨(by simp (maxDischargeDepth := 9) [B18]), k1 + 1, by go_num, by omega, q20⟩
     case measure => simp [intOf]; omega
    | false =>
     replace h19 := Lib.hid h19
     go_wp2_with fail
     refine hK.out _ _ ?_ (fun hHeld4 => ?_)
     · go_keep
     clear hK K hHeld0
     refine tt 5 ?_
     simp only [Act.put, sa, s0, ss]
     refine tt 6 ?_
     simp only [Act.put, sa, s0, ss]
     refine tu 7 ?_
     simp only [Act.put, sa, s0, ss]
     refine tu 8 ?_
     simp only [Act.put, sa, s0, ss]
     refine tu 9 ?_
     simp only [Act.put, sa, s0, ss]
     refine tu 10 ?_
     simp only [Act.put, sa, s0, ss]
     refine tu 11 ?_
     simp only [Act.put, sa, s0, ss]
     refine tu 12 ?_
     simp only [Act.put, sa, s0, ss]
     refine tu 13 ?_
     simp only [Act.put, sa, s0, ss]
     refine tu 14 ?_
     simp only [Act.put, sa, s0, ss]
     refine tu 15 ?_
     simp only [Act.put, sa, s0, ss]
     refine tu 16 ?_
     simp only [Act.put, sa, s0, ss]
     refine tu 17 ?_
     simp only [Act.put, sa, s0, ss]
     refine tu 18 ?_
     simp only [Act.put, sa, s0, ss]
     refine tu 19 ?_
     simp only [Act.put, sa, s0, ss]
     refine tu 20 ?_
     simp only [Act.put, sa, s0, ss]
     refine tu 21 ?_
     simp only [Act.put, sa, s0, ss]
     refine tu 22 ?_
     simp only [Act.put, sa, s0, ss]
     refine tt 23 ?_
     simp only [Act.put, sa, s0, ss]
     refine wpAnyH_done (by kernel_rfl) ?_ _
     clear hHeld4
     refine NoPanic.normal ?_
     have q21 : sTimersOk_p_b1 a0 k1 () = .ret false := by simp only [sTimersOk_p_b1, h6d.out, h19.out, cond_false]
     have q22 := rounds_ret hlt2 hy2.out q21
     obtain rfl : r = false := hr.out.symm.trans (by simp only [sTimersOk_p, q22])
     go_wp2
     go_ret
     exact rbk (by simp (maxDischargeDepth := 9) [B18])
  ·
   obtain rfl : a0.length = k1 := by omega
   by_cases h23 : a0.length ≤ 30
   ·
    have h23d := Lib.hid (decide_eq_true h23)
    obtain rfl : r = true := hr.out.symm.trans (by simp only [sTimersOk_p, hy2.out, h23d.out, cond_true])
    go_wp2
    go_ret
    exact rbk (by simp (maxDischargeDepth := 9) [B2])
   ·
    have h23d := Lib.hid (decide_eq_false h23)
    obtain rfl : r = false := hr.out.symm.trans (by simp only [sTimersOk_p, hy2.out, h23d.out, cond_false])
    go_wp2
    go_ret
    exact rbk (by simp (maxDischargeDepth := 9) [B2])

-- spec.UndosOk
def sUndosOk_p_b2 (a0 : List UndoD) (k1 : Nat) (k10 : Nat) (_ : Unit) : St (Bool) (Unit) := bif (((gt a0 k1).Key).toList == ((gt a0 k10).Key).toList) then (.ret false) else (.go ())
def sUndosOk_p_b1 (a0 : List UndoD) (k1 : Nat) (_ : Unit) : St (Bool) (Unit) := bif inR (((gt a0 k1).Key.size : Nat) : Int) (1 : Int) (200 : Int) then (bif sFactOk_p ((gt a0 k1).F) then (match rounds (sUndosOk_p_b2 a0 k1) k1 () with | .ret r => .ret r | .brk _ => .brk default | .go _ => .go ()) else (.ret false)) else (.ret false)
def sUndosOk_p (a0 : List UndoD) : Bool := match rounds (sUndosOk_p_b1 a0) a0.length () with | .ret r => r | .brk _ => default | .go _ => bif decide (a0.length ≤ 30) then (true) else (false)
set_option maxHeartbeats 1000000 in
set_option maxRecDepth 20000 in
theorem sUndosOk_w (a0 : List UndoD) (v0_0 : Value) (w : World) (s0_0 : Sl w a0 v0_0) :
    Calls Tryz.prog 160 #[v0_0] w (RetB (sUndosOk_p a0) w) := by
 obtain ⟨p0_0, c0_0, rfl, hl0_0, -, hk0_0, -⟩ := s0_0.open
 obtain ⟨r, hr⟩ : ∃ r, sUndosOk_p a0 = r := ⟨_, rfl⟩
 rw [hr]
 replace hr := Lib.hid hr
 go_enter Tryz.func160, Tryz.ntmps160
 go_wp2
 go_loopw [3] (fun i3 wr1 => Below w.heap.size w wr1 ∧ ∃ (k1 : Nat), i3 = .int .i64 k1 ∧ k1 ≤ a0.length ∧ Hid (rounds (sUndosOk_p_b1 a0) k1 () = .go ())) (fun i3 _ => a0.length - (intOf i3).toNat)
 case atStart => exact ⟨(by simp (maxDischargeDepth := 9)), 0, rfl, by omega, Lib.hid rfl⟩
 case round =>
  rename World => wr1
  obtain ⟨B2, k1, rfl, hk2, hy2⟩ := hrel
  by_cases hlt2 : k1 < a0.length
  ·
   have hi5 : k1 < a0.length := by first | assumption | omega
   obtain ⟨e4b, e4o, ue4_2, rfl, e4bl, e4ok, ⟨e4d0, e4d1, e4d2⟩, te4_2⟩ := Sl.gtUndo s0_0 k1 hi5
   obtain ⟨pe4_2, ce4_2, rfl, hlpe4_2, -⟩ := te4_2.open
   have e4E := Lib.hid (And.intro e4d0 (And.intro e4d1 e4d2))
   clear e4d0 e4d1 e4d2
   have ⟨e4d0n, e4d1n, e4d2n⟩ := cb3 B2 e4bl e4E.out
   go_wp2_with fail
   refine (sl1In_w (((gt a0 k1).Key.size : Nat) : Int) (1 : Int) (200 : Int)  _ ).mono ?_
   rintro e w6 ⟨rfl, hb6⟩
   have B6 := via (w0 := w) (by simp (maxDischargeDepth := 9) [B2]) hb6
   clear e4d0n e4d1n e4d2n
   have ⟨e4d0n, e4d1n, e4d2n⟩ := cb3 B6 e4bl e4E.out
   clear B2
   cases h7 : inR (((gt a0 k1).Key.size : Nat) : Int) (1 : Int) (200 : Int) with
   | true =>
    have ⟨h7a, h7b⟩ := inR_true h7
    replace h7 := Lib.hid h7
    go_wp2_with fail
    refine (sFactOk_w ((gt a0 k1).F) _ _ (te4_2.to (by simp (maxDischargeDepth := 9) [B6])) e4ok.2).mono ?_
    rintro e w8 ⟨rfl, hb8⟩
    have B8 := via (w0 := w) (by simp (maxDischargeDepth := 9) [B6]) hb8
    clear e4d0n e4d1n e4d2n
    have ⟨e4d0n, e4d1n, e4d2n⟩ := cb3 B8 e4bl e4E.out
    clear B6
    cases h9 : sFactOk_p ((gt a0 k1).F) with
    | true =>
     replace h9 := Lib.hid h9
     go_wp2
     go_loopw [4] (fun i4 wr10 => Below w.heap.size w wr10 ∧ ∃ (k10 : Nat), i4 = .int .i64 k10 ∧ k10 ≤ k1 ∧ Hid (rounds (sUndosOk_p_b2 a0 k1) k10 () = .go ())) (fun i4 _ => k1 - (intOf i4).toNat)
     case atStart => exact ⟨(by simp (maxDischargeDepth := 9) [B8]), 0, rfl, by omega, Lib.hid rfl⟩
     case round =>
      rename World => wr10
      clear B8
      obtain ⟨B11, k10, rfl, hk11, hy11⟩ := hrel
      clear e4d0n e4d1n e4d2n
      have ⟨e4d0n, e4d1n, e4d2n⟩ := cb3 B11 e4bl e4E.out
      by_cases hlt11 : k10 < k1
      ·
       have hi14 : k10 < a0.length := by first | assumption | omega
       obtain ⟨ue13_2, e13bl, e13ok, ⟨e13d0, e13d1, e13d2⟩, te13_2⟩ := Sl.guUndo s0_0 k10 hi14
       obtain ⟨pe13_2, ce13_2, rfl, hlpe13_2, -⟩ := te13_2.open
       have e13E := Lib.hid (And.intro e13d0 (And.intro e13d1 e13d2))
       clear e13d0 e13d1 e13d2
       have ⟨e13d0n, e13d1n, e13d2n⟩ := cb3 B11 e13bl e13E.out
       go_wp2
       refine wp_region_noPanic ?_
       refine wp_region_held_drew (S := (fun w' => w'.cell? ⟨e4b, e4o + k1 * 3, none⟩ = some (.string ((gt a0 k1).Key)) ∧ w'.cell? ⟨e4b, e4o + k1 * 3 + 1, none⟩ = some (.string ((gt a0 k1).F.Kind)) ∧ w'.cell? ⟨e4b, e4o + k1 * 3 + 2, none⟩ = some (.slice pe4_2 ((gt a0 k1).F.Fields.length) ce4_2) ∧ w'.cell? ⟨e4b, e4o + k10 * 3, none⟩ = some (.string ((gt a0 k10).Key)) ∧ w'.cell? ⟨e4b, e4o + k10 * 3 + 1, none⟩ = some (.string ((gt a0 k10).F.Kind)) ∧ w'.cell? ⟨e4b, e4o + k10 * 3 + 2, none⟩ = some (.slice pe13_2 ((gt a0 k10).F.Fields.length) ce13_2))) (by kernel_rfl) ?_ (fun hHeld0 => ?_)
       · go_keep
       refine tt 0 ?_
       simp only [Act.put, sa, s0, ss]
       refine tt 1 ?_
       simp only [Act.put, sa, s0, ss]
       refine tt 2 ?_
       simp only [Act.put, sa, s0, ss]
       refine tt 3 ?_
       simp only [Act.put, sa, s0, ss]
       refine tt 4 ?_
       simp only [Act.put, sa, s0, ss]
       refine tt 5 ?_
       simp only [Act.put, sa, s0, ss]
       refine tt 6 ?_
       simp only [Act.put, sa, s0, ss]
       refine tt 7 ?_
       simp only [Act.put, sa, s0, ss]
       refine tt 8 ?_
       simp only [Act.put, sa, s0, ss]
       refine tt 9 ?_
       simp only [Act.put, sa, s0, ss]
       obtain ⟨bh15, eh15⟩ : ∃ b, (((gt a0 k1).Key).toList == ((gt a0 k10).Key).toList) = b := ⟨_, rfl⟩
       rcases Bool.eq_false_or_eq_true bh15 with h15 | h15
       ·
        refine tt 10 ?_
        simp only [Act.put, sa, s0, ss]
        refine wpAnyH_done (by kernel_rfl) ?_ _
        clear hHeld0
        refine NoPanic.normal ?_
        have q16 : sUndosOk_p_b2 a0 k1 k10 () = .ret false := by simp only [sUndosOk_p_b2, eh15, h15, cond_true]
        have q17 := rounds_ret hlt11 hy11.out q16
        have q18 : sUndosOk_p_b1 a0 k1 () = .ret false := by simp only [sUndosOk_p_b1, h7.out, h9.out, q17, cond_true]
        have q19 := rounds_ret hlt2 hy2.out q18
        obtain rfl : r = false := hr.out.symm.trans (by simp only [sUndosOk_p, q19])
        go_wp2
        go_ret
        exact rbk (by simp (maxDischargeDepth := 9) [B11])
       ·
        refine tt 10 ?_
        simp only [Act.put, sa, s0, ss]
        refine wpAnyH_done (by kernel_rfl) ?_ _
        clear hHeld0
        refine NoPanic.normal ?_
        have q20 : sUndosOk_p_b2 a0 k1 k10 () = .go () := by simp only [sUndosOk_p_b2, eh15, h15, cond_false]
        replace q20 := Lib.hid (rounds_next hy11.out q20)
        go_wp2
        go_roundw
        case rel => exact ⟨(by simp (maxDischargeDepth := 9) [B11]), k10 + 1, by go_num, by omega, q20⟩
        case measure => simp [intOf]; omega
      ·
       obtain rfl : k1 = k10 := by omega
       have q21 : sUndosOk_p_b1 a0 k1 () = .go () := by simp only [sUndosOk_p_b1, h7.out, h9.out, hy11.out, cond_true]
       replace q21 := Lib.hid (rounds_next hy2.out q21)
       go_wp2
       go_roundw
       case rel => exact ⟨(by simp (maxDischargeDepth := 9) [B11]), k1 + 1, by go_num, by omega, q21⟩
       case measure => simp [intOf]; omega
    | false =>
     replace h9 := Lib.hid h9
     have q22 : sUndosOk_p_b1 a0 k1 () = .ret false := by simp only [sUndosOk_p_b1, h7.out, h9.out, cond_true, cond_false]
     have q23 := rounds_ret hlt2 hy2.out q22
     obtain rfl : r = false := hr.out.symm.trans (by simp only [sUndosOk_p, q23])
     go_wp2
     go_ret
     exact rbk (by simp (maxDischargeDepth := 9) [B8])
   | false =>
    replace h7 := Lib.hid h7
    have q24 : sUndosOk_p_b1 a0 k1 () = .ret false := by simp only [sUndosOk_p_b1, h7.out, cond_false]
    have q25 := rounds_ret hlt2 hy2.out q24
    obtain rfl : r = false := hr.out.symm.trans (by simp only [sUndosOk_p, q25])
    go_wp2
    go_ret
    exact rbk (by simp (maxDischargeDepth := 9) [B6])
  ·
   obtain rfl : a0.length = k1 := by omega
   by_cases h26 : a0.length ≤ 30
   ·
    have h26d := Lib.hid (decide_eq_true h26)
    obtain rfl : r = true := hr.out.symm.trans (by simp only [sUndosOk_p, hy2.out, h26d.out, cond_true])
    go_wp2
    go_ret
    exact rbk (by simp (maxDischargeDepth := 9) [B2])
   ·
    have h26d := Lib.hid (decide_eq_false h26)
    obtain rfl : r = false := hr.out.symm.trans (by simp only [sUndosOk_p, hy2.out, h26d.out, cond_false])
    go_wp2
    go_ret
    exact rbk (by simp (maxDischargeDepth := 9) [B2])

-- spec.l15Rule
def sl15Rule_p (a0 : DefD) (a1 : MatchD) : Bool := bif decide ((0 : Int) ≤ a1.Rule) then (bif decide (a1.Rule < ((a0.Rules.length : Nat) : Int)) then (true) else (false)) else (false)
set_option maxHeartbeats 1000000 in
set_option maxRecDepth 20000 in
theorem sl15Rule_w (a0 : DefD) (a1 : MatchD) (v0_1 : Value) (v1_1 : Value) (v1_2 : Value) (w : World) (s0_1 : Sl w a0.Rules v0_1) (s1_1 : Sl w a1.Ids v1_1) (s1_2 : Sl w a1.Binds v1_2) :
    Calls Tryz.prog 204 #[.agg #[.string a0.Name, v0_1], .agg #[.int .i64 a1.Rule, v1_1, v1_2]] w (RetB (sl15Rule_p a0 a1) w) := by
 obtain ⟨p0_1, c0_1, rfl, hl0_1, -, hk0_1, -⟩ := s0_1.open
 obtain ⟨p1_1, c1_1, rfl, hl1_1, -, hk1_1, -⟩ := s1_1.open
 obtain ⟨p1_2, c1_2, rfl, hl1_2, -, hk1_2, -⟩ := s1_2.open
 obtain ⟨r, hr⟩ : ∃ r, sl15Rule_p a0 a1 = r := ⟨_, rfl⟩
 rw [hr]
 replace hr := Lib.hid hr
 go_enter Tryz.func204, Tryz.ntmps204
 by_cases h3 : (0 : Int) ≤ a1.Rule
 ·
  have h3d := Lib.hid (decide_eq_true h3)
  by_cases h4 : a1.Rule < ((a0.Rules.length : Nat) : Int)
  ·
   have h4d := Lib.hid (decide_eq_true h4)
   obtain rfl : r = true := hr.out.symm.trans (by simp only [sl15Rule_p, h3d.out, h4d.out, cond_true])
   go_wp2
   go_ret
   exact rbk (by simp (maxDischargeDepth := 9))
  ·
   have h4d := Lib.hid (decide_eq_false h4)
   obtain rfl : r = false := hr.out.symm.trans (by simp only [sl15Rule_p, h3d.out, h4d.out, cond_true, cond_false])
   go_wp2
   go_ret
   exact rbk (by simp (maxDischargeDepth := 9))
 ·
  have h3d := Lib.hid (decide_eq_false h3)
  obtain rfl : r = false := hr.out.symm.trans (by simp only [sl15Rule_p, h3d.out, cond_false])
  go_wp2
  go_ret
  exact rbk (by simp (maxDischargeDepth := 9))
theorem sl15Rule_true {d : DefD} {m : MatchD} (h : sl15Rule_p d m = true) : 0 ≤ m.Rule ∧ m.Rule < d.Rules.length := by
  unfold sl15Rule_p at h
  by_cases h1 : (0 : Int) ≤ m.Rule
  · by_cases h2 : m.Rule < ((d.Rules.length : Nat) : Int)
    · exact ⟨h1, h2⟩
    · simp [h1, h2] at h
  · simp [h1] at h

-- spec.FactOf
def sFactOf_p_b1 (a0 : StoreD) (a1 : Int) (k3 : Nat) (_ : Unit) : St (FactD × Bool) (Unit) := bif ((gt a0.Items k3).Id == a1) then (.ret ((copyFactP ((gt a0.Items k3).F)), true)) else (.go ())
def sFactOf_p (a0 : StoreD) (a1 : Int) : FactD × Bool := match rounds (sFactOf_p_b1 a0 a1) a0.Items.length () with | .ret r => r | .brk _ => default | .go _ => (({ Kind := (⟨#[]⟩ : ByteArray), Fields := ([] : List ValD) } : FactD), false)
set_option maxHeartbeats 1000000 in
set_option maxRecDepth 20000 in
theorem sFactOf_w (a0 : StoreD) (a1 : Int) (v0_0 : Value) (w : World) (s0_0 : Sl w a0.Items v0_0) (hz_a0 : sznStore a0 ≤ 1048576) :
    Calls Tryz.prog 246 #[.agg #[v0_0, .int .i64 a0.Next], .int .i64 a1] w (fun e w' => ∃ u0, e = .returned (.tuple #[.agg #[.string (sFactOf_p a0 a1).1.Kind, u0], .bool (sFactOf_p a0 a1).2]) ∧ Sl w' ((sFactOf_p a0 a1).1.Fields) u0 ∧ Below w.heap.size w w') := by
 obtain ⟨p0_0, c0_0, rfl, hl0_0, -, hk0_0, -⟩ := s0_0.open
 obtain ⟨r, hr⟩ : ∃ r, sFactOf_p a0 a1 = r := ⟨_, rfl⟩
 rw [hr]
 replace hr := Lib.hid hr
 go_enter Tryz.func246, Tryz.ntmps246
 go_wp2
 go_loopw [6] (fun i6 wr3 => Below w.heap.size w wr3 ∧ Bx wr3 (w.heap.size) [.slice p0_0 a0.Items.length c0_0, .int .i64 a0.Next] ∧ Bx wr3 (w.heap.size + 1) [.string (⟨#[]⟩ : ByteArray), .slice none 0 0] ∧ ∃ (k3 : Nat), i6 = .int .i64 k3 ∧ k3 ≤ a0.Items.length ∧ Hid (rounds (sFactOf_p_b1 a0 a1) k3 () = .go ())) (fun i6 _ => a0.Items.length - (intOf i6).toNat)
 case atStart => exact ⟨(by simp (maxDischargeDepth := 9)), (by simp (maxDischargeDepth := 9)), (by simp (maxDischargeDepth := 9)), 0, rfl, by omega, Lib.hid rfl⟩
 case round =>
  rename World => wr3
  obtain ⟨B4, Xbx1_4, Xbx2_4, k3, rfl, hk4, hy4⟩ := hrel
  have ⟨Xbx1_4k0, Xbx1_4k1⟩ := bx2 Xbx1_4
  have ⟨Xbx2_4k0, Xbx2_4k1⟩ := bx2 Xbx2_4
  have Xbx2_4z := Xbx2_4.z
  by_cases hlt4 : k3 < a0.Items.length
  ·
   have hi7 : k3 < a0.Items.length := by first | assumption | omega
   obtain ⟨e6b, e6o, ue6_2, rfl, e6bl, e6ok, ⟨e6d0, e6d1, e6d2⟩, te6_2⟩ := Sl.gtItem s0_0 k3 hi7
   obtain ⟨pe6_2, ce6_2, rfl, hlpe6_2, -⟩ := te6_2.open
   have e6E := Lib.hid (And.intro e6d0 (And.intro e6d1 e6d2))
   clear e6d0 e6d1 e6d2
   have ⟨e6d0n, e6d1n, e6d2n⟩ := cb3 B4 e6bl e6E.out
   obtain ⟨bh8, eh8⟩ : ∃ b, ((gt a0.Items k3).Id == a1) = b := ⟨_, rfl⟩
   rcases Bool.eq_false_or_eq_true bh8 with h8 | h8
   ·
    go_wp2_with fail
    refine (sl3Copy_w ((gt a0.Items k3).F) _ _ (te6_2.to (by simp (maxDischargeDepth := 9) [B4])) (Nat.le_trans (szn_Item_F (gt a0.Items k3)) (Nat.le_trans (szn_gtItem a0.Items k3 (by first | assumption | omega)) (Nat.le_trans (szn_Store_Items a0) hz_a0)))).mono ?_
    have ltbx2 := Xbx2_4.lt
    rintro e w9 ⟨u9_0, fu9_0, rfl, ou9_0, fru9_0, hb9⟩
    have su9_0 := ou9_0.sl
    obtain ⟨pu9_0, cu9_0, rfl, hlu9_0, -⟩ := su9_0.open
    have B9 := via (w0 := w) (by simp (maxDischargeDepth := 9) [B4]) hb9
    have U9 : Below wr3.heap.size wr3 w9 := via (by simp (maxDischargeDepth := 9)) hb9
    have Xbx1_9 := Xbx1_4.via U9
    clear Xbx1_4 Xbx1_4k0 Xbx1_4k1
    have ⟨Xbx1_9k0, Xbx1_9k1⟩ := bx2 Xbx1_9
    have Xbx2_9 := Xbx2_4.via U9
    clear Xbx2_4 Xbx2_4k0 Xbx2_4k1 Xbx2_4z
    have ⟨Xbx2_9k0, Xbx2_9k1⟩ := bx2 Xbx2_9
    have Xbx2_9z := Xbx2_9.z
    clear e6d0n e6d1n e6d2n
    have ⟨e6d0n, e6d1n, e6d2n⟩ := cb3 B9 e6bl e6E.out
    clear U9
    clear B4
    have q10 : sFactOf_p_b1 a0 a1 k3 () = .ret ((copyFactP ((gt a0.Items k3).F)), true) := by simp only [sFactOf_p_b1, eh8, h8, cond_true]
    have q11 := rounds_ret hlt4 hy4.out q10
    obtain rfl : r = ((copyFactP ((gt a0.Items k3).F)), true) := hr.out.symm.trans (by simp only [sFactOf_p, q11])
    go_wp2
    refine ret_mk (.tuple #[.agg #[.string ((copyFactP ((gt a0.Items k3).F)).Kind), .slice pu9_0 ((copyFactP ((gt a0.Items k3).F)).Fields.length) cu9_0], .bool true]) (by simp [results, Tryz.results246, go_sem, *]) rfl ⟨_, rfl, (OwnS.sl (OwnS.low (OwnS.low ou9_0 fru9_0 (by have := ltbx2; simp; omega) _) fru9_0 (by have := ltbx2; simp; omega) _)), (by simp (maxDischargeDepth := 9) [B9])⟩
   ·
    have q12 : sFactOf_p_b1 a0 a1 k3 () = .go () := by simp only [sFactOf_p_b1, eh8, h8, cond_false]
    replace q12 := Lib.hid (rounds_next hy4.out q12)
    go_wp2
    go_roundw
    case rel => exact ⟨(by simp (maxDischargeDepth := 9) [B4]), (by simp (maxDischargeDepth := 9) [Xbx1_4]), (by simp (maxDischargeDepth := 9) [Xbx2_4]), k3 + 1, by go_num, by omega, q12⟩
    case measure => simp [intOf]; omega
  ·
   obtain rfl : a0.Items.length = k3 := by omega
   obtain rfl : r = (({ Kind := (⟨#[]⟩ : ByteArray), Fields := ([] : List ValD) } : FactD), false) := hr.out.symm.trans (by simp only [sFactOf_p, hy4.out])
   go_wp2
   refine ret_mk (.tuple #[.agg #[.string (⟨#[]⟩ : ByteArray), .slice none 0 0], .bool false]) (by simp [results, Tryz.results246, go_sem, *]) rfl ⟨_, rfl, sl_none _, (by simp (maxDischargeDepth := 9) [B4])⟩
end Go.Proofs.YthnilnggpbploaaGreat
