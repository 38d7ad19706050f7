/- Functions that only read, walked (B). Printed by a program. -/
import Derived.Test.YthnilnggpbploaaGreatCmA1
import Derived.Test.YthnilnggpbploaaGreatCmB1
import Derived.Test.YthnilnggpbploaaGreatCmB2
import Derived.Test.YthnilnggpbploaaGreatCopy
namespace Go.Proofs.YthnilnggpbploaaGreat
open Go.RowKit
open Cel (rd own rd_len rd_one own_rd own_lt rd_below rd_mono own_keep)

-- impl.hasKey
def ihasKey_p (a0 : List UndoD) (a1 : ByteArray) : Bool := slices_ContainsFunc_iUndo_ihasKey_1_p a0 a1
set_option maxHeartbeats 1000000 in
set_option maxRecDepth 20000 in
theorem ihasKey_w (a0 : List UndoD) (a1 : ByteArray) (v0_0 : Value) (w : World) (s0_0 : Sl w a0 v0_0) :
    Calls Tryz.prog 144 #[v0_0, .string a1] w (RetB (ihasKey_p a0 a1) w) := by
 obtain ⟨p0_0, c0_0, rfl, hl0_0, -, hk0_0, -⟩ := s0_0.open
 obtain ⟨r, hr⟩ : ∃ r, ihasKey_p a0 a1 = r := ⟨_, rfl⟩
 rw [hr]
 replace hr := Lib.hid hr
 go_enter Tryz.func144, Tryz.ntmps144
 go_wp2_with fail
 refine (slices_ContainsFunc_iUndo_ihasKey_1_w a0 a1 _ _ _ (s0_0.to (by simp (maxDischargeDepth := 9))) (by simp (maxDischargeDepth := 9))).mono ?_
 rintro e w2 ⟨rfl, hb2⟩
 have B2 := via (w0 := w) (by simp (maxDischargeDepth := 9)) hb2
 have Xbx1_2 : Bx w2 (w.heap.size) [.string a1] := Bx.via (by simp (maxDischargeDepth := 9)) hb2
 have Xbx1_2k0 := bx1 Xbx1_2
 obtain rfl : r = slices_ContainsFunc_iUndo_ihasKey_1_p a0 a1 := hr.out.symm.trans (by simp only [ihasKey_p])
 go_wp2
 go_ret
 exact rbk (by simp (maxDischargeDepth := 9) [B2])

-- impl.UndosOk
def iUndosOk_p_b1 (a0 : List UndoD) (k2 : Nat) (_ : Unit) : St (Bool) (Unit) := bif iisKey_p ((gt a0 k2).Key) then (bif iFactOk_p ((gt a0 k2).F) then (bif ihasKey_p (a0.take k2) ((gt a0 k2).Key) then (.ret false) else (.go ())) else (.ret false)) else (.ret false)
def iUndosOk_p (a0 : List UndoD) : Bool := bif decide (30 < a0.length) then (false) else (match rounds (iUndosOk_p_b1 a0) a0.length () with | .ret r => r | .brk _ => default | .go _ => true)
set_option maxHeartbeats 1000000 in
set_option maxRecDepth 20000 in
theorem iUndosOk_w (a0 : List UndoD) (v0_0 : Value) (w : World) (s0_0 : Sl w a0 v0_0) :
    Calls Tryz.prog 76 #[v0_0] w (RetB (iUndosOk_p a0) w) := by
 obtain ⟨p0_0, c0_0, rfl, hl0_0, -, hk0_0, -⟩ := s0_0.open
 obtain ⟨r, hr⟩ : ∃ r, iUndosOk_p a0 = r := ⟨_, rfl⟩
 rw [hr]
 replace hr := Lib.hid hr
 go_enter Tryz.func76, Tryz.ntmps76
 by_cases h1 : 30 < a0.length
 ·
  have h1d := Lib.hid (decide_eq_true h1)
  obtain rfl : r = false := hr.out.symm.trans (by simp only [iUndosOk_p, h1d.out, cond_true])
  go_wp2
  go_ret
  exact rbk (by simp (maxDischargeDepth := 9))
 ·
  have h1d := Lib.hid (decide_eq_false h1)
  go_wp2
  go_loopw [10] (fun i10 wr2 => Below w.heap.size w wr2 ∧ ∃ (k2 : Nat), i10 = .int .i64 k2 ∧ k2 ≤ a0.length ∧ Hid (rounds (iUndosOk_p_b1 a0) k2 () = .go ())) (fun i10 _ => a0.length - (intOf i10).toNat)
  case atStart => exact ⟨(by simp (maxDischargeDepth := 9)), 0, rfl, by omega, Lib.hid rfl⟩
  case round =>
   rename World => wr2
   obtain ⟨B3, k2, rfl, hk3, hy3⟩ := hrel
   by_cases hlt3 : k2 < a0.length
   ·
    have hi6 : k2 < a0.length := by first | assumption | omega
    obtain ⟨e5b, e5o, ue5_2, rfl, e5bl, e5ok, ⟨e5d0, e5d1, e5d2⟩, te5_2⟩ := Sl.gtUndo s0_0 k2 hi6
    obtain ⟨pe5_2, ce5_2, rfl, hlpe5_2, -⟩ := te5_2.open
    have e5E := Lib.hid (And.intro e5d0 (And.intro e5d1 e5d2))
    clear e5d0 e5d1 e5d2
    have ⟨e5d0n, e5d1n, e5d2n⟩ := cb3 B3 e5bl e5E.out
    go_wp2
    refine wp_region_noPanic ?_
    refine wp_region_held_drew (S := (fun w' => w'.cell? ⟨wr2.heap.size, 0, none⟩ = some (.string ((gt a0 k2).Key)) ∧ w'.cell? ⟨wr2.heap.size, 1, none⟩ = some (.string ((gt a0 k2).F.Kind)) ∧ w'.cell? ⟨wr2.heap.size, 2, none⟩ = some (.slice pe5_2 ((gt a0 k2).F.Fields.length) ce5_2) ∧ w'.cell? ⟨e5b, e5o + k2 * 3, none⟩ = some (.string ((gt a0 k2).Key)) ∧ w'.cell? ⟨e5b, e5o + k2 * 3 + 1, none⟩ = some (.string ((gt a0 k2).F.Kind)) ∧ w'.cell? ⟨e5b, e5o + k2 * 3 + 2, none⟩ = some (.slice pe5_2 ((gt a0 k2).F.Fields.length) ce5_2))) (by kernel_rfl) ?_ (fun hHeld0 => ?_)
    · go_keep
    refine tt 0 ?_
    simp only [Act.put, sa, s0, ss]
    refine tt 1 ?_
    simp only [Act.put, sa, s0, ss]
    refine wpAnyH_ready (rs := [2]) (by kernel_rfl) (by simp) ?_
    refine' AllReadyH.cons (o := _) ?hi1023_2 (fun K hK => ?_) AllReadyH.nil
    case hi1023_2 => simp only [List.getElem?_toArray, List.getElem?_cons_succ, List.getElem?_cons_zero]; exact rfl
    go_simp
    go_at_call 143
    refine (iisKey_w ((gt a0 k2).Key)  _ ).mono ?_
    rintro e w8 ⟨rfl, hb8⟩
    have B8 := via (w0 := w) (by simp (maxDischargeDepth := 9) [B3]) hb8
    have Xbx7_8 : Bx w8 (wr2.heap.size) [.string ((gt a0 k2).Key), .string ((gt a0 k2).F.Kind), .slice pe5_2 ((gt a0 k2).F.Fields.length) ce5_2] := Bx.via (by simp (maxDischargeDepth := 9)) hb8
    have ⟨Xbx7_8k0, Xbx7_8k1, Xbx7_8k2⟩ := bx3 Xbx7_8
    clear e5d0n e5d1n e5d2n
    have ⟨e5d0n, e5d1n, e5d2n⟩ := cb3 B8 e5bl e5E.out
    clear B3
    cases h9 : iisKey_p ((gt a0 k2).Key) with
    | true =>
     replace h9 := Lib.hid h9
     go_wp2_with fail
     refine hK.out _ _ ?_ (fun hHeld2 => ?_)
     · go_keep
     clear hK K hHeld0
     refine tt 3 ?_
     simp only [Act.put, sa, s0, ss]
     refine tt 4 ?_
     simp only [Act.put, sa, s0, ss]
     refine tt 5 ?_
     simp only [Act.put, sa, s0, ss]
     refine tt 6 ?_
     simp only [Act.put, sa, s0, ss]
     refine wpAnyH_ready (rs := [7]) (by kernel_rfl) (by simp) ?_
     refine' AllReadyH.cons (o := _) ?hi1024_7 (fun K hK => ?_) AllReadyH.nil
     case hi1024_7 => simp only [List.getElem?_toArray, List.getElem?_cons_succ, List.getElem?_cons_zero]; exact rfl
     go_simp
     go_at_call 138
     refine (iFactOk_w ((gt a0 k2).F) _ _ (te5_2.to (by simp (maxDischargeDepth := 9) [B8])) e5ok.2).mono ?_
     rintro e w10 ⟨rfl, hb10⟩
     have B10 := via (w0 := w) (by simp (maxDischargeDepth := 9) [B8]) hb10
     have U10 : Below w8.heap.size w8 w10 := via (by simp (maxDischargeDepth := 9)) hb10
     have Xbx7_10 := Xbx7_8.via U10
     clear Xbx7_8 Xbx7_8k0 Xbx7_8k1 Xbx7_8k2
     have ⟨Xbx7_10k0, Xbx7_10k1, Xbx7_10k2⟩ := bx3 Xbx7_10
     clear e5d0n e5d1n e5d2n
     have ⟨e5d0n, e5d1n, e5d2n⟩ := cb3 B10 e5bl e5E.out
     clear U10
     clear B8
     cases h11 : iFactOk_p ((gt a0 k2).F) with
     | true =>
      replace h11 := Lib.hid h11
      go_wp2_with fail
      refine hK.out _ _ ?_ (fun hHeld7 => ?_)
      · go_keep
      clear hK K hHeld2
      refine tt 8 ?_
      simp only [Act.put, sa, s0, ss]
      refine tt 9 ?_
      simp only [Act.put, sa, s0, ss]
      refine tt 10 ?_
      simp only [Act.put, sa, s0, ss]
      refine tt 11 ?_
      simp only [Act.put, sa, s0, ss]
      refine tt 12 ?_
      simp only [Act.put, sa, s0, ss]
      have hsl12 : k2 ≤ c0_0 := by omega
      refine tt 13 ?_
      simp only [Act.put, sa, s0, ss]
      refine tt 14 ?_
      simp only [Act.put, sa, s0, ss]
      refine tt 15 ?_
      simp only [Act.put, sa, s0, ss]
      refine wpAnyH_ready (rs := [16]) (by kernel_rfl) (by simp) ?_
      refine' AllReadyH.cons (o := _) ?hi1025_16 (fun K hK => ?_) AllReadyH.nil
      case hi1025_16 => simp only [List.getElem?_toArray, List.getElem?_cons_succ, List.getElem?_cons_zero]; exact rfl
      go_simp
      go_at_call 144
      refine (ihasKey_w (a0.take k2) ((gt a0 k2).Key) _ _ (Sl.takeTo (s0_0.to (by simp (maxDischargeDepth := 9) [B10])) (by omega))).mono ?_
      rintro e w13 ⟨rfl, hb13⟩
      have B13 := via (w0 := w) (by simp (maxDischargeDepth := 9) [B10]) hb13
      have U13 : Below w10.heap.size w10 w13 := via (by simp (maxDischargeDepth := 9)) hb13
      have Xbx7_13 := Xbx7_10.via U13
      clear Xbx7_10 Xbx7_10k0 Xbx7_10k1 Xbx7_10k2
      have ⟨Xbx7_13k0, Xbx7_13k1, Xbx7_13k2⟩ := bx3 Xbx7_13
      clear e5d0n e5d1n e5d2n
      have ⟨e5d0n, e5d1n, e5d2n⟩ := cb3 B13 e5bl e5E.out
      clear U13
      clear B10
      cases h14 : ihasKey_p (a0.take k2) ((gt a0 k2).Key) with
      | true =>
       replace h14 := Lib.hid h14
       go_wp2_with fail
       refine hK.out _ _ ?_ (fun hHeld16 => ?_)
       · go_keep
       clear hK K hHeld7
       refine tt 17 ?_
       simp only [Act.put, sa, s0, ss]
       refine wpAnyH_done (by kernel_rfl) ?_ _
       clear hHeld16
       refine NoPanic.normal ?_
       have q15 : iUndosOk_p_b1 a0 k2 () = .ret false := by simp only [iUndosOk_p_b1, h9.out, h11.out, h14.out, cond_true]
       have q16 := rounds_ret hlt3 hy3.out q15
       obtain rfl : r = false := hr.out.symm.trans (by simp only [iUndosOk_p, h1d.out, q16, cond_false])
       go_wp2
       go_ret
       exact rbk (by simp (maxDischargeDepth := 9) [B13])
      | false =>
       replace h14 := Lib.hid h14
       go_wp2_with fail
       refine hK.out _ _ ?_ (fun hHeld16 => ?_)
       · go_keep
       clear hK K hHeld7
       refine tt 17 ?_
       simp only [Act.put, sa, s0, ss]
       refine wpAnyH_done (by kernel_rfl) ?_ _
       clear hHeld16
       refine NoPanic.normal ?_
       have q17 : iUndosOk_p_b1 a0 k2 () = .go () := by simp only [iUndosOk_p_b1, h9.out, h11.out, h14.out, cond_true, cond_false]
       replace q17 := Lib.hid (rounds_next hy3.out q17)
       go_wp2
       go_roundw
       case rel => exact ⟨(by simp (maxDischargeDepth := 9) [B13]), k2 + 1, by go_num, by omega, q17⟩
       case measure => simp [intOf]; omega
     | false =>
      replace h11 := Lib.hid h11
      go_wp2_with fail
      refine hK.out _ _ ?_ (fun hHeld7 => ?_)
      · go_keep
      clear hK K hHeld2
      refine tt 8 ?_
      simp only [Act.put, sa, s0, ss]
      refine tt 9 ?_
      simp only [Act.put, sa, s0, ss]
      refine tt 10 ?_
      simp only [Act.put, sa, s0, ss]
      refine tu 11 ?_
      simp only [Act.put, sa, s0, ss]
      refine tu 12 ?_
      simp only [Act.put, sa, s0, ss]
      refine tu 13 ?_
      simp only [Act.put, sa, s0, ss]
      refine tu 14 ?_
      simp only [Act.put, sa, s0, ss]
      refine tu 15 ?_
      simp only [Act.put, sa, s0, ss]
      refine tu 16 ?_
      simp only [Act.put, sa, s0, ss]
      refine tt 17 ?_
      simp only [Act.put, sa, s0, ss]
      refine wpAnyH_done (by kernel_rfl) ?_ _
      clear hHeld7
      refine NoPanic.normal ?_
      have q18 : iUndosOk_p_b1 a0 k2 () = .ret false := by simp only [iUndosOk_p_b1, h9.out, h11.out, cond_true, cond_false]
      have q19 := rounds_ret hlt3 hy3.out q18
      obtain rfl : r = false := hr.out.symm.trans (by simp only [iUndosOk_p, h1d.out, q19, cond_false])
      go_wp2
      go_ret
      exact rbk (by simp (maxDischargeDepth := 9) [B10])
    | false =>
     replace h9 := Lib.hid h9
     go_wp2_with fail
     refine hK.out _ _ ?_ (fun hHeld2 => ?_)
     · go_keep
     clear hK K hHeld0
     refine tt 3 ?_
     simp only [Act.put, sa, s0, ss]
     refine tt 4 ?_
     simp only [Act.put, sa, s0, ss]
     refine tu 5 ?_
     simp only [Act.put, sa, s0, ss]
     refine tu 6 ?_
     simp only [Act.put, sa, s0, ss]
     refine tu 7 ?_
     simp only [Act.put, sa, s0, ss]
     refine tu 8 ?_
     simp only [Act.put, sa, s0, ss]
     refine tt 9 ?_
     simp only [Act.put, sa, s0, ss]
     refine tt 10 ?_
     simp only [Act.put, sa, s0, ss]
     refine tu 11 ?_
     simp only [Act.put, sa, s0, ss]
     refine tu 12 ?_
     simp only [Act.put, sa, s0, ss]
     refine tu 13 ?_
     simp only [Act.put, sa, s0, ss]
     refine tu 14 ?_
     simp only [Act.put, sa, s0, ss]
     refine tu 15 ?_
     simp only [Act.put, sa, s0, ss]
     refine tu 16 ?_
     simp only [Act.put, sa, s0, ss]
     refine tt 17 ?_
     simp only [Act.put, sa, s0, ss]
     refine wpAnyH_done (by kernel_rfl) ?_ _
     clear hHeld2
     refine NoPanic.normal ?_
     have q20 : iUndosOk_p_b1 a0 k2 () = .ret false := by simp only [iUndosOk_p_b1, h9.out, cond_false]
     have q21 := rounds_ret hlt3 hy3.out q20
     obtain rfl : r = false := hr.out.symm.trans (by simp only [iUndosOk_p, h1d.out, q21, cond_false])
     go_wp2
     go_ret
     exact rbk (by simp (maxDischargeDepth := 9) [B8])
   ·
    obtain rfl : a0.length = k2 := by omega
    obtain rfl : r = true := hr.out.symm.trans (by simp only [iUndosOk_p, h1d.out, hy3.out, cond_false])
    go_wp2
    go_ret
    exact rbk (by simp (maxDischargeDepth := 9) [B3])

-- impl.hasRule
def ihasRule_p (a0 : DefD) (a1 : MatchD) : Bool := bif decide ((0 : Int) ≤ a1.Rule) then (bif decide (a1.Rule < ((a0.Rules.length : Nat) : Int)) then (true) else (false)) else (false)
set_option maxHeartbeats 1000000 in
set_option maxRecDepth 20000 in
theorem ihasRule_w (a0 : DefD) (a1 : MatchD) (v0_1 : Value) (v1_1 : Value) (v1_2 : Value) (w : World) (s0_1 : Sl w a0.Rules v0_1) (s1_1 : Sl w a1.Ids v1_1) (s1_2 : Sl w a1.Binds v1_2) :
    Calls Tryz.prog 113 #[.agg #[.string a0.Name, v0_1], .agg #[.int .i64 a1.Rule, v1_1, v1_2]] w (RetB (ihasRule_p a0 a1) w) := by
 obtain ⟨p0_1, c0_1, rfl, hl0_1, -, hk0_1, -⟩ := s0_1.open
 obtain ⟨p1_1, c1_1, rfl, hl1_1, -, hk1_1, -⟩ := s1_1.open
 obtain ⟨p1_2, c1_2, rfl, hl1_2, -, hk1_2, -⟩ := s1_2.open
 obtain ⟨r, hr⟩ : ∃ r, ihasRule_p a0 a1 = r := ⟨_, rfl⟩
 rw [hr]
 replace hr := Lib.hid hr
 go_enter Tryz.func113, Tryz.ntmps113
 by_cases h3 : (0 : Int) ≤ a1.Rule
 ·
  have h3d := Lib.hid (decide_eq_true h3)
  by_cases h4 : a1.Rule < ((a0.Rules.length : Nat) : Int)
  ·
   have h4d := Lib.hid (decide_eq_true h4)
   obtain rfl : r = true := hr.out.symm.trans (by simp only [ihasRule_p, h3d.out, h4d.out, cond_true])
   go_wp2
   go_ret
   exact rbk (by simp (maxDischargeDepth := 9))
  ·
   have h4d := Lib.hid (decide_eq_false h4)
   obtain rfl : r = false := hr.out.symm.trans (by simp only [ihasRule_p, h3d.out, h4d.out, cond_true, cond_false])
   go_wp2
   go_ret
   exact rbk (by simp (maxDischargeDepth := 9))
 ·
  have h3d := Lib.hid (decide_eq_false h3)
  obtain rfl : r = false := hr.out.symm.trans (by simp only [ihasRule_p, h3d.out, cond_false])
  go_wp2
  go_ret
  exact rbk (by simp (maxDischargeDepth := 9))
theorem ihasRule_true {d : DefD} {m : MatchD} (h : ihasRule_p d m = true) : 0 ≤ m.Rule ∧ m.Rule < d.Rules.length := by
  unfold ihasRule_p at h
  by_cases h1 : (0 : Int) ≤ m.Rule
  · by_cases h2 : m.Rule < ((d.Rules.length : Nat) : Int)
    · exact ⟨h1, h2⟩
    · simp [h1, h2] at h
  · simp [h1] at h

-- impl.FactOf
def iFactOf_p_b1 (a0 : StoreD) (a1 : Int) (k3 : Nat) (_ : Unit) : St (FactD × Bool) (Unit) := bif ((gt a0.Items k3).Id == a1) then (.ret ((copyFactP ((gt a0.Items k3).F)), true)) else (.go ())
def iFactOf_p (a0 : StoreD) (a1 : Int) : FactD × Bool := match rounds (iFactOf_p_b1 a0 a1) a0.Items.length () with | .ret r => r | .brk _ => default | .go _ => (({ Kind := (⟨#[]⟩ : ByteArray), Fields := ([] : List ValD) } : FactD), false)
set_option maxHeartbeats 1000000 in
set_option maxRecDepth 20000 in
theorem iFactOf_w (a0 : StoreD) (a1 : Int) (v0_0 : Value) (w : World) (s0_0 : Sl w a0.Items v0_0) (hz_a0 : sznStore a0 ≤ 1048576) :
    Calls Tryz.prog 146 #[.agg #[v0_0, .int .i64 a0.Next], .int .i64 a1] w (fun e w' => ∃ u0, e = .returned (.tuple #[.agg #[.string (iFactOf_p a0 a1).1.Kind, u0], .bool (iFactOf_p a0 a1).2]) ∧ Sl w' ((iFactOf_p a0 a1).1.Fields) u0 ∧ Below w.heap.size w w') := by
 obtain ⟨p0_0, c0_0, rfl, hl0_0, -, hk0_0, -⟩ := s0_0.open
 obtain ⟨r, hr⟩ : ∃ r, iFactOf_p a0 a1 = r := ⟨_, rfl⟩
 rw [hr]
 replace hr := Lib.hid hr
 go_enter Tryz.func146, Tryz.ntmps146
 go_wp2
 go_loopw [11] (fun i11 wr3 => Below w.heap.size w wr3 ∧ Bx wr3 (w.heap.size) [.slice p0_0 a0.Items.length c0_0, .int .i64 a0.Next] ∧ Bx wr3 (w.heap.size + 1) [.string (⟨#[]⟩ : ByteArray), .slice none 0 0] ∧ ∃ (k3 : Nat), i11 = .int .i64 k3 ∧ k3 ≤ a0.Items.length ∧ Hid (rounds (iFactOf_p_b1 a0 a1) k3 () = .go ())) (fun i11 _ => a0.Items.length - (intOf i11).toNat)
 case atStart => exact ⟨(by simp (maxDischargeDepth := 9)), (by simp (maxDischargeDepth := 9)), (by simp (maxDischargeDepth := 9)), 0, rfl, by omega, Lib.hid rfl⟩
 case round =>
  rename World => wr3
  obtain ⟨B4, Xbx1_4, Xbx2_4, k3, rfl, hk4, hy4⟩ := hrel
  have ⟨Xbx1_4k0, Xbx1_4k1⟩ := bx2 Xbx1_4
  have ⟨Xbx2_4k0, Xbx2_4k1⟩ := bx2 Xbx2_4
  have Xbx2_4z := Xbx2_4.z
  by_cases hlt4 : k3 < a0.Items.length
  ·
   have hi7 : k3 < a0.Items.length := by first | assumption | omega
   obtain ⟨e6b, e6o, ue6_2, rfl, e6bl, e6ok, ⟨e6d0, e6d1, e6d2⟩, te6_2⟩ := Sl.gtItem s0_0 k3 hi7
   obtain ⟨pe6_2, ce6_2, rfl, hlpe6_2, -⟩ := te6_2.open
   have e6E := Lib.hid (And.intro e6d0 (And.intro e6d1 e6d2))
   clear e6d0 e6d1 e6d2
   have ⟨e6d0n, e6d1n, e6d2n⟩ := cb3 B4 e6bl e6E.out
   obtain ⟨bh9, eh9⟩ : ∃ b, ((gt a0.Items k3).Id == a1) = b := ⟨_, rfl⟩
   rcases Bool.eq_false_or_eq_true bh9 with h9 | h9
   ·
    go_wp2_with fail
    refine (icopyFact_w ((gt a0.Items k3).F) _ _ (te6_2.to (by simp (maxDischargeDepth := 9) [B4])) (Nat.le_trans (szn_Item_F (gt a0.Items k3)) (Nat.le_trans (szn_gtItem a0.Items k3 (by first | assumption | omega)) (Nat.le_trans (szn_Store_Items a0) hz_a0)))).mono ?_
    have ltbx2 := Xbx2_4.lt
    rintro e w10 ⟨u10_0, fu10_0, rfl, ou10_0, fru10_0, hb10⟩
    have su10_0 := ou10_0.sl
    obtain ⟨pu10_0, cu10_0, rfl, hlu10_0, -⟩ := su10_0.open
    have B10 := via (w0 := w) (by simp (maxDischargeDepth := 9) [B4]) hb10
    have U10 : Below wr3.heap.size wr3 w10 := via (by simp (maxDischargeDepth := 9)) hb10
    have Xbx1_10 := Xbx1_4.via U10
    clear Xbx1_4 Xbx1_4k0 Xbx1_4k1
    have ⟨Xbx1_10k0, Xbx1_10k1⟩ := bx2 Xbx1_10
    have Xbx2_10 := Xbx2_4.via U10
    clear Xbx2_4 Xbx2_4k0 Xbx2_4k1 Xbx2_4z
    have ⟨Xbx2_10k0, Xbx2_10k1⟩ := bx2 Xbx2_10
    have Xbx2_10z := Xbx2_10.z
    have Xbx8_10 : Bx w10 (wr3.heap.size) [.int .i64 ((gt a0.Items k3).Id), .string ((gt a0.Items k3).F.Kind), .slice pe6_2 ((gt a0.Items k3).F.Fields.length) ce6_2] := Bx.via (by simp (maxDischargeDepth := 9)) hb10
    have ⟨Xbx8_10k0, Xbx8_10k1, Xbx8_10k2⟩ := bx3 Xbx8_10
    clear e6d0n e6d1n e6d2n
    have ⟨e6d0n, e6d1n, e6d2n⟩ := cb3 B10 e6bl e6E.out
    clear U10
    clear B4
    have q11 : iFactOf_p_b1 a0 a1 k3 () = .ret ((copyFactP ((gt a0.Items k3).F)), true) := by simp only [iFactOf_p_b1, eh9, h9, cond_true]
    have q12 := rounds_ret hlt4 hy4.out q11
    obtain rfl : r = ((copyFactP ((gt a0.Items k3).F)), true) := hr.out.symm.trans (by simp only [iFactOf_p, q12])
    go_wp2
    refine ret_mk (.tuple #[.agg #[.string ((copyFactP ((gt a0.Items k3).F)).Kind), .slice pu10_0 ((copyFactP ((gt a0.Items k3).F)).Fields.length) cu10_0], .bool true]) (by simp [results, Tryz.results146, go_sem, *]) rfl ⟨_, rfl, (OwnS.sl (OwnS.low (OwnS.low ou10_0 fru10_0 (by have := ltbx2; simp; omega) _) fru10_0 (by have := ltbx2; simp; omega) _)), (by simp (maxDischargeDepth := 9) [B10])⟩
   ·
    have q13 : iFactOf_p_b1 a0 a1 k3 () = .go () := by simp only [iFactOf_p_b1, eh9, h9, cond_false]
    replace q13 := Lib.hid (rounds_next hy4.out q13)
    go_wp2
    go_roundw
    case rel => exact ⟨(by simp (maxDischargeDepth := 9) [B4]), (by simp (maxDischargeDepth := 9) [Xbx1_4]), (by simp (maxDischargeDepth := 9) [Xbx2_4]), k3 + 1, by go_num, by omega, q13⟩
    case measure => simp [intOf]; omega
  ·
   obtain rfl : a0.Items.length = k3 := by omega
   obtain rfl : r = (({ Kind := (⟨#[]⟩ : ByteArray), Fields := ([] : List ValD) } : FactD), false) := hr.out.symm.trans (by simp only [iFactOf_p, hy4.out])
   go_wp2
   refine ret_mk (.tuple #[.agg #[.string (⟨#[]⟩ : ByteArray), .slice none 0 0], .bool false]) (by simp [results, Tryz.results146, go_sem, *]) rfl ⟨_, rfl, sl_none _, (by simp (maxDischargeDepth := 9) [B4])⟩

-- impl.firedOk
def ifiredOk_p_b2 (a0 : DefD) (a1 : InstD) (k4 : Nat) (k17 : Nat) (_ : Unit) : St (Bool) (Unit) := bif (iFactOf_p a1.S (gt ((gt a1.Fired k4).Ids) k17)).2 then (.go ()) else (.ret false)
def ifiredOk_p_b1 (a0 : DefD) (a1 : InstD) (k4 : Nat) (_ : Unit) : St (Bool) (Unit) := bif ihasRule_p a0 (gt a1.Fired k4) then (bif ((((gt a1.Fired k4).Binds.length : Nat) : Int) == 0) then (bif ((((gt a1.Fired k4).Ids.length : Nat) : Int) == (iPosCount_p (gt a0.Rules (((gt a1.Fired k4).Rule).toNat)))) then (match rounds (ifiredOk_p_b2 a0 a1 k4) ((gt a1.Fired k4).Ids.length) () with | .ret r => .ret r | .brk _ => .brk default | .go _ => .go ()) else (.ret false)) else (.ret false)) else (.ret false)
def ifiredOk_p (a0 : DefD) (a1 : InstD) : Bool := bif decide (1000 < a1.Fired.length) then (false) else (match rounds (ifiredOk_p_b1 a0 a1) a1.Fired.length () with | .ret r => r | .brk _ => default | .go _ => true)
set_option maxHeartbeats 1000000 in
set_option maxRecDepth 20000 in
theorem ifiredOk_w (a0 : DefD) (a1 : InstD) (v0_1 : Value) (v1_0 : Value) (v1_2 : Value) (v1_3 : Value) (v1_4 : Value) (v1_5 : Value) (w : World) (s0_1 : Sl w a0.Rules v0_1) (s1_0 : Sl w a1.S.Items v1_0) (s1_2 : Sl w a1.Fired v1_2) (s1_3 : Sl w a1.Tasks v1_3) (s1_4 : Sl w a1.Timers v1_4) (s1_5 : Sl w a1.Undos v1_5) (hz_a1 : sznInst a1 ≤ 1048576) :
    Calls Tryz.prog 79 #[.agg #[.string a0.Name, v0_1], .agg #[v1_0, .int .i64 a1.S.Next, v1_2, v1_3, v1_4, v1_5, .int .i64 a1.State, .int .i64 a1.Now]] w (RetB (ifiredOk_p a0 a1) w) := by
 obtain ⟨p0_1, c0_1, rfl, hl0_1, -, hk0_1, -⟩ := s0_1.open
 obtain ⟨p1_0, c1_0, rfl, hl1_0, -, hk1_0, -⟩ := s1_0.open
 obtain ⟨p1_2, c1_2, rfl, hl1_2, -, hk1_2, -⟩ := s1_2.open
 obtain ⟨p1_3, c1_3, rfl, hl1_3, -, hk1_3, -⟩ := s1_3.open
 obtain ⟨p1_4, c1_4, rfl, hl1_4, -, hk1_4, -⟩ := s1_4.open
 obtain ⟨p1_5, c1_5, rfl, hl1_5, -, hk1_5, -⟩ := s1_5.open
 obtain ⟨r, hr⟩ : ∃ r, ifiredOk_p a0 a1 = r := ⟨_, rfl⟩
 rw [hr]
 replace hr := Lib.hid hr
 go_enter Tryz.func79, Tryz.ntmps79
 by_cases h3 : 1000 < a1.Fired.length
 ·
  have h3d := Lib.hid (decide_eq_true h3)
  obtain rfl : r = false := hr.out.symm.trans (by simp only [ifiredOk_p, h3d.out, cond_true])
  go_wp2
  go_ret
  exact rbk (by simp (maxDischargeDepth := 9))
 ·
  have h3d := Lib.hid (decide_eq_false h3)
  go_wp2
  go_loopw [18] (fun i18 wr4 => Below w.heap.size w wr4 ∧ Bx wr4 (w.heap.size) [.string a0.Name, .slice p0_1 a0.Rules.length c0_1] ∧ Bx wr4 (w.heap.size + 1) [.slice p1_0 a1.S.Items.length c1_0, .int .i64 a1.S.Next, .slice p1_2 a1.Fired.length c1_2, .slice p1_3 a1.Tasks.length c1_3, .slice p1_4 a1.Timers.length c1_4, .slice p1_5 a1.Undos.length c1_5, .int .i64 a1.State, .int .i64 a1.Now] ∧ ∃ (k4 : Nat), i18 = .int .i64 k4 ∧ k4 ≤ a1.Fired.length ∧ Hid (rounds (ifiredOk_p_b1 a0 a1) k4 () = .go ())) (fun i18 _ => a1.Fired.length - (intOf i18).toNat)
  case atStart => exact ⟨(by simp (maxDischargeDepth := 9)), (by simp (maxDischargeDepth := 9)), (by simp (maxDischargeDepth := 9)), 0, rfl, by omega, Lib.hid rfl⟩
  case round =>
   rename World => wr4
   obtain ⟨B5, Xbx1_5, Xbx2_5, k4, rfl, hk5, hy5⟩ := hrel
   have ⟨Xbx1_5k0, Xbx1_5k1⟩ := bx2 Xbx1_5
   have ⟨Xbx2_5k0, Xbx2_5k1, Xbx2_5k2, Xbx2_5k3, Xbx2_5k4, Xbx2_5k5, Xbx2_5k6, Xbx2_5k7⟩ := bx8 Xbx2_5
   by_cases hlt5 : k4 < a1.Fired.length
   ·
    have hi8 : k4 < a1.Fired.length := by first | assumption | omega
    obtain ⟨e7b, e7o, ue7_1, ue7_2, rfl, e7bl, e7ok, ⟨e7d0, e7d1, e7d2⟩, te7_1, te7_2⟩ := Sl.gtMatch s1_2 k4 hi8
    obtain ⟨pe7_1, ce7_1, rfl, hlpe7_1, -⟩ := te7_1.open
    obtain ⟨pe7_2, ce7_2, rfl, hlpe7_2, -⟩ := te7_2.open
    have e7E := Lib.hid (And.intro e7d0 (And.intro e7d1 e7d2))
    clear e7d0 e7d1 e7d2
    have ⟨e7d0n, e7d1n, e7d2n⟩ := cb3 B5 e7bl e7E.out
    cases h10 : ihasRule_p a0 (gt a1.Fired k4) with
    | true =>
     have ⟨h10a, h10b⟩ := ihasRule_true h10
     replace h10 := Lib.hid h10
     have hi12 : ((gt a1.Fired k4).Rule).toNat < a0.Rules.length := by first | assumption | omega
     obtain ⟨e11b, e11o, ue11_2, ue11_3, ue11_4, rfl, e11bl, e11ok, ⟨e11d0, e11d1, e11d2, e11d3, e11d4⟩, te11_2, te11_3, te11_4⟩ := Sl.gtRule s0_1 (((gt a1.Fired k4).Rule).toNat) hi12
     obtain ⟨pe11_2, ce11_2, rfl, hlpe11_2, -⟩ := te11_2.open
     obtain ⟨pe11_3, ce11_3, rfl, hlpe11_3, -⟩ := te11_3.open
     obtain ⟨pe11_4, ce11_4, rfl, hlpe11_4, -⟩ := te11_4.open
     have e11E := Lib.hid (And.intro e11d0 (And.intro e11d1 (And.intro e11d2 (And.intro e11d3 e11d4))))
     clear e11d0 e11d1 e11d2 e11d3 e11d4
     have ⟨e11d0n, e11d1n, e11d2n, e11d3n, e11d4n⟩ := cb5 B5 e11bl e11E.out
     go_wp2
     refine wp_region_noPanic ?_
     refine wp_region_held_drew (S := (fun w' => w'.cell? ⟨w.heap.size, 0, none⟩ = some (.string a0.Name) ∧ w'.cell? ⟨w.heap.size, 1, none⟩ = some (.slice (some ⟨e11b, e11o, none⟩) a0.Rules.length c0_1) ∧ w'.cell? ⟨w.heap.size + 1, 0, none⟩ = some (.slice p1_0 a1.S.Items.length c1_0) ∧ w'.cell? ⟨w.heap.size + 1, 1, none⟩ = some (.int .i64 a1.S.Next) ∧ w'.cell? ⟨w.heap.size + 1, 2, none⟩ = some (.slice (some ⟨e7b, e7o, none⟩) a1.Fired.length c1_2) ∧ w'.cell? ⟨w.heap.size + 1, 3, none⟩ = some (.slice p1_3 a1.Tasks.length c1_3) ∧ w'.cell? ⟨w.heap.size + 1, 4, none⟩ = some (.slice p1_4 a1.Timers.length c1_4) ∧ w'.cell? ⟨w.heap.size + 1, 5, none⟩ = some (.slice p1_5 a1.Undos.length c1_5) ∧ w'.cell? ⟨w.heap.size + 1, 6, none⟩ = some (.int .i64 a1.State) ∧ w'.cell? ⟨w.heap.size + 1, 7, none⟩ = some (.int .i64 a1.Now) ∧ w'.cell? ⟨wr4.heap.size, 0, none⟩ = some (.int .i64 ((gt a1.Fired k4).Rule)) ∧ w'.cell? ⟨wr4.heap.size, 1, none⟩ = some (.slice pe7_1 ((gt a1.Fired k4).Ids.length) ce7_1) ∧ w'.cell? ⟨wr4.heap.size, 2, none⟩ = some (.slice pe7_2 ((gt a1.Fired k4).Binds.length) ce7_2) ∧ w'.cell? ⟨e7b, e7o + k4 * 3, none⟩ = some (.int .i64 ((gt a1.Fired k4).Rule)) ∧ w'.cell? ⟨e7b, e7o + k4 * 3 + 1, none⟩ = some (.slice pe7_1 ((gt a1.Fired k4).Ids.length) ce7_1) ∧ w'.cell? ⟨e7b, e7o + k4 * 3 + 2, none⟩ = some (.slice pe7_2 ((gt a1.Fired k4).Binds.length) ce7_2) ∧ w'.cell? ⟨e11b, e11o + (((gt a1.Fired k4).Rule).toNat) * 5, none⟩ = some (.string ((gt a0.Rules (((gt a1.Fired k4).Rule).toNat)).Name)) ∧ w'.cell? ⟨e11b, e11o + (((gt a1.Fired k4).Rule).toNat) * 5 + 1, none⟩ = some (.int .i64 ((gt a0.Rules (((gt a1.Fired k4).Rule).toNat)).Sal)) ∧ w'.cell? ⟨e11b, e11o + (((gt a1.Fired k4).Rule).toNat) * 5 + 2, none⟩ = some (.slice pe11_2 ((gt a0.Rules (((gt a1.Fired k4).Rule).toNat)).Pats.length) ce11_2) ∧ w'.cell? ⟨e11b, e11o + (((gt a1.Fired k4).Rule).toNat) * 5 + 3, none⟩ = some (.slice pe11_3 ((gt a0.Rules (((gt a1.Fired k4).Rule).toNat)).Conds.length) ce11_3) ∧ w'.cell? ⟨e11b, e11o + (((gt a1.Fired k4).Rule).toNat) * 5 + 4, none⟩ = some (.slice pe11_4 ((gt a0.Rules (((gt a1.Fired k4).Rule).toNat)).Acts.length) ce11_4))) (by kernel_rfl) ?_ (fun hHeld0 => ?_)
     · go_keep
     refine tt 0 ?_
     simp only [Act.put, sa, s0, ss]
     refine tt 1 ?_
     simp only [Act.put, sa, s0, ss]
     refine wpAnyH_ready (rs := [2]) (by kernel_rfl) (by simp) ?_
     refine' AllReadyH.cons (o := _) ?hi1028_2 (fun K hK => ?_) AllReadyH.nil
     case hi1028_2 => simp only [List.getElem?_toArray, List.getElem?_cons_succ, List.getElem?_cons_zero]; exact rfl
     go_simp
     go_at_call 113
     refine (ihasRule_w a0 (gt a1.Fired k4) _ _ _ _ (s0_1.to (by simp (maxDischargeDepth := 9) [B5])) (te7_1.to (by simp (maxDischargeDepth := 9) [B5])) (te7_2.to (by simp (maxDischargeDepth := 9) [B5]))).mono ?_
     rintro e w13 ⟨rfl, hb13⟩
     have B13 := via (w0 := w) (by simp (maxDischargeDepth := 9) [B5]) hb13
     have U13 : Below wr4.heap.size wr4 w13 := via (by simp (maxDischargeDepth := 9)) hb13
     have Xbx1_13 := Xbx1_5.via U13
     clear Xbx1_5 Xbx1_5k0 Xbx1_5k1
     have ⟨Xbx1_13k0, Xbx1_13k1⟩ := bx2 Xbx1_13
     have Xbx2_13 := Xbx2_5.via U13
     clear Xbx2_5 Xbx2_5k0 Xbx2_5k1 Xbx2_5k2 Xbx2_5k3 Xbx2_5k4 Xbx2_5k5 Xbx2_5k6 Xbx2_5k7
     have ⟨Xbx2_13k0, Xbx2_13k1, Xbx2_13k2, Xbx2_13k3, Xbx2_13k4, Xbx2_13k5, Xbx2_13k6, Xbx2_13k7⟩ := bx8 Xbx2_13
     have Xbx9_13 : Bx w13 (wr4.heap.size) [.int .i64 ((gt a1.Fired k4).Rule), .slice pe7_1 ((gt a1.Fired k4).Ids.length) ce7_1, .slice pe7_2 ((gt a1.Fired k4).Binds.length) ce7_2] := Bx.via (by simp (maxDischargeDepth := 9)) hb13
     have ⟨Xbx9_13k0, Xbx9_13k1, Xbx9_13k2⟩ := bx3 Xbx9_13
     clear e7d0n e7d1n e7d2n
     have ⟨e7d0n, e7d1n, e7d2n⟩ := cb3 B13 e7bl e7E.out
     clear e11d0n e11d1n e11d2n e11d3n e11d4n
     have ⟨e11d0n, e11d1n, e11d2n, e11d3n, e11d4n⟩ := cb5 B13 e11bl e11E.out
     clear U13
     clear B5
     rw [h10.out]
     go_wp2_with fail
     refine hK.out _ _ ?_ (fun hHeld2 => ?_)
     · go_keep
     clear hK K hHeld0
     refine tt 3 ?_
     simp only [Act.put, sa, s0, ss]
     refine tt 4 ?_
     simp only [Act.put, sa, s0, ss]
     refine tt 5 ?_
     simp only [Act.put, sa, s0, ss]
     refine tt 6 ?_
     simp only [Act.put, sa, s0, ss]
     refine tt 7 ?_
     simp only [Act.put, sa, s0, ss]
     obtain ⟨bh14, eh14⟩ : ∃ b, ((((gt a1.Fired k4).Binds.length : Nat) : Int) == 0) = b := ⟨_, rfl⟩
     have nh14 : ((((gt a1.Fired k4).Binds.length : Nat) : Int) != 0) = !bh14 := by rw [← eh14]; rfl
     rcases Bool.eq_false_or_eq_true bh14 with h14 | h14
     ·
      have gh14 : Hid ((gt a1.Fired k4).Binds.length = 0) := Lib.hid (by have z := eh14.trans h14; simp only [beq_iff_eq] at z; omega)
      refine tt 8 ?_
      simp only [Act.put, sa, s0, ss]
      refine tt 9 ?_
      simp only [Act.put, sa, s0, ss]
      refine tt 10 ?_
      simp only [Act.put, sa, s0, ss]
      refine tt 11 ?_
      simp only [Act.put, sa, s0, ss]
      refine tt 12 ?_
      simp only [Act.put, sa, s0, ss]
      refine tt 13 ?_
      simp only [Act.put, sa, s0, ss]
      refine tt 14 ?_
      simp only [Act.put, sa, s0, ss]
      refine tt 15 ?_
      simp only [Act.put, sa, s0, ss]
      refine tt 16 ?_
      simp only [Act.put, sa, s0, ss]
      refine tt 17 ?_
      simp only [Act.put, sa, s0, ss]
      refine tt 18 ?_
      simp only [Act.put, sa, s0, ss]
      refine tt 19 ?_
      simp only [Act.put, sa, s0, ss]
      refine wpAnyH_ready (rs := [20]) (by kernel_rfl) (by simp) ?_
      refine' AllReadyH.cons (o := _) ?hi1029_20 (fun K hK => ?_) AllReadyH.nil
      case hi1029_20 => simp only [List.getElem?_toArray, List.getElem?_cons_succ, List.getElem?_cons_zero]; exact rfl
      go_simp
      go_at_call 145
      refine (iPosCount_w (gt a0.Rules (((gt a1.Fired k4).Rule).toNat)) _ _ _ _ (te11_2.to (by simp (maxDischargeDepth := 9) [B13])) (te11_3.to (by simp (maxDischargeDepth := 9) [B13])) (te11_4.to (by simp (maxDischargeDepth := 9) [B13]))).mono ?_
      rintro e w15 ⟨rfl, hb15⟩
      have B15 := via (w0 := w) (by simp (maxDischargeDepth := 9) [B13]) hb15
      have U15 : Below w13.heap.size w13 w15 := via (by simp (maxDischargeDepth := 9)) hb15
      have Xbx1_15 := Xbx1_13.via U15
      clear Xbx1_13 Xbx1_13k0 Xbx1_13k1
      have ⟨Xbx1_15k0, Xbx1_15k1⟩ := bx2 Xbx1_15
      have Xbx2_15 := Xbx2_13.via U15
      clear Xbx2_13 Xbx2_13k0 Xbx2_13k1 Xbx2_13k2 Xbx2_13k3 Xbx2_13k4 Xbx2_13k5 Xbx2_13k6 Xbx2_13k7
      have ⟨Xbx2_15k0, Xbx2_15k1, Xbx2_15k2, Xbx2_15k3, Xbx2_15k4, Xbx2_15k5, Xbx2_15k6, Xbx2_15k7⟩ := bx8 Xbx2_15
      have Xbx9_15 := Xbx9_13.via U15
      clear Xbx9_13 Xbx9_13k0 Xbx9_13k1 Xbx9_13k2
      have ⟨Xbx9_15k0, Xbx9_15k1, Xbx9_15k2⟩ := bx3 Xbx9_15
      clear e7d0n e7d1n e7d2n
      have ⟨e7d0n, e7d1n, e7d2n⟩ := cb3 B15 e7bl e7E.out
      clear e11d0n e11d1n e11d2n e11d3n e11d4n
      have ⟨e11d0n, e11d1n, e11d2n, e11d3n, e11d4n⟩ := cb5 B15 e11bl e11E.out
      clear U15
      clear B13
      go_wp2_with fail
      refine hK.out _ _ ?_ (fun hHeld20 => ?_)
      · go_keep
      clear hK K hHeld2
      obtain ⟨bh16, eh16⟩ : ∃ b, ((((gt a1.Fired k4).Ids.length : Nat) : Int) == (iPosCount_p (gt a0.Rules (((gt a1.Fired k4).Rule).toNat)))) = b := ⟨_, rfl⟩
      have nh16 : ((((gt a1.Fired k4).Ids.length : Nat) : Int) != (iPosCount_p (gt a0.Rules (((gt a1.Fired k4).Rule).toNat)))) = !bh16 := by rw [← eh16]; rfl
      rcases Bool.eq_false_or_eq_true bh16 with h16 | h16
      ·
       refine tt 21 ?_
       simp only [Act.put, sa, s0, ss]
       refine tt 22 ?_
       simp only [Act.put, sa, s0, ss]
       refine wpAnyH_done (by kernel_rfl) ?_ _
       clear hHeld20
       refine NoPanic.normal ?_
       go_wp2
       go_loopw [48] (fun i48 wr17 => Below w.heap.size w wr17 ∧ Bx wr17 (w.heap.size) [.string a0.Name, .slice (some ⟨e11b, e11o, none⟩) a0.Rules.length c0_1] ∧ Bx wr17 (w.heap.size + 1) [.slice p1_0 a1.S.Items.length c1_0, .int .i64 a1.S.Next, .slice (some ⟨e7b, e7o, none⟩) a1.Fired.length c1_2, .slice p1_3 a1.Tasks.length c1_3, .slice p1_4 a1.Timers.length c1_4, .slice p1_5 a1.Undos.length c1_5, .int .i64 a1.State, .int .i64 a1.Now] ∧ Bx wr17 (wr4.heap.size) [.int .i64 ((gt a1.Fired k4).Rule), .slice pe7_1 ((gt a1.Fired k4).Ids.length) ce7_1, .slice pe7_2 ((gt a1.Fired k4).Binds.length) ce7_2] ∧ ∃ (k17 : Nat), i48 = .int .i64 k17 ∧ k17 ≤ (gt a1.Fired k4).Ids.length ∧ Hid (rounds (ifiredOk_p_b2 a0 a1 k4) k17 () = .go ())) (fun i48 _ => ((gt a1.Fired k4).Ids.length) - (intOf i48).toNat)
       case atStart => exact ⟨(by simp (maxDischargeDepth := 9) [B15]), (by simp (maxDischargeDepth := 9) [Xbx1_15]), (by simp (maxDischargeDepth := 9) [Xbx2_15]), (by simp (maxDischargeDepth := 9) [Xbx9_15]), 0, rfl, by omega, Lib.hid rfl⟩
       case round =>
        rename World => wr17
        clear Xbx1_15 Xbx1_15k0 Xbx1_15k1 Xbx2_15 Xbx2_15k0 Xbx2_15k1 Xbx2_15k2 Xbx2_15k3 Xbx2_15k4 Xbx2_15k5 Xbx2_15k6 Xbx2_15k7 Xbx9_15 Xbx9_15k0 Xbx9_15k1 Xbx9_15k2 B15
        obtain ⟨B18, Xbx1_18, Xbx2_18, Xbx9_18, k17, rfl, hk18, hy18⟩ := hrel
        have ⟨Xbx1_18k0, Xbx1_18k1⟩ := bx2 Xbx1_18
        have ⟨Xbx2_18k0, Xbx2_18k1, Xbx2_18k2, Xbx2_18k3, Xbx2_18k4, Xbx2_18k5, Xbx2_18k6, Xbx2_18k7⟩ := bx8 Xbx2_18
        have ⟨Xbx9_18k0, Xbx9_18k1, Xbx9_18k2⟩ := bx3 Xbx9_18
        clear e7d0n e7d1n e7d2n
        have ⟨e7d0n, e7d1n, e7d2n⟩ := cb3 B18 e7bl e7E.out
        clear e11d0n e11d1n e11d2n e11d3n e11d4n
        have ⟨e11d0n, e11d1n, e11d2n, e11d3n, e11d4n⟩ := cb5 B18 e11bl e11E.out
        by_cases hlt18 : k17 < (gt a1.Fired k4).Ids.length
        ·
         have hi21 : k17 < (gt a1.Fired k4).Ids.length := by first | assumption | omega | (have := gh14.out; omega)
         obtain ⟨e20b, e20o, rfl, e20bl, e20ok, e20d0⟩ := Sl.gtInt te7_1 k17 hi21
         have e20E := Lib.hid e20d0
         clear e20d0
         have e20d0n := cb1 B18 e20bl e20E.out
         go_wp2_with fail
         refine (iFactOf_w a1.S (gt ((gt a1.Fired k4).Ids) k17) _ _ (s1_0.to (by simp (maxDischargeDepth := 9) [B18])) (Nat.le_trans (szn_Inst_S a1) hz_a1)).mono ?_
         rintro e w22 ⟨u22_0, rfl, su22_0, hb22⟩
         obtain ⟨pu22_0, cu22_0, rfl, hlu22_0, -⟩ := su22_0.open
         have B22 := via (w0 := w) (by simp (maxDischargeDepth := 9) [B18]) hb22
         have U22 : Below wr17.heap.size wr17 w22 := via (by simp (maxDischargeDepth := 9)) hb22
         have Xbx1_22 := Xbx1_18.via U22
         clear Xbx1_18 Xbx1_18k0 Xbx1_18k1
         have ⟨Xbx1_22k0, Xbx1_22k1⟩ := bx2 Xbx1_22
         have Xbx2_22 := Xbx2_18.via U22
         clear Xbx2_18 Xbx2_18k0 Xbx2_18k1 Xbx2_18k2 Xbx2_18k3 Xbx2_18k4 Xbx2_18k5 Xbx2_18k6 Xbx2_18k7
         have ⟨Xbx2_22k0, Xbx2_22k1, Xbx2_22k2, Xbx2_22k3, Xbx2_22k4, Xbx2_22k5, Xbx2_22k6, Xbx2_22k7⟩ := bx8 Xbx2_22
         have Xbx9_22 := Xbx9_18.via U22
         clear Xbx9_18 Xbx9_18k0 Xbx9_18k1 Xbx9_18k2
         have ⟨Xbx9_22k0, Xbx9_22k1, Xbx9_22k2⟩ := bx3 Xbx9_22
         clear e7d0n e7d1n e7d2n
         have ⟨e7d0n, e7d1n, e7d2n⟩ := cb3 B22 e7bl e7E.out
         clear e11d0n e11d1n e11d2n e11d3n e11d4n
         have ⟨e11d0n, e11d1n, e11d2n, e11d3n, e11d4n⟩ := cb5 B22 e11bl e11E.out
         clear e20d0n
         have e20d0n := cb1 B22 e20bl e20E.out
         clear U22
         clear B18
         rcases Bool.eq_false_or_eq_true ((iFactOf_p a1.S (gt ((gt a1.Fired k4).Ids) k17)).2) with h24 | h24
         ·
          have q25 : ifiredOk_p_b2 a0 a1 k4 k17 () = .go () := by simp only [ifiredOk_p_b2, h24, cond_true]
          replace q25 := Lib.hid (rounds_next hy18.out q25)
          go_wp2
          go_roundw
          case rel => exact ⟨(by simp (maxDischargeDepth := 9) [B22]), (by simp (maxDischargeDepth := 9) [Xbx1_22]), (by simp (maxDischargeDepth := 9) [Xbx2_22]), (by simp (maxDischargeDepth := 9) [Xbx9_22]), k17 + 1, by go_num, by omega, q25⟩
          case measure => simp [intOf]; omega
         ·
          have q26 : ifiredOk_p_b2 a0 a1 k4 k17 () = .ret false := by simp only [ifiredOk_p_b2, h24, cond_false]
          have q27 := rounds_ret hlt18 hy18.out q26
          have q28 : ifiredOk_p_b1 a0 a1 k4 () = .ret false := by simp only [ifiredOk_p_b1, h10.out, eh14, h14, eh16, h16, q27, cond_true]
          have q29 := rounds_ret hlt5 hy5.out q28
          obtain rfl : r = false := hr.out.symm.trans (by simp only [ifiredOk_p, h3d.out, q29, cond_false])
          go_wp2
          go_ret
          exact rbk (by simp (maxDischargeDepth := 9) [B22])
        ·
         obtain rfl : (gt a1.Fired k4).Ids.length = k17 := by omega
         have q30 : ifiredOk_p_b1 a0 a1 k4 () = .go () := by simp only [ifiredOk_p_b1, h10.out, eh14, h14, eh16, h16, hy18.out, cond_true]
         replace q30 := Lib.hid (rounds_next hy5.out q30)
         go_wp2
         go_roundw
         case rel => exact ⟨(by simp (maxDischargeDepth := 9) [B18]), (by simp (maxDischargeDepth := 9) [Xbx1_18]), (by simp (maxDischargeDepth := 9) [Xbx2_18]), k4 + 1, by go_num, by omega, q30⟩
         case measure => simp [intOf]; omega
      ·
       refine tt 21 ?_
       simp only [Act.put, sa, s0, ss]
       refine tt 22 ?_
       simp only [Act.put, sa, s0, ss]
       refine wpAnyH_done (by kernel_rfl) ?_ _
       clear hHeld20
       refine NoPanic.normal ?_
       have q31 : ifiredOk_p_b1 a0 a1 k4 () = .ret false := by simp only [ifiredOk_p_b1, h10.out, eh14, h14, eh16, h16, cond_true, cond_false]
       have q32 := rounds_ret hlt5 hy5.out q31
       obtain rfl : r = false := hr.out.symm.trans (by simp only [ifiredOk_p, h3d.out, q32, cond_false])
       go_wp2
       go_ret
       exact rbk (by simp (maxDischargeDepth := 9) [B15])
     ·
      refine tt 8 ?_
      simp only [Act.put, sa, s0, ss]
      refine tt 9 ?_
      simp only [Act.put, sa, s0, ss]
      refine tt 10 ?_
      simp only [Act.put, sa, s0, ss]
      refine tu 11 ?_
      simp only [Act.put, sa, s0, ss]
      refine tu 12 ?_
      simp only [Act.put, sa, s0, ss]
      refine tu 13 ?_
      simp only [Act.put, sa, s0, ss]
      refine tu 14 ?_
      simp only [Act.put, sa, s0, ss]
      refine tu 15 ?_
      simp only [Act.put, sa, s0, ss]
      refine tu 16 ?_
      simp only [Act.put, sa, s0, ss]
      refine tu 17 ?_
      simp only [Act.put, sa, s0, ss]
      refine tu 18 ?_
      simp only [Act.put, sa, s0, ss]
      refine tu 19 ?_
      simp only [Act.put, sa, s0, ss]
      refine tu 20 ?_
      simp only [Act.put, sa, s0, ss]
      refine tu 21 ?_
      simp only [Act.put, sa, s0, ss]
      refine tt 22 ?_
      simp only [Act.put, sa, s0, ss]
      refine wpAnyH_done (by kernel_rfl) ?_ _
      clear hHeld2
      refine NoPanic.normal ?_
      have q33 : ifiredOk_p_b1 a0 a1 k4 () = .ret false := by simp only [ifiredOk_p_b1, h10.out, eh14, h14, cond_true, cond_false]
      have q34 := rounds_ret hlt5 hy5.out q33
      obtain rfl : r = false := hr.out.symm.trans (by simp only [ifiredOk_p, h3d.out, q34, cond_false])
      go_wp2
      go_ret
      exact rbk (by simp (maxDischargeDepth := 9) [B13])
    | false =>
     replace h10 := Lib.hid h10
     go_wp2
     refine wp_region_noPanic ?_
     refine wp_region_held_drew (S := (fun w' => w'.cell? ⟨w.heap.size, 0, none⟩ = some (.string a0.Name) ∧ w'.cell? ⟨w.heap.size, 1, none⟩ = some (.slice p0_1 a0.Rules.length c0_1) ∧ w'.cell? ⟨w.heap.size + 1, 0, none⟩ = some (.slice p1_0 a1.S.Items.length c1_0) ∧ w'.cell? ⟨w.heap.size + 1, 1, none⟩ = some (.int .i64 a1.S.Next) ∧ w'.cell? ⟨w.heap.size + 1, 2, none⟩ = some (.slice (some ⟨e7b, e7o, none⟩) a1.Fired.length c1_2) ∧ w'.cell? ⟨w.heap.size + 1, 3, none⟩ = some (.slice p1_3 a1.Tasks.length c1_3) ∧ w'.cell? ⟨w.heap.size + 1, 4, none⟩ = some (.slice p1_4 a1.Timers.length c1_4) ∧ w'.cell? ⟨w.heap.size + 1, 5, none⟩ = some (.slice p1_5 a1.Undos.length c1_5) ∧ w'.cell? ⟨w.heap.size + 1, 6, none⟩ = some (.int .i64 a1.State) ∧ w'.cell? ⟨w.heap.size + 1, 7, none⟩ = some (.int .i64 a1.Now) ∧ w'.cell? ⟨wr4.heap.size, 0, none⟩ = some (.int .i64 ((gt a1.Fired k4).Rule)) ∧ w'.cell? ⟨wr4.heap.size, 1, none⟩ = some (.slice pe7_1 ((gt a1.Fired k4).Ids.length) ce7_1) ∧ w'.cell? ⟨wr4.heap.size, 2, none⟩ = some (.slice pe7_2 ((gt a1.Fired k4).Binds.length) ce7_2) ∧ w'.cell? ⟨e7b, e7o + k4 * 3, none⟩ = some (.int .i64 ((gt a1.Fired k4).Rule)) ∧ w'.cell? ⟨e7b, e7o + k4 * 3 + 1, none⟩ = some (.slice pe7_1 ((gt a1.Fired k4).Ids.length) ce7_1) ∧ w'.cell? ⟨e7b, e7o + k4 * 3 + 2, none⟩ = some (.slice pe7_2 ((gt a1.Fired k4).Binds.length) ce7_2))) (by kernel_rfl) ?_ (fun hHeld0 => ?_)
     · go_keep
     refine tt 0 ?_
     simp only [Act.put, sa, s0, ss]
     refine tt 1 ?_
     simp only [Act.put, sa, s0, ss]
     refine wpAnyH_ready (rs := [2]) (by kernel_rfl) (by simp) ?_
     refine' AllReadyH.cons (o := _) ?hi1032_2 (fun K hK => ?_) AllReadyH.nil
     case hi1032_2 => simp only [List.getElem?_toArray, List.getElem?_cons_succ, List.getElem?_cons_zero]; exact rfl
     go_simp
     go_at_call 113
     refine (ihasRule_w a0 (gt a1.Fired k4) _ _ _ _ (s0_1.to (by simp (maxDischargeDepth := 9) [B5])) (te7_1.to (by simp (maxDischargeDepth := 9) [B5])) (te7_2.to (by simp (maxDischargeDepth := 9) [B5]))).mono ?_
     rintro e w35 ⟨rfl, hb35⟩
     have B35 := via (w0 := w) (by simp (maxDischargeDepth := 9) [B5]) hb35
     have U35 : Below wr4.heap.size wr4 w35 := via (by simp (maxDischargeDepth := 9)) hb35
     have Xbx1_35 := Xbx1_5.via U35
     clear Xbx1_5 Xbx1_5k0 Xbx1_5k1
     have ⟨Xbx1_35k0, Xbx1_35k1⟩ := bx2 Xbx1_35
     have Xbx2_35 := Xbx2_5.via U35
     clear Xbx2_5 Xbx2_5k0 Xbx2_5k1 Xbx2_5k2 Xbx2_5k3 Xbx2_5k4 Xbx2_5k5 Xbx2_5k6 Xbx2_5k7
     have ⟨Xbx2_35k0, Xbx2_35k1, Xbx2_35k2, Xbx2_35k3, Xbx2_35k4, Xbx2_35k5, Xbx2_35k6, Xbx2_35k7⟩ := bx8 Xbx2_35
     have Xbx9_35 : Bx w35 (wr4.heap.size) [.int .i64 ((gt a1.Fired k4).Rule), .slice pe7_1 ((gt a1.Fired k4).Ids.length) ce7_1, .slice pe7_2 ((gt a1.Fired k4).Binds.length) ce7_2] := Bx.via (by simp (maxDischargeDepth := 9)) hb35
     have ⟨Xbx9_35k0, Xbx9_35k1, Xbx9_35k2⟩ := bx3 Xbx9_35
     clear e7d0n e7d1n e7d2n
     have ⟨e7d0n, e7d1n, e7d2n⟩ := cb3 B35 e7bl e7E.out
     clear U35
     clear B5
     rw [h10.out]
     go_wp2_with fail
     refine hK.out _ _ ?_ (fun hHeld2 => ?_)
     · go_keep
     clear hK K hHeld0
     refine tt 3 ?_
     simp only [Act.put, sa, s0, ss]
     refine tt 4 ?_
     simp only [Act.put, sa, s0, ss]
     refine tu 5 ?_
     simp only [Act.put, sa, s0, ss]
     refine tu 6 ?_
     simp only [Act.put, sa, s0, ss]
     refine tu 7 ?_
     simp only [Act.put, sa, s0, ss]
     refine tu 8 ?_
     simp only [Act.put, sa, s0, ss]
     refine tt 9 ?_
     simp only [Act.put, sa, s0, ss]
     refine tt 10 ?_
     simp only [Act.put, sa, s0, ss]
     refine tu 11 ?_
     simp only [Act.put, sa, s0, ss]
     refine tu 12 ?_
     simp only [Act.put, sa, s0, ss]
     refine tu 13 ?_
     simp only [Act.put, sa, s0, ss]
     refine tu 14 ?_
     simp only [Act.put, sa, s0, ss]
     refine tu 15 ?_
     simp only [Act.put, sa, s0, ss]
     refine tu 16 ?_
     simp only [Act.put, sa, s0, ss]
     refine tu 17 ?_
     simp only [Act.put, sa, s0, ss]
     refine tu 18 ?_
     simp only [Act.put, sa, s0, ss]
     refine tu 19 ?_
     simp only [Act.put, sa, s0, ss]
     refine tu 20 ?_
     simp only [Act.put, sa, s0, ss]
     refine tu 21 ?_
     simp only [Act.put, sa, s0, ss]
     refine tt 22 ?_
     simp only [Act.put, sa, s0, ss]
     refine wpAnyH_done (by kernel_rfl) ?_ _
     clear hHeld2
     refine NoPanic.normal ?_
     have q36 : ifiredOk_p_b1 a0 a1 k4 () = .ret false := by simp only [ifiredOk_p_b1, h10.out, cond_false]
     have q37 := rounds_ret hlt5 hy5.out q36
     obtain rfl : r = false := hr.out.symm.trans (by simp only [ifiredOk_p, h3d.out, q37, cond_false])
     go_wp2
     go_ret
     exact rbk (by simp (maxDischargeDepth := 9) [B35])
   ·
    obtain rfl : a1.Fired.length = k4 := by omega
    obtain rfl : r = true := hr.out.symm.trans (by simp only [ifiredOk_p, h3d.out, hy5.out, cond_false])
    go_wp2
    go_ret
    exact rbk (by simp (maxDischargeDepth := 9) [B5])

-- impl.isOpen
def iisOpen_p (a0 : TaskD) : Bool := bif (a0.State == 1) then (true) else (bif (a0.State == 2) then (true) else (false))
set_option maxHeartbeats 1000000 in
set_option maxRecDepth 20000 in
theorem iisOpen_w (a0 : TaskD) (v0_1 : Value) (w : World) (s0_1 : Sl w a0.F.Fields v0_1) :
    Calls Tryz.prog 81 #[.agg #[.string a0.F.Kind, v0_1, .string a0.Undo, .int .i64 a0.State, .int .i64 a0.Tries, .int .i64 a0.Due, .int .i64 a0.V.K, .int .i64 a0.V.N, .string a0.V.S]] w (RetB (iisOpen_p a0) w) := by
 obtain ⟨p0_1, c0_1, rfl, hl0_1, -, hk0_1, -⟩ := s0_1.open
 obtain ⟨r, hr⟩ : ∃ r, iisOpen_p a0 = r := ⟨_, rfl⟩
 rw [hr]
 replace hr := Lib.hid hr
 go_enter Tryz.func81, Tryz.ntmps81
 obtain ⟨bh2, eh2⟩ : ∃ b, (a0.State == 1) = b := ⟨_, rfl⟩
 rcases Bool.eq_false_or_eq_true bh2 with h2 | h2
 ·
  obtain rfl : r = true := hr.out.symm.trans (by simp only [iisOpen_p, eh2, h2, cond_true])
  go_wp2
  go_ret
  exact rbk (by simp (maxDischargeDepth := 9))
 ·
  obtain ⟨bh3, eh3⟩ : ∃ b, (a0.State == 2) = b := ⟨_, rfl⟩
  rcases Bool.eq_false_or_eq_true bh3 with h3 | h3
  ·
   obtain rfl : r = true := hr.out.symm.trans (by simp only [iisOpen_p, eh2, h2, eh3, h3, cond_true, cond_false])
   go_wp2
   go_ret
   exact rbk (by simp (maxDischargeDepth := 9))
  ·
   obtain rfl : r = false := hr.out.symm.trans (by simp only [iisOpen_p, eh2, h2, eh3, h3, cond_false])
   go_wp2
   go_ret
   exact rbk (by simp (maxDischargeDepth := 9))

-- impl.WorkAt$1
def iWorkAt_1_p (a0 : WorkD) (b0 : ByteArray) : Bool := bif (a0.Name.toList == b0.toList) then (true) else (false)
set_option maxHeartbeats 1000000 in
set_option maxRecDepth 20000 in
theorem iWorkAt_1_w (a0 : WorkD) (b0 : ByteArray) (v0_2 : Value) (v0_4 : Value) (v0_5 : Value) (v0_6 : Value) (v0_7 : Value) (g0 : Nat) (w : World) (s0_2 : Sl w a0.X.S.Items v0_2) (s0_4 : Sl w a0.X.Fired v0_4) (s0_5 : Sl w a0.X.Tasks v0_5) (s0_6 : Sl w a0.X.Timers v0_6) (s0_7 : Sl w a0.X.Undos v0_7) (hg0 : Bx w g0 [.string b0]) :
    Calls Tryz.prog 105 #[.agg #[.string a0.Name, .string a0.Def, v0_2, .int .i64 a0.X.S.Next, v0_4, v0_5, v0_6, v0_7, .int .i64 a0.X.State, .int .i64 a0.X.Now], .pointer (some ⟨g0, 0, none⟩)] w (RetB (iWorkAt_1_p a0 b0) w) := by
 obtain ⟨p0_2, c0_2, rfl, hl0_2, -, hk0_2, -⟩ := s0_2.open
 obtain ⟨p0_4, c0_4, rfl, hl0_4, -, hk0_4, -⟩ := s0_4.open
 obtain ⟨p0_5, c0_5, rfl, hl0_5, -, hk0_5, -⟩ := s0_5.open
 obtain ⟨p0_6, c0_6, rfl, hl0_6, -, hk0_6, -⟩ := s0_6.open
 obtain ⟨p0_7, c0_7, rfl, hl0_7, -, hk0_7, -⟩ := s0_7.open
 have hg0k0 := hg0.c 0 _ rfl
 obtain ⟨r, hr⟩ : ∃ r, iWorkAt_1_p a0 b0 = r := ⟨_, rfl⟩
 rw [hr]
 replace hr := Lib.hid hr
 go_enter Tryz.func105, Tryz.ntmps105
 obtain ⟨bh2, eh2⟩ : ∃ b, (a0.Name.toList == b0.toList) = b := ⟨_, rfl⟩
 rcases Bool.eq_false_or_eq_true bh2 with h2 | h2
 ·
  obtain rfl : r = true := hr.out.symm.trans (by simp only [iWorkAt_1_p, eh2, h2, cond_true])
  go_wp2
  go_ret
  exact rbk (by simp (maxDischargeDepth := 9))
 ·
  obtain rfl : r = false := hr.out.symm.trans (by simp only [iWorkAt_1_p, eh2, h2, cond_false])
  go_wp2
  go_ret
  exact rbk (by simp (maxDischargeDepth := 9))

-- slices.IndexFunc[[]impl.Work,impl.Work]@impl.WorkAt$1
def slices_IndexFunc_iWork_iWorkAt_1_p_b1 (a0 : List WorkD) (b0 : ByteArray) (k1 : Nat) (_ : Unit) : St (Int) (Unit) := bif iWorkAt_1_p (gt a0 k1) b0 then (.ret (k1 : Int)) else (.go ())
def slices_IndexFunc_iWork_iWorkAt_1_p (a0 : List WorkD) (b0 : ByteArray) : Int := match rounds (slices_IndexFunc_iWork_iWorkAt_1_p_b1 a0 b0) a0.length () with | .ret r => r | .brk _ => default | .go _ => (-1 : Int)
set_option maxHeartbeats 1000000 in
set_option maxRecDepth 20000 in
theorem slices_IndexFunc_iWork_iWorkAt_1_w (a0 : List WorkD) (b0 : ByteArray) (v0_0 : Value) (g0 : Nat) (w : World) (s0_0 : Sl w a0 v0_0) (hg0 : Bx w g0 [.string b0]) :
    Calls Tryz.prog 104 #[v0_0, .func (.func 105) #[] #[.pointer (some ⟨g0, 0, none⟩)]] w (RetI (slices_IndexFunc_iWork_iWorkAt_1_p a0 b0) w) := by
 obtain ⟨p0_0, c0_0, rfl, hl0_0, -, hk0_0, -⟩ := s0_0.open
 have hg0k0 := hg0.c 0 _ rfl
 obtain ⟨r, hr⟩ : ∃ r, slices_IndexFunc_iWork_iWorkAt_1_p a0 b0 = r := ⟨_, rfl⟩
 rw [hr]
 replace hr := Lib.hid hr
 go_enter Tryz.func104, Tryz.ntmps104
 go_wp2
 go_loopw [8] (fun i8 wr1 => Below w.heap.size w wr1 ∧ Bx wr1 (g0) [.string b0] ∧ ∃ (k1 : Nat), i8 = .int .i64 k1 ∧ k1 ≤ a0.length ∧ Hid (rounds (slices_IndexFunc_iWork_iWorkAt_1_p_b1 a0 b0) k1 () = .go ())) (fun i8 _ => a0.length - (intOf i8).toNat)
 case atStart => exact ⟨(by simp (maxDischargeDepth := 9)), (by simp (maxDischargeDepth := 9) [hg0]), 0, rfl, by omega, Lib.hid rfl⟩
 case round =>
  rename World => wr1
  obtain ⟨B2, Xg0_2, k1, rfl, hk2, hy2⟩ := hrel
  have Xg0_2k0 := bx1 Xg0_2
  by_cases hlt2 : k1 < a0.length
  ·
   have hi5 : k1 < a0.length := by first | assumption | omega
   obtain ⟨e4b, e4o, ue4_2, ue4_4, ue4_5, ue4_6, ue4_7, rfl, e4bl, e4ok, ⟨e4d0, e4d1, e4d2, e4d3, e4d4, e4d5, e4d6, e4d7, e4d8, e4d9⟩, te4_2, te4_4, te4_5, te4_6, te4_7⟩ := Sl.gtWork s0_0 k1 hi5
   obtain ⟨pe4_2, ce4_2, rfl, hlpe4_2, -⟩ := te4_2.open
   obtain ⟨pe4_4, ce4_4, rfl, hlpe4_4, -⟩ := te4_4.open
   obtain ⟨pe4_5, ce4_5, rfl, hlpe4_5, -⟩ := te4_5.open
   obtain ⟨pe4_6, ce4_6, rfl, hlpe4_6, -⟩ := te4_6.open
   obtain ⟨pe4_7, ce4_7, rfl, hlpe4_7, -⟩ := te4_7.open
   have e4E := Lib.hid (And.intro e4d0 (And.intro e4d1 (And.intro e4d2 (And.intro e4d3 (And.intro e4d4 (And.intro e4d5 (And.intro e4d6 (And.intro e4d7 (And.intro e4d8 e4d9)))))))))
   clear e4d0 e4d1 e4d2 e4d3 e4d4 e4d5 e4d6 e4d7 e4d8 e4d9
   have ⟨e4d0n, e4d1n, e4d2n, e4d3n, e4d4n, e4d5n, e4d6n, e4d7n, e4d8n, e4d9n⟩ := cb10 B2 e4bl e4E.out
   go_wp2_with fail
   refine (iWorkAt_1_w (gt a0 k1) b0 _ _ _ _ _ _ _ (te4_2.to (by simp (maxDischargeDepth := 9) [B2])) (te4_4.to (by simp (maxDischargeDepth := 9) [B2])) (te4_5.to (by simp (maxDischargeDepth := 9) [B2])) (te4_6.to (by simp (maxDischargeDepth := 9) [B2])) (te4_7.to (by simp (maxDischargeDepth := 9) [B2])) (by simp (maxDischargeDepth := 9) [Xg0_2])).mono ?_
   rintro e w6 ⟨rfl, hb6⟩
   have B6 := via (w0 := w) (by simp (maxDischargeDepth := 9) [B2]) hb6
   have U6 : Below wr1.heap.size wr1 w6 := via (by simp (maxDischargeDepth := 9)) hb6
   have Xg0_6 := Xg0_2.via U6
   clear Xg0_2 Xg0_2k0
   have Xg0_6k0 := bx1 Xg0_6
   clear e4d0n e4d1n e4d2n e4d3n e4d4n e4d5n e4d6n e4d7n e4d8n e4d9n
   have ⟨e4d0n, e4d1n, e4d2n, e4d3n, e4d4n, e4d5n, e4d6n, e4d7n, e4d8n, e4d9n⟩ := cb10 B6 e4bl e4E.out
   clear U6
   clear B2
   cases h7 : iWorkAt_1_p (gt a0 k1) b0 with
   | true =>
    replace h7 := Lib.hid h7
    have q8 : slices_IndexFunc_iWork_iWorkAt_1_p_b1 a0 b0 k1 () = .ret (k1 : Int) := by simp only [slices_IndexFunc_iWork_iWorkAt_1_p_b1, h7.out, cond_true]
    have q9 := rounds_ret hlt2 hy2.out q8
    obtain rfl : r = (k1 : Int) := hr.out.symm.trans (by simp only [slices_IndexFunc_iWork_iWorkAt_1_p, q9])
    go_wp2
    go_ret
    exact ⟨by first | rfl | simp, (by simp (maxDischargeDepth := 9) [B6])⟩
   | false =>
    replace h7 := Lib.hid h7
    have q10 : slices_IndexFunc_iWork_iWorkAt_1_p_b1 a0 b0 k1 () = .go () := by simp only [slices_IndexFunc_iWork_iWorkAt_1_p_b1, h7.out, cond_false]
    replace q10 := Lib.hid (rounds_next hy2.out q10)
    go_wp2
    go_roundw
    case rel => exact ⟨(by simp (maxDischargeDepth := 9) [B6]), (by simp (maxDischargeDepth := 9) [Xg0_6]), k1 + 1, by go_num, by omega, q10⟩
    case measure => simp [intOf]; omega
  ·
   obtain rfl : a0.length = k1 := by omega
   obtain rfl : r = (-1 : Int) := hr.out.symm.trans (by simp only [slices_IndexFunc_iWork_iWorkAt_1_p, hy2.out])
   go_wp2
   go_ret
   exact ⟨by first | rfl | simp, (by simp (maxDischargeDepth := 9) [B2])⟩

-- impl.WorkAt
def iWorkAt_p (a0 : BookD) (a1 : ByteArray) : Int := (slices_IndexFunc_iWork_iWorkAt_1_p a0.Works a1)
set_option maxHeartbeats 1000000 in
set_option maxRecDepth 20000 in
theorem iWorkAt_w (a0 : BookD) (a1 : ByteArray) (v0_0 : Value) (v0_1 : Value) (w : World) (s0_0 : Sl w a0.Defs v0_0) (s0_1 : Sl w a0.Works v0_1) :
    Calls Tryz.prog 56 #[.agg #[v0_0, v0_1, .int .i64 a0.Now, .int .i64 a0.Ring], .string a1] w (RetI (iWorkAt_p a0 a1) w) := by
 obtain ⟨p0_0, c0_0, rfl, hl0_0, -, hk0_0, -⟩ := s0_0.open
 obtain ⟨p0_1, c0_1, rfl, hl0_1, -, hk0_1, -⟩ := s0_1.open
 obtain ⟨r, hr⟩ : ∃ r, iWorkAt_p a0 a1 = r := ⟨_, rfl⟩
 rw [hr]
 replace hr := Lib.hid hr
 go_enter Tryz.func56, Tryz.ntmps56
 go_wp2_with fail
 refine (slices_IndexFunc_iWork_iWorkAt_1_w a0.Works a1 _ _ _ (s0_1.to (by simp (maxDischargeDepth := 9))) (by simp (maxDischargeDepth := 9))).mono ?_
 rintro e w3 ⟨rfl, hb3⟩
 have B3 := via (w0 := w) (by simp (maxDischargeDepth := 9)) hb3
 have Xbx1_3 : Bx w3 (w.heap.size) [.slice p0_0 a0.Defs.length c0_0, .slice p0_1 a0.Works.length c0_1, .int .i64 a0.Now, .int .i64 a0.Ring] := Bx.via (by simp (maxDischargeDepth := 9)) hb3
 have ⟨Xbx1_3k0, Xbx1_3k1, Xbx1_3k2, Xbx1_3k3⟩ := bx4 Xbx1_3
 have Xbx2_3 : Bx w3 (w.heap.size + 1) [.string a1] := Bx.via (by simp (maxDischargeDepth := 9)) hb3
 have Xbx2_3k0 := bx1 Xbx2_3
 obtain rfl : r = (slices_IndexFunc_iWork_iWorkAt_1_p a0.Works a1) := hr.out.symm.trans (by simp only [iWorkAt_p])
 go_wp2
 go_ret
 exact ⟨by first | rfl | simp, (by simp (maxDischargeDepth := 9) [B3])⟩

-- impl.DefAt$1
def iDefAt_1_p (a0 : DefD) (b0 : ByteArray) : Bool := bif (a0.Name.toList == b0.toList) then (true) else (false)
set_option maxHeartbeats 1000000 in
set_option maxRecDepth 20000 in
theorem iDefAt_1_w (a0 : DefD) (b0 : ByteArray) (v0_1 : Value) (g0 : Nat) (w : World) (s0_1 : Sl w a0.Rules v0_1) (hg0 : Bx w g0 [.string b0]) :
    Calls Tryz.prog 149 #[.agg #[.string a0.Name, v0_1], .pointer (some ⟨g0, 0, none⟩)] w (RetB (iDefAt_1_p a0 b0) w) := by
 obtain ⟨p0_1, c0_1, rfl, hl0_1, -, hk0_1, -⟩ := s0_1.open
 have hg0k0 := hg0.c 0 _ rfl
 obtain ⟨r, hr⟩ : ∃ r, iDefAt_1_p a0 b0 = r := ⟨_, rfl⟩
 rw [hr]
 replace hr := Lib.hid hr
 go_enter Tryz.func149, Tryz.ntmps149
 obtain ⟨bh2, eh2⟩ : ∃ b, (a0.Name.toList == b0.toList) = b := ⟨_, rfl⟩
 rcases Bool.eq_false_or_eq_true bh2 with h2 | h2
 ·
  obtain rfl : r = true := hr.out.symm.trans (by simp only [iDefAt_1_p, eh2, h2, cond_true])
  go_wp2
  go_ret
  exact rbk (by simp (maxDischargeDepth := 9))
 ·
  obtain rfl : r = false := hr.out.symm.trans (by simp only [iDefAt_1_p, eh2, h2, cond_false])
  go_wp2
  go_ret
  exact rbk (by simp (maxDischargeDepth := 9))

-- slices.IndexFunc[[]impl.Def,impl.Def]@impl.DefAt$1
def slices_IndexFunc_iDef_iDefAt_1_p_b1 (a0 : List DefD) (b0 : ByteArray) (k1 : Nat) (_ : Unit) : St (Int) (Unit) := bif iDefAt_1_p (gt a0 k1) b0 then (.ret (k1 : Int)) else (.go ())
def slices_IndexFunc_iDef_iDefAt_1_p (a0 : List DefD) (b0 : ByteArray) : Int := match rounds (slices_IndexFunc_iDef_iDefAt_1_p_b1 a0 b0) a0.length () with | .ret r => r | .brk _ => default | .go _ => (-1 : Int)
set_option maxHeartbeats 1000000 in
set_option maxRecDepth 20000 in
theorem slices_IndexFunc_iDef_iDefAt_1_w (a0 : List DefD) (b0 : ByteArray) (v0_0 : Value) (g0 : Nat) (w : World) (s0_0 : Sl w a0 v0_0) (hg0 : Bx w g0 [.string b0]) :
    Calls Tryz.prog 148 #[v0_0, .func (.func 149) #[] #[.pointer (some ⟨g0, 0, none⟩)]] w (RetI (slices_IndexFunc_iDef_iDefAt_1_p a0 b0) w) := by
 obtain ⟨p0_0, c0_0, rfl, hl0_0, -, hk0_0, -⟩ := s0_0.open
 have hg0k0 := hg0.c 0 _ rfl
 obtain ⟨r, hr⟩ : ∃ r, slices_IndexFunc_iDef_iDefAt_1_p a0 b0 = r := ⟨_, rfl⟩
 rw [hr]
 replace hr := Lib.hid hr
 go_enter Tryz.func148, Tryz.ntmps148
 go_wp2
 go_loopw [8] (fun i8 wr1 => Below w.heap.size w wr1 ∧ Bx wr1 (g0) [.string b0] ∧ ∃ (k1 : Nat), i8 = .int .i64 k1 ∧ k1 ≤ a0.length ∧ Hid (rounds (slices_IndexFunc_iDef_iDefAt_1_p_b1 a0 b0) k1 () = .go ())) (fun i8 _ => a0.length - (intOf i8).toNat)
 case atStart => exact ⟨(by simp (maxDischargeDepth := 9)), (by simp (maxDischargeDepth := 9) [hg0]), 0, rfl, by omega, Lib.hid rfl⟩
 case round =>
  rename World => wr1
  obtain ⟨B2, Xg0_2, k1, rfl, hk2, hy2⟩ := hrel
  have Xg0_2k0 := bx1 Xg0_2
  by_cases hlt2 : k1 < a0.length
  ·
   have hi5 : k1 < a0.length := by first | assumption | omega
   obtain ⟨e4b, e4o, ue4_1, rfl, e4bl, e4ok, ⟨e4d0, e4d1⟩, te4_1⟩ := Sl.gtDef s0_0 k1 hi5
   obtain ⟨pe4_1, ce4_1, rfl, hlpe4_1, -⟩ := te4_1.open
   have e4E := Lib.hid (And.intro e4d0 e4d1)
   clear e4d0 e4d1
   have ⟨e4d0n, e4d1n⟩ := cb2 B2 e4bl e4E.out
   go_wp2_with fail
   refine (iDefAt_1_w (gt a0 k1) b0 _ _ _ (te4_1.to (by simp (maxDischargeDepth := 9) [B2])) (by simp (maxDischargeDepth := 9) [Xg0_2])).mono ?_
   rintro e w6 ⟨rfl, hb6⟩
   have B6 := via (w0 := w) (by simp (maxDischargeDepth := 9) [B2]) hb6
   have U6 : Below wr1.heap.size wr1 w6 := via (by simp (maxDischargeDepth := 9)) hb6
   have Xg0_6 := Xg0_2.via U6
   clear Xg0_2 Xg0_2k0
   have Xg0_6k0 := bx1 Xg0_6
   clear e4d0n e4d1n
   have ⟨e4d0n, e4d1n⟩ := cb2 B6 e4bl e4E.out
   clear U6
   clear B2
   cases h7 : iDefAt_1_p (gt a0 k1) b0 with
   | true =>
    replace h7 := Lib.hid h7
    have q8 : slices_IndexFunc_iDef_iDefAt_1_p_b1 a0 b0 k1 () = .ret (k1 : Int) := by simp only [slices_IndexFunc_iDef_iDefAt_1_p_b1, h7.out, cond_true]
    have q9 := rounds_ret hlt2 hy2.out q8
    obtain rfl : r = (k1 : Int) := hr.out.symm.trans (by simp only [slices_IndexFunc_iDef_iDefAt_1_p, q9])
    go_wp2
    go_ret
    exact ⟨by first | rfl | simp, (by simp (maxDischargeDepth := 9) [B6])⟩
   | false =>
    replace h7 := Lib.hid h7
    have q10 : slices_IndexFunc_iDef_iDefAt_1_p_b1 a0 b0 k1 () = .go () := by simp only [slices_IndexFunc_iDef_iDefAt_1_p_b1, h7.out, cond_false]
    replace q10 := Lib.hid (rounds_next hy2.out q10)
    go_wp2
    go_roundw
    case rel => exact ⟨(by simp (maxDischargeDepth := 9) [B6]), (by simp (maxDischargeDepth := 9) [Xg0_6]), k1 + 1, by go_num, by omega, q10⟩
    case measure => simp [intOf]; omega
  ·
   obtain rfl : a0.length = k1 := by omega
   obtain rfl : r = (-1 : Int) := hr.out.symm.trans (by simp only [slices_IndexFunc_iDef_iDefAt_1_p, hy2.out])
   go_wp2
   go_ret
   exact ⟨by first | rfl | simp, (by simp (maxDischargeDepth := 9) [B2])⟩
end Go.Proofs.YthnilnggpbploaaGreat
