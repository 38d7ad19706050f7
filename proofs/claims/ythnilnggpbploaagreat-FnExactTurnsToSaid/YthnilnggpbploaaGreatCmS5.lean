/- Functions that only read, walked (S). Printed by a program. -/
import Derived.Test.YthnilnggpbploaaGreatCmS1
import Derived.Test.YthnilnggpbploaaGreatCmS4
import Derived.Test.YthnilnggpbploaaGreatRd
namespace Go.Proofs.YthnilnggpbploaaGreat
open Go.RowKit
open Cel (rd own rd_len rd_one own_rd own_lt rd_below rd_mono own_keep)

-- spec.StoreOk
def sStoreOk_p_b1 (a0 : StoreD) (k5 : Nat) (_ : Unit) : St (Bool) (Unit) := bif decide (0 < k5) then (bif sFactOk_p ((gt a0.Items k5).F) then (bif decide ((gt a0.Items k5).Id < (1 : Int)) then (.ret false) else (bif decide (a0.Next ≤ (gt a0.Items k5).Id) then (.ret false) else (bif decide ((gt a0.Items k5).Id ≤ (gt a0.Items (k5 - 1)).Id) then (.ret false) else (bif ((sIdOf_p a0 ((gt a0.Items k5).F)) == (gt a0.Items k5).Id) then (.go ()) else (.ret false))))) else (.ret false)) else (bif sFactOk_p ((gt a0.Items k5).F) then (bif decide ((gt a0.Items k5).Id < (1 : Int)) then (.ret false) else (bif decide (a0.Next ≤ (gt a0.Items k5).Id) then (.ret false) else (bif ((sIdOf_p a0 ((gt a0.Items k5).F)) == (gt a0.Items k5).Id) then (.go ()) else (.ret false)))) else (.ret false))
def sStoreOk_p (a0 : StoreD) : Bool := bif inR a0.Next (1 : Int) (1000000 : Int) then (bif decide (40 < a0.Items.length) then (false) else (match rounds (sStoreOk_p_b1 a0) a0.Items.length () with | .ret r => r | .brk _ => default | .go _ => true)) else (false)
set_option maxHeartbeats 1000000 in
set_option maxRecDepth 20000 in
theorem sStoreOk_w (a0 : StoreD) (v0_0 : Value) (w : World) (s0_0 : Sl w a0.Items v0_0) :
    Calls Tryz.prog 157 #[.agg #[v0_0, .int .i64 a0.Next]] w (RetB (sStoreOk_p a0) w) := by
 obtain ⟨p0_0, c0_0, rfl, hl0_0, -, hk0_0, -⟩ := s0_0.open
 obtain ⟨r, hr⟩ : ∃ r, sStoreOk_p a0 = r := ⟨_, rfl⟩
 rw [hr]
 replace hr := Lib.hid hr
 go_enter Tryz.func157, Tryz.ntmps157
 go_wp2_with fail
 refine (sl1In_w a0.Next (1 : Int) (1000000 : Int)  _ ).mono ?_
 rintro e w2 ⟨rfl, hb2⟩
 have B2 := via (w0 := w) (by simp (maxDischargeDepth := 9)) hb2
 have Xbx1_2 : Bx w2 (w.heap.size) [.slice p0_0 a0.Items.length c0_0, .int .i64 a0.Next] := Bx.via (by simp (maxDischargeDepth := 9)) hb2
 have ⟨Xbx1_2k0, Xbx1_2k1⟩ := bx2 Xbx1_2
 cases h3 : inR a0.Next (1 : Int) (1000000 : Int) with
 | true =>
  have ⟨h3a, h3b⟩ := inR_true h3
  replace h3 := Lib.hid h3
  by_cases h4 : 40 < a0.Items.length
  ·
   have h4d := Lib.hid (decide_eq_true h4)
   obtain rfl : r = false := hr.out.symm.trans (by simp only [sStoreOk_p, h3.out, h4d.out, cond_true])
   go_wp2
   go_ret
   exact rbk (by simp (maxDischargeDepth := 9) [B2])
  ·
   have h4d := Lib.hid (decide_eq_false h4)
   go_wp2
   go_loopw [3] (fun i3 wr5 => Below w.heap.size w wr5 ∧ Bx wr5 (w.heap.size) [.slice p0_0 a0.Items.length c0_0, .int .i64 a0.Next] ∧ ∃ (k5 : Nat), i3 = .int .i64 k5 ∧ k5 ≤ a0.Items.length ∧ Hid (rounds (sStoreOk_p_b1 a0) k5 () = .go ())) (fun i3 _ => a0.Items.length - (intOf i3).toNat)
   case atStart => exact ⟨(by simp (maxDischargeDepth := 9) [B2]), (by simp (maxDischargeDepth := 9) [Xbx1_2]), 0, rfl, by omega, Lib.hid rfl⟩
   case round =>
    rename World => wr5
    clear Xbx1_2 Xbx1_2k0 Xbx1_2k1 B2
    obtain ⟨B6, Xbx1_6, k5, rfl, hk6, hy6⟩ := hrel
    have ⟨Xbx1_6k0, Xbx1_6k1⟩ := bx2 Xbx1_6
    by_cases hlt6 : k5 < a0.Items.length
    ·
     have hi9 : k5 < a0.Items.length := by first | assumption | omega
     obtain ⟨e8b, e8o, ue8_2, rfl, e8bl, e8ok, ⟨e8d0, e8d1, e8d2⟩, te8_2⟩ := Sl.gtItem s0_0 k5 hi9
     obtain ⟨pe8_2, ce8_2, rfl, hlpe8_2, -⟩ := te8_2.open
     have e8E := Lib.hid (And.intro e8d0 (And.intro e8d1 e8d2))
     clear e8d0 e8d1 e8d2
     have ⟨e8d0n, e8d1n, e8d2n⟩ := cb3 B6 e8bl e8E.out
     by_cases h11 : 0 < k5
     ·
      have h11d := Lib.hid (decide_eq_true h11)
      have hi13 : k5 - 1 < a0.Items.length := by first | assumption | omega
      obtain ⟨ue12_2, e12bl, e12ok, ⟨e12d0, e12d1, e12d2⟩, te12_2⟩ := Sl.guItem s0_0 (k5 - 1) hi13
      obtain ⟨pe12_2, ce12_2, rfl, hlpe12_2, -⟩ := te12_2.open
      have e12E := Lib.hid (And.intro e12d0 (And.intro e12d1 e12d2))
      clear e12d0 e12d1 e12d2
      have ⟨e12d0n, e12d1n, e12d2n⟩ := cb3 B6 e12bl e12E.out
      go_wp2
      refine wp_region_noPanic ?_
      refine wp_region_held_drew (S := (fun w' => w'.cell? ⟨w.heap.size, 0, none⟩ = some (.slice (some ⟨e8b, e8o, none⟩) a0.Items.length c0_0) ∧ w'.cell? ⟨w.heap.size, 1, none⟩ = some (.int .i64 a0.Next) ∧ w'.cell? ⟨wr5.heap.size, 0, none⟩ = some (.int .i64 ((gt a0.Items k5).Id)) ∧ w'.cell? ⟨wr5.heap.size, 1, none⟩ = some (.string ((gt a0.Items k5).F.Kind)) ∧ w'.cell? ⟨wr5.heap.size, 2, none⟩ = some (.slice pe8_2 ((gt a0.Items k5).F.Fields.length) ce8_2) ∧ w'.cell? ⟨e8b, e8o + k5 * 3, none⟩ = some (.int .i64 ((gt a0.Items k5).Id)) ∧ w'.cell? ⟨e8b, e8o + k5 * 3 + 1, none⟩ = some (.string ((gt a0.Items k5).F.Kind)) ∧ w'.cell? ⟨e8b, e8o + k5 * 3 + 2, none⟩ = some (.slice pe8_2 ((gt a0.Items k5).F.Fields.length) ce8_2) ∧ w'.cell? ⟨e8b, e8o + (k5 - 1) * 3, none⟩ = some (.int .i64 ((gt a0.Items (k5 - 1)).Id)) ∧ w'.cell? ⟨e8b, e8o + (k5 - 1) * 3 + 1, none⟩ = some (.string ((gt a0.Items (k5 - 1)).F.Kind)) ∧ w'.cell? ⟨e8b, e8o + (k5 - 1) * 3 + 2, none⟩ = some (.slice pe12_2 ((gt a0.Items (k5 - 1)).F.Fields.length) ce12_2))) (by kernel_rfl) ?_ (fun hHeld0 => ?_)
      · go_keep
      refine tt 0 ?_
      simp only [Act.put, sa, s0, ss]
      refine tt 1 ?_
      simp only [Act.put, sa, s0, ss]
      refine wpAnyH_ready (rs := [2]) (by kernel_rfl) (by simp) ?_
      refine' AllReadyH.cons (o := _) ?hi1040_2 (fun K hK => ?_) AllReadyH.nil
      case hi1040_2 => simp only [List.getElem?_toArray, List.getElem?_cons_succ, List.getElem?_cons_zero]; exact rfl
      go_simp
      go_at_call 242
      refine (sFactOk_w ((gt a0.Items k5).F) _ _ (te8_2.to (by simp (maxDischargeDepth := 9) [B6])) e8ok.2).mono ?_
      rintro e w14 ⟨rfl, hb14⟩
      have B14 := via (w0 := w) (by simp (maxDischargeDepth := 9) [B6]) hb14
      have U14 : Below wr5.heap.size wr5 w14 := via (by simp (maxDischargeDepth := 9)) hb14
      have Xbx1_14 := Xbx1_6.via U14
      clear Xbx1_6 Xbx1_6k0 Xbx1_6k1
      have ⟨Xbx1_14k0, Xbx1_14k1⟩ := bx2 Xbx1_14
      have Xbx10_14 : Bx w14 (wr5.heap.size) [.int .i64 ((gt a0.Items k5).Id), .string ((gt a0.Items k5).F.Kind), .slice pe8_2 ((gt a0.Items k5).F.Fields.length) ce8_2] := Bx.via (by simp (maxDischargeDepth := 9)) hb14
      have ⟨Xbx10_14k0, Xbx10_14k1, Xbx10_14k2⟩ := bx3 Xbx10_14
      clear e8d0n e8d1n e8d2n
      have ⟨e8d0n, e8d1n, e8d2n⟩ := cb3 B14 e8bl e8E.out
      clear e12d0n e12d1n e12d2n
      have ⟨e12d0n, e12d1n, e12d2n⟩ := cb3 B14 e12bl e12E.out
      clear U14
      clear B6
      cases h15 : sFactOk_p ((gt a0.Items k5).F) with
      | true =>
       replace h15 := Lib.hid h15
       go_wp2_with fail
       refine hK.out _ _ ?_ (fun hHeld2 => ?_)
       · go_keep
       clear hK K hHeld0
       refine tt 3 ?_
       simp only [Act.put, sa, s0, ss]
       refine tt 4 ?_
       simp only [Act.put, sa, s0, ss]
       refine tt 5 ?_
       simp only [Act.put, sa, s0, ss]
       refine tt 6 ?_
       simp only [Act.put, sa, s0, ss]
       by_cases h16 : (gt a0.Items k5).Id < (1 : Int)
       ·
        have h16d := Lib.hid (decide_eq_true h16)
        refine tt 7 ?_
        simp only [Act.put, sa, s0, ss]
        refine tt 8 ?_
        simp only [Act.put, sa, s0, ss]
        refine tt 9 ?_
        simp only [Act.put, sa, s0, ss]
        refine tu 10 ?_
        simp only [Act.put, sa, s0, ss]
        refine tu 11 ?_
        simp only [Act.put, sa, s0, ss]
        refine tu 12 ?_
        simp only [Act.put, sa, s0, ss]
        refine tu 13 ?_
        simp only [Act.put, sa, s0, ss]
        refine tu 14 ?_
        simp only [Act.put, sa, s0, ss]
        refine tt 15 ?_
        simp only [Act.put, sa, s0, ss]
        refine tt 16 ?_
        simp only [Act.put, sa, s0, ss]
        refine tu 17 ?_
        simp only [Act.put, sa, s0, ss]
        refine tu 18 ?_
        simp only [Act.put, sa, s0, ss]
        refine tu 19 ?_
        simp only [Act.put, sa, s0, ss]
        refine tu 20 ?_
        simp only [Act.put, sa, s0, ss]
        refine tu 21 ?_
        simp only [Act.put, sa, s0, ss]
        refine tu 22 ?_
        simp only [Act.put, sa, s0, ss]
        refine tu 23 ?_
        simp only [Act.put, sa, s0, ss]
        refine tu 24 ?_
        simp only [Act.put, sa, s0, ss]
        refine tu 25 ?_
        simp only [Act.put, sa, s0, ss]
        refine tu 26 ?_
        simp only [Act.put, sa, s0, ss]
        refine tu 27 ?_
        simp only [Act.put, sa, s0, ss]
        refine tu 28 ?_
        simp only [Act.put, sa, s0, ss]
        refine tu 29 ?_
        simp only [Act.put, sa, s0, ss]
        refine tu 30 ?_
        simp only [Act.put, sa, s0, ss]
        refine tt 31 ?_
        simp only [Act.put, sa, s0, ss]
        refine tt 32 ?_
        simp only [Act.put, sa, s0, ss]
        refine tu 33 ?_
        simp only [Act.put, sa, s0, ss]
        refine tu 34 ?_
        simp only [Act.put, sa, s0, ss]
        refine tu 35 ?_
        simp only [Act.put, sa, s0, ss]
        refine tu 36 ?_
        simp only [Act.put, sa, s0, ss]
        refine tu 37 ?_
        simp only [Act.put, sa, s0, ss]
        refine tu 38 ?_
        simp only [Act.put, sa, s0, ss]
        refine tu 39 ?_
        simp only [Act.put, sa, s0, ss]
        refine tt 40 ?_
        simp only [Act.put, sa, s0, ss]
        refine wpAnyH_done (by kernel_rfl) ?_ _
        clear hHeld2
        refine NoPanic.normal ?_
        have q17 : sStoreOk_p_b1 a0 k5 () = .ret false := by simp only [sStoreOk_p_b1, h11d.out, h15.out, h16d.out, cond_true]
        have q18 := rounds_ret hlt6 hy6.out q17
        obtain rfl : r = false := hr.out.symm.trans (by simp only [sStoreOk_p, h3.out, h4d.out, q18, cond_true, cond_false])
        go_wp2
        go_ret
        exact rbk (by simp (maxDischargeDepth := 9) [B14])
       ·
        have h16d := Lib.hid (decide_eq_false h16)
        refine tt 7 ?_
        simp only [Act.put, sa, s0, ss]
        refine tt 8 ?_
        simp only [Act.put, sa, s0, ss]
        refine tt 9 ?_
        simp only [Act.put, sa, s0, ss]
        refine tt 10 ?_
        simp only [Act.put, sa, s0, ss]
        refine tt 11 ?_
        simp only [Act.put, sa, s0, ss]
        refine tt 12 ?_
        simp only [Act.put, sa, s0, ss]
        refine tt 13 ?_
        simp only [Act.put, sa, s0, ss]
        by_cases h19 : a0.Next ≤ (gt a0.Items k5).Id
        ·
         have h19d := Lib.hid (decide_eq_true h19)
         refine tt 14 ?_
         simp only [Act.put, sa, s0, ss]
         refine tt 15 ?_
         simp only [Act.put, sa, s0, ss]
         refine tt 16 ?_
         simp only [Act.put, sa, s0, ss]
         refine tu 17 ?_
         simp only [Act.put, sa, s0, ss]
         refine tu 18 ?_
         simp only [Act.put, sa, s0, ss]
         refine tu 19 ?_
         simp only [Act.put, sa, s0, ss]
         refine tu 20 ?_
         simp only [Act.put, sa, s0, ss]
         refine tu 21 ?_
         simp only [Act.put, sa, s0, ss]
         refine tu 22 ?_
         simp only [Act.put, sa, s0, ss]
         refine tu 23 ?_
         simp only [Act.put, sa, s0, ss]
         refine tu 24 ?_
         simp only [Act.put, sa, s0, ss]
         refine tu 25 ?_
         simp only [Act.put, sa, s0, ss]
         refine tu 26 ?_
         simp only [Act.put, sa, s0, ss]
         refine tu 27 ?_
         simp only [Act.put, sa, s0, ss]
         refine tu 28 ?_
         simp only [Act.put, sa, s0, ss]
         refine tu 29 ?_
         simp only [Act.put, sa, s0, ss]
         refine tu 30 ?_
         simp only [Act.put, sa, s0, ss]
         refine tt 31 ?_
         simp only [Act.put, sa, s0, ss]
         refine tt 32 ?_
         simp only [Act.put, sa, s0, ss]
         refine tu 33 ?_
         simp only [Act.put, sa, s0, ss]
         refine tu 34 ?_
         simp only [Act.put, sa, s0, ss]
         refine tu 35 ?_
         simp only [Act.put, sa, s0, ss]
         refine tu 36 ?_
         simp only [Act.put, sa, s0, ss]
         refine tu 37 ?_
         simp only [Act.put, sa, s0, ss]
         refine tu 38 ?_
         simp only [Act.put, sa, s0, ss]
         refine tu 39 ?_
         simp only [Act.put, sa, s0, ss]
         refine tt 40 ?_
         simp only [Act.put, sa, s0, ss]
         refine wpAnyH_done (by kernel_rfl) ?_ _
         clear hHeld2
         refine NoPanic.normal ?_
         have q20 : sStoreOk_p_b1 a0 k5 () = .ret false := by simp only [sStoreOk_p_b1, h11d.out, h15.out, h16d.out, h19d.out, cond_true, cond_false]
         have q21 := rounds_ret hlt6 hy6.out q20
         obtain rfl : r = false := hr.out.symm.trans (by simp only [sStoreOk_p, h3.out, h4d.out, q21, cond_true, cond_false])
         go_wp2
         go_ret
         exact rbk (by simp (maxDischargeDepth := 9) [B14])
        ·
         have h19d := Lib.hid (decide_eq_false h19)
         refine tt 14 ?_
         simp only [Act.put, sa, s0, ss]
         refine tt 15 ?_
         simp only [Act.put, sa, s0, ss]
         refine tt 16 ?_
         simp only [Act.put, sa, s0, ss]
         refine tt 17 ?_
         simp only [Act.put, sa, s0, ss]
         refine tt 18 ?_
         simp only [Act.put, sa, s0, ss]
         refine tt 19 ?_
         simp only [Act.put, sa, s0, ss]
         refine tt 20 ?_
         simp only [Act.put, sa, s0, ss]
         refine tt 21 ?_
         simp only [Act.put, sa, s0, ss]
         refine tt 22 ?_
         simp only [Act.put, sa, s0, ss]
         have hw22 : wrap64 ((k5 : Int) - 1) = ((k5 - 1 : Nat) : Int) := by have z := w64_in ((k5 : Int) - 1) ⟨by omega, by omega⟩; omega
         have hw22i : IntKind.i64.wrap ((k5 : Int) - 1) = ((k5 - 1 : Nat) : Int) := by have z := iw_in ((k5 : Int) - 1) ⟨by omega, by omega⟩; omega
         refine tt 23 ?_
         simp only [Act.put, sa, s0, ss]
         refine tt 24 ?_
         simp only [Act.put, sa, s0, ss]
         refine tt 25 ?_
         simp only [Act.put, sa, s0, ss]
         refine tt 26 ?_
         simp only [Act.put, sa, s0, ss]
         refine tt 27 ?_
         simp only [Act.put, sa, s0, ss]
         refine tt 28 ?_
         simp only [Act.put, sa, s0, ss]
         by_cases h23 : (gt a0.Items k5).Id ≤ (gt a0.Items (k5 - 1)).Id
         ·
          have h23d := Lib.hid (decide_eq_true h23)
          refine tt 29 ?_
          simp only [Act.put, sa, s0, ss]
          refine tt 30 ?_
          simp only [Act.put, sa, s0, ss]
          refine tt 31 ?_
          simp only [Act.put, sa, s0, ss]
          refine tt 32 ?_
          simp only [Act.put, sa, s0, ss]
          refine tu 33 ?_
          simp only [Act.put, sa, s0, ss]
          refine tu 34 ?_
          simp only [Act.put, sa, s0, ss]
          refine tu 35 ?_
          simp only [Act.put, sa, s0, ss]
          refine tu 36 ?_
          simp only [Act.put, sa, s0, ss]
          refine tu 37 ?_
          simp only [Act.put, sa, s0, ss]
          refine tu 38 ?_
          simp only [Act.put, sa, s0, ss]
          refine tu 39 ?_
          simp only [Act.put, sa, s0, ss]
          refine tt 40 ?_
          simp only [Act.put, sa, s0, ss]
          refine wpAnyH_done (by kernel_rfl) ?_ _
          clear hHeld2
          refine NoPanic.normal ?_
          have q24 : sStoreOk_p_b1 a0 k5 () = .ret false := by simp only [sStoreOk_p_b1, h11d.out, h15.out, h16d.out, h19d.out, h23d.out, cond_true, cond_false]
          have q25 := rounds_ret hlt6 hy6.out q24
          obtain rfl : r = false := hr.out.symm.trans (by simp only [sStoreOk_p, h3.out, h4d.out, q25, cond_true, cond_false])
          go_wp2
          go_ret
          exact rbk (by simp (maxDischargeDepth := 9) [B14])
         ·
          have h23d := Lib.hid (decide_eq_false h23)
          refine tt 29 ?_
          simp only [Act.put, sa, s0, ss]
          refine tt 30 ?_
          simp only [Act.put, sa, s0, ss]
          refine tt 31 ?_
          simp only [Act.put, sa, s0, ss]
          refine tt 32 ?_
          simp only [Act.put, sa, s0, ss]
          refine tt 33 ?_
          simp only [Act.put, sa, s0, ss]
          refine tt 34 ?_
          simp only [Act.put, sa, s0, ss]
          refine tt 35 ?_
          simp only [Act.put, sa, s0, ss]
          refine tt 37 ?_
          simp only [Act.put, sa, s0, ss]
          refine tt 38 ?_
          simp only [Act.put, sa, s0, ss]
          refine wpAnyH_ready (rs := [36]) (by kernel_rfl) (by simp) ?_
          refine' AllReadyH.cons (o := _) ?hi1041_36 (fun K hK => ?_) AllReadyH.nil
          case hi1041_36 => simp only [List.getElem?_toArray, List.getElem?_cons_succ, List.getElem?_cons_zero]; exact rfl
          go_simp
          go_at_call 243
          refine (sIdOf_w a0 ((gt a0.Items k5).F) _ _ _ (s0_0.to (by simp (maxDischargeDepth := 9) [B14])) (te8_2.to (by simp (maxDischargeDepth := 9) [B14]))).mono ?_
          rintro e w26 ⟨rfl, hb26⟩
          have B26 := via (w0 := w) (by simp (maxDischargeDepth := 9) [B14]) hb26
          have U26 : Below w14.heap.size w14 w26 := via (by simp (maxDischargeDepth := 9)) hb26
          have Xbx1_26 := Xbx1_14.via U26
          clear Xbx1_14 Xbx1_14k0 Xbx1_14k1
          have ⟨Xbx1_26k0, Xbx1_26k1⟩ := bx2 Xbx1_26
          have Xbx10_26 := Xbx10_14.via U26
          clear Xbx10_14 Xbx10_14k0 Xbx10_14k1 Xbx10_14k2
          have ⟨Xbx10_26k0, Xbx10_26k1, Xbx10_26k2⟩ := bx3 Xbx10_26
          clear e8d0n e8d1n e8d2n
          have ⟨e8d0n, e8d1n, e8d2n⟩ := cb3 B26 e8bl e8E.out
          clear e12d0n e12d1n e12d2n
          have ⟨e12d0n, e12d1n, e12d2n⟩ := cb3 B26 e12bl e12E.out
          clear U26
          clear B14
          go_wp2_with fail
          refine hK.out _ _ ?_ (fun hHeld36 => ?_)
          · go_keep
          clear hK K hHeld2
          obtain ⟨bh27, eh27⟩ : ∃ b, ((sIdOf_p a0 ((gt a0.Items k5).F)) == (gt a0.Items k5).Id) = b := ⟨_, rfl⟩
          have nh27 : ((sIdOf_p a0 ((gt a0.Items k5).F)) != (gt a0.Items k5).Id) = !bh27 := by rw [← eh27]; rfl
          rcases Bool.eq_false_or_eq_true bh27 with h27 | h27
          ·
           refine tt 39 ?_
           simp only [Act.put, sa, s0, ss]
           refine tt 40 ?_
           simp only [Act.put, sa, s0, ss]
           refine wpAnyH_done (by kernel_rfl) ?_ _
           clear hHeld36
           refine NoPanic.normal ?_
           have q28 : sStoreOk_p_b1 a0 k5 () = .go () := by simp only [sStoreOk_p_b1, h11d.out, h15.out, h16d.out, h19d.out, h23d.out, eh27, h27, cond_true, cond_false]
           replace q28 := Lib.hid (rounds_next hy6.out q28)
           go_wp2
           go_roundw
           case rel => exact ⟨(by simp (maxDischargeDepth := 9) [B26]), (by simp (maxDischargeDepth := 9) [Xbx1_26]), k5 + 1, by go_num, by omega, q28⟩
           case measure => simp [intOf]; omega
          ·
           refine tt 39 ?_
           simp only [Act.put, sa, s0, ss]
           refine tt 40 ?_
           simp only [Act.put, sa, s0, ss]
           refine wpAnyH_done (by kernel_rfl) ?_ _
           clear hHeld36
           refine NoPanic.normal ?_
           have q29 : sStoreOk_p_b1 a0 k5 () = .ret false := by simp only [sStoreOk_p_b1, h11d.out, h15.out, h16d.out, h19d.out, h23d.out, eh27, h27, cond_true, cond_false]
           have q30 := rounds_ret hlt6 hy6.out q29
           obtain rfl : r = false := hr.out.symm.trans (by simp only [sStoreOk_p, h3.out, h4d.out, q30, cond_true, cond_false])
           go_wp2
           go_ret
           exact rbk (by simp (maxDischargeDepth := 9) [B26])
      | false =>
       replace h15 := Lib.hid h15
       go_wp2_with fail
       refine hK.out _ _ ?_ (fun hHeld2 => ?_)
       · go_keep
       clear hK K hHeld0
       refine tt 3 ?_
       simp only [Act.put, sa, s0, ss]
       refine tt 4 ?_
       simp only [Act.put, sa, s0, ss]
       refine tu 5 ?_
       simp only [Act.put, sa, s0, ss]
       refine tu 6 ?_
       simp only [Act.put, sa, s0, ss]
       refine tu 7 ?_
       simp only [Act.put, sa, s0, ss]
       refine tt 8 ?_
       simp only [Act.put, sa, s0, ss]
       refine tt 9 ?_
       simp only [Act.put, sa, s0, ss]
       refine tu 10 ?_
       simp only [Act.put, sa, s0, ss]
       refine tu 11 ?_
       simp only [Act.put, sa, s0, ss]
       refine tu 12 ?_
       simp only [Act.put, sa, s0, ss]
       refine tu 13 ?_
       simp only [Act.put, sa, s0, ss]
       refine tu 14 ?_
       simp only [Act.put, sa, s0, ss]
       refine tt 15 ?_
       simp only [Act.put, sa, s0, ss]
       refine tt 16 ?_
       simp only [Act.put, sa, s0, ss]
       refine tu 17 ?_
       simp only [Act.put, sa, s0, ss]
       refine tu 18 ?_
       simp only [Act.put, sa, s0, ss]
       refine tu 19 ?_
       simp only [Act.put, sa, s0, ss]
       refine tu 20 ?_
       simp only [Act.put, sa, s0, ss]
       refine tu 21 ?_
       simp only [Act.put, sa, s0, ss]
       refine tu 22 ?_
       simp only [Act.put, sa, s0, ss]
       refine tu 23 ?_
       simp only [Act.put, sa, s0, ss]
       refine tu 24 ?_
       simp only [Act.put, sa, s0, ss]
       refine tu 25 ?_
       simp only [Act.put, sa, s0, ss]
       refine tu 26 ?_
       simp only [Act.put, sa, s0, ss]
       refine tu 27 ?_
       simp only [Act.put, sa, s0, ss]
       refine tu 28 ?_
       simp only [Act.put, sa, s0, ss]
       refine tu 29 ?_
       simp only [Act.put, sa, s0, ss]
       refine tu 30 ?_
       simp only [Act.put, sa, s0, ss]
       refine tt 31 ?_
       simp only [Act.put, sa, s0, ss]
       refine tt 32 ?_
       simp only [Act.put, sa, s0, ss]
       refine tu 33 ?_
       simp only [Act.put, sa, s0, ss]
       refine tu 34 ?_
       simp only [Act.put, sa, s0, ss]
       refine tu 35 ?_
       simp only [Act.put, sa, s0, ss]
       refine tu 36 ?_
       simp only [Act.put, sa, s0, ss]
       refine tu 37 ?_
       simp only [Act.put, sa, s0, ss]
       refine tu 38 ?_
       simp only [Act.put, sa, s0, ss]
       refine tu 39 ?_
       simp only [Act.put, sa, s0, ss]
       refine tt 40 ?_
       simp only [Act.put, sa, s0, ss]
       refine wpAnyH_done (by kernel_rfl) ?_ _
       clear hHeld2
       refine NoPanic.normal ?_
       have q31 : sStoreOk_p_b1 a0 k5 () = .ret false := by simp only [sStoreOk_p_b1, h11d.out, h15.out, cond_true, cond_false]
       have q32 := rounds_ret hlt6 hy6.out q31
       obtain rfl : r = false := hr.out.symm.trans (by simp only [sStoreOk_p, h3.out, h4d.out, q32, cond_true, cond_false])
       go_wp2
       go_ret
       exact rbk (by simp (maxDischargeDepth := 9) [B14])
     ·
      have h11d := Lib.hid (decide_eq_false h11)
      go_wp2
      refine wp_region_noPanic ?_
      refine wp_region_held_drew (S := (fun w' => w'.cell? ⟨w.heap.size, 0, none⟩ = some (.slice (some ⟨e8b, e8o, none⟩) a0.Items.length c0_0) ∧ w'.cell? ⟨w.heap.size, 1, none⟩ = some (.int .i64 a0.Next) ∧ w'.cell? ⟨wr5.heap.size, 0, none⟩ = some (.int .i64 ((gt a0.Items k5).Id)) ∧ w'.cell? ⟨wr5.heap.size, 1, none⟩ = some (.string ((gt a0.Items k5).F.Kind)) ∧ w'.cell? ⟨wr5.heap.size, 2, none⟩ = some (.slice pe8_2 ((gt a0.Items k5).F.Fields.length) ce8_2) ∧ w'.cell? ⟨e8b, e8o + k5 * 3, none⟩ = some (.int .i64 ((gt a0.Items k5).Id)) ∧ w'.cell? ⟨e8b, e8o + k5 * 3 + 1, none⟩ = some (.string ((gt a0.Items k5).F.Kind)) ∧ w'.cell? ⟨e8b, e8o + k5 * 3 + 2, none⟩ = some (.slice pe8_2 ((gt a0.Items k5).F.Fields.length) ce8_2))) (by kernel_rfl) ?_ (fun hHeld0 => ?_)
      · go_keep
      refine tt 0 ?_
      simp only [Act.put, sa, s0, ss]
      refine tt 1 ?_
      simp only [Act.put, sa, s0, ss]
      refine wpAnyH_ready (rs := [2]) (by kernel_rfl) (by simp) ?_
      refine' AllReadyH.cons (o := _) ?hi1044_2 (fun K hK => ?_) AllReadyH.nil
      case hi1044_2 => simp only [List.getElem?_toArray, List.getElem?_cons_succ, List.getElem?_cons_zero]; exact rfl
      go_simp
      go_at_call 242
      refine (sFactOk_w ((gt a0.Items k5).F) _ _ (te8_2.to (by simp (maxDischargeDepth := 9) [B6])) e8ok.2).mono ?_
      rintro e w33 ⟨rfl, hb33⟩
      have B33 := via (w0 := w) (by simp (maxDischargeDepth := 9) [B6]) hb33
      have U33 : Below wr5.heap.size wr5 w33 := via (by simp (maxDischargeDepth := 9)) hb33
      have Xbx1_33 := Xbx1_6.via U33
      clear Xbx1_6 Xbx1_6k0 Xbx1_6k1
      have ⟨Xbx1_33k0, Xbx1_33k1⟩ := bx2 Xbx1_33
      have Xbx10_33 : Bx w33 (wr5.heap.size) [.int .i64 ((gt a0.Items k5).Id), .string ((gt a0.Items k5).F.Kind), .slice pe8_2 ((gt a0.Items k5).F.Fields.length) ce8_2] := Bx.via (by simp (maxDischargeDepth := 9)) hb33
      have ⟨Xbx10_33k0, Xbx10_33k1, Xbx10_33k2⟩ := bx3 Xbx10_33
      clear e8d0n e8d1n e8d2n
      have ⟨e8d0n, e8d1n, e8d2n⟩ := cb3 B33 e8bl e8E.out
      clear U33
      clear B6
      cases h34 : sFactOk_p ((gt a0.Items k5).F) with
      | true =>
       replace h34 := Lib.hid h34
       go_wp2_with fail
       refine hK.out _ _ ?_ (fun hHeld2 => ?_)
       · go_keep
       clear hK K hHeld0
       refine tt 3 ?_
       simp only [Act.put, sa, s0, ss]
       refine tt 4 ?_
       simp only [Act.put, sa, s0, ss]
       refine tt 5 ?_
       simp only [Act.put, sa, s0, ss]
       refine tt 6 ?_
       simp only [Act.put, sa, s0, ss]
       by_cases h35 : (gt a0.Items k5).Id < (1 : Int)
       ·
        have h35d := Lib.hid (decide_eq_true h35)
        refine tt 7 ?_
        simp only [Act.put, sa, s0, ss]
        refine tt 8 ?_
        simp only [Act.put, sa, s0, ss]
        refine tt 9 ?_
        simp only [Act.put, sa, s0, ss]
        refine tu 10 ?_
        simp only [Act.put, sa, s0, ss]
        refine tu 11 ?_
        simp only [Act.put, sa, s0, ss]
        refine tu 12 ?_
        simp only [Act.put, sa, s0, ss]
        refine tu 13 ?_
        simp only [Act.put, sa, s0, ss]
        refine tu 14 ?_
        simp only [Act.put, sa, s0, ss]
        refine tt 15 ?_
        simp only [Act.put, sa, s0, ss]
        refine tt 16 ?_
        simp only [Act.put, sa, s0, ss]
        refine tu 17 ?_
        simp only [Act.put, sa, s0, ss]
        refine tu 18 ?_
        simp only [Act.put, sa, s0, ss]
        refine tu 19 ?_
        simp only [Act.put, sa, s0, ss]
        refine tu 20 ?_
        simp only [Act.put, sa, s0, ss]
        refine tu 21 ?_
        simp only [Act.put, sa, s0, ss]
        refine tu 22 ?_
        simp only [Act.put, sa, s0, ss]
        refine tu 23 ?_
        simp only [Act.put, sa, s0, ss]
        refine tu 24 ?_
        simp only [Act.put, sa, s0, ss]
        refine tu 25 ?_
        simp only [Act.put, sa, s0, ss]
        refine tu 26 ?_
        simp only [Act.put, sa, s0, ss]
        refine tu 27 ?_
        simp only [Act.put, sa, s0, ss]
        refine tu 28 ?_
        simp only [Act.put, sa, s0, ss]
        refine tu 29 ?_
        simp only [Act.put, sa, s0, ss]
        refine tu 30 ?_
        simp only [Act.put, sa, s0, ss]
        refine tt 31 ?_
        simp only [Act.put, sa, s0, ss]
        refine tt 32 ?_
        simp only [Act.put, sa, s0, ss]
        refine tu 33 ?_
        simp only [Act.put, sa, s0, ss]
        refine tu 34 ?_
        simp only [Act.put, sa, s0, ss]
        refine tu 35 ?_
        simp only [Act.put, sa, s0, ss]
        refine tu 36 ?_
        simp only [Act.put, sa, s0, ss]
        refine tu 37 ?_
        simp only [Act.put, sa, s0, ss]
        refine tu 38 ?_
        simp only [Act.put, sa, s0, ss]
        refine tu 39 ?_
        simp only [Act.put, sa, s0, ss]
        refine tt 40 ?_
        simp only [Act.put, sa, s0, ss]
        refine wpAnyH_done (by kernel_rfl) ?_ _
        clear hHeld2
        refine NoPanic.normal ?_
        have q36 : sStoreOk_p_b1 a0 k5 () = .ret false := by simp only [sStoreOk_p_b1, h11d.out, h34.out, h35d.out, cond_true, cond_false]
        have q37 := rounds_ret hlt6 hy6.out q36
        obtain rfl : r = false := hr.out.symm.trans (by simp only [sStoreOk_p, h3.out, h4d.out, q37, cond_true, cond_false])
        go_wp2
        go_ret
        exact rbk (by simp (maxDischargeDepth := 9) [B33])
       ·
        have h35d := Lib.hid (decide_eq_false h35)
        refine tt 7 ?_
        simp only [Act.put, sa, s0, ss]
        refine tt 8 ?_
        simp only [Act.put, sa, s0, ss]
        refine tt 9 ?_
        simp only [Act.put, sa, s0, ss]
        refine tt 10 ?_
        simp only [Act.put, sa, s0, ss]
        refine tt 11 ?_
        simp only [Act.put, sa, s0, ss]
        refine tt 12 ?_
        simp only [Act.put, sa, s0, ss]
        refine tt 13 ?_
        simp only [Act.put, sa, s0, ss]
        by_cases h38 : a0.Next ≤ (gt a0.Items k5).Id
        ·
         have h38d := Lib.hid (decide_eq_true h38)
         refine tt 14 ?_
         simp only [Act.put, sa, s0, ss]
         refine tt 15 ?_
         simp only [Act.put, sa, s0, ss]
         refine tt 16 ?_
         simp only [Act.put, sa, s0, ss]
         refine tu 17 ?_
         simp only [Act.put, sa, s0, ss]
         refine tu 18 ?_
         simp only [Act.put, sa, s0, ss]
         refine tu 19 ?_
         simp only [Act.put, sa, s0, ss]
         refine tu 20 ?_
         simp only [Act.put, sa, s0, ss]
         refine tu 21 ?_
         simp only [Act.put, sa, s0, ss]
         refine tu 22 ?_
         simp only [Act.put, sa, s0, ss]
         refine tu 23 ?_
         simp only [Act.put, sa, s0, ss]
         refine tu 24 ?_
         simp only [Act.put, sa, s0, ss]
         refine tu 25 ?_
         simp only [Act.put, sa, s0, ss]
         refine tu 26 ?_
         simp only [Act.put, sa, s0, ss]
         refine tu 27 ?_
         simp only [Act.put, sa, s0, ss]
         refine tu 28 ?_
         simp only [Act.put, sa, s0, ss]
         refine tu 29 ?_
         simp only [Act.put, sa, s0, ss]
         refine tu 30 ?_
         simp only [Act.put, sa, s0, ss]
         refine tt 31 ?_
         simp only [Act.put, sa, s0, ss]
         refine tt 32 ?_
         simp only [Act.put, sa, s0, ss]
         refine tu 33 ?_
         simp only [Act.put, sa, s0, ss]
         refine tu 34 ?_
         simp only [Act.put, sa, s0, ss]
         refine tu 35 ?_
         simp only [Act.put, sa, s0, ss]
         refine tu 36 ?_
         simp only [Act.put, sa, s0, ss]
         refine tu 37 ?_
         simp only [Act.put, sa, s0, ss]
         refine tu 38 ?_
         simp only [Act.put, sa, s0, ss]
         refine tu 39 ?_
         simp only [Act.put, sa, s0, ss]
         refine tt 40 ?_
         simp only [Act.put, sa, s0, ss]
         refine wpAnyH_done (by kernel_rfl) ?_ _
         clear hHeld2
         refine NoPanic.normal ?_
         have q39 : sStoreOk_p_b1 a0 k5 () = .ret false := by simp only [sStoreOk_p_b1, h11d.out, h34.out, h35d.out, h38d.out, cond_true, cond_false]
         have q40 := rounds_ret hlt6 hy6.out q39
         obtain rfl : r = false := hr.out.symm.trans (by simp only [sStoreOk_p, h3.out, h4d.out, q40, cond_true, cond_false])
         go_wp2
         go_ret
         exact rbk (by simp (maxDischargeDepth := 9) [B33])
        ·
         have h38d := Lib.hid (decide_eq_false h38)
         refine tt 14 ?_
         simp only [Act.put, sa, s0, ss]
         refine tt 15 ?_
         simp only [Act.put, sa, s0, ss]
         refine tt 16 ?_
         simp only [Act.put, sa, s0, ss]
         refine tt 17 ?_
         simp only [Act.put, sa, s0, ss]
         refine tt 18 ?_
         simp only [Act.put, sa, s0, ss]
         refine tt 19 ?_
         simp only [Act.put, sa, s0, ss]
         refine tu 20 ?_
         simp only [Act.put, sa, s0, ss]
         refine tu 21 ?_
         simp only [Act.put, sa, s0, ss]
         refine tu 22 ?_
         simp only [Act.put, sa, s0, ss]
         refine tu 23 ?_
         simp only [Act.put, sa, s0, ss]
         refine tu 24 ?_
         simp only [Act.put, sa, s0, ss]
         refine tu 25 ?_
         simp only [Act.put, sa, s0, ss]
         refine tu 26 ?_
         simp only [Act.put, sa, s0, ss]
         refine tu 27 ?_
         simp only [Act.put, sa, s0, ss]
         refine tu 28 ?_
         simp only [Act.put, sa, s0, ss]
         refine tu 29 ?_
         simp only [Act.put, sa, s0, ss]
         refine tt 30 ?_
         simp only [Act.put, sa, s0, ss]
         refine tt 31 ?_
         simp only [Act.put, sa, s0, ss]
         refine tt 32 ?_
         simp only [Act.put, sa, s0, ss]
         refine tt 33 ?_
         simp only [Act.put, sa, s0, ss]
         refine tt 34 ?_
         simp only [Act.put, sa, s0, ss]
         refine tt 35 ?_
         simp only [Act.put, sa, s0, ss]
         refine tt 37 ?_
         simp only [Act.put, sa, s0, ss]
         refine tt 38 ?_
         simp only [Act.put, sa, s0, ss]
         refine wpAnyH_ready (rs := [36]) (by kernel_rfl) (by simp) ?_
         refine' AllReadyH.cons (o := _) ?hi1045_36 (fun K hK => ?_) AllReadyH.nil
         case hi1045_36 => simp only [List.getElem?_toArray, List.getElem?_cons_succ, List.getElem?_cons_zero]; exact rfl
         go_simp
         go_at_call 243
         refine (sIdOf_w a0 ((gt a0.Items k5).F) _ _ _ (s0_0.to (by simp (maxDischargeDepth := 9) [B33])) (te8_2.to (by simp (maxDischargeDepth := 9) [B33]))).mono ?_
         rintro e w41 ⟨rfl, hb41⟩
         have B41 := via (w0 := w) (by simp (maxDischargeDepth := 9) [B33]) hb41
         have U41 : Below w33.heap.size w33 w41 := via (by simp (maxDischargeDepth := 9)) hb41
         have Xbx1_41 := Xbx1_33.via U41
         clear Xbx1_33 Xbx1_33k0 Xbx1_33k1
         have ⟨Xbx1_41k0, Xbx1_41k1⟩ := bx2 Xbx1_41
         have Xbx10_41 := Xbx10_33.via U41
         clear Xbx10_33 Xbx10_33k0 Xbx10_33k1 Xbx10_33k2
         have ⟨Xbx10_41k0, Xbx10_41k1, Xbx10_41k2⟩ := bx3 Xbx10_41
         clear e8d0n e8d1n e8d2n
         have ⟨e8d0n, e8d1n, e8d2n⟩ := cb3 B41 e8bl e8E.out
         clear U41
         clear B33
         go_wp2_with fail
         refine hK.out _ _ ?_ (fun hHeld36 => ?_)
         · go_keep
         clear hK K hHeld2
         obtain ⟨bh42, eh42⟩ : ∃ b, ((sIdOf_p a0 ((gt a0.Items k5).F)) == (gt a0.Items k5).Id) = b := ⟨_, rfl⟩
         have nh42 : ((sIdOf_p a0 ((gt a0.Items k5).F)) != (gt a0.Items k5).Id) = !bh42 := by rw [← eh42]; rfl
         rcases Bool.eq_false_or_eq_true bh42 with h42 | h42
         ·
          refine tt 39 ?_
          simp only [Act.put, sa, s0, ss]
          refine tt 40 ?_
          simp only [Act.put, sa, s0, ss]
          refine wpAnyH_done (by kernel_rfl) ?_ _
          clear hHeld36
          refine NoPanic.normal ?_
          have q43 : sStoreOk_p_b1 a0 k5 () = .go () := by simp only [sStoreOk_p_b1, h11d.out, h34.out, h35d.out, h38d.out, eh42, h42, cond_true, cond_false]
          replace q43 := Lib.hid (rounds_next hy6.out q43)
          go_wp2
          go_roundw
          case rel => exact ⟨(by simp (maxDischargeDepth := 9) [B41]), (by simp (maxDischargeDepth := 9) [Xbx1_41]), k5 + 1, by go_num, by omega, q43⟩
          case measure => simp [intOf]; omega
         ·
          refine tt 39 ?_
          simp only [Act.put, sa, s0, ss]
          refine tt 40 ?_
          simp only [Act.put, sa, s0, ss]
          refine wpAnyH_done (by kernel_rfl) ?_ _
          clear hHeld36
          refine NoPanic.normal ?_
          have q44 : sStoreOk_p_b1 a0 k5 () = .ret false := by simp only [sStoreOk_p_b1, h11d.out, h34.out, h35d.out, h38d.out, eh42, h42, cond_true, cond_false]
          have q45 := rounds_ret hlt6 hy6.out q44
          obtain rfl : r = false := hr.out.symm.trans (by simp only [sStoreOk_p, h3.out, h4d.out, q45, cond_true, cond_false])
          go_wp2
          go_ret
          exact rbk (by simp (maxDischargeDepth := 9) [B41])
      | false =>
       replace h34 := Lib.hid h34
       go_wp2_with fail
       refine hK.out _ _ ?_ (fun hHeld2 => ?_)
       · go_keep
       clear hK K hHeld0
       refine tt 3 ?_
       simp only [Act.put, sa, s0, ss]
       refine tt 4 ?_
       simp only [Act.put, sa, s0, ss]
       refine tu 5 ?_
       simp only [Act.put, sa, s0, ss]
       refine tu 6 ?_
       simp only [Act.put, sa, s0, ss]
       refine tu 7 ?_
       simp only [Act.put, sa, s0, ss]
       refine tt 8 ?_
       simp only [Act.put, sa, s0, ss]
       refine tt 9 ?_
       simp only [Act.put, sa, s0, ss]
       refine tu 10 ?_
       simp only [Act.put, sa, s0, ss]
       refine tu 11 ?_
       simp only [Act.put, sa, s0, ss]
       refine tu 12 ?_
       simp only [Act.put, sa, s0, ss]
       refine tu 13 ?_
       simp only [Act.put, sa, s0, ss]
       refine tu 14 ?_
       simp only [Act.put, sa, s0, ss]
       refine tt 15 ?_
       simp only [Act.put, sa, s0, ss]
       refine tt 16 ?_
       simp only [Act.put, sa, s0, ss]
       refine tu 17 ?_
       simp only [Act.put, sa, s0, ss]
       refine tu 18 ?_
       simp only [Act.put, sa, s0, ss]
       refine tu 19 ?_
       simp only [Act.put, sa, s0, ss]
       refine tu 20 ?_
       simp only [Act.put, sa, s0, ss]
       refine tu 21 ?_
       simp only [Act.put, sa, s0, ss]
       refine tu 22 ?_
       simp only [Act.put, sa, s0, ss]
       refine tu 23 ?_
       simp only [Act.put, sa, s0, ss]
       refine tu 24 ?_
       simp only [Act.put, sa, s0, ss]
       refine tu 25 ?_
       simp only [Act.put, sa, s0, ss]
       refine tu 26 ?_
       simp only [Act.put, sa, s0, ss]
       refine tu 27 ?_
       simp only [Act.put, sa, s0, ss]
       refine tu 28 ?_
       simp only [Act.put, sa, s0, ss]
       refine tu 29 ?_
       simp only [Act.put, sa, s0, ss]
       refine tu 30 ?_
       simp only [Act.put, sa, s0, ss]
       refine tt 31 ?_
       simp only [Act.put, sa, s0, ss]
       refine tt 32 ?_
       simp only [Act.put, sa, s0, ss]
       refine tu 33 ?_
       simp only [Act.put, sa, s0, ss]
       refine tu 34 ?_
       simp only [Act.put, sa, s0, ss]
       refine tu 35 ?_
       simp only [Act.put, sa, s0, ss]
       refine tu 36 ?_
       simp only [Act.put, sa, s0, ss]
       refine tu 37 ?_
       simp only [Act.put, sa, s0, ss]
       refine tu 38 ?_
       simp only [Act.put, sa, s0, ss]
       refine tu 39 ?_
       simp only [Act.put, sa, s0, ss]
       refine tt 40 ?_
       simp only [Act.put, sa, s0, ss]
       refine wpAnyH_done (by kernel_rfl) ?_ _
       clear hHeld2
       refine NoPanic.normal ?_
       have q46 : sStoreOk_p_b1 a0 k5 () = .ret false := by simp only [sStoreOk_p_b1, h11d.out, h34.out, cond_false]
       have q47 := rounds_ret hlt6 hy6.out q46
       obtain rfl : r = false := hr.out.symm.trans (by simp only [sStoreOk_p, h3.out, h4d.out, q47, cond_true, cond_false])
       go_wp2
       go_ret
       exact rbk (by simp (maxDischargeDepth := 9) [B33])
    ·
     obtain rfl : a0.Items.length = k5 := by omega
     obtain rfl : r = true := hr.out.symm.trans (by simp only [sStoreOk_p, h3.out, h4d.out, hy6.out, cond_true, cond_false])
     go_wp2
     go_ret
     exact rbk (by simp (maxDischargeDepth := 9) [B6])
 | false =>
  replace h3 := Lib.hid h3
  obtain rfl : r = false := hr.out.symm.trans (by simp only [sStoreOk_p, h3.out, cond_false])
  go_wp2
  go_ret
  exact rbk (by simp (maxDischargeDepth := 9) [B2])

-- spec.l18Undo
def sl18Undo_p (a0 : ByteArray) : Bool := bif a0.toList.isEmpty then (true) else (sNameOk_p a0)
set_option maxHeartbeats 1000000 in
set_option maxRecDepth 20000 in
theorem sl18Undo_w (a0 : ByteArray) (w : World) (ok_a0 : a0.size ≤ maxLen) :
    Calls Tryz.prog 337 #[.string a0] w (RetB (sl18Undo_p a0) w) := by
 obtain ⟨r, hr⟩ : ∃ r, sl18Undo_p a0 = r := ⟨_, rfl⟩
 rw [hr]
 replace hr := Lib.hid hr
 go_enter Tryz.func337, Tryz.ntmps337
 obtain ⟨bh1, eh1⟩ : ∃ b, a0.toList.isEmpty = b := ⟨_, rfl⟩
 rcases Bool.eq_false_or_eq_true bh1 with h1 | h1
 ·
  obtain rfl : r = true := hr.out.symm.trans (by simp only [sl18Undo_p, eh1, h1, cond_true])
  go_wp2
  go_ret
  exact rbk (by simp (maxDischargeDepth := 9))
 ·
  go_wp2_with fail
  refine (sNameOk_w a0  _ ok_a0).mono ?_
  rintro e w2 ⟨rfl, hb2⟩
  have B2 := via (w0 := w) (by simp (maxDischargeDepth := 9)) hb2
  obtain rfl : r = sNameOk_p a0 := hr.out.symm.trans (by simp only [sl18Undo_p, eh1, h1, cond_false])
  go_wp2
  go_ret
  exact rbk (by simp (maxDischargeDepth := 9) [B2])
end Go.Proofs.YthnilnggpbploaaGreat
