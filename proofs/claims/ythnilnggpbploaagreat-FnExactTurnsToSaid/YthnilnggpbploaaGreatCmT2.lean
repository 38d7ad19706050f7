/- Functions that only read, walked (T). Printed by a program. -/
import Derived.Test.YthnilnggpbploaaGreatCmS1
import Derived.Test.YthnilnggpbploaaGreatCmS4
import Derived.Test.YthnilnggpbploaaGreatCmT1
import Derived.Test.YthnilnggpbploaaGreatRd
import Derived.Test.YthnilnggpbploaaGreatAt
namespace Go.Proofs.YthnilnggpbploaaGreat
open Go.RowKit
open Cel (rd own rd_len rd_one own_rd own_lt rd_below rd_mono own_keep)

-- spec.BookOk
def sBookOk_p_b1 (a0 : BookD) (k8 : Nat) (_ : Unit) : St (Bool) (Unit) := bif sDefOk_p (gt a0.Defs k8) then (bif ((sDefAt_p a0 ((gt a0.Defs k8).Name)) == (k8 : Int)) then (.go ()) else (.ret false)) else (.ret false)
def sBookOk_p_b2 (a0 : BookD) (k23 : Nat) (_ : Unit) : St (Bool) (Unit) := bif decide ((sDefAt_p a0 ((gt a0.Works k23).Def)) < (0 : Int)) then (bif sNameOk_p ((gt a0.Works k23).Name) then (bif ((sWorkAt_p a0 ((gt a0.Works k23).Name)) == (k23 : Int)) then (.ret false) else (.ret false)) else (.ret false)) else (bif sNameOk_p ((gt a0.Works k23).Name) then (bif ((sWorkAt_p a0 ((gt a0.Works k23).Name)) == (k23 : Int)) then (bif sInstOk_p (gt a0.Defs ((sDefAt_p a0 ((gt a0.Works k23).Def)).toNat)) ((gt a0.Works k23).X) then (bif decide (a0.Now < (gt a0.Works k23).X.Now) then (.ret false) else (.go ())) else (.ret false)) else (.ret false)) else (.ret false))
def sBookOk_p (a0 : BookD) : Bool := bif decide (8 < a0.Defs.length) then (false) else (bif decide (10 < a0.Works.length) then (false) else (bif inR a0.Now (0 : Int) (1000000000 : Int) then (bif inR a0.Ring (0 : Int) ((a0.Works.length : Nat) : Int) then (match rounds (sBookOk_p_b1 a0) a0.Defs.length () with | .ret r => r | .brk _ => default | .go _ => match rounds (sBookOk_p_b2 a0) a0.Works.length () with | .ret r => r | .brk _ => default | .go _ => true) else (false)) else (false)))
set_option maxHeartbeats 1000000 in
set_option maxRecDepth 20000 in
theorem sBookOk_w (a0 : BookD) (v0_0 : Value) (v0_1 : Value) (w : World) (s0_0 : Sl w a0.Defs v0_0) (s0_1 : Sl w a0.Works v0_1) (hz_a0 : sznBook a0 ≤ 1048576) :
    Calls Tryz.prog 45 #[.agg #[v0_0, v0_1, .int .i64 a0.Now, .int .i64 a0.Ring]] w (RetB (sBookOk_p a0) w) := by
 obtain ⟨p0_0, c0_0, rfl, hl0_0, -, hk0_0, -⟩ := s0_0.open
 obtain ⟨p0_1, c0_1, rfl, hl0_1, -, hk0_1, -⟩ := s0_1.open
 obtain ⟨r, hr⟩ : ∃ r, sBookOk_p a0 = r := ⟨_, rfl⟩
 rw [hr]
 replace hr := Lib.hid hr
 go_enter Tryz.func45, Tryz.ntmps45
 by_cases h2 : 8 < a0.Defs.length
 ·
  have h2d := Lib.hid (decide_eq_true h2)
  obtain rfl : r = false := hr.out.symm.trans (by simp only [sBookOk_p, h2d.out, cond_true])
  go_wp2
  go_ret
  exact rbk (by simp (maxDischargeDepth := 9))
 ·
  have h2d := Lib.hid (decide_eq_false h2)
  by_cases h3 : 10 < a0.Works.length
  ·
   have h3d := Lib.hid (decide_eq_true h3)
   obtain rfl : r = false := hr.out.symm.trans (by simp only [sBookOk_p, h2d.out, h3d.out, cond_true, cond_false])
   go_wp2
   go_ret
   exact rbk (by simp (maxDischargeDepth := 9))
  ·
   have h3d := Lib.hid (decide_eq_false h3)
   go_wp2_with fail
   refine (sl1In_w a0.Now (0 : Int) (1000000000 : Int)  _ ).mono ?_
   rintro e w4 ⟨rfl, hb4⟩
   have B4 := via (w0 := w) (by simp (maxDischargeDepth := 9)) hb4
   have Xbx1_4 : Bx w4 (w.heap.size) [.slice p0_0 a0.Defs.length c0_0, .slice p0_1 a0.Works.length c0_1, .int .i64 a0.Now, .int .i64 a0.Ring] := Bx.via (by simp (maxDischargeDepth := 9)) hb4
   have ⟨Xbx1_4k0, Xbx1_4k1, Xbx1_4k2, Xbx1_4k3⟩ := bx4 Xbx1_4
   cases h5 : inR a0.Now (0 : Int) (1000000000 : Int) with
   | true =>
    have ⟨h5a, h5b⟩ := inR_true h5
    replace h5 := Lib.hid h5
    go_wp2_with fail
    refine (sl1In_w a0.Ring (0 : Int) ((a0.Works.length : Nat) : Int)  _ ).mono ?_
    rintro e w6 ⟨rfl, hb6⟩
    have B6 := via (w0 := w) (by simp (maxDischargeDepth := 9) [B4]) hb6
    have U6 : Below w4.heap.size w4 w6 := via (by simp (maxDischargeDepth := 9)) hb6
    have Xbx1_6 := Xbx1_4.via U6
    clear Xbx1_4 Xbx1_4k0 Xbx1_4k1 Xbx1_4k2 Xbx1_4k3
    have ⟨Xbx1_6k0, Xbx1_6k1, Xbx1_6k2, Xbx1_6k3⟩ := bx4 Xbx1_6
    clear U6
    clear B4
    cases h7 : inR a0.Ring (0 : Int) ((a0.Works.length : Nat) : Int) with
    | true =>
     have ⟨h7a, h7b⟩ := inR_true h7
     replace h7 := Lib.hid h7
     go_wp2
     go_loopw [3] (fun i3 wr8 => Below w.heap.size w wr8 ∧ Bx wr8 (w.heap.size) [.slice p0_0 a0.Defs.length c0_0, .slice p0_1 a0.Works.length c0_1, .int .i64 a0.Now, .int .i64 a0.Ring] ∧ ∃ (k8 : Nat), i3 = .int .i64 k8 ∧ k8 ≤ a0.Defs.length ∧ Hid (rounds (sBookOk_p_b1 a0) k8 () = .go ())) (fun i3 _ => a0.Defs.length - (intOf i3).toNat)
     case atStart => exact ⟨(by simp (maxDischargeDepth := 9) [B6]), (by simp (maxDischargeDepth := 9) [Xbx1_6]), 0, rfl, by omega, Lib.hid rfl⟩
     case round =>
      rename World => wr8
      clear Xbx1_6 Xbx1_6k0 Xbx1_6k1 Xbx1_6k2 Xbx1_6k3 B6
      obtain ⟨B9, Xbx1_9, k8, rfl, hk9, hy9⟩ := hrel
      have ⟨Xbx1_9k0, Xbx1_9k1, Xbx1_9k2, Xbx1_9k3⟩ := bx4 Xbx1_9
      by_cases hlt9 : k8 < a0.Defs.length
      ·
       have hi12 : k8 < a0.Defs.length := by first | assumption | omega
       obtain ⟨e11b, e11o, ue11_1, rfl, e11bl, e11ok, ⟨e11d0, e11d1⟩, te11_1⟩ := Sl.gtDef s0_0 k8 hi12
       obtain ⟨pe11_1, ce11_1, rfl, hlpe11_1, -⟩ := te11_1.open
       have e11E := Lib.hid (And.intro e11d0 e11d1)
       clear e11d0 e11d1
       have ⟨e11d0n, e11d1n⟩ := cb2 B9 e11bl e11E.out
       go_wp2
       refine wp_region_noPanic ?_
       refine wp_region_held_drew (S := (fun w' => w'.cell? ⟨w.heap.size, 0, none⟩ = some (.slice (some ⟨e11b, e11o, none⟩) a0.Defs.length c0_0) ∧ w'.cell? ⟨w.heap.size, 1, none⟩ = some (.slice p0_1 a0.Works.length c0_1) ∧ w'.cell? ⟨w.heap.size, 2, none⟩ = some (.int .i64 a0.Now) ∧ w'.cell? ⟨w.heap.size, 3, none⟩ = some (.int .i64 a0.Ring) ∧ w'.cell? ⟨e11b, e11o + k8 * 2, none⟩ = some (.string ((gt a0.Defs k8).Name)) ∧ w'.cell? ⟨e11b, e11o + k8 * 2 + 1, none⟩ = some (.slice pe11_1 ((gt a0.Defs k8).Rules.length) ce11_1))) (by kernel_rfl) ?_ (fun hHeld0 => ?_)
       · go_keep
       refine tt 0 ?_
       simp only [Act.put, sa, s0, ss]
       refine tt 1 ?_
       simp only [Act.put, sa, s0, ss]
       refine tt 2 ?_
       simp only [Act.put, sa, s0, ss]
       refine tt 3 ?_
       simp only [Act.put, sa, s0, ss]
       refine tt 4 ?_
       simp only [Act.put, sa, s0, ss]
       refine wpAnyH_ready (rs := [5]) (by kernel_rfl) (by simp) ?_
       refine' AllReadyH.cons (o := _) ?hi1098_5 (fun K hK => ?_) AllReadyH.nil
       case hi1098_5 => simp only [List.getElem?_toArray, List.getElem?_cons_succ, List.getElem?_cons_zero]; exact rfl
       go_simp
       go_at_call 89
       refine (sDefOk_w (gt a0.Defs k8) _ _ (te11_1.to (by simp (maxDischargeDepth := 9) [B9])) e11ok (Nat.le_trans (szn_gtDef a0.Defs k8 (by first | assumption | omega)) (Nat.le_trans (szn_Book_Defs a0) hz_a0))).mono ?_
       rintro e w13 ⟨rfl, hb13⟩
       have B13 := via (w0 := w) (by simp (maxDischargeDepth := 9) [B9]) hb13
       have U13 : Below wr8.heap.size wr8 w13 := via (by simp (maxDischargeDepth := 9)) hb13
       have Xbx1_13 := Xbx1_9.via U13
       clear Xbx1_9 Xbx1_9k0 Xbx1_9k1 Xbx1_9k2 Xbx1_9k3
       have ⟨Xbx1_13k0, Xbx1_13k1, Xbx1_13k2, Xbx1_13k3⟩ := bx4 Xbx1_13
       clear e11d0n e11d1n
       have ⟨e11d0n, e11d1n⟩ := cb2 B13 e11bl e11E.out
       clear U13
       clear B9
       cases h14 : sDefOk_p (gt a0.Defs k8) with
       | true =>
        replace h14 := Lib.hid h14
        go_wp2_with fail
        refine hK.out _ _ ?_ (fun hHeld5 => ?_)
        · go_keep
        clear hK K hHeld0
        refine tt 6 ?_
        simp only [Act.put, sa, s0, ss]
        refine tt 7 ?_
        simp only [Act.put, sa, s0, ss]
        refine tt 8 ?_
        simp only [Act.put, sa, s0, ss]
        refine tt 9 ?_
        simp only [Act.put, sa, s0, ss]
        refine tt 10 ?_
        simp only [Act.put, sa, s0, ss]
        refine tt 11 ?_
        simp only [Act.put, sa, s0, ss]
        refine tt 12 ?_
        simp only [Act.put, sa, s0, ss]
        refine tt 13 ?_
        simp only [Act.put, sa, s0, ss]
        refine tt 14 ?_
        simp only [Act.put, sa, s0, ss]
        refine tt 16 ?_
        simp only [Act.put, sa, s0, ss]
        refine wpAnyH_ready (rs := [15]) (by kernel_rfl) (by simp) ?_
        refine' AllReadyH.cons (o := _) ?hi1099_15 (fun K hK => ?_) AllReadyH.nil
        case hi1099_15 => simp only [List.getElem?_toArray, List.getElem?_cons_succ, List.getElem?_cons_zero]; exact rfl
        go_simp
        go_at_call 90
        refine (sDefAt_w a0 ((gt a0.Defs k8).Name) _ _ _ (s0_0.to (by simp (maxDischargeDepth := 9) [B13])) (s0_1.to (by simp (maxDischargeDepth := 9) [B13]))).mono ?_
        rintro e w15 ⟨rfl, hb15⟩
        have B15 := via (w0 := w) (by simp (maxDischargeDepth := 9) [B13]) hb15
        have U15 : Below w13.heap.size w13 w15 := via (by simp (maxDischargeDepth := 9)) hb15
        have Xbx1_15 := Xbx1_13.via U15
        clear Xbx1_13 Xbx1_13k0 Xbx1_13k1 Xbx1_13k2 Xbx1_13k3
        have ⟨Xbx1_15k0, Xbx1_15k1, Xbx1_15k2, Xbx1_15k3⟩ := bx4 Xbx1_15
        clear e11d0n e11d1n
        have ⟨e11d0n, e11d1n⟩ := cb2 B15 e11bl e11E.out
        clear U15
        clear B13
        have ⟨z16a, z16b⟩ := sDefAt_in a0 ((gt a0.Defs k8).Name)
        go_wp2_with fail
        refine hK.out _ _ ?_ (fun hHeld15 => ?_)
        · go_keep
        clear hK K hHeld5
        obtain ⟨bh17, eh17⟩ : ∃ b, ((sDefAt_p a0 ((gt a0.Defs k8).Name)) == (k8 : Int)) = b := ⟨_, rfl⟩
        have nh17 : ((sDefAt_p a0 ((gt a0.Defs k8).Name)) != (k8 : Int)) = !bh17 := by rw [← eh17]; rfl
        rcases Bool.eq_false_or_eq_true bh17 with h17 | h17
        ·
         refine tt 17 ?_
         simp only [Act.put, sa, s0, ss]
         refine tt 18 ?_
         simp only [Act.put, sa, s0, ss]
         refine wpAnyH_done (by kernel_rfl) ?_ _
         clear hHeld15
         refine NoPanic.normal ?_
         have q18 : sBookOk_p_b1 a0 k8 () = .go () := by simp only [sBookOk_p_b1, h14.out, eh17, h17, cond_true]
         replace q18 := Lib.hid (rounds_next hy9.out q18)
         go_wp2
         go_roundw
         case rel => exact ⟨(by simp (maxDischargeDepth := 9) [B15]), (by simp (maxDischargeDepth := 9) [Xbx1_15]), k8 + 1, by go_num, by omega, q18⟩
         case measure => simp [intOf]; omega
        ·
         refine tt 17 ?_
         simp only [Act.put, sa, s0, ss]
         refine tt 18 ?_
         simp only [Act.put, sa, s0, ss]
         refine wpAnyH_done (by kernel_rfl) ?_ _
         clear hHeld15
         refine NoPanic.normal ?_
         have q19 : sBookOk_p_b1 a0 k8 () = .ret false := by simp only [sBookOk_p_b1, h14.out, eh17, h17, cond_true, cond_false]
         have q20 := rounds_ret hlt9 hy9.out q19
         obtain rfl : r = false := hr.out.symm.trans (by simp only [sBookOk_p, h2d.out, h3d.out, h5.out, h7.out, q20, cond_true, cond_false])
         go_wp2
         go_ret
         exact rbk (by simp (maxDischargeDepth := 9) [B15])
       | false =>
        replace h14 := Lib.hid h14
        go_wp2_with fail
        refine hK.out _ _ ?_ (fun hHeld5 => ?_)
        · go_keep
        clear hK K hHeld0
        refine tt 6 ?_
        simp only [Act.put, sa, s0, ss]
        refine tt 7 ?_
        simp only [Act.put, sa, s0, ss]
        refine tu 8 ?_
        simp only [Act.put, sa, s0, ss]
        refine tu 9 ?_
        simp only [Act.put, sa, s0, ss]
        refine tu 10 ?_
        simp only [Act.put, sa, s0, ss]
        refine tu 11 ?_
        simp only [Act.put, sa, s0, ss]
        refine tu 12 ?_
        simp only [Act.put, sa, s0, ss]
        refine tu 13 ?_
        simp only [Act.put, sa, s0, ss]
        refine tu 14 ?_
        simp only [Act.put, sa, s0, ss]
        refine tu 15 ?_
        simp only [Act.put, sa, s0, ss]
        refine tu 16 ?_
        simp only [Act.put, sa, s0, ss]
        refine tu 17 ?_
        simp only [Act.put, sa, s0, ss]
        refine tt 18 ?_
        simp only [Act.put, sa, s0, ss]
        refine wpAnyH_done (by kernel_rfl) ?_ _
        clear hHeld5
        refine NoPanic.normal ?_
        have q21 : sBookOk_p_b1 a0 k8 () = .ret false := by simp only [sBookOk_p_b1, h14.out, cond_false]
        have q22 := rounds_ret hlt9 hy9.out q21
        obtain rfl : r = false := hr.out.symm.trans (by simp only [sBookOk_p, h2d.out, h3d.out, h5.out, h7.out, q22, cond_true, cond_false])
        go_wp2
        go_ret
        exact rbk (by simp (maxDischargeDepth := 9) [B13])
      ·
       obtain rfl : a0.Defs.length = k8 := by omega
       go_wp2
       go_loopw [4] (fun i4 wr23 => Below w.heap.size w wr23 ∧ Bx wr23 (w.heap.size) [.slice p0_0 a0.Defs.length c0_0, .slice p0_1 a0.Works.length c0_1, .int .i64 a0.Now, .int .i64 a0.Ring] ∧ ∃ (k23 : Nat), i4 = .int .i64 k23 ∧ k23 ≤ a0.Works.length ∧ Hid (rounds (sBookOk_p_b2 a0) k23 () = .go ())) (fun i4 _ => a0.Works.length - (intOf i4).toNat)
       case atStart => exact ⟨(by simp (maxDischargeDepth := 9) [B9]), (by simp (maxDischargeDepth := 9) [Xbx1_9]), 0, rfl, by omega, Lib.hid rfl⟩
       case round =>
        rename World => wr23
        clear Xbx1_9 Xbx1_9k0 Xbx1_9k1 Xbx1_9k2 Xbx1_9k3 B9
        obtain ⟨B24, Xbx1_24, k23, rfl, hk24, hy24⟩ := hrel
        have ⟨Xbx1_24k0, Xbx1_24k1, Xbx1_24k2, Xbx1_24k3⟩ := bx4 Xbx1_24
        by_cases hlt24 : k23 < a0.Works.length
        ·
         have hi27 : k23 < a0.Works.length := by first | assumption | omega
         obtain ⟨e26b, e26o, ue26_2, ue26_4, ue26_5, ue26_6, ue26_7, rfl, e26bl, e26ok, ⟨e26d0, e26d1, e26d2, e26d3, e26d4, e26d5, e26d6, e26d7, e26d8, e26d9⟩, te26_2, te26_4, te26_5, te26_6, te26_7⟩ := Sl.gtWork s0_1 k23 hi27
         obtain ⟨pe26_2, ce26_2, rfl, hlpe26_2, -⟩ := te26_2.open
         obtain ⟨pe26_4, ce26_4, rfl, hlpe26_4, -⟩ := te26_4.open
         obtain ⟨pe26_5, ce26_5, rfl, hlpe26_5, -⟩ := te26_5.open
         obtain ⟨pe26_6, ce26_6, rfl, hlpe26_6, -⟩ := te26_6.open
         obtain ⟨pe26_7, ce26_7, rfl, hlpe26_7, -⟩ := te26_7.open
         have e26E := Lib.hid (And.intro e26d0 (And.intro e26d1 (And.intro e26d2 (And.intro e26d3 (And.intro e26d4 (And.intro e26d5 (And.intro e26d6 (And.intro e26d7 (And.intro e26d8 e26d9)))))))))
         clear e26d0 e26d1 e26d2 e26d3 e26d4 e26d5 e26d6 e26d7 e26d8 e26d9
         have ⟨e26d0n, e26d1n, e26d2n, e26d3n, e26d4n, e26d5n, e26d6n, e26d7n, e26d8n, e26d9n⟩ := cb10 B24 e26bl e26E.out
         go_wp2_with fail
         refine (sDefAt_w a0 ((gt a0.Works k23).Def) _ _ _ (s0_0.to (by simp (maxDischargeDepth := 9) [B24])) (s0_1.to (by simp (maxDischargeDepth := 9) [B24]))).mono ?_
         rintro e w29 ⟨rfl, hb29⟩
         have B29 := via (w0 := w) (by simp (maxDischargeDepth := 9) [B24]) hb29
         have U29 : Below wr23.heap.size wr23 w29 := via (by simp (maxDischargeDepth := 9)) hb29
         have Xbx1_29 := Xbx1_24.via U29
         clear Xbx1_24 Xbx1_24k0 Xbx1_24k1 Xbx1_24k2 Xbx1_24k3
         have ⟨Xbx1_29k0, Xbx1_29k1, Xbx1_29k2, Xbx1_29k3⟩ := bx4 Xbx1_29
         have Xbx28_29 : Bx w29 (wr23.heap.size) [.string ((gt a0.Works k23).Name), .string ((gt a0.Works k23).Def), .slice pe26_2 ((gt a0.Works k23).X.S.Items.length) ce26_2, .int .i64 ((gt a0.Works k23).X.S.Next), .slice pe26_4 ((gt a0.Works k23).X.Fired.length) ce26_4, .slice pe26_5 ((gt a0.Works k23).X.Tasks.length) ce26_5, .slice pe26_6 ((gt a0.Works k23).X.Timers.length) ce26_6, .slice pe26_7 ((gt a0.Works k23).X.Undos.length) ce26_7, .int .i64 ((gt a0.Works k23).X.State), .int .i64 ((gt a0.Works k23).X.Now)] := Bx.via (by simp (maxDischargeDepth := 9)) hb29
         have ⟨Xbx28_29k0, Xbx28_29k1, Xbx28_29k2, Xbx28_29k3, Xbx28_29k4, Xbx28_29k5, Xbx28_29k6, Xbx28_29k7, Xbx28_29k8, Xbx28_29k9⟩ := bx10 Xbx28_29
         clear e26d0n e26d1n e26d2n e26d3n e26d4n e26d5n e26d6n e26d7n e26d8n e26d9n
         have ⟨e26d0n, e26d1n, e26d2n, e26d3n, e26d4n, e26d5n, e26d6n, e26d7n, e26d8n, e26d9n⟩ := cb10 B29 e26bl e26E.out
         clear U29
         clear B24
         have ⟨z30a, z30b⟩ := sDefAt_in a0 ((gt a0.Works k23).Def)
         by_cases h31 : (sDefAt_p a0 ((gt a0.Works k23).Def)) < (0 : Int)
         ·
          have h31d := Lib.hid (decide_eq_true h31)
          have h31e := decide_eq_true h31
          go_wp2
          refine wp_region_noPanic ?_
          refine wp_region_held_drew (S := (fun w' => w'.cell? ⟨w.heap.size, 0, none⟩ = some (.slice p0_0 a0.Defs.length c0_0) ∧ w'.cell? ⟨w.heap.size, 1, none⟩ = some (.slice (some ⟨e26b, e26o, none⟩) a0.Works.length c0_1) ∧ w'.cell? ⟨w.heap.size, 2, none⟩ = some (.int .i64 a0.Now) ∧ w'.cell? ⟨w.heap.size, 3, none⟩ = some (.int .i64 a0.Ring) ∧ w'.cell? ⟨wr23.heap.size, 0, none⟩ = some (.string ((gt a0.Works k23).Name)) ∧ w'.cell? ⟨wr23.heap.size, 1, none⟩ = some (.string ((gt a0.Works k23).Def)) ∧ w'.cell? ⟨wr23.heap.size, 2, none⟩ = some (.slice pe26_2 ((gt a0.Works k23).X.S.Items.length) ce26_2) ∧ w'.cell? ⟨wr23.heap.size, 3, none⟩ = some (.int .i64 ((gt a0.Works k23).X.S.Next)) ∧ w'.cell? ⟨wr23.heap.size, 4, none⟩ = some (.slice pe26_4 ((gt a0.Works k23).X.Fired.length) ce26_4) ∧ w'.cell? ⟨wr23.heap.size, 5, none⟩ = some (.slice pe26_5 ((gt a0.Works k23).X.Tasks.length) ce26_5) ∧ w'.cell? ⟨wr23.heap.size, 6, none⟩ = some (.slice pe26_6 ((gt a0.Works k23).X.Timers.length) ce26_6) ∧ w'.cell? ⟨wr23.heap.size, 7, none⟩ = some (.slice pe26_7 ((gt a0.Works k23).X.Undos.length) ce26_7) ∧ w'.cell? ⟨wr23.heap.size, 8, none⟩ = some (.int .i64 ((gt a0.Works k23).X.State)) ∧ w'.cell? ⟨wr23.heap.size, 9, none⟩ = some (.int .i64 ((gt a0.Works k23).X.Now)) ∧ w'.cell? ⟨e26b, e26o + k23 * 10, none⟩ = some (.string ((gt a0.Works k23).Name)) ∧ w'.cell? ⟨e26b, e26o + k23 * 10 + 1, none⟩ = some (.string ((gt a0.Works k23).Def)) ∧ w'.cell? ⟨e26b, e26o + k23 * 10 + 2, none⟩ = some (.slice pe26_2 ((gt a0.Works k23).X.S.Items.length) ce26_2) ∧ w'.cell? ⟨e26b, e26o + k23 * 10 + 3, none⟩ = some (.int .i64 ((gt a0.Works k23).X.S.Next)) ∧ w'.cell? ⟨e26b, e26o + k23 * 10 + 4, none⟩ = some (.slice pe26_4 ((gt a0.Works k23).X.Fired.length) ce26_4) ∧ w'.cell? ⟨e26b, e26o + k23 * 10 + 5, none⟩ = some (.slice pe26_5 ((gt a0.Works k23).X.Tasks.length) ce26_5) ∧ w'.cell? ⟨e26b, e26o + k23 * 10 + 6, none⟩ = some (.slice pe26_6 ((gt a0.Works k23).X.Timers.length) ce26_6) ∧ w'.cell? ⟨e26b, e26o + k23 * 10 + 7, none⟩ = some (.slice pe26_7 ((gt a0.Works k23).X.Undos.length) ce26_7) ∧ w'.cell? ⟨e26b, e26o + k23 * 10 + 8, none⟩ = some (.int .i64 ((gt a0.Works k23).X.State)) ∧ w'.cell? ⟨e26b, e26o + k23 * 10 + 9, none⟩ = some (.int .i64 ((gt a0.Works k23).X.Now)))) (by kernel_rfl) ?_ (fun hHeld0 => ?_)
          · go_keep
          refine tt 0 ?_
          simp only [Act.put, sa, s0, ss]
          refine tt 1 ?_
          simp only [Act.put, sa, s0, ss]
          refine wpAnyH_ready (rs := [2]) (by kernel_rfl) (by simp) ?_
          refine' AllReadyH.cons (o := _) ?hi1102_2 (fun K hK => ?_) AllReadyH.nil
          case hi1102_2 => simp only [List.getElem?_toArray, List.getElem?_cons_succ, List.getElem?_cons_zero]; exact rfl
          go_simp
          go_at_call 91
          refine (sNameOk_w ((gt a0.Works k23).Name)  _ e26ok.1).mono ?_
          rintro e w32 ⟨rfl, hb32⟩
          have B32 := via (w0 := w) (by simp (maxDischargeDepth := 9) [B29]) hb32
          have U32 : Below w29.heap.size w29 w32 := via (by simp (maxDischargeDepth := 9)) hb32
          have Xbx1_32 := Xbx1_29.via U32
          clear Xbx1_29 Xbx1_29k0 Xbx1_29k1 Xbx1_29k2 Xbx1_29k3
          have ⟨Xbx1_32k0, Xbx1_32k1, Xbx1_32k2, Xbx1_32k3⟩ := bx4 Xbx1_32
          have Xbx28_32 := Xbx28_29.via U32
          clear Xbx28_29 Xbx28_29k0 Xbx28_29k1 Xbx28_29k2 Xbx28_29k3 Xbx28_29k4 Xbx28_29k5 Xbx28_29k6 Xbx28_29k7 Xbx28_29k8 Xbx28_29k9
          have ⟨Xbx28_32k0, Xbx28_32k1, Xbx28_32k2, Xbx28_32k3, Xbx28_32k4, Xbx28_32k5, Xbx28_32k6, Xbx28_32k7, Xbx28_32k8, Xbx28_32k9⟩ := bx10 Xbx28_32
          clear e26d0n e26d1n e26d2n e26d3n e26d4n e26d5n e26d6n e26d7n e26d8n e26d9n
          have ⟨e26d0n, e26d1n, e26d2n, e26d3n, e26d4n, e26d5n, e26d6n, e26d7n, e26d8n, e26d9n⟩ := cb10 B32 e26bl e26E.out
          clear U32
          clear B29
          cases h33 : sNameOk_p ((gt a0.Works k23).Name) with
          | true =>
           replace h33 := Lib.hid h33
           go_wp2_with fail
           refine hK.out _ _ ?_ (fun hHeld2 => ?_)
           · go_keep
           clear hK K hHeld0
           refine tt 3 ?_
           simp only [Act.put, sa, s0, ss]
           refine tt 4 ?_
           simp only [Act.put, sa, s0, ss]
           refine tt 5 ?_
           simp only [Act.put, sa, s0, ss]
           refine tt 6 ?_
           simp only [Act.put, sa, s0, ss]
           refine tt 7 ?_
           simp only [Act.put, sa, s0, ss]
           refine tt 9 ?_
           simp only [Act.put, sa, s0, ss]
           refine wpAnyH_ready (rs := [8]) (by kernel_rfl) (by simp) ?_
           refine' AllReadyH.cons (o := _) ?hi1103_8 (fun K hK => ?_) AllReadyH.nil
           case hi1103_8 => simp only [List.getElem?_toArray, List.getElem?_cons_succ, List.getElem?_cons_zero]; exact rfl
           go_simp
           go_at_call 57
           refine (sWorkAt_w a0 ((gt a0.Works k23).Name) _ _ _ (s0_0.to (by simp (maxDischargeDepth := 9) [B32])) (s0_1.to (by simp (maxDischargeDepth := 9) [B32]))).mono ?_
           rintro e w34 ⟨rfl, hb34⟩
           have B34 := via (w0 := w) (by simp (maxDischargeDepth := 9) [B32]) hb34
           have U34 : Below w32.heap.size w32 w34 := via (by simp (maxDischargeDepth := 9)) hb34
           have Xbx1_34 := Xbx1_32.via U34
           clear Xbx1_32 Xbx1_32k0 Xbx1_32k1 Xbx1_32k2 Xbx1_32k3
           have ⟨Xbx1_34k0, Xbx1_34k1, Xbx1_34k2, Xbx1_34k3⟩ := bx4 Xbx1_34
           have Xbx28_34 := Xbx28_32.via U34
           clear Xbx28_32 Xbx28_32k0 Xbx28_32k1 Xbx28_32k2 Xbx28_32k3 Xbx28_32k4 Xbx28_32k5 Xbx28_32k6 Xbx28_32k7 Xbx28_32k8 Xbx28_32k9
           have ⟨Xbx28_34k0, Xbx28_34k1, Xbx28_34k2, Xbx28_34k3, Xbx28_34k4, Xbx28_34k5, Xbx28_34k6, Xbx28_34k7, Xbx28_34k8, Xbx28_34k9⟩ := bx10 Xbx28_34
           clear e26d0n e26d1n e26d2n e26d3n e26d4n e26d5n e26d6n e26d7n e26d8n e26d9n
           have ⟨e26d0n, e26d1n, e26d2n, e26d3n, e26d4n, e26d5n, e26d6n, e26d7n, e26d8n, e26d9n⟩ := cb10 B34 e26bl e26E.out
           clear U34
           clear B32
           go_wp2_with fail
           refine hK.out _ _ ?_ (fun hHeld8 => ?_)
           · go_keep
           clear hK K hHeld2
           obtain ⟨bh35, eh35⟩ : ∃ b, ((sWorkAt_p a0 ((gt a0.Works k23).Name)) == (k23 : Int)) = b := ⟨_, rfl⟩
           have nh35 : ((sWorkAt_p a0 ((gt a0.Works k23).Name)) != (k23 : Int)) = !bh35 := by rw [← eh35]; rfl
           rcases Bool.eq_false_or_eq_true bh35 with h35 | h35
           ·
            refine tt 10 ?_
            simp only [Act.put, sa, s0, ss]
            refine tt 11 ?_
            simp only [Act.put, sa, s0, ss]
            refine tt 12 ?_
            simp only [Act.put, sa, s0, ss]
            refine tt 13 ?_
            simp only [Act.put, sa, s0, ss]
            refine tt 14 ?_
            simp only [Act.put, sa, s0, ss]
            refine tt 15 ?_
            simp only [Act.put, sa, s0, ss]
            refine tt 16 ?_
            simp only [Act.put, sa, s0, ss]
            refine tu 17 ?_
            simp only [Act.put, sa, s0, ss]
            refine tu 18 ?_
            simp only [Act.put, sa, s0, ss]
            refine tu 19 ?_
            simp only [Act.put, sa, s0, ss]
            refine tu 20 ?_
            simp only [Act.put, sa, s0, ss]
            refine tu 21 ?_
            simp only [Act.put, sa, s0, ss]
            refine tu 22 ?_
            simp only [Act.put, sa, s0, ss]
            refine tu 23 ?_
            simp only [Act.put, sa, s0, ss]
            refine tu 24 ?_
            simp only [Act.put, sa, s0, ss]
            refine tu 25 ?_
            simp only [Act.put, sa, s0, ss]
            refine tt 26 ?_
            simp only [Act.put, sa, s0, ss]
            refine tt 27 ?_
            simp only [Act.put, sa, s0, ss]
            refine tu 28 ?_
            simp only [Act.put, sa, s0, ss]
            refine tu 29 ?_
            simp only [Act.put, sa, s0, ss]
            refine tu 30 ?_
            simp only [Act.put, sa, s0, ss]
            refine tu 31 ?_
            simp only [Act.put, sa, s0, ss]
            refine tu 32 ?_
            simp only [Act.put, sa, s0, ss]
            refine tu 33 ?_
            simp only [Act.put, sa, s0, ss]
            refine tt 34 ?_
            simp only [Act.put, sa, s0, ss]
            refine wpAnyH_done (by kernel_rfl) ?_ _
            clear hHeld8
            refine NoPanic.normal ?_
            have q36 : sBookOk_p_b2 a0 k23 () = .ret false := by simp only [sBookOk_p_b2, h31d.out, h33.out, eh35, h35, cond_true]
            have q37 := rounds_ret hlt24 hy24.out q36
            obtain rfl : r = false := hr.out.symm.trans (by simp only [sBookOk_p, h2d.out, h3d.out, h5.out, h7.out, hy9.out, q37, cond_true, cond_false])
            go_wp2
            go_ret
            exact rbk (by simp (maxDischargeDepth := 9) [B34])
           ·
            refine tt 10 ?_
            simp only [Act.put, sa, s0, ss]
            refine tt 11 ?_
            simp only [Act.put, sa, s0, ss]
            refine tt 12 ?_
            simp only [Act.put, sa, s0, ss]
            refine tu 13 ?_
            simp only [Act.put, sa, s0, ss]
            refine tu 14 ?_
            simp only [Act.put, sa, s0, ss]
            refine tt 15 ?_
            simp only [Act.put, sa, s0, ss]
            refine tt 16 ?_
            simp only [Act.put, sa, s0, ss]
            refine tu 17 ?_
            simp only [Act.put, sa, s0, ss]
            refine tu 18 ?_
            simp only [Act.put, sa, s0, ss]
            refine tu 19 ?_
            simp only [Act.put, sa, s0, ss]
            refine tu 20 ?_
            simp only [Act.put, sa, s0, ss]
            refine tu 21 ?_
            simp only [Act.put, sa, s0, ss]
            refine tu 22 ?_
            simp only [Act.put, sa, s0, ss]
            refine tu 23 ?_
            simp only [Act.put, sa, s0, ss]
            refine tu 24 ?_
            simp only [Act.put, sa, s0, ss]
            refine tu 25 ?_
            simp only [Act.put, sa, s0, ss]
            refine tt 26 ?_
            simp only [Act.put, sa, s0, ss]
            refine tt 27 ?_
            simp only [Act.put, sa, s0, ss]
            refine tu 28 ?_
            simp only [Act.put, sa, s0, ss]
            refine tu 29 ?_
            simp only [Act.put, sa, s0, ss]
            refine tu 30 ?_
            simp only [Act.put, sa, s0, ss]
            refine tu 31 ?_
            simp only [Act.put, sa, s0, ss]
            refine tu 32 ?_
            simp only [Act.put, sa, s0, ss]
            refine tu 33 ?_
            simp only [Act.put, sa, s0, ss]
            refine tt 34 ?_
            simp only [Act.put, sa, s0, ss]
            refine wpAnyH_done (by kernel_rfl) ?_ _
            clear hHeld8
            refine NoPanic.normal ?_
            have q38 : sBookOk_p_b2 a0 k23 () = .ret false := by simp only [sBookOk_p_b2, h31d.out, h33.out, eh35, h35, cond_true, cond_false]
            have q39 := rounds_ret hlt24 hy24.out q38
            obtain rfl : r = false := hr.out.symm.trans (by simp only [sBookOk_p, h2d.out, h3d.out, h5.out, h7.out, hy9.out, q39, cond_true, cond_false])
            go_wp2
            go_ret
            exact rbk (by simp (maxDischargeDepth := 9) [B34])
          | false =>
           replace h33 := Lib.hid h33
           go_wp2_with fail
           refine hK.out _ _ ?_ (fun hHeld2 => ?_)
           · go_keep
           clear hK K hHeld0
           refine tt 3 ?_
           simp only [Act.put, sa, s0, ss]
           refine tt 4 ?_
           simp only [Act.put, sa, s0, ss]
           refine tu 5 ?_
           simp only [Act.put, sa, s0, ss]
           refine tu 6 ?_
           simp only [Act.put, sa, s0, ss]
           refine tu 7 ?_
           simp only [Act.put, sa, s0, ss]
           refine tu 8 ?_
           simp only [Act.put, sa, s0, ss]
           refine tu 9 ?_
           simp only [Act.put, sa, s0, ss]
           refine tu 10 ?_
           simp only [Act.put, sa, s0, ss]
           refine tt 11 ?_
           simp only [Act.put, sa, s0, ss]
           refine tt 12 ?_
           simp only [Act.put, sa, s0, ss]
           refine tu 13 ?_
           simp only [Act.put, sa, s0, ss]
           refine tu 14 ?_
           simp only [Act.put, sa, s0, ss]
           refine tt 15 ?_
           simp only [Act.put, sa, s0, ss]
           refine tt 16 ?_
           simp only [Act.put, sa, s0, ss]
           refine tu 17 ?_
           simp only [Act.put, sa, s0, ss]
           refine tu 18 ?_
           simp only [Act.put, sa, s0, ss]
           refine tu 19 ?_
           simp only [Act.put, sa, s0, ss]
           refine tu 20 ?_
           simp only [Act.put, sa, s0, ss]
           refine tu 21 ?_
           simp only [Act.put, sa, s0, ss]
           refine tu 22 ?_
           simp only [Act.put, sa, s0, ss]
           refine tu 23 ?_
           simp only [Act.put, sa, s0, ss]
           refine tu 24 ?_
           simp only [Act.put, sa, s0, ss]
           refine tu 25 ?_
           simp only [Act.put, sa, s0, ss]
           refine tt 26 ?_
           simp only [Act.put, sa, s0, ss]
           refine tt 27 ?_
           simp only [Act.put, sa, s0, ss]
           refine tu 28 ?_
           simp only [Act.put, sa, s0, ss]
           refine tu 29 ?_
           simp only [Act.put, sa, s0, ss]
           refine tu 30 ?_
           simp only [Act.put, sa, s0, ss]
           refine tu 31 ?_
           simp only [Act.put, sa, s0, ss]
           refine tu 32 ?_
           simp only [Act.put, sa, s0, ss]
           refine tu 33 ?_
           simp only [Act.put, sa, s0, ss]
           refine tt 34 ?_
           simp only [Act.put, sa, s0, ss]
           refine wpAnyH_done (by kernel_rfl) ?_ _
           clear hHeld2
           refine NoPanic.normal ?_
           have q40 : sBookOk_p_b2 a0 k23 () = .ret false := by simp only [sBookOk_p_b2, h31d.out, h33.out, cond_true, cond_false]
           have q41 := rounds_ret hlt24 hy24.out q40
           obtain rfl : r = false := hr.out.symm.trans (by simp only [sBookOk_p, h2d.out, h3d.out, h5.out, h7.out, hy9.out, q41, cond_true, cond_false])
           go_wp2
           go_ret
           exact rbk (by simp (maxDischargeDepth := 9) [B32])
         ·
          have h31d := Lib.hid (decide_eq_false h31)
          have h31e := decide_eq_false h31
          have hi43 : (sDefAt_p a0 ((gt a0.Works k23).Def)).toNat < a0.Defs.length := by first | assumption | omega
          obtain ⟨e42b, e42o, ue42_1, rfl, e42bl, e42ok, ⟨e42d0, e42d1⟩, te42_1⟩ := Sl.gtDef s0_0 ((sDefAt_p a0 ((gt a0.Works k23).Def)).toNat) hi43
          obtain ⟨pe42_1, ce42_1, rfl, hlpe42_1, -⟩ := te42_1.open
          have e42E := Lib.hid (And.intro e42d0 e42d1)
          clear e42d0 e42d1
          have ⟨e42d0n, e42d1n⟩ := cb2 B29 e42bl e42E.out
          go_wp2
          refine wp_region_noPanic ?_
          refine wp_region_held_drew (S := (fun w' => w'.cell? ⟨w.heap.size, 0, none⟩ = some (.slice (some ⟨e42b, e42o, none⟩) a0.Defs.length c0_0) ∧ w'.cell? ⟨w.heap.size, 1, none⟩ = some (.slice (some ⟨e26b, e26o, none⟩) a0.Works.length c0_1) ∧ w'.cell? ⟨w.heap.size, 2, none⟩ = some (.int .i64 a0.Now) ∧ w'.cell? ⟨w.heap.size, 3, none⟩ = some (.int .i64 a0.Ring) ∧ w'.cell? ⟨wr23.heap.size, 0, none⟩ = some (.string ((gt a0.Works k23).Name)) ∧ w'.cell? ⟨wr23.heap.size, 1, none⟩ = some (.string ((gt a0.Works k23).Def)) ∧ w'.cell? ⟨wr23.heap.size, 2, none⟩ = some (.slice pe26_2 ((gt a0.Works k23).X.S.Items.length) ce26_2) ∧ w'.cell? ⟨wr23.heap.size, 3, none⟩ = some (.int .i64 ((gt a0.Works k23).X.S.Next)) ∧ w'.cell? ⟨wr23.heap.size, 4, none⟩ = some (.slice pe26_4 ((gt a0.Works k23).X.Fired.length) ce26_4) ∧ w'.cell? ⟨wr23.heap.size, 5, none⟩ = some (.slice pe26_5 ((gt a0.Works k23).X.Tasks.length) ce26_5) ∧ w'.cell? ⟨wr23.heap.size, 6, none⟩ = some (.slice pe26_6 ((gt a0.Works k23).X.Timers.length) ce26_6) ∧ w'.cell? ⟨wr23.heap.size, 7, none⟩ = some (.slice pe26_7 ((gt a0.Works k23).X.Undos.length) ce26_7) ∧ w'.cell? ⟨wr23.heap.size, 8, none⟩ = some (.int .i64 ((gt a0.Works k23).X.State)) ∧ w'.cell? ⟨wr23.heap.size, 9, none⟩ = some (.int .i64 ((gt a0.Works k23).X.Now)) ∧ w'.cell? ⟨e26b, e26o + k23 * 10, none⟩ = some (.string ((gt a0.Works k23).Name)) ∧ w'.cell? ⟨e26b, e26o + k23 * 10 + 1, none⟩ = some (.string ((gt a0.Works k23).Def)) ∧ w'.cell? ⟨e26b, e26o + k23 * 10 + 2, none⟩ = some (.slice pe26_2 ((gt a0.Works k23).X.S.Items.length) ce26_2) ∧ w'.cell? ⟨e26b, e26o + k23 * 10 + 3, none⟩ = some (.int .i64 ((gt a0.Works k23).X.S.Next)) ∧ w'.cell? ⟨e26b, e26o + k23 * 10 + 4, none⟩ = some (.slice pe26_4 ((gt a0.Works k23).X.Fired.length) ce26_4) ∧ w'.cell? ⟨e26b, e26o + k23 * 10 + 5, none⟩ = some (.slice pe26_5 ((gt a0.Works k23).X.Tasks.length) ce26_5) ∧ w'.cell? ⟨e26b, e26o + k23 * 10 + 6, none⟩ = some (.slice pe26_6 ((gt a0.Works k23).X.Timers.length) ce26_6) ∧ w'.cell? ⟨e26b, e26o + k23 * 10 + 7, none⟩ = some (.slice pe26_7 ((gt a0.Works k23).X.Undos.length) ce26_7) ∧ w'.cell? ⟨e26b, e26o + k23 * 10 + 8, none⟩ = some (.int .i64 ((gt a0.Works k23).X.State)) ∧ w'.cell? ⟨e26b, e26o + k23 * 10 + 9, none⟩ = some (.int .i64 ((gt a0.Works k23).X.Now)) ∧ w'.cell? ⟨e42b, e42o + ((sDefAt_p a0 ((gt a0.Works k23).Def)).toNat) * 2, none⟩ = some (.string ((gt a0.Defs ((sDefAt_p a0 ((gt a0.Works k23).Def)).toNat)).Name)) ∧ w'.cell? ⟨e42b, e42o + ((sDefAt_p a0 ((gt a0.Works k23).Def)).toNat) * 2 + 1, none⟩ = some (.slice pe42_1 ((gt a0.Defs ((sDefAt_p a0 ((gt a0.Works k23).Def)).toNat)).Rules.length) ce42_1))) (by kernel_rfl) ?_ (fun hHeld0 => ?_)
          · go_keep
          refine tt 0 ?_
          simp only [Act.put, sa, s0, ss]
          refine tt 1 ?_
          simp only [Act.put, sa, s0, ss]
          refine wpAnyH_ready (rs := [2]) (by kernel_rfl) (by simp) ?_
          refine' AllReadyH.cons (o := _) ?hi1106_2 (fun K hK => ?_) AllReadyH.nil
          case hi1106_2 => simp only [List.getElem?_toArray, List.getElem?_cons_succ, List.getElem?_cons_zero]; exact rfl
          go_simp
          go_at_call 91
          refine (sNameOk_w ((gt a0.Works k23).Name)  _ e26ok.1).mono ?_
          rintro e w44 ⟨rfl, hb44⟩
          have B44 := via (w0 := w) (by simp (maxDischargeDepth := 9) [B29]) hb44
          have U44 : Below w29.heap.size w29 w44 := via (by simp (maxDischargeDepth := 9)) hb44
          have Xbx1_44 := Xbx1_29.via U44
          clear Xbx1_29 Xbx1_29k0 Xbx1_29k1 Xbx1_29k2 Xbx1_29k3
          have ⟨Xbx1_44k0, Xbx1_44k1, Xbx1_44k2, Xbx1_44k3⟩ := bx4 Xbx1_44
          have Xbx28_44 := Xbx28_29.via U44
          clear Xbx28_29 Xbx28_29k0 Xbx28_29k1 Xbx28_29k2 Xbx28_29k3 Xbx28_29k4 Xbx28_29k5 Xbx28_29k6 Xbx28_29k7 Xbx28_29k8 Xbx28_29k9
          have ⟨Xbx28_44k0, Xbx28_44k1, Xbx28_44k2, Xbx28_44k3, Xbx28_44k4, Xbx28_44k5, Xbx28_44k6, Xbx28_44k7, Xbx28_44k8, Xbx28_44k9⟩ := bx10 Xbx28_44
          clear e26d0n e26d1n e26d2n e26d3n e26d4n e26d5n e26d6n e26d7n e26d8n e26d9n
          have ⟨e26d0n, e26d1n, e26d2n, e26d3n, e26d4n, e26d5n, e26d6n, e26d7n, e26d8n, e26d9n⟩ := cb10 B44 e26bl e26E.out
          clear e42d0n e42d1n
          have ⟨e42d0n, e42d1n⟩ := cb2 B44 e42bl e42E.out
          clear U44
          clear B29
          cases h45 : sNameOk_p ((gt a0.Works k23).Name) with
          | true =>
           replace h45 := Lib.hid h45
           go_wp2_with fail
           refine hK.out _ _ ?_ (fun hHeld2 => ?_)
           · go_keep
           clear hK K hHeld0
           refine tt 3 ?_
           simp only [Act.put, sa, s0, ss]
           refine tt 4 ?_
           simp only [Act.put, sa, s0, ss]
           refine tt 5 ?_
           simp only [Act.put, sa, s0, ss]
           refine tt 6 ?_
           simp only [Act.put, sa, s0, ss]
           refine tt 7 ?_
           simp only [Act.put, sa, s0, ss]
           refine tt 9 ?_
           simp only [Act.put, sa, s0, ss]
           refine wpAnyH_ready (rs := [8]) (by kernel_rfl) (by simp) ?_
           refine' AllReadyH.cons (o := _) ?hi1107_8 (fun K hK => ?_) AllReadyH.nil
           case hi1107_8 => simp only [List.getElem?_toArray, List.getElem?_cons_succ, List.getElem?_cons_zero]; exact rfl
           go_simp
           go_at_call 57
           refine (sWorkAt_w a0 ((gt a0.Works k23).Name) _ _ _ (s0_0.to (by simp (maxDischargeDepth := 9) [B44])) (s0_1.to (by simp (maxDischargeDepth := 9) [B44]))).mono ?_
           rintro e w46 ⟨rfl, hb46⟩
           have B46 := via (w0 := w) (by simp (maxDischargeDepth := 9) [B44]) hb46
           have U46 : Below w44.heap.size w44 w46 := via (by simp (maxDischargeDepth := 9)) hb46
           have Xbx1_46 := Xbx1_44.via U46
           clear Xbx1_44 Xbx1_44k0 Xbx1_44k1 Xbx1_44k2 Xbx1_44k3
           have ⟨Xbx1_46k0, Xbx1_46k1, Xbx1_46k2, Xbx1_46k3⟩ := bx4 Xbx1_46
           have Xbx28_46 := Xbx28_44.via U46
           clear Xbx28_44 Xbx28_44k0 Xbx28_44k1 Xbx28_44k2 Xbx28_44k3 Xbx28_44k4 Xbx28_44k5 Xbx28_44k6 Xbx28_44k7 Xbx28_44k8 Xbx28_44k9
           have ⟨Xbx28_46k0, Xbx28_46k1, Xbx28_46k2, Xbx28_46k3, Xbx28_46k4, Xbx28_46k5, Xbx28_46k6, Xbx28_46k7, Xbx28_46k8, Xbx28_46k9⟩ := bx10 Xbx28_46
           clear e26d0n e26d1n e26d2n e26d3n e26d4n e26d5n e26d6n e26d7n e26d8n e26d9n
           have ⟨e26d0n, e26d1n, e26d2n, e26d3n, e26d4n, e26d5n, e26d6n, e26d7n, e26d8n, e26d9n⟩ := cb10 B46 e26bl e26E.out
           clear e42d0n e42d1n
           have ⟨e42d0n, e42d1n⟩ := cb2 B46 e42bl e42E.out
           clear U46
           clear B44
           go_wp2_with fail
           refine hK.out _ _ ?_ (fun hHeld8 => ?_)
           · go_keep
           clear hK K hHeld2
           obtain ⟨bh47, eh47⟩ : ∃ b, ((sWorkAt_p a0 ((gt a0.Works k23).Name)) == (k23 : Int)) = b := ⟨_, rfl⟩
           have nh47 : ((sWorkAt_p a0 ((gt a0.Works k23).Name)) != (k23 : Int)) = !bh47 := by rw [← eh47]; rfl
           rcases Bool.eq_false_or_eq_true bh47 with h47 | h47
           ·
            refine tt 10 ?_
            simp only [Act.put, sa, s0, ss]
            refine tt 11 ?_
            simp only [Act.put, sa, s0, ss]
            refine tt 12 ?_
            simp only [Act.put, sa, s0, ss]
            refine tt 13 ?_
            simp only [Act.put, sa, s0, ss]
            refine tt 14 ?_
            simp only [Act.put, sa, s0, ss]
            refine tt 15 ?_
            simp only [Act.put, sa, s0, ss]
            refine tt 16 ?_
            simp only [Act.put, sa, s0, ss]
            refine tt 17 ?_
            simp only [Act.put, sa, s0, ss]
            refine tt 18 ?_
            simp only [Act.put, sa, s0, ss]
            refine tt 19 ?_
            simp only [Act.put, sa, s0, ss]
            refine tt 20 ?_
            simp only [Act.put, sa, s0, ss]
            refine tt 21 ?_
            simp only [Act.put, sa, s0, ss]
            refine tt 22 ?_
            simp only [Act.put, sa, s0, ss]
            refine tt 23 ?_
            simp only [Act.put, sa, s0, ss]
            refine wpAnyH_ready (rs := [24]) (by kernel_rfl) (by simp) ?_
            refine' AllReadyH.cons (o := _) ?hi1108_24 (fun K hK => ?_) AllReadyH.nil
            case hi1108_24 => simp only [List.getElem?_toArray, List.getElem?_cons_succ, List.getElem?_cons_zero]; exact rfl
            go_simp
            go_at_call 92
            refine (sInstOk_w (gt a0.Defs ((sDefAt_p a0 ((gt a0.Works k23).Def)).toNat)) ((gt a0.Works k23).X) _ _ _ _ _ _ _ (te42_1.to (by simp (maxDischargeDepth := 9) [B46])) (te26_2.to (by simp (maxDischargeDepth := 9) [B46])) (te26_4.to (by simp (maxDischargeDepth := 9) [B46])) (te26_5.to (by simp (maxDischargeDepth := 9) [B46])) (te26_6.to (by simp (maxDischargeDepth := 9) [B46])) (te26_7.to (by simp (maxDischargeDepth := 9) [B46])) e42ok (Nat.le_trans (szn_gtDef a0.Defs ((sDefAt_p a0 ((gt a0.Works k23).Def)).toNat) (by first | assumption | omega)) (Nat.le_trans (szn_Book_Defs a0) hz_a0)) (Nat.le_trans (szn_Work_X (gt a0.Works k23)) (Nat.le_trans (szn_gtWork a0.Works k23 (by first | assumption | omega)) (Nat.le_trans (szn_Book_Works a0) hz_a0)))).mono ?_
            rintro e w48 ⟨rfl, hb48⟩
            have B48 := via (w0 := w) (by simp (maxDischargeDepth := 9) [B46]) hb48
            have U48 : Below w46.heap.size w46 w48 := via (by simp (maxDischargeDepth := 9)) hb48
            have Xbx1_48 := Xbx1_46.via U48
            clear Xbx1_46 Xbx1_46k0 Xbx1_46k1 Xbx1_46k2 Xbx1_46k3
            have ⟨Xbx1_48k0, Xbx1_48k1, Xbx1_48k2, Xbx1_48k3⟩ := bx4 Xbx1_48
            have Xbx28_48 := Xbx28_46.via U48
            clear Xbx28_46 Xbx28_46k0 Xbx28_46k1 Xbx28_46k2 Xbx28_46k3 Xbx28_46k4 Xbx28_46k5 Xbx28_46k6 Xbx28_46k7 Xbx28_46k8 Xbx28_46k9
            have ⟨Xbx28_48k0, Xbx28_48k1, Xbx28_48k2, Xbx28_48k3, Xbx28_48k4, Xbx28_48k5, Xbx28_48k6, Xbx28_48k7, Xbx28_48k8, Xbx28_48k9⟩ := bx10 Xbx28_48
            clear e26d0n e26d1n e26d2n e26d3n e26d4n e26d5n e26d6n e26d7n e26d8n e26d9n
            have ⟨e26d0n, e26d1n, e26d2n, e26d3n, e26d4n, e26d5n, e26d6n, e26d7n, e26d8n, e26d9n⟩ := cb10 B48 e26bl e26E.out
            clear e42d0n e42d1n
            have ⟨e42d0n, e42d1n⟩ := cb2 B48 e42bl e42E.out
            clear U48
            clear B46
            cases h49 : sInstOk_p (gt a0.Defs ((sDefAt_p a0 ((gt a0.Works k23).Def)).toNat)) ((gt a0.Works k23).X) with
            | true =>
             replace h49 := Lib.hid h49
             go_wp2_with fail
             refine hK.out _ _ ?_ (fun hHeld24 => ?_)
             · go_keep
             clear hK K hHeld8
             refine tt 25 ?_
             simp only [Act.put, sa, s0, ss]
             refine tt 26 ?_
             simp only [Act.put, sa, s0, ss]
             refine tt 27 ?_
             simp only [Act.put, sa, s0, ss]
             refine tt 28 ?_
             simp only [Act.put, sa, s0, ss]
             refine tt 29 ?_
             simp only [Act.put, sa, s0, ss]
             refine tt 30 ?_
             simp only [Act.put, sa, s0, ss]
             refine tt 31 ?_
             simp only [Act.put, sa, s0, ss]
             refine tt 32 ?_
             simp only [Act.put, sa, s0, ss]
             by_cases h50 : a0.Now < (gt a0.Works k23).X.Now
             ·
              have h50d := Lib.hid (decide_eq_true h50)
              have h50e := decide_eq_true h50
              refine tt 33 ?_
              simp only [Act.put, sa, s0, ss]
              refine tt 34 ?_
              simp only [Act.put, sa, s0, ss]
              refine wpAnyH_done (by kernel_rfl) ?_ _
              clear hHeld24
              refine NoPanic.normal ?_
              have q51 : sBookOk_p_b2 a0 k23 () = .ret false := by simp only [sBookOk_p_b2, h31d.out, h45.out, eh47, h47, h49.out, h50d.out, cond_true, cond_false]
              have q52 := rounds_ret hlt24 hy24.out q51
              obtain rfl : r = false := hr.out.symm.trans (by simp only [sBookOk_p, h2d.out, h3d.out, h5.out, h7.out, hy9.out, q52, cond_true, cond_false])
              go_wp2
              go_ret
              exact rbk (by simp (maxDischargeDepth := 9) [B48])
             ·
              have h50d := Lib.hid (decide_eq_false h50)
              have h50e := decide_eq_false h50
              refine tt 33 ?_
              simp only [Act.put, sa, s0, ss]
              refine tt 34 ?_
              simp only [Act.put, sa, s0, ss]
              refine wpAnyH_done (by kernel_rfl) ?_ _
              clear hHeld24
              refine NoPanic.normal ?_
              have q53 : sBookOk_p_b2 a0 k23 () = .go () := by simp only [sBookOk_p_b2, h31d.out, h45.out, eh47, h47, h49.out, h50d.out, cond_true, cond_false]
              replace q53 := Lib.hid (rounds_next hy24.out q53)
              go_wp2
              go_roundw
              case rel => exact ⟨(by simp (maxDischargeDepth := 9) [B48]), (by simp (maxDischargeDepth := 9) [Xbx1_48]), k23 + 1, by go_num, by omega, q53⟩
              case measure => simp [intOf]; omega
            | false =>
             replace h49 := Lib.hid h49
             go_wp2_with fail
             refine hK.out _ _ ?_ (fun hHeld24 => ?_)
             · go_keep
             clear hK K hHeld8
             refine tt 25 ?_
             simp only [Act.put, sa, s0, ss]
             refine tt 26 ?_
             simp only [Act.put, sa, s0, ss]
             refine tt 27 ?_
             simp only [Act.put, sa, s0, ss]
             refine tu 28 ?_
             simp only [Act.put, sa, s0, ss]
             refine tu 29 ?_
             simp only [Act.put, sa, s0, ss]
             refine tu 30 ?_
             simp only [Act.put, sa, s0, ss]
             refine tu 31 ?_
             simp only [Act.put, sa, s0, ss]
             refine tu 32 ?_
             simp only [Act.put, sa, s0, ss]
             refine tu 33 ?_
             simp only [Act.put, sa, s0, ss]
             refine tt 34 ?_
             simp only [Act.put, sa, s0, ss]
             refine wpAnyH_done (by kernel_rfl) ?_ _
             clear hHeld24
             refine NoPanic.normal ?_
             have q54 : sBookOk_p_b2 a0 k23 () = .ret false := by simp only [sBookOk_p_b2, h31d.out, h45.out, eh47, h47, h49.out, cond_true, cond_false]
             have q55 := rounds_ret hlt24 hy24.out q54
             obtain rfl : r = false := hr.out.symm.trans (by simp only [sBookOk_p, h2d.out, h3d.out, h5.out, h7.out, hy9.out, q55, cond_true, cond_false])
             go_wp2
             go_ret
             exact rbk (by simp (maxDischargeDepth := 9) [B48])
           ·
            refine tt 10 ?_
            simp only [Act.put, sa, s0, ss]
            refine tt 11 ?_
            simp only [Act.put, sa, s0, ss]
            refine tt 12 ?_
            simp only [Act.put, sa, s0, ss]
            refine tu 13 ?_
            simp only [Act.put, sa, s0, ss]
            refine tu 14 ?_
            simp only [Act.put, sa, s0, ss]
            refine tt 15 ?_
            simp only [Act.put, sa, s0, ss]
            refine tt 16 ?_
            simp only [Act.put, sa, s0, ss]
            refine tu 17 ?_
            simp only [Act.put, sa, s0, ss]
            refine tu 18 ?_
            simp only [Act.put, sa, s0, ss]
            refine tu 19 ?_
            simp only [Act.put, sa, s0, ss]
            refine tu 20 ?_
            simp only [Act.put, sa, s0, ss]
            refine tu 21 ?_
            simp only [Act.put, sa, s0, ss]
            refine tu 22 ?_
            simp only [Act.put, sa, s0, ss]
            refine tu 23 ?_
            simp only [Act.put, sa, s0, ss]
            refine tu 24 ?_
            simp only [Act.put, sa, s0, ss]
            refine tu 25 ?_
            simp only [Act.put, sa, s0, ss]
            refine tt 26 ?_
            simp only [Act.put, sa, s0, ss]
            refine tt 27 ?_
            simp only [Act.put, sa, s0, ss]
            refine tu 28 ?_
            simp only [Act.put, sa, s0, ss]
            refine tu 29 ?_
            simp only [Act.put, sa, s0, ss]
            refine tu 30 ?_
            simp only [Act.put, sa, s0, ss]
            refine tu 31 ?_
            simp only [Act.put, sa, s0, ss]
            refine tu 32 ?_
            simp only [Act.put, sa, s0, ss]
            refine tu 33 ?_
            simp only [Act.put, sa, s0, ss]
            refine tt 34 ?_
            simp only [Act.put, sa, s0, ss]
            refine wpAnyH_done (by kernel_rfl) ?_ _
            clear hHeld8
            refine NoPanic.normal ?_
            have q56 : sBookOk_p_b2 a0 k23 () = .ret false := by simp only [sBookOk_p_b2, h31d.out, h45.out, eh47, h47, cond_true, cond_false]
            have q57 := rounds_ret hlt24 hy24.out q56
            obtain rfl : r = false := hr.out.symm.trans (by simp only [sBookOk_p, h2d.out, h3d.out, h5.out, h7.out, hy9.out, q57, cond_true, cond_false])
            go_wp2
            go_ret
            exact rbk (by simp (maxDischargeDepth := 9) [B46])
          | false =>
           replace h45 := Lib.hid h45
           go_wp2_with fail
           refine hK.out _ _ ?_ (fun hHeld2 => ?_)
           · go_keep
           clear hK K hHeld0
           refine tt 3 ?_
           simp only [Act.put, sa, s0, ss]
           refine tt 4 ?_
           simp only [Act.put, sa, s0, ss]
           refine tu 5 ?_
           simp only [Act.put, sa, s0, ss]
           refine tu 6 ?_
           simp only [Act.put, sa, s0, ss]
           refine tu 7 ?_
           simp only [Act.put, sa, s0, ss]
           refine tu 8 ?_
           simp only [Act.put, sa, s0, ss]
           refine tu 9 ?_
           simp only [Act.put, sa, s0, ss]
           refine tu 10 ?_
           simp only [Act.put, sa, s0, ss]
           refine tt 11 ?_
           simp only [Act.put, sa, s0, ss]
           refine tt 12 ?_
           simp only [Act.put, sa, s0, ss]
           refine tu 13 ?_
           simp only [Act.put, sa, s0, ss]
           refine tu 14 ?_
           simp only [Act.put, sa, s0, ss]
           refine tt 15 ?_
           simp only [Act.put, sa, s0, ss]
           refine tt 16 ?_
           simp only [Act.put, sa, s0, ss]
           refine tu 17 ?_
           simp only [Act.put, sa, s0, ss]
           refine tu 18 ?_
           simp only [Act.put, sa, s0, ss]
           refine tu 19 ?_
           simp only [Act.put, sa, s0, ss]
           refine tu 20 ?_
           simp only [Act.put, sa, s0, ss]
           refine tu 21 ?_
           simp only [Act.put, sa, s0, ss]
           refine tu 22 ?_
           simp only [Act.put, sa, s0, ss]
           refine tu 23 ?_
           simp only [Act.put, sa, s0, ss]
           refine tu 24 ?_
           simp only [Act.put, sa, s0, ss]
           refine tu 25 ?_
           simp only [Act.put, sa, s0, ss]
           refine tt 26 ?_
           simp only [Act.put, sa, s0, ss]
           refine tt 27 ?_
           simp only [Act.put, sa, s0, ss]
           refine tu 28 ?_
           simp only [Act.put, sa, s0, ss]
           refine tu 29 ?_
           simp only [Act.put, sa, s0, ss]
           refine tu 30 ?_
           simp only [Act.put, sa, s0, ss]
           refine tu 31 ?_
           simp only [Act.put, sa, s0, ss]
           refine tu 32 ?_
           simp only [Act.put, sa, s0, ss]
           refine tu 33 ?_
           simp only [Act.put, sa, s0, ss]
           refine tt 34 ?_
           simp only [Act.put, sa, s0, ss]
           refine wpAnyH_done (by kernel_rfl) ?_ _
           clear hHeld2
           refine NoPanic.normal ?_
           have q58 : sBookOk_p_b2 a0 k23 () = .ret false := by simp only [sBookOk_p_b2, h31d.out, h45.out, cond_false]
           have q59 := rounds_ret hlt24 hy24.out q58
           obtain rfl : r = false := hr.out.symm.trans (by simp only [sBookOk_p, h2d.out, h3d.out, h5.out, h7.out, hy9.out, q59, cond_true, cond_false])
           go_wp2
           go_ret
           exact rbk (by simp (maxDischargeDepth := 9) [B44])
        ·
         obtain rfl : a0.Works.length = k23 := by omega
         obtain rfl : r = true := hr.out.symm.trans (by simp only [sBookOk_p, h2d.out, h3d.out, h5.out, h7.out, hy9.out, hy24.out, cond_true, cond_false])
         go_wp2
         go_ret
         exact rbk (by simp (maxDischargeDepth := 9) [B24])
    | false =>
     replace h7 := Lib.hid h7
     obtain rfl : r = false := hr.out.symm.trans (by simp only [sBookOk_p, h2d.out, h3d.out, h5.out, h7.out, cond_true, cond_false])
     go_wp2
     go_ret
     exact rbk (by simp (maxDischargeDepth := 9) [B6])
   | false =>
    replace h5 := Lib.hid h5
    obtain rfl : r = false := hr.out.symm.trans (by simp only [sBookOk_p, h2d.out, h3d.out, h5.out, cond_false])
    go_wp2
    go_ret
    exact rbk (by simp (maxDischargeDepth := 9) [B4])
theorem sBookOk_true {b : BookD} (h : sBookOk_p b = true) : (0 ≤ b.Ring ∧ b.Ring ≤ ((b.Works.length : Nat) : Int)) ∧ b.Works.length ≤ 10 := by
  unfold sBookOk_p at h
  constructor
  · cases e : inR b.Ring (0 : Int) ((b.Works.length : Nat) : Int) with
    | true => exact inR_true e
    | false => rw [e] at h; simp at h
  · by_cases e : 10 < b.Works.length
    · rw [decide_eq_true e] at h; simp at h
    · omega

-- spec.TurnsTo
def sTurnsTo_p (a0 : BookD) (a1 : Int) : Int := bif sBookOk_p a0 then (bif decide (a1 < (0 : Int)) then ((-1 : Int)) else (bif decide (((a0.Works.length : Nat) : Int) ≤ a1) then ((-1 : Int)) else ((((a1 + ((a0.Works.length : Nat) : Int)) - (a0.Ring % ((a0.Works.length : Nat) : Int))) % ((a0.Works.length : Nat) : Int))))) else ((-1 : Int))
set_option maxHeartbeats 1000000 in
set_option maxRecDepth 20000 in
theorem sTurnsTo_w (a0 : BookD) (a1 : Int) (v0_0 : Value) (v0_1 : Value) (w : World) (s0_0 : Sl w a0.Defs v0_0) (s0_1 : Sl w a0.Works v0_1) (hz_a0 : sznBook a0 ≤ 1048576) :
    Calls Tryz.prog 11 #[.agg #[v0_0, v0_1, .int .i64 a0.Now, .int .i64 a0.Ring], .int .i64 a1] w (RetI (sTurnsTo_p a0 a1) w) := by
 obtain ⟨p0_0, c0_0, rfl, hl0_0, -, hk0_0, -⟩ := s0_0.open
 obtain ⟨p0_1, c0_1, rfl, hl0_1, -, hk0_1, -⟩ := s0_1.open
 obtain ⟨r, hr⟩ : ∃ r, sTurnsTo_p a0 a1 = r := ⟨_, rfl⟩
 rw [hr]
 replace hr := Lib.hid hr
 go_enter Tryz.func11, Tryz.ntmps11
 go_wp2_with fail
 refine (sBookOk_w a0 _ _ _ (s0_0.to (by simp (maxDischargeDepth := 9))) (s0_1.to (by simp (maxDischargeDepth := 9))) hz_a0).mono ?_
 rintro e w2 ⟨rfl, hb2⟩
 have B2 := via (w0 := w) (by simp (maxDischargeDepth := 9)) hb2
 have Xbx1_2 : Bx w2 (w.heap.size) [.slice p0_0 a0.Defs.length c0_0, .slice p0_1 a0.Works.length c0_1, .int .i64 a0.Now, .int .i64 a0.Ring] := Bx.via (by simp (maxDischargeDepth := 9)) hb2
 have ⟨Xbx1_2k0, Xbx1_2k1, Xbx1_2k2, Xbx1_2k3⟩ := bx4 Xbx1_2
 cases h3 : sBookOk_p a0 with
 | true =>
  have ⟨⟨h3a, h3b⟩, h3c⟩ := sBookOk_true h3
  replace h3 := Lib.hid h3
  by_cases h4 : a1 < (0 : Int)
  ·
   have h4d := Lib.hid (decide_eq_true h4)
   obtain rfl : r = (-1 : Int) := hr.out.symm.trans (by simp only [sTurnsTo_p, h3.out, h4d.out, cond_true])
   go_wp2
   go_ret
   exact ⟨by first | rfl | simp, (by simp (maxDischargeDepth := 9) [B2])⟩
  ·
   have h4d := Lib.hid (decide_eq_false h4)
   by_cases h5 : ((a0.Works.length : Nat) : Int) ≤ a1
   ·
    have h5d := Lib.hid (decide_eq_true h5)
    obtain rfl : r = (-1 : Int) := hr.out.symm.trans (by simp only [sTurnsTo_p, h3.out, h4d.out, h5d.out, cond_true, cond_false])
    go_wp2
    go_ret
    exact ⟨by first | rfl | simp, (by simp (maxDischargeDepth := 9) [B2])⟩
   ·
    have h5d := Lib.hid (decide_eq_false h5)
    have hm6a : 0 ≤ (a0.Ring % ((a0.Works.length : Nat) : Int)) := Int.emod_nonneg _ (by omega)
    have hm6b : (a0.Ring % ((a0.Works.length : Nat) : Int)) < ((a0.Works.length : Nat) : Int) := Int.emod_lt_of_pos _ (by omega)
    have hw7 : wrap64 ((a1 + ((a0.Works.length : Nat) : Int)) - (a0.Ring % ((a0.Works.length : Nat) : Int))) = ((a1 + ((a0.Works.length : Nat) : Int)) - (a0.Ring % ((a0.Works.length : Nat) : Int))) := by have z := w64_in ((a1 + ((a0.Works.length : Nat) : Int)) - (a0.Ring % ((a0.Works.length : Nat) : Int))) ⟨by omega, by omega⟩; omega
    have hm8a : 0 ≤ (((a1 + ((a0.Works.length : Nat) : Int)) - (a0.Ring % ((a0.Works.length : Nat) : Int))) % ((a0.Works.length : Nat) : Int)) := Int.emod_nonneg _ (by omega)
    have hm8b : (((a1 + ((a0.Works.length : Nat) : Int)) - (a0.Ring % ((a0.Works.length : Nat) : Int))) % ((a0.Works.length : Nat) : Int)) < ((a0.Works.length : Nat) : Int) := Int.emod_lt_of_pos _ (by omega)
    obtain rfl : r = (((a1 + ((a0.Works.length : Nat) : Int)) - (a0.Ring % ((a0.Works.length : Nat) : Int))) % ((a0.Works.length : Nat) : Int)) := hr.out.symm.trans (by simp only [sTurnsTo_p, h3.out, h4d.out, h5d.out, cond_true, cond_false])
    go_wp2
    go_ret
    exact ⟨by first | rfl | simp, (by simp (maxDischargeDepth := 9) [B2])⟩
 | false =>
  replace h3 := Lib.hid h3
  obtain rfl : r = (-1 : Int) := hr.out.symm.trans (by simp only [sTurnsTo_p, h3.out, cond_false])
  go_wp2
  go_ret
  exact ⟨by first | rfl | simp, (by simp (maxDischargeDepth := 9) [B2])⟩
end Go.Proofs.YthnilnggpbploaaGreat
