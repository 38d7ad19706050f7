/- Functions that only read, walked (C). Printed by a program. -/
import Derived.Test.YthnilnggpbploaaGreatCmA1
import Derived.Test.YthnilnggpbploaaGreatCmB2
import Derived.Test.YthnilnggpbploaaGreatCmB3
import Derived.Test.YthnilnggpbploaaGreatCmB4
import Derived.Test.YthnilnggpbploaaGreatCmC1
import Derived.Test.YthnilnggpbploaaGreatRd
import Derived.Test.YthnilnggpbploaaGreatAt
namespace Go.Proofs.YthnilnggpbploaaGreat
open Go.RowKit
open Cel (rd own rd_len rd_one own_rd own_lt rd_below rd_mono own_keep)

-- impl.BookOk
def iBookOk_p_b1 (a0 : BookD) (k8 : Nat) (_ : Unit) : St (Bool) (Unit) := bif iDefOk_p (gt a0.Defs k8) then (bif ((iDefAt_p a0 ((gt a0.Defs k8).Name)) == (k8 : Int)) then (.go ()) else (.ret false)) else (.ret false)
def iBookOk_p_b2 (a0 : BookD) (k24 : Nat) (_ : Unit) : St (Bool) (Unit) := bif decide ((iDefAt_p a0 ((gt a0.Works k24).Def)) < (0 : Int)) then (bif iNameOk_p ((gt a0.Works k24).Name) then (bif ((iWorkAt_p a0 ((gt a0.Works k24).Name)) == (k24 : Int)) then (.ret false) else (.ret false)) else (.ret false)) else (bif iNameOk_p ((gt a0.Works k24).Name) then (bif ((iWorkAt_p a0 ((gt a0.Works k24).Name)) == (k24 : Int)) then (bif decide (a0.Now < (gt a0.Works k24).X.Now) then (.ret false) else (bif iInstOk_p (gt a0.Defs ((iDefAt_p a0 ((gt a0.Works k24).Def)).toNat)) ((gt a0.Works k24).X) then (.go ()) else (.ret false))) else (.ret false)) else (.ret false))
def iBookOk_p (a0 : BookD) : Bool := bif decide (8 < a0.Defs.length) then (false) else (bif decide (10 < a0.Works.length) then (false) else (bif iisTime_p a0.Now then (bif inR a0.Ring (0 : Int) ((a0.Works.length : Nat) : Int) then (match rounds (iBookOk_p_b1 a0) a0.Defs.length () with | .ret r => r | .brk _ => default | .go _ => match rounds (iBookOk_p_b2 a0) a0.Works.length () with | .ret r => r | .brk _ => default | .go _ => true) else (false)) else (false)))
set_option maxHeartbeats 1000000 in
set_option maxRecDepth 20000 in
theorem iBookOk_w (a0 : BookD) (v0_0 : Value) (v0_1 : Value) (w : World) (s0_0 : Sl w a0.Defs v0_0) (s0_1 : Sl w a0.Works v0_1) (hz_a0 : sznBook a0 ≤ 1048576) :
    Calls Tryz.prog 41 #[.agg #[v0_0, v0_1, .int .i64 a0.Now, .int .i64 a0.Ring]] w (RetB (iBookOk_p a0) w) := by
 obtain ⟨p0_0, c0_0, rfl, hl0_0, -, hk0_0, -⟩ := s0_0.open
 obtain ⟨p0_1, c0_1, rfl, hl0_1, -, hk0_1, -⟩ := s0_1.open
 obtain ⟨r, hr⟩ : ∃ r, iBookOk_p a0 = r := ⟨_, rfl⟩
 rw [hr]
 replace hr := Lib.hid hr
 go_enter Tryz.func41, Tryz.ntmps41
 by_cases h2 : 8 < a0.Defs.length
 ·
  have h2d := Lib.hid (decide_eq_true h2)
  obtain rfl : r = false := hr.out.symm.trans (by simp only [iBookOk_p, h2d.out, cond_true])
  go_wp2
  go_ret
  exact rbk (by simp (maxDischargeDepth := 9))
 ·
  have h2d := Lib.hid (decide_eq_false h2)
  by_cases h3 : 10 < a0.Works.length
  ·
   have h3d := Lib.hid (decide_eq_true h3)
   obtain rfl : r = false := hr.out.symm.trans (by simp only [iBookOk_p, h2d.out, h3d.out, cond_true, cond_false])
   go_wp2
   go_ret
   exact rbk (by simp (maxDischargeDepth := 9))
  ·
   have h3d := Lib.hid (decide_eq_false h3)
   go_wp2_with fail
   refine (iisTime_w a0.Now  _ ).mono ?_
   rintro e w4 ⟨rfl, hb4⟩
   have B4 := via (w0 := w) (by simp (maxDischargeDepth := 9)) hb4
   have Xbx1_4 : Bx w4 (w.heap.size) [.slice p0_0 a0.Defs.length c0_0, .slice p0_1 a0.Works.length c0_1, .int .i64 a0.Now, .int .i64 a0.Ring] := Bx.via (by simp (maxDischargeDepth := 9)) hb4
   have ⟨Xbx1_4k0, Xbx1_4k1, Xbx1_4k2, Xbx1_4k3⟩ := bx4 Xbx1_4
   cases h5 : iisTime_p a0.Now with
   | true =>
    replace h5 := Lib.hid h5
    go_wp2_with fail
    refine (iinRange_w a0.Ring (0 : Int) ((a0.Works.length : Nat) : Int)  _ ).mono ?_
    rintro e w6 ⟨rfl, hb6⟩
    have B6 := via (w0 := w) (by simp (maxDischargeDepth := 9) [B4]) hb6
    have U6 : Below w4.heap.size w4 w6 := via (by simp (maxDischargeDepth := 9)) hb6
    have Xbx1_6 := Xbx1_4.via U6
    clear Xbx1_4 Xbx1_4k0 Xbx1_4k1 Xbx1_4k2 Xbx1_4k3
    have ⟨Xbx1_6k0, Xbx1_6k1, Xbx1_6k2, Xbx1_6k3⟩ := bx4 Xbx1_6
    clear U6
    clear B4
    cases h7 : inR a0.Ring (0 : Int) ((a0.Works.length : Nat) : Int) with
    | true =>
     have ⟨h7a, h7b⟩ := inR_true h7
     replace h7 := Lib.hid h7
     go_wp2
     go_loopw [36] (fun i36 wr8 => Below w.heap.size w wr8 ∧ Bx wr8 (w.heap.size) [.slice p0_0 a0.Defs.length c0_0, .slice p0_1 a0.Works.length c0_1, .int .i64 a0.Now, .int .i64 a0.Ring] ∧ ∃ (k8 : Nat), i36 = .int .i64 k8 ∧ k8 ≤ a0.Defs.length ∧ Hid (rounds (iBookOk_p_b1 a0) k8 () = .go ())) (fun i36 _ => a0.Defs.length - (intOf i36).toNat)
     case atStart => exact ⟨(by simp (maxDischargeDepth := 9) [B6]), (by simp (maxDischargeDepth := 9) [Xbx1_6]), 0, rfl, by omega, Lib.hid rfl⟩
     case round =>
      rename World => wr8
      clear Xbx1_6 Xbx1_6k0 Xbx1_6k1 Xbx1_6k2 Xbx1_6k3 B6
      obtain ⟨B9, Xbx1_9, k8, rfl, hk9, hy9⟩ := hrel
      have ⟨Xbx1_9k0, Xbx1_9k1, Xbx1_9k2, Xbx1_9k3⟩ := bx4 Xbx1_9
      by_cases hlt9 : k8 < a0.Defs.length
      ·
       have hi12 : k8 < a0.Defs.length := by first | assumption | omega
       obtain ⟨e11b, e11o, ue11_1, rfl, e11bl, e11ok, ⟨e11d0, e11d1⟩, te11_1⟩ := Sl.gtDef s0_0 k8 hi12
       obtain ⟨pe11_1, ce11_1, rfl, hlpe11_1, -⟩ := te11_1.open
       have e11E := Lib.hid (And.intro e11d0 e11d1)
       clear e11d0 e11d1
       have ⟨e11d0n, e11d1n⟩ := cb2 B9 e11bl e11E.out
       go_wp2_with fail
       refine (iDefOk_w (gt a0.Defs k8) _ _ (te11_1.to (by simp (maxDischargeDepth := 9) [B9])) e11ok (Nat.le_trans (szn_gtDef a0.Defs k8 (by first | assumption | omega)) (Nat.le_trans (szn_Book_Defs a0) hz_a0))).mono ?_
       rintro e w14 ⟨rfl, hb14⟩
       have B14 := via (w0 := w) (by simp (maxDischargeDepth := 9) [B9]) hb14
       have U14 : Below wr8.heap.size wr8 w14 := via (by simp (maxDischargeDepth := 9)) hb14
       have Xbx1_14 := Xbx1_9.via U14
       clear Xbx1_9 Xbx1_9k0 Xbx1_9k1 Xbx1_9k2 Xbx1_9k3
       have ⟨Xbx1_14k0, Xbx1_14k1, Xbx1_14k2, Xbx1_14k3⟩ := bx4 Xbx1_14
       have Xbx13_14 : Bx w14 (wr8.heap.size) [.string ((gt a0.Defs k8).Name), .slice pe11_1 ((gt a0.Defs k8).Rules.length) ce11_1] := Bx.via (by simp (maxDischargeDepth := 9)) hb14
       have ⟨Xbx13_14k0, Xbx13_14k1⟩ := bx2 Xbx13_14
       clear e11d0n e11d1n
       have ⟨e11d0n, e11d1n⟩ := cb2 B14 e11bl e11E.out
       clear U14
       clear B9
       cases h15 : iDefOk_p (gt a0.Defs k8) with
       | true =>
        replace h15 := Lib.hid h15
        go_wp2_with fail
        refine (iDefAt_w a0 ((gt a0.Defs k8).Name) _ _ _ (s0_0.to (by simp (maxDischargeDepth := 9) [B14])) (s0_1.to (by simp (maxDischargeDepth := 9) [B14]))).mono ?_
        rintro e w16 ⟨rfl, hb16⟩
        have B16 := via (w0 := w) (by simp (maxDischargeDepth := 9) [B14]) hb16
        have U16 : Below w14.heap.size w14 w16 := via (by simp (maxDischargeDepth := 9)) hb16
        have Xbx1_16 := Xbx1_14.via U16
        clear Xbx1_14 Xbx1_14k0 Xbx1_14k1 Xbx1_14k2 Xbx1_14k3
        have ⟨Xbx1_16k0, Xbx1_16k1, Xbx1_16k2, Xbx1_16k3⟩ := bx4 Xbx1_16
        have Xbx13_16 := Xbx13_14.via U16
        clear Xbx13_14 Xbx13_14k0 Xbx13_14k1
        have ⟨Xbx13_16k0, Xbx13_16k1⟩ := bx2 Xbx13_16
        clear e11d0n e11d1n
        have ⟨e11d0n, e11d1n⟩ := cb2 B16 e11bl e11E.out
        clear U16
        clear B14
        have ⟨z17a, z17b⟩ := iDefAt_in a0 ((gt a0.Defs k8).Name)
        obtain ⟨bh18, eh18⟩ : ∃ b, ((iDefAt_p a0 ((gt a0.Defs k8).Name)) == (k8 : Int)) = b := ⟨_, rfl⟩
        have nh18 : ((iDefAt_p a0 ((gt a0.Defs k8).Name)) != (k8 : Int)) = !bh18 := by rw [← eh18]; rfl
        rcases Bool.eq_false_or_eq_true bh18 with h18 | h18
        ·
         have q19 : iBookOk_p_b1 a0 k8 () = .go () := by simp only [iBookOk_p_b1, h15.out, eh18, h18, cond_true]
         replace q19 := Lib.hid (rounds_next hy9.out q19)
         go_wp2
         go_roundw
         case rel => exact ⟨(by simp (maxDischargeDepth := 9) [B16]), (by simp (maxDischargeDepth := 9) [Xbx1_16]), k8 + 1, by go_num, by omega, q19⟩
         case measure => simp [intOf]; omega
        ·
         have q20 : iBookOk_p_b1 a0 k8 () = .ret false := by simp only [iBookOk_p_b1, h15.out, eh18, h18, cond_true, cond_false]
         have q21 := rounds_ret hlt9 hy9.out q20
         obtain rfl : r = false := hr.out.symm.trans (by simp only [iBookOk_p, h2d.out, h3d.out, h5.out, h7.out, q21, cond_true, cond_false])
         go_wp2
         go_ret
         exact rbk (by simp (maxDischargeDepth := 9) [B16])
       | false =>
        replace h15 := Lib.hid h15
        have q22 : iBookOk_p_b1 a0 k8 () = .ret false := by simp only [iBookOk_p_b1, h15.out, cond_false]
        have q23 := rounds_ret hlt9 hy9.out q22
        obtain rfl : r = false := hr.out.symm.trans (by simp only [iBookOk_p, h2d.out, h3d.out, h5.out, h7.out, q23, cond_true, cond_false])
        go_wp2
        go_ret
        exact rbk (by simp (maxDischargeDepth := 9) [B14])
      ·
       obtain rfl : a0.Defs.length = k8 := by omega
       go_wp2
       go_loopw [56] (fun i56 wr24 => Below w.heap.size w wr24 ∧ Bx wr24 (w.heap.size) [.slice p0_0 a0.Defs.length c0_0, .slice p0_1 a0.Works.length c0_1, .int .i64 a0.Now, .int .i64 a0.Ring] ∧ ∃ (k24 : Nat), i56 = .int .i64 k24 ∧ k24 ≤ a0.Works.length ∧ Hid (rounds (iBookOk_p_b2 a0) k24 () = .go ())) (fun i56 _ => a0.Works.length - (intOf i56).toNat)
       case atStart => exact ⟨(by simp (maxDischargeDepth := 9) [B9]), (by simp (maxDischargeDepth := 9) [Xbx1_9]), 0, rfl, by omega, Lib.hid rfl⟩
       case round =>
        rename World => wr24
        clear Xbx1_9 Xbx1_9k0 Xbx1_9k1 Xbx1_9k2 Xbx1_9k3 B9
        obtain ⟨B25, Xbx1_25, k24, rfl, hk25, hy25⟩ := hrel
        have ⟨Xbx1_25k0, Xbx1_25k1, Xbx1_25k2, Xbx1_25k3⟩ := bx4 Xbx1_25
        by_cases hlt25 : k24 < a0.Works.length
        ·
         have hi28 : k24 < a0.Works.length := by first | assumption | omega
         obtain ⟨e27b, e27o, ue27_2, ue27_4, ue27_5, ue27_6, ue27_7, rfl, e27bl, e27ok, ⟨e27d0, e27d1, e27d2, e27d3, e27d4, e27d5, e27d6, e27d7, e27d8, e27d9⟩, te27_2, te27_4, te27_5, te27_6, te27_7⟩ := Sl.gtWork s0_1 k24 hi28
         obtain ⟨pe27_2, ce27_2, rfl, hlpe27_2, -⟩ := te27_2.open
         obtain ⟨pe27_4, ce27_4, rfl, hlpe27_4, -⟩ := te27_4.open
         obtain ⟨pe27_5, ce27_5, rfl, hlpe27_5, -⟩ := te27_5.open
         obtain ⟨pe27_6, ce27_6, rfl, hlpe27_6, -⟩ := te27_6.open
         obtain ⟨pe27_7, ce27_7, rfl, hlpe27_7, -⟩ := te27_7.open
         have e27E := Lib.hid (And.intro e27d0 (And.intro e27d1 (And.intro e27d2 (And.intro e27d3 (And.intro e27d4 (And.intro e27d5 (And.intro e27d6 (And.intro e27d7 (And.intro e27d8 e27d9)))))))))
         clear e27d0 e27d1 e27d2 e27d3 e27d4 e27d5 e27d6 e27d7 e27d8 e27d9
         have ⟨e27d0n, e27d1n, e27d2n, e27d3n, e27d4n, e27d5n, e27d6n, e27d7n, e27d8n, e27d9n⟩ := cb10 B25 e27bl e27E.out
         go_wp2_with fail
         refine (iDefAt_w a0 ((gt a0.Works k24).Def) _ _ _ (s0_0.to (by simp (maxDischargeDepth := 9) [B25])) (s0_1.to (by simp (maxDischargeDepth := 9) [B25]))).mono ?_
         rintro e w30 ⟨rfl, hb30⟩
         have B30 := via (w0 := w) (by simp (maxDischargeDepth := 9) [B25]) hb30
         have U30 : Below wr24.heap.size wr24 w30 := via (by simp (maxDischargeDepth := 9)) hb30
         have Xbx1_30 := Xbx1_25.via U30
         clear Xbx1_25 Xbx1_25k0 Xbx1_25k1 Xbx1_25k2 Xbx1_25k3
         have ⟨Xbx1_30k0, Xbx1_30k1, Xbx1_30k2, Xbx1_30k3⟩ := bx4 Xbx1_30
         have Xbx29_30 : Bx w30 (wr24.heap.size) [.string ((gt a0.Works k24).Name), .string ((gt a0.Works k24).Def), .slice pe27_2 ((gt a0.Works k24).X.S.Items.length) ce27_2, .int .i64 ((gt a0.Works k24).X.S.Next), .slice pe27_4 ((gt a0.Works k24).X.Fired.length) ce27_4, .slice pe27_5 ((gt a0.Works k24).X.Tasks.length) ce27_5, .slice pe27_6 ((gt a0.Works k24).X.Timers.length) ce27_6, .slice pe27_7 ((gt a0.Works k24).X.Undos.length) ce27_7, .int .i64 ((gt a0.Works k24).X.State), .int .i64 ((gt a0.Works k24).X.Now)] := Bx.via (by simp (maxDischargeDepth := 9)) hb30
         have ⟨Xbx29_30k0, Xbx29_30k1, Xbx29_30k2, Xbx29_30k3, Xbx29_30k4, Xbx29_30k5, Xbx29_30k6, Xbx29_30k7, Xbx29_30k8, Xbx29_30k9⟩ := bx10 Xbx29_30
         clear e27d0n e27d1n e27d2n e27d3n e27d4n e27d5n e27d6n e27d7n e27d8n e27d9n
         have ⟨e27d0n, e27d1n, e27d2n, e27d3n, e27d4n, e27d5n, e27d6n, e27d7n, e27d8n, e27d9n⟩ := cb10 B30 e27bl e27E.out
         clear U30
         clear B25
         have ⟨z31a, z31b⟩ := iDefAt_in a0 ((gt a0.Works k24).Def)
         by_cases h32 : (iDefAt_p a0 ((gt a0.Works k24).Def)) < (0 : Int)
         ·
          have h32d := Lib.hid (decide_eq_true h32)
          have h32e := decide_eq_true h32
          go_wp2
          refine wp_region_noPanic ?_
          refine wp_region_held_drew (S := (fun w' => w'.cell? ⟨w.heap.size, 0, none⟩ = some (.slice p0_0 a0.Defs.length c0_0) ∧ w'.cell? ⟨w.heap.size, 1, none⟩ = some (.slice (some ⟨e27b, e27o, none⟩) a0.Works.length c0_1) ∧ w'.cell? ⟨w.heap.size, 2, none⟩ = some (.int .i64 a0.Now) ∧ w'.cell? ⟨w.heap.size, 3, none⟩ = some (.int .i64 a0.Ring) ∧ w'.cell? ⟨wr24.heap.size, 0, none⟩ = some (.string ((gt a0.Works k24).Name)) ∧ w'.cell? ⟨wr24.heap.size, 1, none⟩ = some (.string ((gt a0.Works k24).Def)) ∧ w'.cell? ⟨wr24.heap.size, 2, none⟩ = some (.slice pe27_2 ((gt a0.Works k24).X.S.Items.length) ce27_2) ∧ w'.cell? ⟨wr24.heap.size, 3, none⟩ = some (.int .i64 ((gt a0.Works k24).X.S.Next)) ∧ w'.cell? ⟨wr24.heap.size, 4, none⟩ = some (.slice pe27_4 ((gt a0.Works k24).X.Fired.length) ce27_4) ∧ w'.cell? ⟨wr24.heap.size, 5, none⟩ = some (.slice pe27_5 ((gt a0.Works k24).X.Tasks.length) ce27_5) ∧ w'.cell? ⟨wr24.heap.size, 6, none⟩ = some (.slice pe27_6 ((gt a0.Works k24).X.Timers.length) ce27_6) ∧ w'.cell? ⟨wr24.heap.size, 7, none⟩ = some (.slice pe27_7 ((gt a0.Works k24).X.Undos.length) ce27_7) ∧ w'.cell? ⟨wr24.heap.size, 8, none⟩ = some (.int .i64 ((gt a0.Works k24).X.State)) ∧ w'.cell? ⟨wr24.heap.size, 9, none⟩ = some (.int .i64 ((gt a0.Works k24).X.Now)) ∧ w'.cell? ⟨e27b, e27o + k24 * 10, none⟩ = some (.string ((gt a0.Works k24).Name)) ∧ w'.cell? ⟨e27b, e27o + k24 * 10 + 1, none⟩ = some (.string ((gt a0.Works k24).Def)) ∧ w'.cell? ⟨e27b, e27o + k24 * 10 + 2, none⟩ = some (.slice pe27_2 ((gt a0.Works k24).X.S.Items.length) ce27_2) ∧ w'.cell? ⟨e27b, e27o + k24 * 10 + 3, none⟩ = some (.int .i64 ((gt a0.Works k24).X.S.Next)) ∧ w'.cell? ⟨e27b, e27o + k24 * 10 + 4, none⟩ = some (.slice pe27_4 ((gt a0.Works k24).X.Fired.length) ce27_4) ∧ w'.cell? ⟨e27b, e27o + k24 * 10 + 5, none⟩ = some (.slice pe27_5 ((gt a0.Works k24).X.Tasks.length) ce27_5) ∧ w'.cell? ⟨e27b, e27o + k24 * 10 + 6, none⟩ = some (.slice pe27_6 ((gt a0.Works k24).X.Timers.length) ce27_6) ∧ w'.cell? ⟨e27b, e27o + k24 * 10 + 7, none⟩ = some (.slice pe27_7 ((gt a0.Works k24).X.Undos.length) ce27_7) ∧ w'.cell? ⟨e27b, e27o + k24 * 10 + 8, none⟩ = some (.int .i64 ((gt a0.Works k24).X.State)) ∧ w'.cell? ⟨e27b, e27o + k24 * 10 + 9, none⟩ = some (.int .i64 ((gt a0.Works k24).X.Now)))) (by kernel_rfl) ?_ (fun hHeld0 => ?_)
          · go_keep
          refine tt 0 ?_
          simp only [Act.put, sa, s0, ss]
          refine tt 1 ?_
          simp only [Act.put, sa, s0, ss]
          refine wpAnyH_ready (rs := [2]) (by kernel_rfl) (by simp) ?_
          refine' AllReadyH.cons (o := _) ?hi1077_2 (fun K hK => ?_) AllReadyH.nil
          case hi1077_2 => simp only [List.getElem?_toArray, List.getElem?_cons_succ, List.getElem?_cons_zero]; exact rfl
          go_simp
          go_at_call 84
          refine (iNameOk_w ((gt a0.Works k24).Name)  _ e27ok.1).mono ?_
          rintro e w33 ⟨rfl, hb33⟩
          have B33 := via (w0 := w) (by simp (maxDischargeDepth := 9) [B30]) hb33
          have U33 : Below w30.heap.size w30 w33 := via (by simp (maxDischargeDepth := 9)) hb33
          have Xbx1_33 := Xbx1_30.via U33
          clear Xbx1_30 Xbx1_30k0 Xbx1_30k1 Xbx1_30k2 Xbx1_30k3
          have ⟨Xbx1_33k0, Xbx1_33k1, Xbx1_33k2, Xbx1_33k3⟩ := bx4 Xbx1_33
          have Xbx29_33 := Xbx29_30.via U33
          clear Xbx29_30 Xbx29_30k0 Xbx29_30k1 Xbx29_30k2 Xbx29_30k3 Xbx29_30k4 Xbx29_30k5 Xbx29_30k6 Xbx29_30k7 Xbx29_30k8 Xbx29_30k9
          have ⟨Xbx29_33k0, Xbx29_33k1, Xbx29_33k2, Xbx29_33k3, Xbx29_33k4, Xbx29_33k5, Xbx29_33k6, Xbx29_33k7, Xbx29_33k8, Xbx29_33k9⟩ := bx10 Xbx29_33
          clear e27d0n e27d1n e27d2n e27d3n e27d4n e27d5n e27d6n e27d7n e27d8n e27d9n
          have ⟨e27d0n, e27d1n, e27d2n, e27d3n, e27d4n, e27d5n, e27d6n, e27d7n, e27d8n, e27d9n⟩ := cb10 B33 e27bl e27E.out
          clear U33
          clear B30
          cases h34 : iNameOk_p ((gt a0.Works k24).Name) with
          | true =>
           replace h34 := Lib.hid h34
           go_wp2_with fail
           refine hK.out _ _ ?_ (fun hHeld2 => ?_)
           · go_keep
           clear hK K hHeld0
           refine tt 3 ?_
           simp only [Act.put, sa, s0, ss]
           refine tt 4 ?_
           simp only [Act.put, sa, s0, ss]
           refine tt 5 ?_
           simp only [Act.put, sa, s0, ss]
           refine tt 6 ?_
           simp only [Act.put, sa, s0, ss]
           refine tt 7 ?_
           simp only [Act.put, sa, s0, ss]
           refine tt 9 ?_
           simp only [Act.put, sa, s0, ss]
           refine wpAnyH_ready (rs := [8]) (by kernel_rfl) (by simp) ?_
           refine' AllReadyH.cons (o := _) ?hi1078_8 (fun K hK => ?_) AllReadyH.nil
           case hi1078_8 => simp only [List.getElem?_toArray, List.getElem?_cons_succ, List.getElem?_cons_zero]; exact rfl
           go_simp
           go_at_call 56
           refine (iWorkAt_w a0 ((gt a0.Works k24).Name) _ _ _ (s0_0.to (by simp (maxDischargeDepth := 9) [B33])) (s0_1.to (by simp (maxDischargeDepth := 9) [B33]))).mono ?_
           rintro e w35 ⟨rfl, hb35⟩
           have B35 := via (w0 := w) (by simp (maxDischargeDepth := 9) [B33]) hb35
           have U35 : Below w33.heap.size w33 w35 := via (by simp (maxDischargeDepth := 9)) hb35
           have Xbx1_35 := Xbx1_33.via U35
           clear Xbx1_33 Xbx1_33k0 Xbx1_33k1 Xbx1_33k2 Xbx1_33k3
           have ⟨Xbx1_35k0, Xbx1_35k1, Xbx1_35k2, Xbx1_35k3⟩ := bx4 Xbx1_35
           have Xbx29_35 := Xbx29_33.via U35
           clear Xbx29_33 Xbx29_33k0 Xbx29_33k1 Xbx29_33k2 Xbx29_33k3 Xbx29_33k4 Xbx29_33k5 Xbx29_33k6 Xbx29_33k7 Xbx29_33k8 Xbx29_33k9
           have ⟨Xbx29_35k0, Xbx29_35k1, Xbx29_35k2, Xbx29_35k3, Xbx29_35k4, Xbx29_35k5, Xbx29_35k6, Xbx29_35k7, Xbx29_35k8, Xbx29_35k9⟩ := bx10 Xbx29_35
           clear e27d0n e27d1n e27d2n e27d3n e27d4n e27d5n e27d6n e27d7n e27d8n e27d9n
           have ⟨e27d0n, e27d1n, e27d2n, e27d3n, e27d4n, e27d5n, e27d6n, e27d7n, e27d8n, e27d9n⟩ := cb10 B35 e27bl e27E.out
           clear U35
           clear B33
           go_wp2_with fail
           refine hK.out _ _ ?_ (fun hHeld8 => ?_)
           · go_keep
           clear hK K hHeld2
           obtain ⟨bh36, eh36⟩ : ∃ b, ((iWorkAt_p a0 ((gt a0.Works k24).Name)) == (k24 : Int)) = b := ⟨_, rfl⟩
           have nh36 : ((iWorkAt_p a0 ((gt a0.Works k24).Name)) != (k24 : Int)) = !bh36 := by rw [← eh36]; rfl
           rcases Bool.eq_false_or_eq_true bh36 with h36 | h36
           ·
            refine tt 10 ?_
            simp only [Act.put, sa, s0, ss]
            refine tt 11 ?_
            simp only [Act.put, sa, s0, ss]
            refine tt 12 ?_
            simp only [Act.put, sa, s0, ss]
            refine tt 13 ?_
            simp only [Act.put, sa, s0, ss]
            refine tt 14 ?_
            simp only [Act.put, sa, s0, ss]
            refine tt 15 ?_
            simp only [Act.put, sa, s0, ss]
            refine tt 16 ?_
            simp only [Act.put, sa, s0, ss]
            refine tu 17 ?_
            simp only [Act.put, sa, s0, ss]
            refine tu 18 ?_
            simp only [Act.put, sa, s0, ss]
            refine tu 19 ?_
            simp only [Act.put, sa, s0, ss]
            refine tu 20 ?_
            simp only [Act.put, sa, s0, ss]
            refine tu 21 ?_
            simp only [Act.put, sa, s0, ss]
            refine tu 22 ?_
            simp only [Act.put, sa, s0, ss]
            refine tt 23 ?_
            simp only [Act.put, sa, s0, ss]
            refine tt 24 ?_
            simp only [Act.put, sa, s0, ss]
            refine tu 25 ?_
            simp only [Act.put, sa, s0, ss]
            refine tu 26 ?_
            simp only [Act.put, sa, s0, ss]
            refine tu 27 ?_
            simp only [Act.put, sa, s0, ss]
            refine tu 28 ?_
            simp only [Act.put, sa, s0, ss]
            refine tu 29 ?_
            simp only [Act.put, sa, s0, ss]
            refine tu 30 ?_
            simp only [Act.put, sa, s0, ss]
            refine tu 31 ?_
            simp only [Act.put, sa, s0, ss]
            refine tu 32 ?_
            simp only [Act.put, sa, s0, ss]
            refine tu 33 ?_
            simp only [Act.put, sa, s0, ss]
            refine tt 34 ?_
            simp only [Act.put, sa, s0, ss]
            refine wpAnyH_done (by kernel_rfl) ?_ _
            clear hHeld8
            refine NoPanic.normal ?_
            have q37 : iBookOk_p_b2 a0 k24 () = .ret false := by simp only [iBookOk_p_b2, h32d.out, h34.out, eh36, h36, cond_true]
            have q38 := rounds_ret hlt25 hy25.out q37
            obtain rfl : r = false := hr.out.symm.trans (by simp only [iBookOk_p, h2d.out, h3d.out, h5.out, h7.out, hy9.out, q38, cond_true, cond_false])
            go_wp2
            go_ret
            exact rbk (by simp (maxDischargeDepth := 9) [B35])
           ·
            refine tt 10 ?_
            simp only [Act.put, sa, s0, ss]
            refine tt 11 ?_
            simp only [Act.put, sa, s0, ss]
            refine tt 12 ?_
            simp only [Act.put, sa, s0, ss]
            refine tu 13 ?_
            simp only [Act.put, sa, s0, ss]
            refine tu 14 ?_
            simp only [Act.put, sa, s0, ss]
            refine tt 15 ?_
            simp only [Act.put, sa, s0, ss]
            refine tt 16 ?_
            simp only [Act.put, sa, s0, ss]
            refine tu 17 ?_
            simp only [Act.put, sa, s0, ss]
            refine tu 18 ?_
            simp only [Act.put, sa, s0, ss]
            refine tu 19 ?_
            simp only [Act.put, sa, s0, ss]
            refine tu 20 ?_
            simp only [Act.put, sa, s0, ss]
            refine tu 21 ?_
            simp only [Act.put, sa, s0, ss]
            refine tu 22 ?_
            simp only [Act.put, sa, s0, ss]
            refine tt 23 ?_
            simp only [Act.put, sa, s0, ss]
            refine tt 24 ?_
            simp only [Act.put, sa, s0, ss]
            refine tu 25 ?_
            simp only [Act.put, sa, s0, ss]
            refine tu 26 ?_
            simp only [Act.put, sa, s0, ss]
            refine tu 27 ?_
            simp only [Act.put, sa, s0, ss]
            refine tu 28 ?_
            simp only [Act.put, sa, s0, ss]
            refine tu 29 ?_
            simp only [Act.put, sa, s0, ss]
            refine tu 30 ?_
            simp only [Act.put, sa, s0, ss]
            refine tu 31 ?_
            simp only [Act.put, sa, s0, ss]
            refine tu 32 ?_
            simp only [Act.put, sa, s0, ss]
            refine tu 33 ?_
            simp only [Act.put, sa, s0, ss]
            refine tt 34 ?_
            simp only [Act.put, sa, s0, ss]
            refine wpAnyH_done (by kernel_rfl) ?_ _
            clear hHeld8
            refine NoPanic.normal ?_
            have q39 : iBookOk_p_b2 a0 k24 () = .ret false := by simp only [iBookOk_p_b2, h32d.out, h34.out, eh36, h36, cond_true, cond_false]
            have q40 := rounds_ret hlt25 hy25.out q39
            obtain rfl : r = false := hr.out.symm.trans (by simp only [iBookOk_p, h2d.out, h3d.out, h5.out, h7.out, hy9.out, q40, cond_true, cond_false])
            go_wp2
            go_ret
            exact rbk (by simp (maxDischargeDepth := 9) [B35])
          | false =>
           replace h34 := Lib.hid h34
           go_wp2_with fail
           refine hK.out _ _ ?_ (fun hHeld2 => ?_)
           · go_keep
           clear hK K hHeld0
           refine tt 3 ?_
           simp only [Act.put, sa, s0, ss]
           refine tt 4 ?_
           simp only [Act.put, sa, s0, ss]
           refine tu 5 ?_
           simp only [Act.put, sa, s0, ss]
           refine tu 6 ?_
           simp only [Act.put, sa, s0, ss]
           refine tu 7 ?_
           simp only [Act.put, sa, s0, ss]
           refine tu 8 ?_
           simp only [Act.put, sa, s0, ss]
           refine tu 9 ?_
           simp only [Act.put, sa, s0, ss]
           refine tu 10 ?_
           simp only [Act.put, sa, s0, ss]
           refine tt 11 ?_
           simp only [Act.put, sa, s0, ss]
           refine tt 12 ?_
           simp only [Act.put, sa, s0, ss]
           refine tu 13 ?_
           simp only [Act.put, sa, s0, ss]
           refine tu 14 ?_
           simp only [Act.put, sa, s0, ss]
           refine tt 15 ?_
           simp only [Act.put, sa, s0, ss]
           refine tt 16 ?_
           simp only [Act.put, sa, s0, ss]
           refine tu 17 ?_
           simp only [Act.put, sa, s0, ss]
           refine tu 18 ?_
           simp only [Act.put, sa, s0, ss]
           refine tu 19 ?_
           simp only [Act.put, sa, s0, ss]
           refine tu 20 ?_
           simp only [Act.put, sa, s0, ss]
           refine tu 21 ?_
           simp only [Act.put, sa, s0, ss]
           refine tu 22 ?_
           simp only [Act.put, sa, s0, ss]
           refine tt 23 ?_
           simp only [Act.put, sa, s0, ss]
           refine tt 24 ?_
           simp only [Act.put, sa, s0, ss]
           refine tu 25 ?_
           simp only [Act.put, sa, s0, ss]
           refine tu 26 ?_
           simp only [Act.put, sa, s0, ss]
           refine tu 27 ?_
           simp only [Act.put, sa, s0, ss]
           refine tu 28 ?_
           simp only [Act.put, sa, s0, ss]
           refine tu 29 ?_
           simp only [Act.put, sa, s0, ss]
           refine tu 30 ?_
           simp only [Act.put, sa, s0, ss]
           refine tu 31 ?_
           simp only [Act.put, sa, s0, ss]
           refine tu 32 ?_
           simp only [Act.put, sa, s0, ss]
           refine tu 33 ?_
           simp only [Act.put, sa, s0, ss]
           refine tt 34 ?_
           simp only [Act.put, sa, s0, ss]
           refine wpAnyH_done (by kernel_rfl) ?_ _
           clear hHeld2
           refine NoPanic.normal ?_
           have q41 : iBookOk_p_b2 a0 k24 () = .ret false := by simp only [iBookOk_p_b2, h32d.out, h34.out, cond_true, cond_false]
           have q42 := rounds_ret hlt25 hy25.out q41
           obtain rfl : r = false := hr.out.symm.trans (by simp only [iBookOk_p, h2d.out, h3d.out, h5.out, h7.out, hy9.out, q42, cond_true, cond_false])
           go_wp2
           go_ret
           exact rbk (by simp (maxDischargeDepth := 9) [B33])
         ·
          have h32d := Lib.hid (decide_eq_false h32)
          have h32e := decide_eq_false h32
          have hi44 : (iDefAt_p a0 ((gt a0.Works k24).Def)).toNat < a0.Defs.length := by first | assumption | omega
          obtain ⟨e43b, e43o, ue43_1, rfl, e43bl, e43ok, ⟨e43d0, e43d1⟩, te43_1⟩ := Sl.gtDef s0_0 ((iDefAt_p a0 ((gt a0.Works k24).Def)).toNat) hi44
          obtain ⟨pe43_1, ce43_1, rfl, hlpe43_1, -⟩ := te43_1.open
          have e43E := Lib.hid (And.intro e43d0 e43d1)
          clear e43d0 e43d1
          have ⟨e43d0n, e43d1n⟩ := cb2 B30 e43bl e43E.out
          go_wp2
          refine wp_region_noPanic ?_
          refine wp_region_held_drew (S := (fun w' => w'.cell? ⟨w.heap.size, 0, none⟩ = some (.slice (some ⟨e43b, e43o, none⟩) a0.Defs.length c0_0) ∧ w'.cell? ⟨w.heap.size, 1, none⟩ = some (.slice (some ⟨e27b, e27o, none⟩) a0.Works.length c0_1) ∧ w'.cell? ⟨w.heap.size, 2, none⟩ = some (.int .i64 a0.Now) ∧ w'.cell? ⟨w.heap.size, 3, none⟩ = some (.int .i64 a0.Ring) ∧ w'.cell? ⟨wr24.heap.size, 0, none⟩ = some (.string ((gt a0.Works k24).Name)) ∧ w'.cell? ⟨wr24.heap.size, 1, none⟩ = some (.string ((gt a0.Works k24).Def)) ∧ w'.cell? ⟨wr24.heap.size, 2, none⟩ = some (.slice pe27_2 ((gt a0.Works k24).X.S.Items.length) ce27_2) ∧ w'.cell? ⟨wr24.heap.size, 3, none⟩ = some (.int .i64 ((gt a0.Works k24).X.S.Next)) ∧ w'.cell? ⟨wr24.heap.size, 4, none⟩ = some (.slice pe27_4 ((gt a0.Works k24).X.Fired.length) ce27_4) ∧ w'.cell? ⟨wr24.heap.size, 5, none⟩ = some (.slice pe27_5 ((gt a0.Works k24).X.Tasks.length) ce27_5) ∧ w'.cell? ⟨wr24.heap.size, 6, none⟩ = some (.slice pe27_6 ((gt a0.Works k24).X.Timers.length) ce27_6) ∧ w'.cell? ⟨wr24.heap.size, 7, none⟩ = some (.slice pe27_7 ((gt a0.Works k24).X.Undos.length) ce27_7) ∧ w'.cell? ⟨wr24.heap.size, 8, none⟩ = some (.int .i64 ((gt a0.Works k24).X.State)) ∧ w'.cell? ⟨wr24.heap.size, 9, none⟩ = some (.int .i64 ((gt a0.Works k24).X.Now)) ∧ w'.cell? ⟨e27b, e27o + k24 * 10, none⟩ = some (.string ((gt a0.Works k24).Name)) ∧ w'.cell? ⟨e27b, e27o + k24 * 10 + 1, none⟩ = some (.string ((gt a0.Works k24).Def)) ∧ w'.cell? ⟨e27b, e27o + k24 * 10 + 2, none⟩ = some (.slice pe27_2 ((gt a0.Works k24).X.S.Items.length) ce27_2) ∧ w'.cell? ⟨e27b, e27o + k24 * 10 + 3, none⟩ = some (.int .i64 ((gt a0.Works k24).X.S.Next)) ∧ w'.cell? ⟨e27b, e27o + k24 * 10 + 4, none⟩ = some (.slice pe27_4 ((gt a0.Works k24).X.Fired.length) ce27_4) ∧ w'.cell? ⟨e27b, e27o + k24 * 10 + 5, none⟩ = some (.slice pe27_5 ((gt a0.Works k24).X.Tasks.length) ce27_5) ∧ w'.cell? ⟨e27b, e27o + k24 * 10 + 6, none⟩ = some (.slice pe27_6 ((gt a0.Works k24).X.Timers.length) ce27_6) ∧ w'.cell? ⟨e27b, e27o + k24 * 10 + 7, none⟩ = some (.slice pe27_7 ((gt a0.Works k24).X.Undos.length) ce27_7) ∧ w'.cell? ⟨e27b, e27o + k24 * 10 + 8, none⟩ = some (.int .i64 ((gt a0.Works k24).X.State)) ∧ w'.cell? ⟨e27b, e27o + k24 * 10 + 9, none⟩ = some (.int .i64 ((gt a0.Works k24).X.Now)) ∧ w'.cell? ⟨e43b, e43o + ((iDefAt_p a0 ((gt a0.Works k24).Def)).toNat) * 2, none⟩ = some (.string ((gt a0.Defs ((iDefAt_p a0 ((gt a0.Works k24).Def)).toNat)).Name)) ∧ w'.cell? ⟨e43b, e43o + ((iDefAt_p a0 ((gt a0.Works k24).Def)).toNat) * 2 + 1, none⟩ = some (.slice pe43_1 ((gt a0.Defs ((iDefAt_p a0 ((gt a0.Works k24).Def)).toNat)).Rules.length) ce43_1))) (by kernel_rfl) ?_ (fun hHeld0 => ?_)
          · go_keep
          refine tt 0 ?_
          simp only [Act.put, sa, s0, ss]
          refine tt 1 ?_
          simp only [Act.put, sa, s0, ss]
          refine wpAnyH_ready (rs := [2]) (by kernel_rfl) (by simp) ?_
          refine' AllReadyH.cons (o := _) ?hi1081_2 (fun K hK => ?_) AllReadyH.nil
          case hi1081_2 => simp only [List.getElem?_toArray, List.getElem?_cons_succ, List.getElem?_cons_zero]; exact rfl
          go_simp
          go_at_call 84
          refine (iNameOk_w ((gt a0.Works k24).Name)  _ e27ok.1).mono ?_
          rintro e w45 ⟨rfl, hb45⟩
          have B45 := via (w0 := w) (by simp (maxDischargeDepth := 9) [B30]) hb45
          have U45 : Below w30.heap.size w30 w45 := via (by simp (maxDischargeDepth := 9)) hb45
          have Xbx1_45 := Xbx1_30.via U45
          clear Xbx1_30 Xbx1_30k0 Xbx1_30k1 Xbx1_30k2 Xbx1_30k3
          have ⟨Xbx1_45k0, Xbx1_45k1, Xbx1_45k2, Xbx1_45k3⟩ := bx4 Xbx1_45
          have Xbx29_45 := Xbx29_30.via U45
          clear Xbx29_30 Xbx29_30k0 Xbx29_30k1 Xbx29_30k2 Xbx29_30k3 Xbx29_30k4 Xbx29_30k5 Xbx29_30k6 Xbx29_30k7 Xbx29_30k8 Xbx29_30k9
          have ⟨Xbx29_45k0, Xbx29_45k1, Xbx29_45k2, Xbx29_45k3, Xbx29_45k4, Xbx29_45k5, Xbx29_45k6, Xbx29_45k7, Xbx29_45k8, Xbx29_45k9⟩ := bx10 Xbx29_45
          clear e27d0n e27d1n e27d2n e27d3n e27d4n e27d5n e27d6n e27d7n e27d8n e27d9n
          have ⟨e27d0n, e27d1n, e27d2n, e27d3n, e27d4n, e27d5n, e27d6n, e27d7n, e27d8n, e27d9n⟩ := cb10 B45 e27bl e27E.out
          clear e43d0n e43d1n
          have ⟨e43d0n, e43d1n⟩ := cb2 B45 e43bl e43E.out
          clear U45
          clear B30
          cases h46 : iNameOk_p ((gt a0.Works k24).Name) with
          | true =>
           replace h46 := Lib.hid h46
           go_wp2_with fail
           refine hK.out _ _ ?_ (fun hHeld2 => ?_)
           · go_keep
           clear hK K hHeld0
           refine tt 3 ?_
           simp only [Act.put, sa, s0, ss]
           refine tt 4 ?_
           simp only [Act.put, sa, s0, ss]
           refine tt 5 ?_
           simp only [Act.put, sa, s0, ss]
           refine tt 6 ?_
           simp only [Act.put, sa, s0, ss]
           refine tt 7 ?_
           simp only [Act.put, sa, s0, ss]
           refine tt 9 ?_
           simp only [Act.put, sa, s0, ss]
           refine wpAnyH_ready (rs := [8]) (by kernel_rfl) (by simp) ?_
           refine' AllReadyH.cons (o := _) ?hi1082_8 (fun K hK => ?_) AllReadyH.nil
           case hi1082_8 => simp only [List.getElem?_toArray, List.getElem?_cons_succ, List.getElem?_cons_zero]; exact rfl
           go_simp
           go_at_call 56
           refine (iWorkAt_w a0 ((gt a0.Works k24).Name) _ _ _ (s0_0.to (by simp (maxDischargeDepth := 9) [B45])) (s0_1.to (by simp (maxDischargeDepth := 9) [B45]))).mono ?_
           rintro e w47 ⟨rfl, hb47⟩
           have B47 := via (w0 := w) (by simp (maxDischargeDepth := 9) [B45]) hb47
           have U47 : Below w45.heap.size w45 w47 := via (by simp (maxDischargeDepth := 9)) hb47
           have Xbx1_47 := Xbx1_45.via U47
           clear Xbx1_45 Xbx1_45k0 Xbx1_45k1 Xbx1_45k2 Xbx1_45k3
           have ⟨Xbx1_47k0, Xbx1_47k1, Xbx1_47k2, Xbx1_47k3⟩ := bx4 Xbx1_47
           have Xbx29_47 := Xbx29_45.via U47
           clear Xbx29_45 Xbx29_45k0 Xbx29_45k1 Xbx29_45k2 Xbx29_45k3 Xbx29_45k4 Xbx29_45k5 Xbx29_45k6 Xbx29_45k7 Xbx29_45k8 Xbx29_45k9
           have ⟨Xbx29_47k0, Xbx29_47k1, Xbx29_47k2, Xbx29_47k3, Xbx29_47k4, Xbx29_47k5, Xbx29_47k6, Xbx29_47k7, Xbx29_47k8, Xbx29_47k9⟩ := bx10 Xbx29_47
           clear e27d0n e27d1n e27d2n e27d3n e27d4n e27d5n e27d6n e27d7n e27d8n e27d9n
           have ⟨e27d0n, e27d1n, e27d2n, e27d3n, e27d4n, e27d5n, e27d6n, e27d7n, e27d8n, e27d9n⟩ := cb10 B47 e27bl e27E.out
           clear e43d0n e43d1n
           have ⟨e43d0n, e43d1n⟩ := cb2 B47 e43bl e43E.out
           clear U47
           clear B45
           go_wp2_with fail
           refine hK.out _ _ ?_ (fun hHeld8 => ?_)
           · go_keep
           clear hK K hHeld2
           obtain ⟨bh48, eh48⟩ : ∃ b, ((iWorkAt_p a0 ((gt a0.Works k24).Name)) == (k24 : Int)) = b := ⟨_, rfl⟩
           have nh48 : ((iWorkAt_p a0 ((gt a0.Works k24).Name)) != (k24 : Int)) = !bh48 := by rw [← eh48]; rfl
           rcases Bool.eq_false_or_eq_true bh48 with h48 | h48
           ·
            refine tt 10 ?_
            simp only [Act.put, sa, s0, ss]
            refine tt 11 ?_
            simp only [Act.put, sa, s0, ss]
            refine tt 12 ?_
            simp only [Act.put, sa, s0, ss]
            refine tt 13 ?_
            simp only [Act.put, sa, s0, ss]
            refine tt 14 ?_
            simp only [Act.put, sa, s0, ss]
            refine tt 15 ?_
            simp only [Act.put, sa, s0, ss]
            refine tt 16 ?_
            simp only [Act.put, sa, s0, ss]
            refine tt 17 ?_
            simp only [Act.put, sa, s0, ss]
            refine tt 18 ?_
            simp only [Act.put, sa, s0, ss]
            refine tt 19 ?_
            simp only [Act.put, sa, s0, ss]
            refine tt 20 ?_
            simp only [Act.put, sa, s0, ss]
            refine tt 21 ?_
            simp only [Act.put, sa, s0, ss]
            by_cases h49 : a0.Now < (gt a0.Works k24).X.Now
            ·
             have h49d := Lib.hid (decide_eq_true h49)
             have h49e := decide_eq_true h49
             refine tt 22 ?_
             simp only [Act.put, sa, s0, ss]
             refine tt 23 ?_
             simp only [Act.put, sa, s0, ss]
             refine tt 24 ?_
             simp only [Act.put, sa, s0, ss]
             refine tu 25 ?_
             simp only [Act.put, sa, s0, ss]
             refine tu 26 ?_
             simp only [Act.put, sa, s0, ss]
             refine tu 27 ?_
             simp only [Act.put, sa, s0, ss]
             refine tu 28 ?_
             simp only [Act.put, sa, s0, ss]
             refine tu 29 ?_
             simp only [Act.put, sa, s0, ss]
             refine tu 30 ?_
             simp only [Act.put, sa, s0, ss]
             refine tu 31 ?_
             simp only [Act.put, sa, s0, ss]
             refine tu 32 ?_
             simp only [Act.put, sa, s0, ss]
             refine tu 33 ?_
             simp only [Act.put, sa, s0, ss]
             refine tt 34 ?_
             simp only [Act.put, sa, s0, ss]
             refine wpAnyH_done (by kernel_rfl) ?_ _
             clear hHeld8
             refine NoPanic.normal ?_
             have q50 : iBookOk_p_b2 a0 k24 () = .ret false := by simp only [iBookOk_p_b2, h32d.out, h46.out, eh48, h48, h49d.out, cond_true, cond_false]
             have q51 := rounds_ret hlt25 hy25.out q50
             obtain rfl : r = false := hr.out.symm.trans (by simp only [iBookOk_p, h2d.out, h3d.out, h5.out, h7.out, hy9.out, q51, cond_true, cond_false])
             go_wp2
             go_ret
             exact rbk (by simp (maxDischargeDepth := 9) [B47])
            ·
             have h49d := Lib.hid (decide_eq_false h49)
             have h49e := decide_eq_false h49
             refine tt 22 ?_
             simp only [Act.put, sa, s0, ss]
             refine tt 23 ?_
             simp only [Act.put, sa, s0, ss]
             refine tt 24 ?_
             simp only [Act.put, sa, s0, ss]
             refine tt 25 ?_
             simp only [Act.put, sa, s0, ss]
             refine tt 26 ?_
             simp only [Act.put, sa, s0, ss]
             refine tt 27 ?_
             simp only [Act.put, sa, s0, ss]
             refine tt 28 ?_
             simp only [Act.put, sa, s0, ss]
             refine tt 29 ?_
             simp only [Act.put, sa, s0, ss]
             refine tt 30 ?_
             simp only [Act.put, sa, s0, ss]
             refine tt 31 ?_
             simp only [Act.put, sa, s0, ss]
             refine wpAnyH_ready (rs := [32]) (by kernel_rfl) (by simp) ?_
             refine' AllReadyH.cons (o := _) ?hi1083_32 (fun K hK => ?_) AllReadyH.nil
             case hi1083_32 => simp only [List.getElem?_toArray, List.getElem?_cons_succ, List.getElem?_cons_zero]; exact rfl
             go_simp
             go_at_call 38
             refine (iInstOk_w (gt a0.Defs ((iDefAt_p a0 ((gt a0.Works k24).Def)).toNat)) ((gt a0.Works k24).X) _ _ _ _ _ _ _ (te43_1.to (by simp (maxDischargeDepth := 9) [B47])) (te27_2.to (by simp (maxDischargeDepth := 9) [B47])) (te27_4.to (by simp (maxDischargeDepth := 9) [B47])) (te27_5.to (by simp (maxDischargeDepth := 9) [B47])) (te27_6.to (by simp (maxDischargeDepth := 9) [B47])) (te27_7.to (by simp (maxDischargeDepth := 9) [B47])) e43ok (Nat.le_trans (szn_gtDef a0.Defs ((iDefAt_p a0 ((gt a0.Works k24).Def)).toNat) (by first | assumption | omega)) (Nat.le_trans (szn_Book_Defs a0) hz_a0)) (Nat.le_trans (szn_Work_X (gt a0.Works k24)) (Nat.le_trans (szn_gtWork a0.Works k24 (by first | assumption | omega)) (Nat.le_trans (szn_Book_Works a0) hz_a0)))).mono ?_
             rintro e w52 ⟨rfl, hb52⟩
             have B52 := via (w0 := w) (by simp (maxDischargeDepth := 9) [B47]) hb52
             have U52 : Below w47.heap.size w47 w52 := via (by simp (maxDischargeDepth := 9)) hb52
             have Xbx1_52 := Xbx1_47.via U52
             clear Xbx1_47 Xbx1_47k0 Xbx1_47k1 Xbx1_47k2 Xbx1_47k3
             have ⟨Xbx1_52k0, Xbx1_52k1, Xbx1_52k2, Xbx1_52k3⟩ := bx4 Xbx1_52
             have Xbx29_52 := Xbx29_47.via U52
             clear Xbx29_47 Xbx29_47k0 Xbx29_47k1 Xbx29_47k2 Xbx29_47k3 Xbx29_47k4 Xbx29_47k5 Xbx29_47k6 Xbx29_47k7 Xbx29_47k8 Xbx29_47k9
             have ⟨Xbx29_52k0, Xbx29_52k1, Xbx29_52k2, Xbx29_52k3, Xbx29_52k4, Xbx29_52k5, Xbx29_52k6, Xbx29_52k7, Xbx29_52k8, Xbx29_52k9⟩ := bx10 Xbx29_52
             clear e27d0n e27d1n e27d2n e27d3n e27d4n e27d5n e27d6n e27d7n e27d8n e27d9n
             have ⟨e27d0n, e27d1n, e27d2n, e27d3n, e27d4n, e27d5n, e27d6n, e27d7n, e27d8n, e27d9n⟩ := cb10 B52 e27bl e27E.out
             clear e43d0n e43d1n
             have ⟨e43d0n, e43d1n⟩ := cb2 B52 e43bl e43E.out
             clear U52
             clear B47
             cases h53 : iInstOk_p (gt a0.Defs ((iDefAt_p a0 ((gt a0.Works k24).Def)).toNat)) ((gt a0.Works k24).X) with
             | true =>
              replace h53 := Lib.hid h53
              go_wp2_with fail
              refine hK.out _ _ ?_ (fun hHeld32 => ?_)
              · go_keep
              clear hK K hHeld8
              refine tt 33 ?_
              simp only [Act.put, sa, s0, ss]
              refine tt 34 ?_
              simp only [Act.put, sa, s0, ss]
              refine wpAnyH_done (by kernel_rfl) ?_ _
              clear hHeld32
              refine NoPanic.normal ?_
              have q54 : iBookOk_p_b2 a0 k24 () = .go () := by simp only [iBookOk_p_b2, h32d.out, h46.out, eh48, h48, h49d.out, h53.out, cond_true, cond_false]
              replace q54 := Lib.hid (rounds_next hy25.out q54)
              go_wp2
              go_roundw
              case rel => exact ⟨(by simp (maxDischargeDepth := 9) [B52]), (by simp (maxDischargeDepth := 9) [Xbx1_52]), k24 + 1, by go_num, by omega, q54⟩
              case measure => simp [intOf]; omega
             | false =>
              replace h53 := Lib.hid h53
              go_wp2_with fail
              refine hK.out _ _ ?_ (fun hHeld32 => ?_)
              · go_keep
              clear hK K hHeld8
              refine tt 33 ?_
              simp only [Act.put, sa, s0, ss]
              refine tt 34 ?_
              simp only [Act.put, sa, s0, ss]
              refine wpAnyH_done (by kernel_rfl) ?_ _
              clear hHeld32
              refine NoPanic.normal ?_
              have q55 : iBookOk_p_b2 a0 k24 () = .ret false := by simp only [iBookOk_p_b2, h32d.out, h46.out, eh48, h48, h49d.out, h53.out, cond_true, cond_false]
              have q56 := rounds_ret hlt25 hy25.out q55
              obtain rfl : r = false := hr.out.symm.trans (by simp only [iBookOk_p, h2d.out, h3d.out, h5.out, h7.out, hy9.out, q56, cond_true, cond_false])
              go_wp2
              go_ret
              exact rbk (by simp (maxDischargeDepth := 9) [B52])
           ·
            refine tt 10 ?_
            simp only [Act.put, sa, s0, ss]
            refine tt 11 ?_
            simp only [Act.put, sa, s0, ss]
            refine tt 12 ?_
            simp only [Act.put, sa, s0, ss]
            refine tu 13 ?_
            simp only [Act.put, sa, s0, ss]
            refine tu 14 ?_
            simp only [Act.put, sa, s0, ss]
            refine tt 15 ?_
            simp only [Act.put, sa, s0, ss]
            refine tt 16 ?_
            simp only [Act.put, sa, s0, ss]
            refine tu 17 ?_
            simp only [Act.put, sa, s0, ss]
            refine tu 18 ?_
            simp only [Act.put, sa, s0, ss]
            refine tu 19 ?_
            simp only [Act.put, sa, s0, ss]
            refine tu 20 ?_
            simp only [Act.put, sa, s0, ss]
            refine tu 21 ?_
            simp only [Act.put, sa, s0, ss]
            refine tu 22 ?_
            simp only [Act.put, sa, s0, ss]
            refine tt 23 ?_
            simp only [Act.put, sa, s0, ss]
            refine tt 24 ?_
            simp only [Act.put, sa, s0, ss]
            refine tu 25 ?_
            simp only [Act.put, sa, s0, ss]
            refine tu 26 ?_
            simp only [Act.put, sa, s0, ss]
            refine tu 27 ?_
            simp only [Act.put, sa, s0, ss]
            refine tu 28 ?_
            simp only [Act.put, sa, s0, ss]
            refine tu 29 ?_
            simp only [Act.put, sa, s0, ss]
            refine tu 30 ?_
            simp only [Act.put, sa, s0, ss]
            refine tu 31 ?_
            simp only [Act.put, sa, s0, ss]
            refine tu 32 ?_
            simp only [Act.put, sa, s0, ss]
            refine tu 33 ?_
            simp only [Act.put, sa, s0, ss]
            refine tt 34 ?_
            simp only [Act.put, sa, s0, ss]
            refine wpAnyH_done (by kernel_rfl) ?_ _
            clear hHeld8
            refine NoPanic.normal ?_
            have q57 : iBookOk_p_b2 a0 k24 () = .ret false := by simp only [iBookOk_p_b2, h32d.out, h46.out, eh48, h48, cond_true, cond_false]
            have q58 := rounds_ret hlt25 hy25.out q57
            obtain rfl : r = false := hr.out.symm.trans (by simp only [iBookOk_p, h2d.out, h3d.out, h5.out, h7.out, hy9.out, q58, cond_true, cond_false])
            go_wp2
            go_ret
            exact rbk (by simp (maxDischargeDepth := 9) [B47])
          | false =>
           replace h46 := Lib.hid h46
           go_wp2_with fail
           refine hK.out _ _ ?_ (fun hHeld2 => ?_)
           · go_keep
           clear hK K hHeld0
           refine tt 3 ?_
           simp only [Act.put, sa, s0, ss]
           refine tt 4 ?_
           simp only [Act.put, sa, s0, ss]
           refine tu 5 ?_
           simp only [Act.put, sa, s0, ss]
           refine tu 6 ?_
           simp only [Act.put, sa, s0, ss]
           refine tu 7 ?_
           simp only [Act.put, sa, s0, ss]
           refine tu 8 ?_
           simp only [Act.put, sa, s0, ss]
           refine tu 9 ?_
           simp only [Act.put, sa, s0, ss]
           refine tu 10 ?_
           simp only [Act.put, sa, s0, ss]
           refine tt 11 ?_
           simp only [Act.put, sa, s0, ss]
           refine tt 12 ?_
           simp only [Act.put, sa, s0, ss]
           refine tu 13 ?_
           simp only [Act.put, sa, s0, ss]
           refine tu 14 ?_
           simp only [Act.put, sa, s0, ss]
           refine tt 15 ?_
           simp only [Act.put, sa, s0, ss]
           refine tt 16 ?_
           simp only [Act.put, sa, s0, ss]
           refine tu 17 ?_
           simp only [Act.put, sa, s0, ss]
           refine tu 18 ?_
           simp only [Act.put, sa, s0, ss]
           refine tu 19 ?_
           simp only [Act.put, sa, s0, ss]
           refine tu 20 ?_
           simp only [Act.put, sa, s0, ss]
           refine tu 21 ?_
           simp only [Act.put, sa, s0, ss]
           refine tu 22 ?_
           simp only [Act.put, sa, s0, ss]
           refine tt 23 ?_
           simp only [Act.put, sa, s0, ss]
           refine tt 24 ?_
           simp only [Act.put, sa, s0, ss]
           refine tu 25 ?_
           simp only [Act.put, sa, s0, ss]
           refine tu 26 ?_
           simp only [Act.put, sa, s0, ss]
           refine tu 27 ?_
           simp only [Act.put, sa, s0, ss]
           refine tu 28 ?_
           simp only [Act.put, sa, s0, ss]
           refine tu 29 ?_
           simp only [Act.put, sa, s0, ss]
           refine tu 30 ?_
           simp only [Act.put, sa, s0, ss]
           refine tu 31 ?_
           simp only [Act.put, sa, s0, ss]
           refine tu 32 ?_
           simp only [Act.put, sa, s0, ss]
           refine tu 33 ?_
           simp only [Act.put, sa, s0, ss]
           refine tt 34 ?_
           simp only [Act.put, sa, s0, ss]
           refine wpAnyH_done (by kernel_rfl) ?_ _
           clear hHeld2
           refine NoPanic.normal ?_
           have q59 : iBookOk_p_b2 a0 k24 () = .ret false := by simp only [iBookOk_p_b2, h32d.out, h46.out, cond_false]
           have q60 := rounds_ret hlt25 hy25.out q59
           obtain rfl : r = false := hr.out.symm.trans (by simp only [iBookOk_p, h2d.out, h3d.out, h5.out, h7.out, hy9.out, q60, cond_true, cond_false])
           go_wp2
           go_ret
           exact rbk (by simp (maxDischargeDepth := 9) [B45])
        ·
         obtain rfl : a0.Works.length = k24 := by omega
         obtain rfl : r = true := hr.out.symm.trans (by simp only [iBookOk_p, h2d.out, h3d.out, h5.out, h7.out, hy9.out, hy25.out, cond_true, cond_false])
         go_wp2
         go_ret
         exact rbk (by simp (maxDischargeDepth := 9) [B25])
    | false =>
     replace h7 := Lib.hid h7
     obtain rfl : r = false := hr.out.symm.trans (by simp only [iBookOk_p, h2d.out, h3d.out, h5.out, h7.out, cond_true, cond_false])
     go_wp2
     go_ret
     exact rbk (by simp (maxDischargeDepth := 9) [B6])
   | false =>
    replace h5 := Lib.hid h5
    obtain rfl : r = false := hr.out.symm.trans (by simp only [iBookOk_p, h2d.out, h3d.out, h5.out, cond_false])
    go_wp2
    go_ret
    exact rbk (by simp (maxDischargeDepth := 9) [B4])
theorem iBookOk_true {b : BookD} (h : iBookOk_p b = true) : (0 ≤ b.Ring ∧ b.Ring ≤ ((b.Works.length : Nat) : Int)) ∧ b.Works.length ≤ 10 := by
  unfold iBookOk_p at h
  constructor
  · cases e : inR b.Ring (0 : Int) ((b.Works.length : Nat) : Int) with
    | true => exact inR_true e
    | false => rw [e] at h; simp at h
  · by_cases e : 10 < b.Works.length
    · rw [decide_eq_true e] at h; simp at h
    · omega

-- impl.TurnsTo
def iTurnsTo_p (a0 : BookD) (a1 : Int) : Int := bif decide (a1 < (0 : Int)) then ((-1 : Int)) else (bif decide (((a0.Works.length : Nat) : Int) ≤ a1) then ((-1 : Int)) else (bif iBookOk_p a0 then ((((a1 - a0.Ring) + ((a0.Works.length : Nat) : Int)) % ((a0.Works.length : Nat) : Int))) else ((-1 : Int))))
set_option maxHeartbeats 1000000 in
set_option maxRecDepth 20000 in
theorem iTurnsTo_w (a0 : BookD) (a1 : Int) (v0_0 : Value) (v0_1 : Value) (w : World) (s0_0 : Sl w a0.Defs v0_0) (s0_1 : Sl w a0.Works v0_1) (hz_a0 : sznBook a0 ≤ 1048576) :
    Calls Tryz.prog 13 #[.agg #[v0_0, v0_1, .int .i64 a0.Now, .int .i64 a0.Ring], .int .i64 a1] w (RetI (iTurnsTo_p a0 a1) w) := by
 obtain ⟨p0_0, c0_0, rfl, hl0_0, -, hk0_0, -⟩ := s0_0.open
 obtain ⟨p0_1, c0_1, rfl, hl0_1, -, hk0_1, -⟩ := s0_1.open
 obtain ⟨r, hr⟩ : ∃ r, iTurnsTo_p a0 a1 = r := ⟨_, rfl⟩
 rw [hr]
 replace hr := Lib.hid hr
 go_enter Tryz.func13, Tryz.ntmps13
 by_cases h2 : a1 < (0 : Int)
 ·
  have h2d := Lib.hid (decide_eq_true h2)
  obtain rfl : r = (-1 : Int) := hr.out.symm.trans (by simp only [iTurnsTo_p, h2d.out, cond_true])
  go_wp2
  go_ret
  exact ⟨by first | rfl | simp, (by simp (maxDischargeDepth := 9))⟩
 ·
  have h2d := Lib.hid (decide_eq_false h2)
  by_cases h3 : ((a0.Works.length : Nat) : Int) ≤ a1
  ·
   have h3d := Lib.hid (decide_eq_true h3)
   obtain rfl : r = (-1 : Int) := hr.out.symm.trans (by simp only [iTurnsTo_p, h2d.out, h3d.out, cond_true, cond_false])
   go_wp2
   go_ret
   exact ⟨by first | rfl | simp, (by simp (maxDischargeDepth := 9))⟩
  ·
   have h3d := Lib.hid (decide_eq_false h3)
   go_wp2_with fail
   refine (iBookOk_w a0 _ _ _ (s0_0.to (by simp (maxDischargeDepth := 9))) (s0_1.to (by simp (maxDischargeDepth := 9))) hz_a0).mono ?_
   rintro e w4 ⟨rfl, hb4⟩
   have B4 := via (w0 := w) (by simp (maxDischargeDepth := 9)) hb4
   have Xbx1_4 : Bx w4 (w.heap.size) [.slice p0_0 a0.Defs.length c0_0, .slice p0_1 a0.Works.length c0_1, .int .i64 a0.Now, .int .i64 a0.Ring] := Bx.via (by simp (maxDischargeDepth := 9)) hb4
   have ⟨Xbx1_4k0, Xbx1_4k1, Xbx1_4k2, Xbx1_4k3⟩ := bx4 Xbx1_4
   cases h5 : iBookOk_p a0 with
   | true =>
    have ⟨⟨h5a, h5b⟩, h5c⟩ := iBookOk_true h5
    replace h5 := Lib.hid h5
    have hw6 : wrap64 (a1 - a0.Ring) = (a1 - a0.Ring) := by have z := w64_in (a1 - a0.Ring) ⟨by omega, by omega⟩; omega
    have hm7a : 0 ≤ (((a1 - a0.Ring) + ((a0.Works.length : Nat) : Int)) % ((a0.Works.length : Nat) : Int)) := Int.emod_nonneg _ (by omega)
    have hm7b : (((a1 - a0.Ring) + ((a0.Works.length : Nat) : Int)) % ((a0.Works.length : Nat) : Int)) < ((a0.Works.length : Nat) : Int) := Int.emod_lt_of_pos _ (by omega)
    obtain rfl : r = (((a1 - a0.Ring) + ((a0.Works.length : Nat) : Int)) % ((a0.Works.length : Nat) : Int)) := hr.out.symm.trans (by simp only [iTurnsTo_p, h2d.out, h3d.out, h5.out, cond_true, cond_false])
    go_wp2
    go_ret
    exact ⟨by first | rfl | simp, (by simp (maxDischargeDepth := 9) [B4])⟩
   | false =>
    replace h5 := Lib.hid h5
    obtain rfl : r = (-1 : Int) := hr.out.symm.trans (by simp only [iTurnsTo_p, h2d.out, h3d.out, h5.out, cond_false])
    go_wp2
    go_ret
    exact ⟨by first | rfl | simp, (by simp (maxDischargeDepth := 9) [B4])⟩
end Go.Proofs.YthnilnggpbploaaGreat
