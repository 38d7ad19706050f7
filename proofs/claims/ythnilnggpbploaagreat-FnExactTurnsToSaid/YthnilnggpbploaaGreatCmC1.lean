/- Functions that only read, walked (C). Printed by a program. -/
import Derived.Test.YthnilnggpbploaaGreatCmA1
import Derived.Test.YthnilnggpbploaaGreatCmA2
import Derived.Test.YthnilnggpbploaaGreatCmB1
import Derived.Test.YthnilnggpbploaaGreatCmB2
import Derived.Test.YthnilnggpbploaaGreatCmB3
import Derived.Test.YthnilnggpbploaaGreatRd
import Derived.Test.YthnilnggpbploaaGreatVars
import Derived.Test.YthnilnggpbploaaGreatVarsU
namespace Go.Proofs.YthnilnggpbploaaGreat
open Go.RowKit
open Cel (rd own rd_len rd_one own_rd own_lt rd_below rd_mono own_keep)

-- impl.RuleOk
def iRuleOk_p_b1 (a0 : RuleD) (k11 : Nat) (_ : Unit) : St (Bool) (Unit) := bif iCondOk_p (gt a0.Conds k11) then (.go ()) else (.ret false)
def iRuleOk_p_b2 (a0 : RuleD) (k22 : Nat) (_ : Unit) : St (Bool) (Unit) := bif iActOk_p (gt a0.Acts k22) then (bif ((gt a0.Acts k22).Kind == 2) then (bif decide ((iPosCount_p a0) ≤ (gt a0.Acts k22).N) then (.ret false) else (.go ())) else (.go ())) else (.ret false)
def iRuleOk_p_b3 (a0 : RuleD) (k41 : Nat) (_ : Unit) : St (Bool) (Unit) := bif slices_Contains_string_p (iPosVars_p a0) (gt (iusedVars_p a0) k41) then (.go ()) else (.ret false)
def iRuleOk_p (a0 : RuleD) : Bool := bif iNameOk_p a0.Name then (bif inR a0.Sal (-100 : Int) (100 : Int) then (bif ipatsOk_p a0 then (bif decide (6 < a0.Conds.length) then (false) else (bif inR ((a0.Acts.length : Nat) : Int) (1 : Int) (6 : Int) then (match rounds (iRuleOk_p_b1 a0) a0.Conds.length () with | .ret r => r | .brk _ => default | .go _ => match rounds (iRuleOk_p_b2 a0) a0.Acts.length () with | .ret r => r | .brk _ => default | .go _ => match rounds (iRuleOk_p_b3 a0) ((iusedVars_p a0).length) () with | .ret r => r | .brk _ => default | .go _ => true) else (false))) else (false)) else (false)) else (false)
set_option maxHeartbeats 1000000 in
set_option maxRecDepth 20000 in
theorem iRuleOk_w (a0 : RuleD) (v0_2 : Value) (v0_3 : Value) (v0_4 : Value) (w : World) (s0_2 : Sl w a0.Pats v0_2) (s0_3 : Sl w a0.Conds v0_3) (s0_4 : Sl w a0.Acts v0_4) (ok_a0 : okRule a0) (hz_a0 : sznRule a0 ≤ 1048576) :
    Calls Tryz.prog 136 #[.agg #[.string a0.Name, .int .i64 a0.Sal, v0_2, v0_3, v0_4]] w (RetB (iRuleOk_p a0) w) := by
 obtain ⟨p0_2, c0_2, rfl, hl0_2, -, hk0_2, -⟩ := s0_2.open
 obtain ⟨p0_3, c0_3, rfl, hl0_3, -, hk0_3, -⟩ := s0_3.open
 obtain ⟨p0_4, c0_4, rfl, hl0_4, -, hk0_4, -⟩ := s0_4.open
 obtain ⟨r, hr⟩ : ∃ r, iRuleOk_p a0 = r := ⟨_, rfl⟩
 rw [hr]
 replace hr := Lib.hid hr
 go_enter Tryz.func136, Tryz.ntmps136
 go_wp2_with fail
 refine (iNameOk_w a0.Name  _ ok_a0.1).mono ?_
 rintro e w2 ⟨rfl, hb2⟩
 have B2 := via (w0 := w) (by simp (maxDischargeDepth := 9)) hb2
 have Xbx1_2 : Bx w2 (w.heap.size) [.string a0.Name, .int .i64 a0.Sal, .slice p0_2 a0.Pats.length c0_2, .slice p0_3 a0.Conds.length c0_3, .slice p0_4 a0.Acts.length c0_4] := Bx.via (by simp (maxDischargeDepth := 9)) hb2
 have ⟨Xbx1_2k0, Xbx1_2k1, Xbx1_2k2, Xbx1_2k3, Xbx1_2k4⟩ := bx5 Xbx1_2
 cases h3 : iNameOk_p a0.Name with
 | true =>
  replace h3 := Lib.hid h3
  go_wp2_with fail
  refine (iinRange_w a0.Sal (-100 : Int) (100 : Int)  _ ).mono ?_
  rintro e w4 ⟨rfl, hb4⟩
  have B4 := via (w0 := w) (by simp (maxDischargeDepth := 9) [B2]) hb4
  have U4 : Below w2.heap.size w2 w4 := via (by simp (maxDischargeDepth := 9)) hb4
  have Xbx1_4 := Xbx1_2.via U4
  clear Xbx1_2 Xbx1_2k0 Xbx1_2k1 Xbx1_2k2 Xbx1_2k3 Xbx1_2k4
  have ⟨Xbx1_4k0, Xbx1_4k1, Xbx1_4k2, Xbx1_4k3, Xbx1_4k4⟩ := bx5 Xbx1_4
  clear U4
  clear B2
  cases h5 : inR a0.Sal (-100 : Int) (100 : Int) with
  | true =>
   have ⟨h5a, h5b⟩ := inR_true h5
   replace h5 := Lib.hid h5
   go_wp2_with fail
   refine (ipatsOk_w a0 _ _ _ _ (s0_2.to (by simp (maxDischargeDepth := 9) [B4])) (s0_3.to (by simp (maxDischargeDepth := 9) [B4])) (s0_4.to (by simp (maxDischargeDepth := 9) [B4]))).mono ?_
   rintro e w6 ⟨rfl, hb6⟩
   have B6 := via (w0 := w) (by simp (maxDischargeDepth := 9) [B4]) hb6
   have U6 : Below w4.heap.size w4 w6 := via (by simp (maxDischargeDepth := 9)) hb6
   have Xbx1_6 := Xbx1_4.via U6
   clear Xbx1_4 Xbx1_4k0 Xbx1_4k1 Xbx1_4k2 Xbx1_4k3 Xbx1_4k4
   have ⟨Xbx1_6k0, Xbx1_6k1, Xbx1_6k2, Xbx1_6k3, Xbx1_6k4⟩ := bx5 Xbx1_6
   clear U6
   clear B4
   cases h7 : ipatsOk_p a0 with
   | true =>
    replace h7 := Lib.hid h7
    by_cases h8 : 6 < a0.Conds.length
    ·
     have h8d := Lib.hid (decide_eq_true h8)
     obtain rfl : r = false := hr.out.symm.trans (by simp only [iRuleOk_p, h3.out, h5.out, h7.out, h8d.out, cond_true])
     go_wp2
     go_ret
     exact rbk (by simp (maxDischargeDepth := 9) [B6])
    ·
     have h8d := Lib.hid (decide_eq_false h8)
     go_wp2_with fail
     refine (iinRange_w ((a0.Acts.length : Nat) : Int) (1 : Int) (6 : Int)  _ ).mono ?_
     rintro e w9 ⟨rfl, hb9⟩
     have B9 := via (w0 := w) (by simp (maxDischargeDepth := 9) [B6]) hb9
     have U9 : Below w6.heap.size w6 w9 := via (by simp (maxDischargeDepth := 9)) hb9
     have Xbx1_9 := Xbx1_6.via U9
     clear Xbx1_6 Xbx1_6k0 Xbx1_6k1 Xbx1_6k2 Xbx1_6k3 Xbx1_6k4
     have ⟨Xbx1_9k0, Xbx1_9k1, Xbx1_9k2, Xbx1_9k3, Xbx1_9k4⟩ := bx5 Xbx1_9
     clear U9
     clear B6
     cases h10 : inR ((a0.Acts.length : Nat) : Int) (1 : Int) (6 : Int) with
     | true =>
      have ⟨h10a, h10b⟩ := inR_true h10
      replace h10 := Lib.hid h10
      go_wp2
      go_loopw [39] (fun i39 wr11 => Below w.heap.size w wr11 ∧ Bx wr11 (w.heap.size) [.string a0.Name, .int .i64 a0.Sal, .slice p0_2 a0.Pats.length c0_2, .slice p0_3 a0.Conds.length c0_3, .slice p0_4 a0.Acts.length c0_4] ∧ ∃ (k11 : Nat), i39 = .int .i64 k11 ∧ k11 ≤ a0.Conds.length ∧ Hid (rounds (iRuleOk_p_b1 a0) k11 () = .go ())) (fun i39 _ => a0.Conds.length - (intOf i39).toNat)
      case atStart => exact ⟨(by simp (maxDischargeDepth := 9) [B9]), (by simp (maxDischargeDepth := 9) [Xbx1_9]), 0, rfl, by omega, Lib.hid rfl⟩
      case round =>
       rename World => wr11
       clear Xbx1_9 Xbx1_9k0 Xbx1_9k1 Xbx1_9k2 Xbx1_9k3 Xbx1_9k4 B9
       obtain ⟨B12, Xbx1_12, k11, rfl, hk12, hy12⟩ := hrel
       have ⟨Xbx1_12k0, Xbx1_12k1, Xbx1_12k2, Xbx1_12k3, Xbx1_12k4⟩ := bx5 Xbx1_12
       by_cases hlt12 : k11 < a0.Conds.length
       ·
        have hi15 : k11 < a0.Conds.length := by first | assumption | omega
        obtain ⟨e14b, e14o, rfl, e14bl, e14ok, ⟨e14d0, e14d1, e14d2, e14d3, e14d4, e14d5, e14d6, e14d7, e14d8, e14d9, e14d10⟩⟩ := Sl.gtCond s0_3 k11 hi15
        have e14E := Lib.hid (And.intro e14d0 (And.intro e14d1 (And.intro e14d2 (And.intro e14d3 (And.intro e14d4 (And.intro e14d5 (And.intro e14d6 (And.intro e14d7 (And.intro e14d8 (And.intro e14d9 e14d10))))))))))
        clear e14d0 e14d1 e14d2 e14d3 e14d4 e14d5 e14d6 e14d7 e14d8 e14d9 e14d10
        have ⟨e14d0n, e14d1n, e14d2n, e14d3n, e14d4n, e14d5n, e14d6n, e14d7n, e14d8n, e14d9n, e14d10n⟩ := cb11 B12 e14bl e14E.out
        go_wp2_with fail
        refine (iCondOk_w (gt a0.Conds k11)  _ e14ok).mono ?_
        rintro e w17 ⟨rfl, hb17⟩
        have B17 := via (w0 := w) (by simp (maxDischargeDepth := 9) [B12]) hb17
        have U17 : Below wr11.heap.size wr11 w17 := via (by simp (maxDischargeDepth := 9)) hb17
        have Xbx1_17 := Xbx1_12.via U17
        clear Xbx1_12 Xbx1_12k0 Xbx1_12k1 Xbx1_12k2 Xbx1_12k3 Xbx1_12k4
        have ⟨Xbx1_17k0, Xbx1_17k1, Xbx1_17k2, Xbx1_17k3, Xbx1_17k4⟩ := bx5 Xbx1_17
        have Xbx16_17 : Bx w17 (wr11.heap.size) [.int .i64 ((gt a0.Conds k11).Op), .int .i64 ((gt a0.Conds k11).L.K), .string ((gt a0.Conds k11).L.S), .int .i64 ((gt a0.Conds k11).L.V.K), .int .i64 ((gt a0.Conds k11).L.V.N), .string ((gt a0.Conds k11).L.V.S), .int .i64 ((gt a0.Conds k11).R.K), .string ((gt a0.Conds k11).R.S), .int .i64 ((gt a0.Conds k11).R.V.K), .int .i64 ((gt a0.Conds k11).R.V.N), .string ((gt a0.Conds k11).R.V.S)] := Bx.via (by simp (maxDischargeDepth := 9)) hb17
        have ⟨Xbx16_17k0, Xbx16_17k1, Xbx16_17k2, Xbx16_17k3, Xbx16_17k4, Xbx16_17k5, Xbx16_17k6, Xbx16_17k7, Xbx16_17k8, Xbx16_17k9, Xbx16_17k10⟩ := bx11 Xbx16_17
        clear e14d0n e14d1n e14d2n e14d3n e14d4n e14d5n e14d6n e14d7n e14d8n e14d9n e14d10n
        have ⟨e14d0n, e14d1n, e14d2n, e14d3n, e14d4n, e14d5n, e14d6n, e14d7n, e14d8n, e14d9n, e14d10n⟩ := cb11 B17 e14bl e14E.out
        clear U17
        clear B12
        cases h18 : iCondOk_p (gt a0.Conds k11) with
        | true =>
         replace h18 := Lib.hid h18
         have q19 : iRuleOk_p_b1 a0 k11 () = .go () := by simp only [iRuleOk_p_b1, h18.out, cond_true]
         replace q19 := Lib.hid (rounds_next hy12.out q19)
         go_wp2
         go_roundw
         case rel => exact ⟨(by simp (maxDischargeDepth := 9) [B17]), (by simp (maxDischargeDepth := 9) [Xbx1_17]), k11 + 1, by go_num, by omega, q19⟩
         case measure => simp [intOf]; omega
        | false =>
         replace h18 := Lib.hid h18
         have q20 : iRuleOk_p_b1 a0 k11 () = .ret false := by simp only [iRuleOk_p_b1, h18.out, cond_false]
         have q21 := rounds_ret hlt12 hy12.out q20
         obtain rfl : r = false := hr.out.symm.trans (by simp only [iRuleOk_p, h3.out, h5.out, h7.out, h8d.out, h10.out, q21, cond_true, cond_false])
         go_wp2
         go_ret
         exact rbk (by simp (maxDischargeDepth := 9) [B17])
       ·
        obtain rfl : a0.Conds.length = k11 := by omega
        go_wp2
        go_loopw [50] (fun i50 wr22 => Below w.heap.size w wr22 ∧ Bx wr22 (w.heap.size) [.string a0.Name, .int .i64 a0.Sal, .slice p0_2 a0.Pats.length c0_2, .slice p0_3 a0.Conds.length c0_3, .slice p0_4 a0.Acts.length c0_4] ∧ ∃ (k22 : Nat), i50 = .int .i64 k22 ∧ k22 ≤ a0.Acts.length ∧ Hid (rounds (iRuleOk_p_b2 a0) k22 () = .go ())) (fun i50 _ => a0.Acts.length - (intOf i50).toNat)
        case atStart => exact ⟨(by simp (maxDischargeDepth := 9) [B12]), (by simp (maxDischargeDepth := 9) [Xbx1_12]), 0, rfl, by omega, Lib.hid rfl⟩
        case round =>
         rename World => wr22
         clear Xbx1_12 Xbx1_12k0 Xbx1_12k1 Xbx1_12k2 Xbx1_12k3 Xbx1_12k4 B12
         obtain ⟨B23, Xbx1_23, k22, rfl, hk23, hy23⟩ := hrel
         have ⟨Xbx1_23k0, Xbx1_23k1, Xbx1_23k2, Xbx1_23k3, Xbx1_23k4⟩ := bx5 Xbx1_23
         by_cases hlt23 : k22 < a0.Acts.length
         ·
          have hi26 : k22 < a0.Acts.length := by first | assumption | omega
          obtain ⟨e25b, e25o, ue25_2, rfl, e25bl, e25ok, ⟨e25d0, e25d1, e25d2, e25d3, e25d4⟩, te25_2⟩ := Sl.gtAct s0_4 k22 hi26
          obtain ⟨pe25_2, ce25_2, rfl, hlpe25_2, -⟩ := te25_2.open
          have e25E := Lib.hid (And.intro e25d0 (And.intro e25d1 (And.intro e25d2 (And.intro e25d3 e25d4))))
          clear e25d0 e25d1 e25d2 e25d3 e25d4
          have ⟨e25d0n, e25d1n, e25d2n, e25d3n, e25d4n⟩ := cb5 B23 e25bl e25E.out
          go_wp2
          refine wp_region_noPanic ?_
          refine wp_region_held_drew (S := (fun w' => w'.cell? ⟨w.heap.size, 0, none⟩ = some (.string a0.Name) ∧ w'.cell? ⟨w.heap.size, 1, none⟩ = some (.int .i64 a0.Sal) ∧ w'.cell? ⟨w.heap.size, 2, none⟩ = some (.slice p0_2 a0.Pats.length c0_2) ∧ w'.cell? ⟨w.heap.size, 3, none⟩ = some (.slice p0_3 a0.Conds.length c0_3) ∧ w'.cell? ⟨w.heap.size, 4, none⟩ = some (.slice (some ⟨e25b, e25o, none⟩) a0.Acts.length c0_4) ∧ w'.cell? ⟨wr22.heap.size, 0, none⟩ = some (.int .i64 ((gt a0.Acts k22).Kind)) ∧ w'.cell? ⟨wr22.heap.size, 1, none⟩ = some (.string ((gt a0.Acts k22).Name)) ∧ w'.cell? ⟨wr22.heap.size, 2, none⟩ = some (.slice pe25_2 ((gt a0.Acts k22).Args.length) ce25_2) ∧ w'.cell? ⟨wr22.heap.size, 3, none⟩ = some (.int .i64 ((gt a0.Acts k22).N)) ∧ w'.cell? ⟨wr22.heap.size, 4, none⟩ = some (.string ((gt a0.Acts k22).Undo)) ∧ w'.cell? ⟨e25b, e25o + k22 * 5, none⟩ = some (.int .i64 ((gt a0.Acts k22).Kind)) ∧ w'.cell? ⟨e25b, e25o + k22 * 5 + 1, none⟩ = some (.string ((gt a0.Acts k22).Name)) ∧ w'.cell? ⟨e25b, e25o + k22 * 5 + 2, none⟩ = some (.slice pe25_2 ((gt a0.Acts k22).Args.length) ce25_2) ∧ w'.cell? ⟨e25b, e25o + k22 * 5 + 3, none⟩ = some (.int .i64 ((gt a0.Acts k22).N)) ∧ w'.cell? ⟨e25b, e25o + k22 * 5 + 4, none⟩ = some (.string ((gt a0.Acts k22).Undo)))) (by kernel_rfl) ?_ (fun hHeld0 => ?_)
          · go_keep
          refine tt 0 ?_
          simp only [Act.put, sa, s0, ss]
          refine wpAnyH_ready (rs := [1]) (by kernel_rfl) (by simp) ?_
          refine' AllReadyH.cons (o := _) ?hi1073_1 (fun K hK => ?_) AllReadyH.nil
          case hi1073_1 => simp only [List.getElem?_toArray, List.getElem?_cons_succ, List.getElem?_cons_zero]; exact rfl
          go_simp
          go_at_call 219
          refine (iActOk_w (gt a0.Acts k22) _ _ (te25_2.to (by simp (maxDischargeDepth := 9) [B23])) e25ok).mono ?_
          rintro e w28 ⟨rfl, hb28⟩
          have B28 := via (w0 := w) (by simp (maxDischargeDepth := 9) [B23]) hb28
          have U28 : Below wr22.heap.size wr22 w28 := via (by simp (maxDischargeDepth := 9)) hb28
          have Xbx1_28 := Xbx1_23.via U28
          clear Xbx1_23 Xbx1_23k0 Xbx1_23k1 Xbx1_23k2 Xbx1_23k3 Xbx1_23k4
          have ⟨Xbx1_28k0, Xbx1_28k1, Xbx1_28k2, Xbx1_28k3, Xbx1_28k4⟩ := bx5 Xbx1_28
          have Xbx27_28 : Bx w28 (wr22.heap.size) [.int .i64 ((gt a0.Acts k22).Kind), .string ((gt a0.Acts k22).Name), .slice pe25_2 ((gt a0.Acts k22).Args.length) ce25_2, .int .i64 ((gt a0.Acts k22).N), .string ((gt a0.Acts k22).Undo)] := Bx.via (by simp (maxDischargeDepth := 9)) hb28
          have ⟨Xbx27_28k0, Xbx27_28k1, Xbx27_28k2, Xbx27_28k3, Xbx27_28k4⟩ := bx5 Xbx27_28
          clear e25d0n e25d1n e25d2n e25d3n e25d4n
          have ⟨e25d0n, e25d1n, e25d2n, e25d3n, e25d4n⟩ := cb5 B28 e25bl e25E.out
          clear U28
          clear B23
          cases h29 : iActOk_p (gt a0.Acts k22) with
          | true =>
           replace h29 := Lib.hid h29
           go_wp2_with fail
           refine hK.out _ _ ?_ (fun hHeld1 => ?_)
           · go_keep
           clear hK K hHeld0
           refine tt 2 ?_
           simp only [Act.put, sa, s0, ss]
           refine tt 3 ?_
           simp only [Act.put, sa, s0, ss]
           refine tt 4 ?_
           simp only [Act.put, sa, s0, ss]
           refine tt 5 ?_
           simp only [Act.put, sa, s0, ss]
           obtain ⟨bh30, eh30⟩ : ∃ b, ((gt a0.Acts k22).Kind == 2) = b := ⟨_, rfl⟩
           rcases Bool.eq_false_or_eq_true bh30 with h30 | h30
           ·
            refine tt 6 ?_
            simp only [Act.put, sa, s0, ss]
            refine tt 7 ?_
            simp only [Act.put, sa, s0, ss]
            refine tt 8 ?_
            simp only [Act.put, sa, s0, ss]
            refine tt 9 ?_
            simp only [Act.put, sa, s0, ss]
            refine tt 10 ?_
            simp only [Act.put, sa, s0, ss]
            refine wpAnyH_ready (rs := [11]) (by kernel_rfl) (by simp) ?_
            refine' AllReadyH.cons (o := _) ?hi1074_11 (fun K hK => ?_) AllReadyH.nil
            case hi1074_11 => simp only [List.getElem?_toArray, List.getElem?_cons_succ, List.getElem?_cons_zero]; exact rfl
            go_simp
            go_at_call 145
            refine (iPosCount_w a0 _ _ _ _ (s0_2.to (by simp (maxDischargeDepth := 9) [B28])) (s0_3.to (by simp (maxDischargeDepth := 9) [B28])) (s0_4.to (by simp (maxDischargeDepth := 9) [B28]))).mono ?_
            rintro e w31 ⟨rfl, hb31⟩
            have B31 := via (w0 := w) (by simp (maxDischargeDepth := 9) [B28]) hb31
            have U31 : Below w28.heap.size w28 w31 := via (by simp (maxDischargeDepth := 9)) hb31
            have Xbx1_31 := Xbx1_28.via U31
            clear Xbx1_28 Xbx1_28k0 Xbx1_28k1 Xbx1_28k2 Xbx1_28k3 Xbx1_28k4
            have ⟨Xbx1_31k0, Xbx1_31k1, Xbx1_31k2, Xbx1_31k3, Xbx1_31k4⟩ := bx5 Xbx1_31
            have Xbx27_31 := Xbx27_28.via U31
            clear Xbx27_28 Xbx27_28k0 Xbx27_28k1 Xbx27_28k2 Xbx27_28k3 Xbx27_28k4
            have ⟨Xbx27_31k0, Xbx27_31k1, Xbx27_31k2, Xbx27_31k3, Xbx27_31k4⟩ := bx5 Xbx27_31
            clear e25d0n e25d1n e25d2n e25d3n e25d4n
            have ⟨e25d0n, e25d1n, e25d2n, e25d3n, e25d4n⟩ := cb5 B31 e25bl e25E.out
            clear U31
            clear B28
            go_wp2_with fail
            refine hK.out _ _ ?_ (fun hHeld11 => ?_)
            · go_keep
            clear hK K hHeld1
            by_cases h32 : (iPosCount_p a0) ≤ (gt a0.Acts k22).N
            ·
             have h32d := Lib.hid (decide_eq_true h32)
             refine tt 12 ?_
             simp only [Act.put, sa, s0, ss]
             refine tt 13 ?_
             simp only [Act.put, sa, s0, ss]
             refine tt 14 ?_
             simp only [Act.put, sa, s0, ss]
             refine wpAnyH_done (by kernel_rfl) ?_ _
             clear hHeld11
             refine NoPanic.normal ?_
             have q33 : iRuleOk_p_b2 a0 k22 () = .ret false := by simp only [iRuleOk_p_b2, h29.out, eh30, h30, h32d.out, cond_true]
             have q34 := rounds_ret hlt23 hy23.out q33
             obtain rfl : r = false := hr.out.symm.trans (by simp only [iRuleOk_p, h3.out, h5.out, h7.out, h8d.out, h10.out, hy12.out, q34, cond_true, cond_false])
             go_wp2
             go_ret
             exact rbk (by simp (maxDischargeDepth := 9) [B31])
            ·
             have h32d := Lib.hid (decide_eq_false h32)
             refine tt 12 ?_
             simp only [Act.put, sa, s0, ss]
             refine tt 13 ?_
             simp only [Act.put, sa, s0, ss]
             refine tt 14 ?_
             simp only [Act.put, sa, s0, ss]
             refine wpAnyH_done (by kernel_rfl) ?_ _
             clear hHeld11
             refine NoPanic.normal ?_
             have q35 : iRuleOk_p_b2 a0 k22 () = .go () := by simp only [iRuleOk_p_b2, h29.out, eh30, h30, h32d.out, cond_true, cond_false]
             replace q35 := Lib.hid (rounds_next hy23.out q35)
             go_wp2
             go_roundw
             case rel => exact ⟨(by simp (maxDischargeDepth := 9) [B31]), (by simp (maxDischargeDepth := 9) [Xbx1_31]), k22 + 1, by go_num, by omega, q35⟩
             case measure => simp [intOf]; omega
           ·
            refine tt 6 ?_
            simp only [Act.put, sa, s0, ss]
            refine tt 7 ?_
            simp only [Act.put, sa, s0, ss]
            refine tu 8 ?_
            simp only [Act.put, sa, s0, ss]
            refine tu 9 ?_
            simp only [Act.put, sa, s0, ss]
            refine tu 10 ?_
            simp only [Act.put, sa, s0, ss]
            refine tu 11 ?_
            simp only [Act.put, sa, s0, ss]
            refine tu 12 ?_
            simp only [Act.put, sa, s0, ss]
            refine tt 13 ?_
            simp only [Act.put, sa, s0, ss]
            refine tt 14 ?_
            simp only [Act.put, sa, s0, ss]
            refine wpAnyH_done (by kernel_rfl) ?_ _
            clear hHeld1
            refine NoPanic.normal ?_
            have q36 : iRuleOk_p_b2 a0 k22 () = .go () := by simp only [iRuleOk_p_b2, h29.out, eh30, h30, cond_true, cond_false]
            replace q36 := Lib.hid (rounds_next hy23.out q36)
            go_wp2
            go_roundw
            case rel => exact ⟨(by simp (maxDischargeDepth := 9) [B28]), (by simp (maxDischargeDepth := 9) [Xbx1_28]), k22 + 1, by go_num, by omega, q36⟩
            case measure => simp [intOf]; omega
          | false =>
           replace h29 := Lib.hid h29
           go_wp2_with fail
           refine hK.out _ _ ?_ (fun hHeld1 => ?_)
           · go_keep
           clear hK K hHeld0
           refine tt 2 ?_
           simp only [Act.put, sa, s0, ss]
           refine tt 3 ?_
           simp only [Act.put, sa, s0, ss]
           refine tu 4 ?_
           simp only [Act.put, sa, s0, ss]
           refine tu 5 ?_
           simp only [Act.put, sa, s0, ss]
           refine tu 6 ?_
           simp only [Act.put, sa, s0, ss]
           refine tu 7 ?_
           simp only [Act.put, sa, s0, ss]
           refine tu 8 ?_
           simp only [Act.put, sa, s0, ss]
           refine tu 9 ?_
           simp only [Act.put, sa, s0, ss]
           refine tu 10 ?_
           simp only [Act.put, sa, s0, ss]
           refine tu 11 ?_
           simp only [Act.put, sa, s0, ss]
           refine tu 12 ?_
           simp only [Act.put, sa, s0, ss]
           refine tu 13 ?_
           simp only [Act.put, sa, s0, ss]
           refine tt 14 ?_
           simp only [Act.put, sa, s0, ss]
           refine wpAnyH_done (by kernel_rfl) ?_ _
           clear hHeld1
           refine NoPanic.normal ?_
           have q37 : iRuleOk_p_b2 a0 k22 () = .ret false := by simp only [iRuleOk_p_b2, h29.out, cond_false]
           have q38 := rounds_ret hlt23 hy23.out q37
           obtain rfl : r = false := hr.out.symm.trans (by simp only [iRuleOk_p, h3.out, h5.out, h7.out, h8d.out, h10.out, hy12.out, q38, cond_true, cond_false])
           go_wp2
           go_ret
           exact rbk (by simp (maxDischargeDepth := 9) [B28])
         ·
          obtain rfl : a0.Acts.length = k22 := by omega
          go_wp2_with fail
          refine (iPosVars_w a0 _ _ _ _ (s0_2.to (by simp (maxDischargeDepth := 9) [B23])) (s0_3.to (by simp (maxDischargeDepth := 9) [B23])) (s0_4.to (by simp (maxDischargeDepth := 9) [B23])) hz_a0).mono ?_
          rintro e w39 ⟨u39_0, rfl, su39_0, hb39⟩
          obtain ⟨pu39_0, cu39_0, rfl, hlu39_0, -⟩ := su39_0.open
          have B39 := via (w0 := w) (by simp (maxDischargeDepth := 9) [B23]) hb39
          have U39 : Below wr22.heap.size wr22 w39 := via (by simp (maxDischargeDepth := 9)) hb39
          have Xbx1_39 := Xbx1_23.via U39
          clear Xbx1_23 Xbx1_23k0 Xbx1_23k1 Xbx1_23k2 Xbx1_23k3 Xbx1_23k4
          have ⟨Xbx1_39k0, Xbx1_39k1, Xbx1_39k2, Xbx1_39k3, Xbx1_39k4⟩ := bx5 Xbx1_39
          clear U39
          clear B23
          go_wp2_with fail
          refine (iusedVars_w a0 _ _ _ _ (s0_2.to (by simp (maxDischargeDepth := 9) [B39])) (s0_3.to (by simp (maxDischargeDepth := 9) [B39])) (s0_4.to (by simp (maxDischargeDepth := 9) [B39])) hz_a0).mono ?_
          rintro e w40 ⟨u40_0, rfl, su40_0, hb40⟩
          obtain ⟨pu40_0, cu40_0, rfl, hlu40_0, -⟩ := su40_0.open
          have B40 := via (w0 := w) (by simp (maxDischargeDepth := 9) [B39]) hb40
          have U40 : Below w39.heap.size w39 w40 := via (by simp (maxDischargeDepth := 9)) hb40
          have Xbx1_40 := Xbx1_39.via U40
          clear Xbx1_39 Xbx1_39k0 Xbx1_39k1 Xbx1_39k2 Xbx1_39k3 Xbx1_39k4
          have ⟨Xbx1_40k0, Xbx1_40k1, Xbx1_40k2, Xbx1_40k3, Xbx1_40k4⟩ := bx5 Xbx1_40
          have U : Below w39.heap.size w39 w40 := via (by simp (maxDischargeDepth := 9)) hb40
          replace su39_0 := su39_0.to U
          clear U
          clear U40
          clear B39
          go_wp2
          go_loopw [75] (fun i75 wr41 => Below w.heap.size w wr41 ∧ Bx wr41 (w.heap.size) [.string a0.Name, .int .i64 a0.Sal, .slice p0_2 a0.Pats.length c0_2, .slice p0_3 a0.Conds.length c0_3, .slice p0_4 a0.Acts.length c0_4] ∧ Sl wr41 (iPosVars_p a0) (.slice pu39_0 ((iPosVars_p a0).length) cu39_0) ∧ Sl wr41 (iusedVars_p a0) (.slice pu40_0 ((iusedVars_p a0).length) cu40_0) ∧ ∃ (k41 : Nat), i75 = .int .i64 k41 ∧ k41 ≤ (iusedVars_p a0).length ∧ Hid (rounds (iRuleOk_p_b3 a0) k41 () = .go ())) (fun i75 _ => ((iusedVars_p a0).length) - (intOf i75).toNat)
          case atStart => exact ⟨(by simp (maxDischargeDepth := 9) [B40]), (by simp (maxDischargeDepth := 9) [Xbx1_40]), (su39_0.to (by simp (maxDischargeDepth := 9))), (su40_0.to (by simp (maxDischargeDepth := 9))), 0, rfl, by omega, Lib.hid rfl⟩
          case round =>
           rename World => wr41
           clear Xbx1_40 Xbx1_40k0 Xbx1_40k1 Xbx1_40k2 Xbx1_40k3 Xbx1_40k4 B40 su39_0 su40_0
           obtain ⟨B42, Xbx1_42, su39_0, su40_0, k41, rfl, hk42, hy42⟩ := hrel
           have ⟨Xbx1_42k0, Xbx1_42k1, Xbx1_42k2, Xbx1_42k3, Xbx1_42k4⟩ := bx5 Xbx1_42
           by_cases hlt42 : k41 < (iusedVars_p a0).length
           ·
            have hi45 : k41 < (iusedVars_p a0).length := by first | assumption | omega
            obtain ⟨e44b, e44o, rfl, e44bl, e44ok, e44d0⟩ := Sl.gtString su40_0 k41 hi45
            go_wp2_with fail
            refine (slices_Contains_string_w (iPosVars_p a0) (gt (iusedVars_p a0) k41) _ _ (su39_0.to (by simp (maxDischargeDepth := 9)))).mono ?_
            rintro e w46 ⟨rfl, hb46⟩
            have B46 := via (w0 := w) (by simp (maxDischargeDepth := 9) [B42]) hb46
            have U46 : Below wr41.heap.size wr41 w46 := via (by simp (maxDischargeDepth := 9)) hb46
            have Xbx1_46 := Xbx1_42.via U46
            clear Xbx1_42 Xbx1_42k0 Xbx1_42k1 Xbx1_42k2 Xbx1_42k3 Xbx1_42k4
            have ⟨Xbx1_46k0, Xbx1_46k1, Xbx1_46k2, Xbx1_46k3, Xbx1_46k4⟩ := bx5 Xbx1_46
            have U : Below wr41.heap.size wr41 w46 := via (by simp (maxDischargeDepth := 9)) hb46
            replace su39_0 := su39_0.to U
            replace su40_0 := su40_0.to U
            replace e44d0 := cell_below U e44bl e44d0
            replace e44bl := Nat.lt_of_lt_of_le e44bl U.size
            clear U
            clear U46
            clear B42
            cases h47 : slices_Contains_string_p (iPosVars_p a0) (gt (iusedVars_p a0) k41) with
            | true =>
             replace h47 := Lib.hid h47
             have q48 : iRuleOk_p_b3 a0 k41 () = .go () := by simp only [iRuleOk_p_b3, h47.out, cond_true]
             replace q48 := Lib.hid (rounds_next hy42.out q48)
             go_wp2
             go_roundw
             case rel => exact ⟨(by simp (maxDischargeDepth := 9) [B46]), (by simp (maxDischargeDepth := 9) [Xbx1_46]), (su39_0.to (by simp (maxDischargeDepth := 9))), (su40_0.to (by simp (maxDischargeDepth := 9))), k41 + 1, by go_num, by omega, q48⟩
             case measure => simp [intOf]; omega
            | false =>
             replace h47 := Lib.hid h47
             have q49 : iRuleOk_p_b3 a0 k41 () = .ret false := by simp only [iRuleOk_p_b3, h47.out, cond_false]
             have q50 := rounds_ret hlt42 hy42.out q49
             obtain rfl : r = false := hr.out.symm.trans (by simp only [iRuleOk_p, h3.out, h5.out, h7.out, h8d.out, h10.out, hy12.out, hy23.out, q50, cond_true, cond_false])
             go_wp2
             go_ret
             exact rbk (by simp (maxDischargeDepth := 9) [B46])
           ·
            obtain rfl : (iusedVars_p a0).length = k41 := by omega
            obtain rfl : r = true := hr.out.symm.trans (by simp only [iRuleOk_p, h3.out, h5.out, h7.out, h8d.out, h10.out, hy12.out, hy23.out, hy42.out, cond_true, cond_false])
            go_wp2
            go_ret
            exact rbk (by simp (maxDischargeDepth := 9) [B42])
     | false =>
      replace h10 := Lib.hid h10
      obtain rfl : r = false := hr.out.symm.trans (by simp only [iRuleOk_p, h3.out, h5.out, h7.out, h8d.out, h10.out, cond_true, cond_false])
      go_wp2
      go_ret
      exact rbk (by simp (maxDischargeDepth := 9) [B9])
   | false =>
    replace h7 := Lib.hid h7
    obtain rfl : r = false := hr.out.symm.trans (by simp only [iRuleOk_p, h3.out, h5.out, h7.out, cond_true, cond_false])
    go_wp2
    go_ret
    exact rbk (by simp (maxDischargeDepth := 9) [B6])
  | false =>
   replace h5 := Lib.hid h5
   obtain rfl : r = false := hr.out.symm.trans (by simp only [iRuleOk_p, h3.out, h5.out, cond_true, cond_false])
   go_wp2
   go_ret
   exact rbk (by simp (maxDischargeDepth := 9) [B4])
 | false =>
  replace h3 := Lib.hid h3
  obtain rfl : r = false := hr.out.symm.trans (by simp only [iRuleOk_p, h3.out, cond_false])
  go_wp2
  go_ret
  exact rbk (by simp (maxDischargeDepth := 9) [B2])

-- impl.DefOk
def iDefOk_p_b1 (a0 : DefD) (k6 : Nat) (_ : Unit) : St (Bool) (Unit) := bif iRuleOk_p (gt a0.Rules k6) then (bif ((iRuleAt_p a0 ((gt a0.Rules k6).Name)) == (k6 : Int)) then (.go ()) else (.ret false)) else (.ret false)
def iDefOk_p (a0 : DefD) : Bool := bif iNameOk_p a0.Name then (bif inR ((a0.Rules.length : Nat) : Int) (1 : Int) (12 : Int) then (match rounds (iDefOk_p_b1 a0) a0.Rules.length () with | .ret r => r | .brk _ => default | .go _ => true) else (false)) else (false)
set_option maxHeartbeats 1000000 in
set_option maxRecDepth 20000 in
theorem iDefOk_w (a0 : DefD) (v0_1 : Value) (w : World) (s0_1 : Sl w a0.Rules v0_1) (ok_a0 : okDef a0) (hz_a0 : sznDef a0 ≤ 1048576) :
    Calls Tryz.prog 72 #[.agg #[.string a0.Name, v0_1]] w (RetB (iDefOk_p a0) w) := by
 obtain ⟨p0_1, c0_1, rfl, hl0_1, -, hk0_1, -⟩ := s0_1.open
 obtain ⟨r, hr⟩ : ∃ r, iDefOk_p a0 = r := ⟨_, rfl⟩
 rw [hr]
 replace hr := Lib.hid hr
 go_enter Tryz.func72, Tryz.ntmps72
 go_wp2_with fail
 refine (iNameOk_w a0.Name  _ ok_a0).mono ?_
 rintro e w2 ⟨rfl, hb2⟩
 have B2 := via (w0 := w) (by simp (maxDischargeDepth := 9)) hb2
 have Xbx1_2 : Bx w2 (w.heap.size) [.string a0.Name, .slice p0_1 a0.Rules.length c0_1] := Bx.via (by simp (maxDischargeDepth := 9)) hb2
 have ⟨Xbx1_2k0, Xbx1_2k1⟩ := bx2 Xbx1_2
 cases h3 : iNameOk_p a0.Name with
 | true =>
  replace h3 := Lib.hid h3
  go_wp2_with fail
  refine (iinRange_w ((a0.Rules.length : Nat) : Int) (1 : Int) (12 : Int)  _ ).mono ?_
  rintro e w4 ⟨rfl, hb4⟩
  have B4 := via (w0 := w) (by simp (maxDischargeDepth := 9) [B2]) hb4
  have U4 : Below w2.heap.size w2 w4 := via (by simp (maxDischargeDepth := 9)) hb4
  have Xbx1_4 := Xbx1_2.via U4
  clear Xbx1_2 Xbx1_2k0 Xbx1_2k1
  have ⟨Xbx1_4k0, Xbx1_4k1⟩ := bx2 Xbx1_4
  clear U4
  clear B2
  cases h5 : inR ((a0.Rules.length : Nat) : Int) (1 : Int) (12 : Int) with
  | true =>
   have ⟨h5a, h5b⟩ := inR_true h5
   replace h5 := Lib.hid h5
   go_wp2
   go_loopw [19] (fun i19 wr6 => Below w.heap.size w wr6 ∧ Bx wr6 (w.heap.size) [.string a0.Name, .slice p0_1 a0.Rules.length c0_1] ∧ ∃ (k6 : Nat), i19 = .int .i64 k6 ∧ k6 ≤ a0.Rules.length ∧ Hid (rounds (iDefOk_p_b1 a0) k6 () = .go ())) (fun i19 _ => a0.Rules.length - (intOf i19).toNat)
   case atStart => exact ⟨(by simp (maxDischargeDepth := 9) [B4]), (by simp (maxDischargeDepth := 9) [Xbx1_4]), 0, rfl, by omega, Lib.hid rfl⟩
   case round =>
    rename World => wr6
    clear Xbx1_4 Xbx1_4k0 Xbx1_4k1 B4
    obtain ⟨B7, Xbx1_7, k6, rfl, hk7, hy7⟩ := hrel
    have ⟨Xbx1_7k0, Xbx1_7k1⟩ := bx2 Xbx1_7
    by_cases hlt7 : k6 < a0.Rules.length
    ·
     have hi10 : k6 < a0.Rules.length := by first | assumption | omega
     obtain ⟨e9b, e9o, ue9_2, ue9_3, ue9_4, rfl, e9bl, e9ok, ⟨e9d0, e9d1, e9d2, e9d3, e9d4⟩, te9_2, te9_3, te9_4⟩ := Sl.gtRule s0_1 k6 hi10
     obtain ⟨pe9_2, ce9_2, rfl, hlpe9_2, -⟩ := te9_2.open
     obtain ⟨pe9_3, ce9_3, rfl, hlpe9_3, -⟩ := te9_3.open
     obtain ⟨pe9_4, ce9_4, rfl, hlpe9_4, -⟩ := te9_4.open
     have e9E := Lib.hid (And.intro e9d0 (And.intro e9d1 (And.intro e9d2 (And.intro e9d3 e9d4))))
     clear e9d0 e9d1 e9d2 e9d3 e9d4
     have ⟨e9d0n, e9d1n, e9d2n, e9d3n, e9d4n⟩ := cb5 B7 e9bl e9E.out
     go_wp2_with fail
     refine (iRuleOk_w (gt a0.Rules k6) _ _ _ _ (te9_2.to (by simp (maxDischargeDepth := 9) [B7])) (te9_3.to (by simp (maxDischargeDepth := 9) [B7])) (te9_4.to (by simp (maxDischargeDepth := 9) [B7])) e9ok (Nat.le_trans (szn_gtRule a0.Rules k6 (by first | assumption | omega)) (Nat.le_trans (szn_Def_Rules a0) hz_a0))).mono ?_
     rintro e w12 ⟨rfl, hb12⟩
     have B12 := via (w0 := w) (by simp (maxDischargeDepth := 9) [B7]) hb12
     have U12 : Below wr6.heap.size wr6 w12 := via (by simp (maxDischargeDepth := 9)) hb12
     have Xbx1_12 := Xbx1_7.via U12
     clear Xbx1_7 Xbx1_7k0 Xbx1_7k1
     have ⟨Xbx1_12k0, Xbx1_12k1⟩ := bx2 Xbx1_12
     have Xbx11_12 : Bx w12 (wr6.heap.size) [.string ((gt a0.Rules k6).Name), .int .i64 ((gt a0.Rules k6).Sal), .slice pe9_2 ((gt a0.Rules k6).Pats.length) ce9_2, .slice pe9_3 ((gt a0.Rules k6).Conds.length) ce9_3, .slice pe9_4 ((gt a0.Rules k6).Acts.length) ce9_4] := Bx.via (by simp (maxDischargeDepth := 9)) hb12
     have ⟨Xbx11_12k0, Xbx11_12k1, Xbx11_12k2, Xbx11_12k3, Xbx11_12k4⟩ := bx5 Xbx11_12
     clear e9d0n e9d1n e9d2n e9d3n e9d4n
     have ⟨e9d0n, e9d1n, e9d2n, e9d3n, e9d4n⟩ := cb5 B12 e9bl e9E.out
     clear U12
     clear B7
     cases h13 : iRuleOk_p (gt a0.Rules k6) with
     | true =>
      replace h13 := Lib.hid h13
      go_wp2_with fail
      refine (iRuleAt_w a0 ((gt a0.Rules k6).Name) _ _ (s0_1.to (by simp (maxDischargeDepth := 9) [B12]))).mono ?_
      rintro e w14 ⟨rfl, hb14⟩
      have B14 := via (w0 := w) (by simp (maxDischargeDepth := 9) [B12]) hb14
      have U14 : Below w12.heap.size w12 w14 := via (by simp (maxDischargeDepth := 9)) hb14
      have Xbx1_14 := Xbx1_12.via U14
      clear Xbx1_12 Xbx1_12k0 Xbx1_12k1
      have ⟨Xbx1_14k0, Xbx1_14k1⟩ := bx2 Xbx1_14
      have Xbx11_14 := Xbx11_12.via U14
      clear Xbx11_12 Xbx11_12k0 Xbx11_12k1 Xbx11_12k2 Xbx11_12k3 Xbx11_12k4
      have ⟨Xbx11_14k0, Xbx11_14k1, Xbx11_14k2, Xbx11_14k3, Xbx11_14k4⟩ := bx5 Xbx11_14
      clear e9d0n e9d1n e9d2n e9d3n e9d4n
      have ⟨e9d0n, e9d1n, e9d2n, e9d3n, e9d4n⟩ := cb5 B14 e9bl e9E.out
      clear U14
      clear B12
      obtain ⟨bh15, eh15⟩ : ∃ b, ((iRuleAt_p a0 ((gt a0.Rules k6).Name)) == (k6 : Int)) = b := ⟨_, rfl⟩
      have nh15 : ((iRuleAt_p a0 ((gt a0.Rules k6).Name)) != (k6 : Int)) = !bh15 := by rw [← eh15]; rfl
      rcases Bool.eq_false_or_eq_true bh15 with h15 | h15
      ·
       have q16 : iDefOk_p_b1 a0 k6 () = .go () := by simp only [iDefOk_p_b1, h13.out, eh15, h15, cond_true]
       replace q16 := Lib.hid (rounds_next hy7.out q16)
       go_wp2
       go_roundw
       case rel => exact ⟨(by simp (maxDischargeDepth := 9) [B14]), (by simp (maxDischargeDepth := 9) [Xbx1_14]), k6 + 1, by go_num, by omega, q16⟩
       case measure => simp [intOf]; omega
      ·
       have q17 : iDefOk_p_b1 a0 k6 () = .ret false := by simp only [iDefOk_p_b1, h13.out, eh15, h15, cond_true, cond_false]
       have q18 := rounds_ret hlt7 hy7.out q17
       obtain rfl : r = false := hr.out.symm.trans (by simp only [iDefOk_p, h3.out, h5.out, q18, cond_true])
       go_wp2
       go_ret
       exact rbk (by simp (maxDischargeDepth := 9) [B14])
     | false =>
      replace h13 := Lib.hid h13
      have q19 : iDefOk_p_b1 a0 k6 () = .ret false := by simp only [iDefOk_p_b1, h13.out, cond_false]
      have q20 := rounds_ret hlt7 hy7.out q19
      obtain rfl : r = false := hr.out.symm.trans (by simp only [iDefOk_p, h3.out, h5.out, q20, cond_true])
      go_wp2
      go_ret
      exact rbk (by simp (maxDischargeDepth := 9) [B12])
    ·
     obtain rfl : a0.Rules.length = k6 := by omega
     obtain rfl : r = true := hr.out.symm.trans (by simp only [iDefOk_p, h3.out, h5.out, hy7.out, cond_true])
     go_wp2
     go_ret
     exact rbk (by simp (maxDischargeDepth := 9) [B7])
  | false =>
   replace h5 := Lib.hid h5
   obtain rfl : r = false := hr.out.symm.trans (by simp only [iDefOk_p, h3.out, h5.out, cond_true, cond_false])
   go_wp2
   go_ret
   exact rbk (by simp (maxDischargeDepth := 9) [B4])
 | false =>
  replace h3 := Lib.hid h3
  obtain rfl : r = false := hr.out.symm.trans (by simp only [iDefOk_p, h3.out, cond_false])
  go_wp2
  go_ret
  exact rbk (by simp (maxDischargeDepth := 9) [B2])

-- slices.IndexFunc[[]impl.Task,impl.Task]@impl.isOpen
def slices_IndexFunc_iTask_iisOpen_p_b1 (a0 : List TaskD) (k1 : Nat) (_ : Unit) : St (Int) (Unit) := bif iisOpen_p (gt a0 k1) then (.ret (k1 : Int)) else (.go ())
def slices_IndexFunc_iTask_iisOpen_p (a0 : List TaskD) : Int := match rounds (slices_IndexFunc_iTask_iisOpen_p_b1 a0) a0.length () with | .ret r => r | .brk _ => default | .go _ => (-1 : Int)
set_option maxHeartbeats 1000000 in
set_option maxRecDepth 20000 in
theorem slices_IndexFunc_iTask_iisOpen_w (a0 : List TaskD) (v0_0 : Value) (w : World) (s0_0 : Sl w a0 v0_0) :
    Calls Tryz.prog 147 #[v0_0, .func (.func 81) #[] #[]] w (RetI (slices_IndexFunc_iTask_iisOpen_p a0) w) := by
 obtain ⟨p0_0, c0_0, rfl, hl0_0, -, hk0_0, -⟩ := s0_0.open
 obtain ⟨r, hr⟩ : ∃ r, slices_IndexFunc_iTask_iisOpen_p a0 = r := ⟨_, rfl⟩
 rw [hr]
 replace hr := Lib.hid hr
 go_enter Tryz.func147, Tryz.ntmps147
 go_wp2
 go_loopw [8] (fun i8 wr1 => Below w.heap.size w wr1 ∧ ∃ (k1 : Nat), i8 = .int .i64 k1 ∧ k1 ≤ a0.length ∧ Hid (rounds (slices_IndexFunc_iTask_iisOpen_p_b1 a0) k1 () = .go ())) (fun i8 _ => a0.length - (intOf i8).toNat)
 case atStart => exact ⟨(by simp (maxDischargeDepth := 9)), 0, rfl, by omega, Lib.hid rfl⟩
 case round =>
  rename World => wr1
  obtain ⟨B2, k1, rfl, hk2, hy2⟩ := hrel
  by_cases hlt2 : k1 < a0.length
  ·
   have hi5 : k1 < a0.length := by first | assumption | omega
   obtain ⟨e4b, e4o, ue4_1, rfl, e4bl, e4ok, ⟨e4d0, e4d1, e4d2, e4d3, e4d4, e4d5, e4d6, e4d7, e4d8⟩, te4_1⟩ := Sl.gtTask s0_0 k1 hi5
   obtain ⟨pe4_1, ce4_1, rfl, hlpe4_1, -⟩ := te4_1.open
   have e4E := Lib.hid (And.intro e4d0 (And.intro e4d1 (And.intro e4d2 (And.intro e4d3 (And.intro e4d4 (And.intro e4d5 (And.intro e4d6 (And.intro e4d7 e4d8))))))))
   clear e4d0 e4d1 e4d2 e4d3 e4d4 e4d5 e4d6 e4d7 e4d8
   have ⟨e4d0n, e4d1n, e4d2n, e4d3n, e4d4n, e4d5n, e4d6n, e4d7n, e4d8n⟩ := cb9 B2 e4bl e4E.out
   go_wp2_with fail
   refine (iisOpen_w (gt a0 k1) _ _ (te4_1.to (by simp (maxDischargeDepth := 9) [B2]))).mono ?_
   rintro e w6 ⟨rfl, hb6⟩
   have B6 := via (w0 := w) (by simp (maxDischargeDepth := 9) [B2]) hb6
   clear e4d0n e4d1n e4d2n e4d3n e4d4n e4d5n e4d6n e4d7n e4d8n
   have ⟨e4d0n, e4d1n, e4d2n, e4d3n, e4d4n, e4d5n, e4d6n, e4d7n, e4d8n⟩ := cb9 B6 e4bl e4E.out
   clear B2
   cases h7 : iisOpen_p (gt a0 k1) with
   | true =>
    replace h7 := Lib.hid h7
    have q8 : slices_IndexFunc_iTask_iisOpen_p_b1 a0 k1 () = .ret (k1 : Int) := by simp only [slices_IndexFunc_iTask_iisOpen_p_b1, h7.out, cond_true]
    have q9 := rounds_ret hlt2 hy2.out q8
    obtain rfl : r = (k1 : Int) := hr.out.symm.trans (by simp only [slices_IndexFunc_iTask_iisOpen_p, q9])
    go_wp2
    go_ret
    exact ⟨by first | rfl | simp, (by simp (maxDischargeDepth := 9) [B6])⟩
   | false =>
    replace h7 := Lib.hid h7
    have q10 : slices_IndexFunc_iTask_iisOpen_p_b1 a0 k1 () = .go () := by simp only [slices_IndexFunc_iTask_iisOpen_p_b1, h7.out, cond_false]
    replace q10 := Lib.hid (rounds_next hy2.out q10)
    go_wp2
    go_roundw
    case rel => exact ⟨(by simp (maxDischargeDepth := 9) [B6]), k1 + 1, by go_num, by omega, q10⟩
    case measure => simp [intOf]; omega
  ·
   obtain rfl : a0.length = k1 := by omega
   obtain rfl : r = (-1 : Int) := hr.out.symm.trans (by simp only [slices_IndexFunc_iTask_iisOpen_p, hy2.out])
   go_wp2
   go_ret
   exact ⟨by first | rfl | simp, (by simp (maxDischargeDepth := 9) [B2])⟩

-- slices.ContainsFunc[[]impl.Task,impl.Task]@impl.isOpen
def slices_ContainsFunc_iTask_iisOpen_p (a0 : List TaskD) : Bool := bif decide ((0 : Int) ≤ (slices_IndexFunc_iTask_iisOpen_p a0)) then (true) else (false)
set_option maxHeartbeats 1000000 in
set_option maxRecDepth 20000 in
theorem slices_ContainsFunc_iTask_iisOpen_w (a0 : List TaskD) (v0_0 : Value) (w : World) (s0_0 : Sl w a0 v0_0) :
    Calls Tryz.prog 80 #[v0_0, .func (.func 81) #[] #[]] w (RetB (slices_ContainsFunc_iTask_iisOpen_p a0) w) := by
 obtain ⟨p0_0, c0_0, rfl, hl0_0, -, hk0_0, -⟩ := s0_0.open
 obtain ⟨r, hr⟩ : ∃ r, slices_ContainsFunc_iTask_iisOpen_p a0 = r := ⟨_, rfl⟩
 rw [hr]
 replace hr := Lib.hid hr
 go_enter Tryz.func80, Tryz.ntmps80
 go_wp2_with fail
 refine (slices_IndexFunc_iTask_iisOpen_w a0 _ _ (s0_0.to (by simp (maxDischargeDepth := 9)))).mono ?_
 rintro e w1 ⟨rfl, hb1⟩
 have B1 := via (w0 := w) (by simp (maxDischargeDepth := 9)) hb1
 by_cases h2 : (0 : Int) ≤ (slices_IndexFunc_iTask_iisOpen_p a0)
 ·
  have h2d := Lib.hid (decide_eq_true h2)
  obtain rfl : r = true := hr.out.symm.trans (by simp only [slices_ContainsFunc_iTask_iisOpen_p, h2d.out, cond_true])
  go_wp2
  go_ret
  exact rbk (by simp (maxDischargeDepth := 9) [B1])
 ·
  have h2d := Lib.hid (decide_eq_false h2)
  obtain rfl : r = false := hr.out.symm.trans (by simp only [slices_ContainsFunc_iTask_iisOpen_p, h2d.out, cond_false])
  go_wp2
  go_ret
  exact rbk (by simp (maxDischargeDepth := 9) [B1])

-- impl.InstOk
def iInstOk_p (a0 : DefD) (a1 : InstD) : Bool := bif iDefOk_p a0 then (bif iStoreOk_p a1.S then (bif iTasksOk_p a1.Tasks then (bif iTimersOk_p a1.Timers then (bif iUndosOk_p a1.Undos then (bif inR a1.State (1 : Int) (6 : Int) then (bif iisTime_p a1.Now then (bif ifiredOk_p a0 a1 then (bif (a1.State == 3) then (bif decide (0 < a1.Undos.length) then (true) else (false)) else (bif (a1.State == 5) then (bif decide (0 < a1.Undos.length) then (true) else (false)) else (bif iEnded_p a1 then (bif (((a1.Timers.length : Nat) : Int) == 0) then (bif slices_ContainsFunc_iTask_iisOpen_p a1.Tasks then (false) else (true)) else (false)) else (true)))) else (false)) else (false)) else (false)) else (false)) else (false)) else (false)) else (false)) else (false)
set_option maxHeartbeats 1000000 in
set_option maxRecDepth 20000 in
theorem iInstOk_w (a0 : DefD) (a1 : InstD) (v0_1 : Value) (v1_0 : Value) (v1_2 : Value) (v1_3 : Value) (v1_4 : Value) (v1_5 : Value) (w : World) (s0_1 : Sl w a0.Rules v0_1) (s1_0 : Sl w a1.S.Items v1_0) (s1_2 : Sl w a1.Fired v1_2) (s1_3 : Sl w a1.Tasks v1_3) (s1_4 : Sl w a1.Timers v1_4) (s1_5 : Sl w a1.Undos v1_5) (ok_a0 : okDef a0) (hz_a0 : sznDef a0 ≤ 1048576) (hz_a1 : sznInst a1 ≤ 1048576) :
    Calls Tryz.prog 38 #[.agg #[.string a0.Name, v0_1], .agg #[v1_0, .int .i64 a1.S.Next, v1_2, v1_3, v1_4, v1_5, .int .i64 a1.State, .int .i64 a1.Now]] w (RetB (iInstOk_p a0 a1) w) := by
 obtain ⟨p0_1, c0_1, rfl, hl0_1, -, hk0_1, -⟩ := s0_1.open
 obtain ⟨p1_0, c1_0, rfl, hl1_0, -, hk1_0, -⟩ := s1_0.open
 obtain ⟨p1_2, c1_2, rfl, hl1_2, -, hk1_2, -⟩ := s1_2.open
 obtain ⟨p1_3, c1_3, rfl, hl1_3, -, hk1_3, -⟩ := s1_3.open
 obtain ⟨p1_4, c1_4, rfl, hl1_4, -, hk1_4, -⟩ := s1_4.open
 obtain ⟨p1_5, c1_5, rfl, hl1_5, -, hk1_5, -⟩ := s1_5.open
 obtain ⟨r, hr⟩ : ∃ r, iInstOk_p a0 a1 = r := ⟨_, rfl⟩
 rw [hr]
 replace hr := Lib.hid hr
 go_enter Tryz.func38, Tryz.ntmps38
 go_wp2_with fail
 refine (iDefOk_w a0 _ _ (s0_1.to (by simp (maxDischargeDepth := 9))) ok_a0 hz_a0).mono ?_
 rintro e w3 ⟨rfl, hb3⟩
 have B3 := via (w0 := w) (by simp (maxDischargeDepth := 9)) hb3
 have Xbx1_3 : Bx w3 (w.heap.size) [.string a0.Name, .slice p0_1 a0.Rules.length c0_1] := Bx.via (by simp (maxDischargeDepth := 9)) hb3
 have ⟨Xbx1_3k0, Xbx1_3k1⟩ := bx2 Xbx1_3
 have Xbx2_3 : Bx w3 (w.heap.size + 1) [.slice p1_0 a1.S.Items.length c1_0, .int .i64 a1.S.Next, .slice p1_2 a1.Fired.length c1_2, .slice p1_3 a1.Tasks.length c1_3, .slice p1_4 a1.Timers.length c1_4, .slice p1_5 a1.Undos.length c1_5, .int .i64 a1.State, .int .i64 a1.Now] := Bx.via (by simp (maxDischargeDepth := 9)) hb3
 have ⟨Xbx2_3k0, Xbx2_3k1, Xbx2_3k2, Xbx2_3k3, Xbx2_3k4, Xbx2_3k5, Xbx2_3k6, Xbx2_3k7⟩ := bx8 Xbx2_3
 cases h4 : iDefOk_p a0 with
 | true =>
  replace h4 := Lib.hid h4
  go_wp2_with fail
  refine (iStoreOk_w a1.S _ _ (s1_0.to (by simp (maxDischargeDepth := 9) [B3]))).mono ?_
  rintro e w5 ⟨rfl, hb5⟩
  have B5 := via (w0 := w) (by simp (maxDischargeDepth := 9) [B3]) hb5
  have U5 : Below w3.heap.size w3 w5 := via (by simp (maxDischargeDepth := 9)) hb5
  have Xbx1_5 := Xbx1_3.via U5
  clear Xbx1_3 Xbx1_3k0 Xbx1_3k1
  have ⟨Xbx1_5k0, Xbx1_5k1⟩ := bx2 Xbx1_5
  have Xbx2_5 := Xbx2_3.via U5
  clear Xbx2_3 Xbx2_3k0 Xbx2_3k1 Xbx2_3k2 Xbx2_3k3 Xbx2_3k4 Xbx2_3k5 Xbx2_3k6 Xbx2_3k7
  have ⟨Xbx2_5k0, Xbx2_5k1, Xbx2_5k2, Xbx2_5k3, Xbx2_5k4, Xbx2_5k5, Xbx2_5k6, Xbx2_5k7⟩ := bx8 Xbx2_5
  clear U5
  clear B3
  cases h6 : iStoreOk_p a1.S with
  | true =>
   replace h6 := Lib.hid h6
   go_wp2_with fail
   refine (iTasksOk_w a1.Tasks _ _ (s1_3.to (by simp (maxDischargeDepth := 9) [B5]))).mono ?_
   rintro e w7 ⟨rfl, hb7⟩
   have B7 := via (w0 := w) (by simp (maxDischargeDepth := 9) [B5]) hb7
   have U7 : Below w5.heap.size w5 w7 := via (by simp (maxDischargeDepth := 9)) hb7
   have Xbx1_7 := Xbx1_5.via U7
   clear Xbx1_5 Xbx1_5k0 Xbx1_5k1
   have ⟨Xbx1_7k0, Xbx1_7k1⟩ := bx2 Xbx1_7
   have Xbx2_7 := Xbx2_5.via U7
   clear Xbx2_5 Xbx2_5k0 Xbx2_5k1 Xbx2_5k2 Xbx2_5k3 Xbx2_5k4 Xbx2_5k5 Xbx2_5k6 Xbx2_5k7
   have ⟨Xbx2_7k0, Xbx2_7k1, Xbx2_7k2, Xbx2_7k3, Xbx2_7k4, Xbx2_7k5, Xbx2_7k6, Xbx2_7k7⟩ := bx8 Xbx2_7
   clear U7
   clear B5
   cases h8 : iTasksOk_p a1.Tasks with
   | true =>
    replace h8 := Lib.hid h8
    go_wp2_with fail
    refine (iTimersOk_w a1.Timers _ _ (s1_4.to (by simp (maxDischargeDepth := 9) [B7]))).mono ?_
    rintro e w9 ⟨rfl, hb9⟩
    have B9 := via (w0 := w) (by simp (maxDischargeDepth := 9) [B7]) hb9
    have U9 : Below w7.heap.size w7 w9 := via (by simp (maxDischargeDepth := 9)) hb9
    have Xbx1_9 := Xbx1_7.via U9
    clear Xbx1_7 Xbx1_7k0 Xbx1_7k1
    have ⟨Xbx1_9k0, Xbx1_9k1⟩ := bx2 Xbx1_9
    have Xbx2_9 := Xbx2_7.via U9
    clear Xbx2_7 Xbx2_7k0 Xbx2_7k1 Xbx2_7k2 Xbx2_7k3 Xbx2_7k4 Xbx2_7k5 Xbx2_7k6 Xbx2_7k7
    have ⟨Xbx2_9k0, Xbx2_9k1, Xbx2_9k2, Xbx2_9k3, Xbx2_9k4, Xbx2_9k5, Xbx2_9k6, Xbx2_9k7⟩ := bx8 Xbx2_9
    clear U9
    clear B7
    cases h10 : iTimersOk_p a1.Timers with
    | true =>
     replace h10 := Lib.hid h10
     go_wp2_with fail
     refine (iUndosOk_w a1.Undos _ _ (s1_5.to (by simp (maxDischargeDepth := 9) [B9]))).mono ?_
     rintro e w11 ⟨rfl, hb11⟩
     have B11 := via (w0 := w) (by simp (maxDischargeDepth := 9) [B9]) hb11
     have U11 : Below w9.heap.size w9 w11 := via (by simp (maxDischargeDepth := 9)) hb11
     have Xbx1_11 := Xbx1_9.via U11
     clear Xbx1_9 Xbx1_9k0 Xbx1_9k1
     have ⟨Xbx1_11k0, Xbx1_11k1⟩ := bx2 Xbx1_11
     have Xbx2_11 := Xbx2_9.via U11
     clear Xbx2_9 Xbx2_9k0 Xbx2_9k1 Xbx2_9k2 Xbx2_9k3 Xbx2_9k4 Xbx2_9k5 Xbx2_9k6 Xbx2_9k7
     have ⟨Xbx2_11k0, Xbx2_11k1, Xbx2_11k2, Xbx2_11k3, Xbx2_11k4, Xbx2_11k5, Xbx2_11k6, Xbx2_11k7⟩ := bx8 Xbx2_11
     clear U11
     clear B9
     cases h12 : iUndosOk_p a1.Undos with
     | true =>
      replace h12 := Lib.hid h12
      go_wp2_with fail
      refine (iinRange_w a1.State (1 : Int) (6 : Int)  _ ).mono ?_
      rintro e w13 ⟨rfl, hb13⟩
      have B13 := via (w0 := w) (by simp (maxDischargeDepth := 9) [B11]) hb13
      have U13 : Below w11.heap.size w11 w13 := via (by simp (maxDischargeDepth := 9)) hb13
      have Xbx1_13 := Xbx1_11.via U13
      clear Xbx1_11 Xbx1_11k0 Xbx1_11k1
      have ⟨Xbx1_13k0, Xbx1_13k1⟩ := bx2 Xbx1_13
      have Xbx2_13 := Xbx2_11.via U13
      clear Xbx2_11 Xbx2_11k0 Xbx2_11k1 Xbx2_11k2 Xbx2_11k3 Xbx2_11k4 Xbx2_11k5 Xbx2_11k6 Xbx2_11k7
      have ⟨Xbx2_13k0, Xbx2_13k1, Xbx2_13k2, Xbx2_13k3, Xbx2_13k4, Xbx2_13k5, Xbx2_13k6, Xbx2_13k7⟩ := bx8 Xbx2_13
      clear U13
      clear B11
      cases h14 : inR a1.State (1 : Int) (6 : Int) with
      | true =>
       have ⟨h14a, h14b⟩ := inR_true h14
       replace h14 := Lib.hid h14
       go_wp2_with fail
       refine (iisTime_w a1.Now  _ ).mono ?_
       rintro e w15 ⟨rfl, hb15⟩
       have B15 := via (w0 := w) (by simp (maxDischargeDepth := 9) [B13]) hb15
       have U15 : Below w13.heap.size w13 w15 := via (by simp (maxDischargeDepth := 9)) hb15
       have Xbx1_15 := Xbx1_13.via U15
       clear Xbx1_13 Xbx1_13k0 Xbx1_13k1
       have ⟨Xbx1_15k0, Xbx1_15k1⟩ := bx2 Xbx1_15
       have Xbx2_15 := Xbx2_13.via U15
       clear Xbx2_13 Xbx2_13k0 Xbx2_13k1 Xbx2_13k2 Xbx2_13k3 Xbx2_13k4 Xbx2_13k5 Xbx2_13k6 Xbx2_13k7
       have ⟨Xbx2_15k0, Xbx2_15k1, Xbx2_15k2, Xbx2_15k3, Xbx2_15k4, Xbx2_15k5, Xbx2_15k6, Xbx2_15k7⟩ := bx8 Xbx2_15
       clear U15
       clear B13
       cases h16 : iisTime_p a1.Now with
       | true =>
        replace h16 := Lib.hid h16
        go_wp2_with fail
        refine (ifiredOk_w a0 a1 _ _ _ _ _ _ _ (s0_1.to (by simp (maxDischargeDepth := 9) [B15])) (s1_0.to (by simp (maxDischargeDepth := 9) [B15])) (s1_2.to (by simp (maxDischargeDepth := 9) [B15])) (s1_3.to (by simp (maxDischargeDepth := 9) [B15])) (s1_4.to (by simp (maxDischargeDepth := 9) [B15])) (s1_5.to (by simp (maxDischargeDepth := 9) [B15])) hz_a1).mono ?_
        rintro e w17 ⟨rfl, hb17⟩
        have B17 := via (w0 := w) (by simp (maxDischargeDepth := 9) [B15]) hb17
        have U17 : Below w15.heap.size w15 w17 := via (by simp (maxDischargeDepth := 9)) hb17
        have Xbx1_17 := Xbx1_15.via U17
        clear Xbx1_15 Xbx1_15k0 Xbx1_15k1
        have ⟨Xbx1_17k0, Xbx1_17k1⟩ := bx2 Xbx1_17
        have Xbx2_17 := Xbx2_15.via U17
        clear Xbx2_15 Xbx2_15k0 Xbx2_15k1 Xbx2_15k2 Xbx2_15k3 Xbx2_15k4 Xbx2_15k5 Xbx2_15k6 Xbx2_15k7
        have ⟨Xbx2_17k0, Xbx2_17k1, Xbx2_17k2, Xbx2_17k3, Xbx2_17k4, Xbx2_17k5, Xbx2_17k6, Xbx2_17k7⟩ := bx8 Xbx2_17
        clear U17
        clear B15
        cases h18 : ifiredOk_p a0 a1 with
        | true =>
         replace h18 := Lib.hid h18
         obtain ⟨bh19, eh19⟩ : ∃ b, (a1.State == 3) = b := ⟨_, rfl⟩
         rcases Bool.eq_false_or_eq_true bh19 with h19 | h19
         ·
          by_cases h20 : 0 < a1.Undos.length
          ·
           have h20d := Lib.hid (decide_eq_true h20)
           obtain rfl : r = true := hr.out.symm.trans (by simp only [iInstOk_p, h4.out, h6.out, h8.out, h10.out, h12.out, h14.out, h16.out, h18.out, eh19, h19, h20d.out, cond_true])
           go_wp2
           go_ret
           exact rbk (by simp (maxDischargeDepth := 9) [B17])
          ·
           have h20d := Lib.hid (decide_eq_false h20)
           obtain rfl : r = false := hr.out.symm.trans (by simp only [iInstOk_p, h4.out, h6.out, h8.out, h10.out, h12.out, h14.out, h16.out, h18.out, eh19, h19, h20d.out, cond_true, cond_false])
           go_wp2
           go_ret
           exact rbk (by simp (maxDischargeDepth := 9) [B17])
         ·
          obtain ⟨bh21, eh21⟩ : ∃ b, (a1.State == 5) = b := ⟨_, rfl⟩
          rcases Bool.eq_false_or_eq_true bh21 with h21 | h21
          ·
           by_cases h22 : 0 < a1.Undos.length
           ·
            have h22d := Lib.hid (decide_eq_true h22)
            obtain rfl : r = true := hr.out.symm.trans (by simp only [iInstOk_p, h4.out, h6.out, h8.out, h10.out, h12.out, h14.out, h16.out, h18.out, eh19, h19, eh21, h21, h22d.out, cond_true, cond_false])
            go_wp2
            go_ret
            exact rbk (by simp (maxDischargeDepth := 9) [B17])
           ·
            have h22d := Lib.hid (decide_eq_false h22)
            obtain rfl : r = false := hr.out.symm.trans (by simp only [iInstOk_p, h4.out, h6.out, h8.out, h10.out, h12.out, h14.out, h16.out, h18.out, eh19, h19, eh21, h21, h22d.out, cond_true, cond_false])
            go_wp2
            go_ret
            exact rbk (by simp (maxDischargeDepth := 9) [B17])
          ·
           go_wp2_with fail
           refine (iEnded_w a1 _ _ _ _ _ _ (s1_0.to (by simp (maxDischargeDepth := 9) [B17])) (s1_2.to (by simp (maxDischargeDepth := 9) [B17])) (s1_3.to (by simp (maxDischargeDepth := 9) [B17])) (s1_4.to (by simp (maxDischargeDepth := 9) [B17])) (s1_5.to (by simp (maxDischargeDepth := 9) [B17]))).mono ?_
           rintro e w23 ⟨rfl, hb23⟩
           have B23 := via (w0 := w) (by simp (maxDischargeDepth := 9) [B17]) hb23
           have U23 : Below w17.heap.size w17 w23 := via (by simp (maxDischargeDepth := 9)) hb23
           have Xbx1_23 := Xbx1_17.via U23
           clear Xbx1_17 Xbx1_17k0 Xbx1_17k1
           have ⟨Xbx1_23k0, Xbx1_23k1⟩ := bx2 Xbx1_23
           have Xbx2_23 := Xbx2_17.via U23
           clear Xbx2_17 Xbx2_17k0 Xbx2_17k1 Xbx2_17k2 Xbx2_17k3 Xbx2_17k4 Xbx2_17k5 Xbx2_17k6 Xbx2_17k7
           have ⟨Xbx2_23k0, Xbx2_23k1, Xbx2_23k2, Xbx2_23k3, Xbx2_23k4, Xbx2_23k5, Xbx2_23k6, Xbx2_23k7⟩ := bx8 Xbx2_23
           clear U23
           clear B17
           cases h24 : iEnded_p a1 with
           | true =>
            replace h24 := Lib.hid h24
            obtain ⟨bh25, eh25⟩ : ∃ b, (((a1.Timers.length : Nat) : Int) == 0) = b := ⟨_, rfl⟩
            rcases Bool.eq_false_or_eq_true bh25 with h25 | h25
            ·
             have gh25 : Hid (a1.Timers.length = 0) := Lib.hid (by have z := eh25.trans h25; simp only [beq_iff_eq] at z; omega)
             go_wp2_with fail
             refine (slices_ContainsFunc_iTask_iisOpen_w a1.Tasks _ _ (s1_3.to (by simp (maxDischargeDepth := 9) [B23]))).mono ?_
             rintro e w26 ⟨rfl, hb26⟩
             have B26 := via (w0 := w) (by simp (maxDischargeDepth := 9) [B23]) hb26
             have U26 : Below w23.heap.size w23 w26 := via (by simp (maxDischargeDepth := 9)) hb26
             have Xbx1_26 := Xbx1_23.via U26
             clear Xbx1_23 Xbx1_23k0 Xbx1_23k1
             have ⟨Xbx1_26k0, Xbx1_26k1⟩ := bx2 Xbx1_26
             have Xbx2_26 := Xbx2_23.via U26
             clear Xbx2_23 Xbx2_23k0 Xbx2_23k1 Xbx2_23k2 Xbx2_23k3 Xbx2_23k4 Xbx2_23k5 Xbx2_23k6 Xbx2_23k7
             have ⟨Xbx2_26k0, Xbx2_26k1, Xbx2_26k2, Xbx2_26k3, Xbx2_26k4, Xbx2_26k5, Xbx2_26k6, Xbx2_26k7⟩ := bx8 Xbx2_26
             clear U26
             clear B23
             cases h27 : slices_ContainsFunc_iTask_iisOpen_p a1.Tasks with
             | true =>
              replace h27 := Lib.hid h27
              obtain rfl : r = false := hr.out.symm.trans (by simp only [iInstOk_p, h4.out, h6.out, h8.out, h10.out, h12.out, h14.out, h16.out, h18.out, eh19, h19, eh21, h21, h24.out, eh25, h25, h27.out, cond_true, cond_false])
              go_wp2
              go_ret
              exact rbk (by simp (maxDischargeDepth := 9) [B26])
             | false =>
              replace h27 := Lib.hid h27
              obtain rfl : r = true := hr.out.symm.trans (by simp only [iInstOk_p, h4.out, h6.out, h8.out, h10.out, h12.out, h14.out, h16.out, h18.out, eh19, h19, eh21, h21, h24.out, eh25, h25, h27.out, cond_true, cond_false])
              go_wp2
              go_ret
              exact rbk (by simp (maxDischargeDepth := 9) [B26])
            ·
             obtain rfl : r = false := hr.out.symm.trans (by simp only [iInstOk_p, h4.out, h6.out, h8.out, h10.out, h12.out, h14.out, h16.out, h18.out, eh19, h19, eh21, h21, h24.out, eh25, h25, cond_true, cond_false])
             go_wp2
             go_ret
             exact rbk (by simp (maxDischargeDepth := 9) [B23])
           | false =>
            replace h24 := Lib.hid h24
            obtain rfl : r = true := hr.out.symm.trans (by simp only [iInstOk_p, h4.out, h6.out, h8.out, h10.out, h12.out, h14.out, h16.out, h18.out, eh19, h19, eh21, h21, h24.out, cond_true, cond_false])
            go_wp2
            go_ret
            exact rbk (by simp (maxDischargeDepth := 9) [B23])
        | false =>
         replace h18 := Lib.hid h18
         obtain rfl : r = false := hr.out.symm.trans (by simp only [iInstOk_p, h4.out, h6.out, h8.out, h10.out, h12.out, h14.out, h16.out, h18.out, cond_true, cond_false])
         go_wp2
         go_ret
         exact rbk (by simp (maxDischargeDepth := 9) [B17])
       | false =>
        replace h16 := Lib.hid h16
        obtain rfl : r = false := hr.out.symm.trans (by simp only [iInstOk_p, h4.out, h6.out, h8.out, h10.out, h12.out, h14.out, h16.out, cond_true, cond_false])
        go_wp2
        go_ret
        exact rbk (by simp (maxDischargeDepth := 9) [B15])
      | false =>
       replace h14 := Lib.hid h14
       obtain rfl : r = false := hr.out.symm.trans (by simp only [iInstOk_p, h4.out, h6.out, h8.out, h10.out, h12.out, h14.out, cond_true, cond_false])
       go_wp2
       go_ret
       exact rbk (by simp (maxDischargeDepth := 9) [B13])
     | false =>
      replace h12 := Lib.hid h12
      obtain rfl : r = false := hr.out.symm.trans (by simp only [iInstOk_p, h4.out, h6.out, h8.out, h10.out, h12.out, cond_true, cond_false])
      go_wp2
      go_ret
      exact rbk (by simp (maxDischargeDepth := 9) [B11])
    | false =>
     replace h10 := Lib.hid h10
     obtain rfl : r = false := hr.out.symm.trans (by simp only [iInstOk_p, h4.out, h6.out, h8.out, h10.out, cond_true, cond_false])
     go_wp2
     go_ret
     exact rbk (by simp (maxDischargeDepth := 9) [B9])
   | false =>
    replace h8 := Lib.hid h8
    obtain rfl : r = false := hr.out.symm.trans (by simp only [iInstOk_p, h4.out, h6.out, h8.out, cond_true, cond_false])
    go_wp2
    go_ret
    exact rbk (by simp (maxDischargeDepth := 9) [B7])
  | false =>
   replace h6 := Lib.hid h6
   obtain rfl : r = false := hr.out.symm.trans (by simp only [iInstOk_p, h4.out, h6.out, cond_true, cond_false])
   go_wp2
   go_ret
   exact rbk (by simp (maxDischargeDepth := 9) [B5])
 | false =>
  replace h4 := Lib.hid h4
  obtain rfl : r = false := hr.out.symm.trans (by simp only [iInstOk_p, h4.out, cond_false])
  go_wp2
  go_ret
  exact rbk (by simp (maxDischargeDepth := 9) [B3])
end Go.Proofs.YthnilnggpbploaaGreat
