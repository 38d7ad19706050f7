/- Functions that only read, walked (A). Printed by a program. -/
import Derived.Test.YthnilnggpbploaaGreatCmA1
import Derived.Test.YthnilnggpbploaaGreatRd
namespace Go.Proofs.YthnilnggpbploaaGreat
open Go.RowKit
open Cel (rd own rd_len rd_one own_rd own_lt rd_below rd_mono own_keep)

-- impl.ExprOk
def iExprOk_p (a0 : ExprD) : Bool := bif a0.Op.toList.isEmpty then (bif iisTerm_p a0.L then (bif (a0.R.K == 0) then (bif a0.R.S.toList.isEmpty then (bif (a0.R.V.K == 0) then (bif (a0.R.V.N == 0) then (bif a0.R.V.S.toList.isEmpty then (true) else (false)) else (false)) else (false)) else (false)) else (false)) else (false)) else (bif (a0.Op.toList == [43]) then (bif iisTerm_p a0.L then (iisTerm_p a0.R) else (false)) else (bif (a0.Op.toList == [45]) then (bif iisTerm_p a0.L then (iisTerm_p a0.R) else (false)) else (false)))
set_option maxHeartbeats 1000000 in
set_option maxRecDepth 20000 in
theorem iExprOk_w (a0 : ExprD) (w : World) (ok_a0 : okExpr a0) :
    Calls Tryz.prog 389 #[.agg #[.string a0.Op, .int .i64 a0.L.K, .string a0.L.S, .int .i64 a0.L.V.K, .int .i64 a0.L.V.N, .string a0.L.V.S, .int .i64 a0.R.K, .string a0.R.S, .int .i64 a0.R.V.K, .int .i64 a0.R.V.N, .string a0.R.V.S]] w (RetB (iExprOk_p a0) w) := by
 obtain ⟨r, hr⟩ : ∃ r, iExprOk_p a0 = r := ⟨_, rfl⟩
 rw [hr]
 replace hr := Lib.hid hr
 go_enter Tryz.func389, Tryz.ntmps389
 obtain ⟨bh2, eh2⟩ : ∃ b, a0.Op.toList.isEmpty = b := ⟨_, rfl⟩
 rcases Bool.eq_false_or_eq_true bh2 with h2 | h2
 ·
  go_wp2_with fail
  refine (iisTerm_w a0.L  _ ok_a0.2.1).mono ?_
  rintro e w3 ⟨rfl, hb3⟩
  have B3 := via (w0 := w) (by simp (maxDischargeDepth := 9)) hb3
  have Xbx1_3 : Bx w3 (w.heap.size) [.string a0.Op, .int .i64 a0.L.K, .string a0.L.S, .int .i64 a0.L.V.K, .int .i64 a0.L.V.N, .string a0.L.V.S, .int .i64 a0.R.K, .string a0.R.S, .int .i64 a0.R.V.K, .int .i64 a0.R.V.N, .string a0.R.V.S] := Bx.via (by simp (maxDischargeDepth := 9)) hb3
  have ⟨Xbx1_3k0, Xbx1_3k1, Xbx1_3k2, Xbx1_3k3, Xbx1_3k4, Xbx1_3k5, Xbx1_3k6, Xbx1_3k7, Xbx1_3k8, Xbx1_3k9, Xbx1_3k10⟩ := bx11 Xbx1_3
  cases h4 : iisTerm_p a0.L with
  | true =>
   replace h4 := Lib.hid h4
   obtain ⟨bh5, eh5⟩ : ∃ b, (a0.R.K == 0) = b := ⟨_, rfl⟩
   rcases Bool.eq_false_or_eq_true bh5 with h5 | h5
   ·
    obtain ⟨bh6, eh6⟩ : ∃ b, a0.R.S.toList.isEmpty = b := ⟨_, rfl⟩
    rcases Bool.eq_false_or_eq_true bh6 with h6 | h6
    ·
     obtain ⟨bh7, eh7⟩ : ∃ b, (a0.R.V.K == 0) = b := ⟨_, rfl⟩
     rcases Bool.eq_false_or_eq_true bh7 with h7 | h7
     ·
      obtain ⟨bh8, eh8⟩ : ∃ b, (a0.R.V.N == 0) = b := ⟨_, rfl⟩
      rcases Bool.eq_false_or_eq_true bh8 with h8 | h8
      ·
       obtain ⟨bh9, eh9⟩ : ∃ b, a0.R.V.S.toList.isEmpty = b := ⟨_, rfl⟩
       rcases Bool.eq_false_or_eq_true bh9 with h9 | h9
       ·
        obtain rfl : r = true := hr.out.symm.trans (by simp only [iExprOk_p, eh2, h2, h4.out, eh5, h5, eh6, h6, eh7, h7, eh8, h8, eh9, h9, cond_true])
        go_wp2
        go_ret
        exact rbk (by simp (maxDischargeDepth := 9) [B3])
       ·
        obtain rfl : r = false := hr.out.symm.trans (by simp only [iExprOk_p, eh2, h2, h4.out, eh5, h5, eh6, h6, eh7, h7, eh8, h8, eh9, h9, cond_true, cond_false])
        go_wp2
        go_ret
        exact rbk (by simp (maxDischargeDepth := 9) [B3])
      ·
       obtain rfl : r = false := hr.out.symm.trans (by simp only [iExprOk_p, eh2, h2, h4.out, eh5, h5, eh6, h6, eh7, h7, eh8, h8, cond_true, cond_false])
       go_wp2
       go_ret
       exact rbk (by simp (maxDischargeDepth := 9) [B3])
     ·
      obtain rfl : r = false := hr.out.symm.trans (by simp only [iExprOk_p, eh2, h2, h4.out, eh5, h5, eh6, h6, eh7, h7, cond_true, cond_false])
      go_wp2
      go_ret
      exact rbk (by simp (maxDischargeDepth := 9) [B3])
    ·
     obtain rfl : r = false := hr.out.symm.trans (by simp only [iExprOk_p, eh2, h2, h4.out, eh5, h5, eh6, h6, cond_true, cond_false])
     go_wp2
     go_ret
     exact rbk (by simp (maxDischargeDepth := 9) [B3])
   ·
    obtain rfl : r = false := hr.out.symm.trans (by simp only [iExprOk_p, eh2, h2, h4.out, eh5, h5, cond_true, cond_false])
    go_wp2
    go_ret
    exact rbk (by simp (maxDischargeDepth := 9) [B3])
  | false =>
   replace h4 := Lib.hid h4
   obtain rfl : r = false := hr.out.symm.trans (by simp only [iExprOk_p, eh2, h2, h4.out, cond_true, cond_false])
   go_wp2
   go_ret
   exact rbk (by simp (maxDischargeDepth := 9) [B3])
 ·
  obtain ⟨bh10, eh10⟩ : ∃ b, (a0.Op.toList == [43]) = b := ⟨_, rfl⟩
  rcases Bool.eq_false_or_eq_true bh10 with h10 | h10
  ·
   go_wp2_with fail
   refine (iisTerm_w a0.L  _ ok_a0.2.1).mono ?_
   rintro e w11 ⟨rfl, hb11⟩
   have B11 := via (w0 := w) (by simp (maxDischargeDepth := 9)) hb11
   have Xbx1_11 : Bx w11 (w.heap.size) [.string a0.Op, .int .i64 a0.L.K, .string a0.L.S, .int .i64 a0.L.V.K, .int .i64 a0.L.V.N, .string a0.L.V.S, .int .i64 a0.R.K, .string a0.R.S, .int .i64 a0.R.V.K, .int .i64 a0.R.V.N, .string a0.R.V.S] := Bx.via (by simp (maxDischargeDepth := 9)) hb11
   have ⟨Xbx1_11k0, Xbx1_11k1, Xbx1_11k2, Xbx1_11k3, Xbx1_11k4, Xbx1_11k5, Xbx1_11k6, Xbx1_11k7, Xbx1_11k8, Xbx1_11k9, Xbx1_11k10⟩ := bx11 Xbx1_11
   cases h12 : iisTerm_p a0.L with
   | true =>
    replace h12 := Lib.hid h12
    go_wp2_with fail
    refine (iisTerm_w a0.R  _ ok_a0.2.2).mono ?_
    rintro e w13 ⟨rfl, hb13⟩
    have B13 := via (w0 := w) (by simp (maxDischargeDepth := 9) [B11]) hb13
    have U13 : Below w11.heap.size w11 w13 := via (by simp (maxDischargeDepth := 9)) hb13
    have Xbx1_13 := Xbx1_11.via U13
    clear Xbx1_11 Xbx1_11k0 Xbx1_11k1 Xbx1_11k2 Xbx1_11k3 Xbx1_11k4 Xbx1_11k5 Xbx1_11k6 Xbx1_11k7 Xbx1_11k8 Xbx1_11k9 Xbx1_11k10
    have ⟨Xbx1_13k0, Xbx1_13k1, Xbx1_13k2, Xbx1_13k3, Xbx1_13k4, Xbx1_13k5, Xbx1_13k6, Xbx1_13k7, Xbx1_13k8, Xbx1_13k9, Xbx1_13k10⟩ := bx11 Xbx1_13
    clear U13
    clear B11
    obtain rfl : r = iisTerm_p a0.R := hr.out.symm.trans (by simp only [iExprOk_p, eh2, h2, eh10, h10, h12.out, cond_true, cond_false])
    go_wp2
    go_ret
    exact rbk (by simp (maxDischargeDepth := 9) [B13])
   | false =>
    replace h12 := Lib.hid h12
    obtain rfl : r = false := hr.out.symm.trans (by simp only [iExprOk_p, eh2, h2, eh10, h10, h12.out, cond_true, cond_false])
    go_wp2
    go_ret
    exact rbk (by simp (maxDischargeDepth := 9) [B11])
  ·
   obtain ⟨bh14, eh14⟩ : ∃ b, (a0.Op.toList == [45]) = b := ⟨_, rfl⟩
   rcases Bool.eq_false_or_eq_true bh14 with h14 | h14
   ·
    go_wp2_with fail
    refine (iisTerm_w a0.L  _ ok_a0.2.1).mono ?_
    rintro e w15 ⟨rfl, hb15⟩
    have B15 := via (w0 := w) (by simp (maxDischargeDepth := 9)) hb15
    have Xbx1_15 : Bx w15 (w.heap.size) [.string a0.Op, .int .i64 a0.L.K, .string a0.L.S, .int .i64 a0.L.V.K, .int .i64 a0.L.V.N, .string a0.L.V.S, .int .i64 a0.R.K, .string a0.R.S, .int .i64 a0.R.V.K, .int .i64 a0.R.V.N, .string a0.R.V.S] := Bx.via (by simp (maxDischargeDepth := 9)) hb15
    have ⟨Xbx1_15k0, Xbx1_15k1, Xbx1_15k2, Xbx1_15k3, Xbx1_15k4, Xbx1_15k5, Xbx1_15k6, Xbx1_15k7, Xbx1_15k8, Xbx1_15k9, Xbx1_15k10⟩ := bx11 Xbx1_15
    cases h16 : iisTerm_p a0.L with
    | true =>
     replace h16 := Lib.hid h16
     go_wp2_with fail
     refine (iisTerm_w a0.R  _ ok_a0.2.2).mono ?_
     rintro e w17 ⟨rfl, hb17⟩
     have B17 := via (w0 := w) (by simp (maxDischargeDepth := 9) [B15]) hb17
     have U17 : Below w15.heap.size w15 w17 := via (by simp (maxDischargeDepth := 9)) hb17
     have Xbx1_17 := Xbx1_15.via U17
     clear Xbx1_15 Xbx1_15k0 Xbx1_15k1 Xbx1_15k2 Xbx1_15k3 Xbx1_15k4 Xbx1_15k5 Xbx1_15k6 Xbx1_15k7 Xbx1_15k8 Xbx1_15k9 Xbx1_15k10
     have ⟨Xbx1_17k0, Xbx1_17k1, Xbx1_17k2, Xbx1_17k3, Xbx1_17k4, Xbx1_17k5, Xbx1_17k6, Xbx1_17k7, Xbx1_17k8, Xbx1_17k9, Xbx1_17k10⟩ := bx11 Xbx1_17
     clear U17
     clear B15
     obtain rfl : r = iisTerm_p a0.R := hr.out.symm.trans (by simp only [iExprOk_p, eh2, h2, eh10, h10, eh14, h14, h16.out, cond_true, cond_false])
     go_wp2
     go_ret
     exact rbk (by simp (maxDischargeDepth := 9) [B17])
    | false =>
     replace h16 := Lib.hid h16
     obtain rfl : r = false := hr.out.symm.trans (by simp only [iExprOk_p, eh2, h2, eh10, h10, eh14, h14, h16.out, cond_true, cond_false])
     go_wp2
     go_ret
     exact rbk (by simp (maxDischargeDepth := 9) [B15])
   ·
    obtain rfl : r = false := hr.out.symm.trans (by simp only [iExprOk_p, eh2, h2, eh10, h10, eh14, h14, cond_false])
    go_wp2
    go_ret
    exact rbk (by simp (maxDischargeDepth := 9))

-- impl.argsOk
def iargsOk_p_b1 (a0 : ActD) (k5 : Nat) (_ : Unit) : St (Bool) (Unit) := bif iExprOk_p (gt a0.Args k5) then (.go ()) else (.ret false)
def iargsOk_p (a0 : ActD) : Bool := bif iNameOk_p a0.Name then (bif decide (5 < a0.Args.length) then (false) else (match rounds (iargsOk_p_b1 a0) a0.Args.length () with | .ret r => r | .brk _ => default | .go _ => true)) else (false)
set_option maxHeartbeats 1000000 in
set_option maxRecDepth 20000 in
theorem iargsOk_w (a0 : ActD) (v0_2 : Value) (w : World) (s0_2 : Sl w a0.Args v0_2) (ok_a0 : okAct a0) :
    Calls Tryz.prog 317 #[.agg #[.int .i64 a0.Kind, .string a0.Name, v0_2, .int .i64 a0.N, .string a0.Undo]] w (RetB (iargsOk_p a0) w) := by
 obtain ⟨p0_2, c0_2, rfl, hl0_2, -, hk0_2, -⟩ := s0_2.open
 obtain ⟨r, hr⟩ : ∃ r, iargsOk_p a0 = r := ⟨_, rfl⟩
 rw [hr]
 replace hr := Lib.hid hr
 go_enter Tryz.func317, Tryz.ntmps317
 go_wp2_with fail
 refine (iNameOk_w a0.Name  _ ok_a0.2.1).mono ?_
 rintro e w2 ⟨rfl, hb2⟩
 have B2 := via (w0 := w) (by simp (maxDischargeDepth := 9)) hb2
 have Xbx1_2 : Bx w2 (w.heap.size) [.int .i64 a0.Kind, .string a0.Name, .slice p0_2 a0.Args.length c0_2, .int .i64 a0.N, .string a0.Undo] := Bx.via (by simp (maxDischargeDepth := 9)) hb2
 have ⟨Xbx1_2k0, Xbx1_2k1, Xbx1_2k2, Xbx1_2k3, Xbx1_2k4⟩ := bx5 Xbx1_2
 cases h3 : iNameOk_p a0.Name with
 | true =>
  replace h3 := Lib.hid h3
  by_cases h4 : 5 < a0.Args.length
  ·
   have h4d := Lib.hid (decide_eq_true h4)
   obtain rfl : r = false := hr.out.symm.trans (by simp only [iargsOk_p, h3.out, h4d.out, cond_true])
   go_wp2
   go_ret
   exact rbk (by simp (maxDischargeDepth := 9) [B2])
  ·
   have h4d := Lib.hid (decide_eq_false h4)
   go_wp2
   go_loopw [18] (fun i18 wr5 => Below w.heap.size w wr5 ∧ Bx wr5 (w.heap.size) [.int .i64 a0.Kind, .string a0.Name, .slice p0_2 a0.Args.length c0_2, .int .i64 a0.N, .string a0.Undo] ∧ ∃ (k5 : Nat), i18 = .int .i64 k5 ∧ k5 ≤ a0.Args.length ∧ Hid (rounds (iargsOk_p_b1 a0) k5 () = .go ())) (fun i18 _ => a0.Args.length - (intOf i18).toNat)
   case atStart => exact ⟨(by simp (maxDischargeDepth := 9) [B2]), (by simp (maxDischargeDepth := 9) [Xbx1_2]), 0, rfl, by omega, Lib.hid rfl⟩
   case round =>
    rename World => wr5
    clear Xbx1_2 Xbx1_2k0 Xbx1_2k1 Xbx1_2k2 Xbx1_2k3 Xbx1_2k4 B2
    obtain ⟨B6, Xbx1_6, k5, rfl, hk6, hy6⟩ := hrel
    have ⟨Xbx1_6k0, Xbx1_6k1, Xbx1_6k2, Xbx1_6k3, Xbx1_6k4⟩ := bx5 Xbx1_6
    by_cases hlt6 : k5 < a0.Args.length
    ·
     have hi9 : k5 < a0.Args.length := by first | assumption | omega
     obtain ⟨e8b, e8o, rfl, e8bl, e8ok, ⟨e8d0, e8d1, e8d2, e8d3, e8d4, e8d5, e8d6, e8d7, e8d8, e8d9, e8d10⟩⟩ := Sl.gtExpr s0_2 k5 hi9
     have e8E := Lib.hid (And.intro e8d0 (And.intro e8d1 (And.intro e8d2 (And.intro e8d3 (And.intro e8d4 (And.intro e8d5 (And.intro e8d6 (And.intro e8d7 (And.intro e8d8 (And.intro e8d9 e8d10))))))))))
     clear e8d0 e8d1 e8d2 e8d3 e8d4 e8d5 e8d6 e8d7 e8d8 e8d9 e8d10
     have ⟨e8d0n, e8d1n, e8d2n, e8d3n, e8d4n, e8d5n, e8d6n, e8d7n, e8d8n, e8d9n, e8d10n⟩ := cb11 B6 e8bl e8E.out
     go_wp2_with fail
     refine (iExprOk_w (gt a0.Args k5)  _ e8ok).mono ?_
     rintro e w11 ⟨rfl, hb11⟩
     have B11 := via (w0 := w) (by simp (maxDischargeDepth := 9) [B6]) hb11
     have U11 : Below wr5.heap.size wr5 w11 := via (by simp (maxDischargeDepth := 9)) hb11
     have Xbx1_11 := Xbx1_6.via U11
     clear Xbx1_6 Xbx1_6k0 Xbx1_6k1 Xbx1_6k2 Xbx1_6k3 Xbx1_6k4
     have ⟨Xbx1_11k0, Xbx1_11k1, Xbx1_11k2, Xbx1_11k3, Xbx1_11k4⟩ := bx5 Xbx1_11
     have Xbx10_11 : Bx w11 (wr5.heap.size) [.string ((gt a0.Args k5).Op), .int .i64 ((gt a0.Args k5).L.K), .string ((gt a0.Args k5).L.S), .int .i64 ((gt a0.Args k5).L.V.K), .int .i64 ((gt a0.Args k5).L.V.N), .string ((gt a0.Args k5).L.V.S), .int .i64 ((gt a0.Args k5).R.K), .string ((gt a0.Args k5).R.S), .int .i64 ((gt a0.Args k5).R.V.K), .int .i64 ((gt a0.Args k5).R.V.N), .string ((gt a0.Args k5).R.V.S)] := Bx.via (by simp (maxDischargeDepth := 9)) hb11
     have ⟨Xbx10_11k0, Xbx10_11k1, Xbx10_11k2, Xbx10_11k3, Xbx10_11k4, Xbx10_11k5, Xbx10_11k6, Xbx10_11k7, Xbx10_11k8, Xbx10_11k9, Xbx10_11k10⟩ := bx11 Xbx10_11
     clear e8d0n e8d1n e8d2n e8d3n e8d4n e8d5n e8d6n e8d7n e8d8n e8d9n e8d10n
     have ⟨e8d0n, e8d1n, e8d2n, e8d3n, e8d4n, e8d5n, e8d6n, e8d7n, e8d8n, e8d9n, e8d10n⟩ := cb11 B11 e8bl e8E.out
     clear U11
     clear B6
     cases h12 : iExprOk_p (gt a0.Args k5) with
     | true =>
      replace h12 := Lib.hid h12
      have q13 : iargsOk_p_b1 a0 k5 () = .go () := by simp only [iargsOk_p_b1, h12.out, cond_true]
      replace q13 := Lib.hid (rounds_next hy6.out q13)
      go_wp2
      go_roundw
      case rel => exact ⟨(by simp (maxDischargeDepth := 9) [B11]), (by simp (maxDischargeDepth := 9) [Xbx1_11]), k5 + 1, by go_num, by omega, q13⟩
      case measure => simp [intOf]; omega
     | false =>
      replace h12 := Lib.hid h12
      have q14 : iargsOk_p_b1 a0 k5 () = .ret false := by simp only [iargsOk_p_b1, h12.out, cond_false]
      have q15 := rounds_ret hlt6 hy6.out q14
      obtain rfl : r = false := hr.out.symm.trans (by simp only [iargsOk_p, h3.out, h4d.out, q15, cond_true, cond_false])
      go_wp2
      go_ret
      exact rbk (by simp (maxDischargeDepth := 9) [B11])
    ·
     obtain rfl : a0.Args.length = k5 := by omega
     obtain rfl : r = true := hr.out.symm.trans (by simp only [iargsOk_p, h3.out, h4d.out, hy6.out, cond_true, cond_false])
     go_wp2
     go_ret
     exact rbk (by simp (maxDischargeDepth := 9) [B6])
 | false =>
  replace h3 := Lib.hid h3
  obtain rfl : r = false := hr.out.symm.trans (by simp only [iargsOk_p, h3.out, cond_false])
  go_wp2
  go_ret
  exact rbk (by simp (maxDischargeDepth := 9) [B2])

-- impl.ActOk
def iActOk_p (a0 : ActD) : Bool := bif a0.Name.toList.isEmpty then (bif (a0.Kind == 1) then (bif iargsOk_p a0 then (bif (a0.N == 0) then (bif a0.Undo.toList.isEmpty then (true) else (false)) else (false)) else (false)) else (bif (a0.Kind == 2) then (bif (((a0.Args.length : Nat) : Int) == 0) then (bif inR a0.N (0 : Int) (7 : Int) then (bif a0.Undo.toList.isEmpty then (true) else (false)) else (false)) else (false)) else (bif (a0.Kind == 3) then (bif iargsOk_p a0 then (bif (a0.N == 0) then (iisUndo_p a0.Undo) else (false)) else (false)) else (bif (a0.Kind == 4) then (bif iargsOk_p a0 then (bif inR a0.N (0 : Int) (100000 : Int) then (bif a0.Undo.toList.isEmpty then (true) else (false)) else (false)) else (false)) else (bif (a0.Kind == 5) then (bif (((a0.Args.length : Nat) : Int) == 0) then (bif (a0.N == 0) then (bif a0.Undo.toList.isEmpty then (true) else (false)) else (false)) else (false)) else (bif (a0.Kind == 6) then (bif (((a0.Args.length : Nat) : Int) == 0) then (bif (a0.N == 0) then (bif a0.Undo.toList.isEmpty then (true) else (false)) else (false)) else (false)) else (false))))))) else (bif (a0.Kind == 1) then (bif iargsOk_p a0 then (bif (a0.N == 0) then (bif a0.Undo.toList.isEmpty then (true) else (false)) else (false)) else (false)) else (bif (a0.Kind == 2) then (false) else (bif (a0.Kind == 3) then (bif iargsOk_p a0 then (bif (a0.N == 0) then (iisUndo_p a0.Undo) else (false)) else (false)) else (bif (a0.Kind == 4) then (bif iargsOk_p a0 then (bif inR a0.N (0 : Int) (100000 : Int) then (bif a0.Undo.toList.isEmpty then (true) else (false)) else (false)) else (false)) else (bif (a0.Kind == 5) then (false) else (bif (a0.Kind == 6) then (false) else (false)))))))
set_option maxHeartbeats 1000000 in
set_option maxRecDepth 20000 in
theorem iActOk_w (a0 : ActD) (v0_2 : Value) (w : World) (s0_2 : Sl w a0.Args v0_2) (ok_a0 : okAct a0) :
    Calls Tryz.prog 219 #[.agg #[.int .i64 a0.Kind, .string a0.Name, v0_2, .int .i64 a0.N, .string a0.Undo]] w (RetB (iActOk_p a0) w) := by
 obtain ⟨p0_2, c0_2, rfl, hl0_2, -, hk0_2, -⟩ := s0_2.open
 obtain ⟨r, hr⟩ : ∃ r, iActOk_p a0 = r := ⟨_, rfl⟩
 rw [hr]
 replace hr := Lib.hid hr
 go_enter Tryz.func219, Tryz.ntmps219
 obtain ⟨bh2, eh2⟩ : ∃ b, a0.Name.toList.isEmpty = b := ⟨_, rfl⟩
 rcases Bool.eq_false_or_eq_true bh2 with h2 | h2
 ·
  obtain ⟨bh3, eh3⟩ : ∃ b, (a0.Kind == 1) = b := ⟨_, rfl⟩
  rcases Bool.eq_false_or_eq_true bh3 with h3 | h3
  ·
   go_wp2_with fail
   refine (iargsOk_w a0 _ _ (s0_2.to (by simp (maxDischargeDepth := 9))) ok_a0).mono ?_
   rintro e w4 ⟨rfl, hb4⟩
   have B4 := via (w0 := w) (by simp (maxDischargeDepth := 9)) hb4
   have Xbx1_4 : Bx w4 (w.heap.size) [.int .i64 a0.Kind, .string a0.Name, .slice p0_2 a0.Args.length c0_2, .int .i64 a0.N, .string a0.Undo] := Bx.via (by simp (maxDischargeDepth := 9)) hb4
   have ⟨Xbx1_4k0, Xbx1_4k1, Xbx1_4k2, Xbx1_4k3, Xbx1_4k4⟩ := bx5 Xbx1_4
   cases h5 : iargsOk_p a0 with
   | true =>
    replace h5 := Lib.hid h5
    obtain ⟨bh6, eh6⟩ : ∃ b, (a0.N == 0) = b := ⟨_, rfl⟩
    rcases Bool.eq_false_or_eq_true bh6 with h6 | h6
    ·
     obtain ⟨bh7, eh7⟩ : ∃ b, a0.Undo.toList.isEmpty = b := ⟨_, rfl⟩
     rcases Bool.eq_false_or_eq_true bh7 with h7 | h7
     ·
      obtain rfl : r = true := hr.out.symm.trans (by simp only [iActOk_p, eh2, h2, eh3, h3, h5.out, eh6, h6, eh7, h7, cond_true])
      go_wp2
      go_ret
      exact rbk (by simp (maxDischargeDepth := 9) [B4])
     ·
      obtain rfl : r = false := hr.out.symm.trans (by simp only [iActOk_p, eh2, h2, eh3, h3, h5.out, eh6, h6, eh7, h7, cond_true, cond_false])
      go_wp2
      go_ret
      exact rbk (by simp (maxDischargeDepth := 9) [B4])
    ·
     obtain rfl : r = false := hr.out.symm.trans (by simp only [iActOk_p, eh2, h2, eh3, h3, h5.out, eh6, h6, cond_true, cond_false])
     go_wp2
     go_ret
     exact rbk (by simp (maxDischargeDepth := 9) [B4])
   | false =>
    replace h5 := Lib.hid h5
    obtain rfl : r = false := hr.out.symm.trans (by simp only [iActOk_p, eh2, h2, eh3, h3, h5.out, cond_true, cond_false])
    go_wp2
    go_ret
    exact rbk (by simp (maxDischargeDepth := 9) [B4])
  ·
   obtain ⟨bh8, eh8⟩ : ∃ b, (a0.Kind == 2) = b := ⟨_, rfl⟩
   rcases Bool.eq_false_or_eq_true bh8 with h8 | h8
   ·
    obtain ⟨bh9, eh9⟩ : ∃ b, (((a0.Args.length : Nat) : Int) == 0) = b := ⟨_, rfl⟩
    rcases Bool.eq_false_or_eq_true bh9 with h9 | h9
    ·
     have gh9 : Hid (a0.Args.length = 0) := Lib.hid (by have z := eh9.trans h9; simp only [beq_iff_eq] at z; omega)
     go_wp2_with fail
     refine (iinRange_w a0.N (0 : Int) (7 : Int)  _ ).mono ?_
     rintro e w10 ⟨rfl, hb10⟩
     have B10 := via (w0 := w) (by simp (maxDischargeDepth := 9)) hb10
     have Xbx1_10 : Bx w10 (w.heap.size) [.int .i64 a0.Kind, .string a0.Name, .slice p0_2 a0.Args.length c0_2, .int .i64 a0.N, .string a0.Undo] := Bx.via (by simp (maxDischargeDepth := 9)) hb10
     have ⟨Xbx1_10k0, Xbx1_10k1, Xbx1_10k2, Xbx1_10k3, Xbx1_10k4⟩ := bx5 Xbx1_10
     cases h11 : inR a0.N (0 : Int) (7 : Int) with
     | true =>
      have ⟨h11a, h11b⟩ := inR_true h11
      replace h11 := Lib.hid h11
      obtain ⟨bh12, eh12⟩ : ∃ b, a0.Undo.toList.isEmpty = b := ⟨_, rfl⟩
      rcases Bool.eq_false_or_eq_true bh12 with h12 | h12
      ·
       obtain rfl : r = true := hr.out.symm.trans (by simp only [iActOk_p, eh2, h2, eh3, h3, eh8, h8, eh9, h9, h11.out, eh12, h12, cond_true, cond_false])
       go_wp2
       go_ret
       exact rbk (by simp (maxDischargeDepth := 9) [B10])
      ·
       obtain rfl : r = false := hr.out.symm.trans (by simp only [iActOk_p, eh2, h2, eh3, h3, eh8, h8, eh9, h9, h11.out, eh12, h12, cond_true, cond_false])
       go_wp2
       go_ret
       exact rbk (by simp (maxDischargeDepth := 9) [B10])
     | false =>
      replace h11 := Lib.hid h11
      obtain rfl : r = false := hr.out.symm.trans (by simp only [iActOk_p, eh2, h2, eh3, h3, eh8, h8, eh9, h9, h11.out, cond_true, cond_false])
      go_wp2
      go_ret
      exact rbk (by simp (maxDischargeDepth := 9) [B10])
    ·
     obtain rfl : r = false := hr.out.symm.trans (by simp only [iActOk_p, eh2, h2, eh3, h3, eh8, h8, eh9, h9, cond_true, cond_false])
     go_wp2
     go_ret
     exact rbk (by simp (maxDischargeDepth := 9))
   ·
    obtain ⟨bh13, eh13⟩ : ∃ b, (a0.Kind == 3) = b := ⟨_, rfl⟩
    rcases Bool.eq_false_or_eq_true bh13 with h13 | h13
    ·
     go_wp2_with fail
     refine (iargsOk_w a0 _ _ (s0_2.to (by simp (maxDischargeDepth := 9))) ok_a0).mono ?_
     rintro e w14 ⟨rfl, hb14⟩
     have B14 := via (w0 := w) (by simp (maxDischargeDepth := 9)) hb14
     have Xbx1_14 : Bx w14 (w.heap.size) [.int .i64 a0.Kind, .string a0.Name, .slice p0_2 a0.Args.length c0_2, .int .i64 a0.N, .string a0.Undo] := Bx.via (by simp (maxDischargeDepth := 9)) hb14
     have ⟨Xbx1_14k0, Xbx1_14k1, Xbx1_14k2, Xbx1_14k3, Xbx1_14k4⟩ := bx5 Xbx1_14
     cases h15 : iargsOk_p a0 with
     | true =>
      replace h15 := Lib.hid h15
      obtain ⟨bh16, eh16⟩ : ∃ b, (a0.N == 0) = b := ⟨_, rfl⟩
      rcases Bool.eq_false_or_eq_true bh16 with h16 | h16
      ·
       go_wp2_with fail
       refine (iisUndo_w a0.Undo  _ ok_a0.2.2.2).mono ?_
       rintro e w17 ⟨rfl, hb17⟩
       have B17 := via (w0 := w) (by simp (maxDischargeDepth := 9) [B14]) hb17
       have U17 : Below w14.heap.size w14 w17 := via (by simp (maxDischargeDepth := 9)) hb17
       have Xbx1_17 := Xbx1_14.via U17
       clear Xbx1_14 Xbx1_14k0 Xbx1_14k1 Xbx1_14k2 Xbx1_14k3 Xbx1_14k4
       have ⟨Xbx1_17k0, Xbx1_17k1, Xbx1_17k2, Xbx1_17k3, Xbx1_17k4⟩ := bx5 Xbx1_17
       clear U17
       clear B14
       obtain rfl : r = iisUndo_p a0.Undo := hr.out.symm.trans (by simp only [iActOk_p, eh2, h2, eh3, h3, eh8, h8, eh13, h13, h15.out, eh16, h16, cond_true, cond_false])
       go_wp2
       go_ret
       exact rbk (by simp (maxDischargeDepth := 9) [B17])
      ·
       obtain rfl : r = false := hr.out.symm.trans (by simp only [iActOk_p, eh2, h2, eh3, h3, eh8, h8, eh13, h13, h15.out, eh16, h16, cond_true, cond_false])
       go_wp2
       go_ret
       exact rbk (by simp (maxDischargeDepth := 9) [B14])
     | false =>
      replace h15 := Lib.hid h15
      obtain rfl : r = false := hr.out.symm.trans (by simp only [iActOk_p, eh2, h2, eh3, h3, eh8, h8, eh13, h13, h15.out, cond_true, cond_false])
      go_wp2
      go_ret
      exact rbk (by simp (maxDischargeDepth := 9) [B14])
    ·
     obtain ⟨bh18, eh18⟩ : ∃ b, (a0.Kind == 4) = b := ⟨_, rfl⟩
     rcases Bool.eq_false_or_eq_true bh18 with h18 | h18
     ·
      go_wp2_with fail
      refine (iargsOk_w a0 _ _ (s0_2.to (by simp (maxDischargeDepth := 9))) ok_a0).mono ?_
      rintro e w19 ⟨rfl, hb19⟩
      have B19 := via (w0 := w) (by simp (maxDischargeDepth := 9)) hb19
      have Xbx1_19 : Bx w19 (w.heap.size) [.int .i64 a0.Kind, .string a0.Name, .slice p0_2 a0.Args.length c0_2, .int .i64 a0.N, .string a0.Undo] := Bx.via (by simp (maxDischargeDepth := 9)) hb19
      have ⟨Xbx1_19k0, Xbx1_19k1, Xbx1_19k2, Xbx1_19k3, Xbx1_19k4⟩ := bx5 Xbx1_19
      cases h20 : iargsOk_p a0 with
      | true =>
       replace h20 := Lib.hid h20
       go_wp2_with fail
       refine (iinRange_w a0.N (0 : Int) (100000 : Int)  _ ).mono ?_
       rintro e w21 ⟨rfl, hb21⟩
       have B21 := via (w0 := w) (by simp (maxDischargeDepth := 9) [B19]) hb21
       have U21 : Below w19.heap.size w19 w21 := via (by simp (maxDischargeDepth := 9)) hb21
       have Xbx1_21 := Xbx1_19.via U21
       clear Xbx1_19 Xbx1_19k0 Xbx1_19k1 Xbx1_19k2 Xbx1_19k3 Xbx1_19k4
       have ⟨Xbx1_21k0, Xbx1_21k1, Xbx1_21k2, Xbx1_21k3, Xbx1_21k4⟩ := bx5 Xbx1_21
       clear U21
       clear B19
       cases h22 : inR a0.N (0 : Int) (100000 : Int) with
       | true =>
        have ⟨h22a, h22b⟩ := inR_true h22
        replace h22 := Lib.hid h22
        obtain ⟨bh23, eh23⟩ : ∃ b, a0.Undo.toList.isEmpty = b := ⟨_, rfl⟩
        rcases Bool.eq_false_or_eq_true bh23 with h23 | h23
        ·
         obtain rfl : r = true := hr.out.symm.trans (by simp only [iActOk_p, eh2, h2, eh3, h3, eh8, h8, eh13, h13, eh18, h18, h20.out, h22.out, eh23, h23, cond_true, cond_false])
         go_wp2
         go_ret
         exact rbk (by simp (maxDischargeDepth := 9) [B21])
        ·
         obtain rfl : r = false := hr.out.symm.trans (by simp only [iActOk_p, eh2, h2, eh3, h3, eh8, h8, eh13, h13, eh18, h18, h20.out, h22.out, eh23, h23, cond_true, cond_false])
         go_wp2
         go_ret
         exact rbk (by simp (maxDischargeDepth := 9) [B21])
       | false =>
        replace h22 := Lib.hid h22
        obtain rfl : r = false := hr.out.symm.trans (by simp only [iActOk_p, eh2, h2, eh3, h3, eh8, h8, eh13, h13, eh18, h18, h20.out, h22.out, cond_true, cond_false])
        go_wp2
        go_ret
        exact rbk (by simp (maxDischargeDepth := 9) [B21])
      | false =>
       replace h20 := Lib.hid h20
       obtain rfl : r = false := hr.out.symm.trans (by simp only [iActOk_p, eh2, h2, eh3, h3, eh8, h8, eh13, h13, eh18, h18, h20.out, cond_true, cond_false])
       go_wp2
       go_ret
       exact rbk (by simp (maxDischargeDepth := 9) [B19])
     ·
      obtain ⟨bh24, eh24⟩ : ∃ b, (a0.Kind == 5) = b := ⟨_, rfl⟩
      rcases Bool.eq_false_or_eq_true bh24 with h24 | h24
      ·
       obtain ⟨bh25, eh25⟩ : ∃ b, (((a0.Args.length : Nat) : Int) == 0) = b := ⟨_, rfl⟩
       rcases Bool.eq_false_or_eq_true bh25 with h25 | h25
       ·
        have gh25 : Hid (a0.Args.length = 0) := Lib.hid (by have z := eh25.trans h25; simp only [beq_iff_eq] at z; omega)
        obtain ⟨bh26, eh26⟩ : ∃ b, (a0.N == 0) = b := ⟨_, rfl⟩
        rcases Bool.eq_false_or_eq_true bh26 with h26 | h26
        ·
         obtain ⟨bh27, eh27⟩ : ∃ b, a0.Undo.toList.isEmpty = b := ⟨_, rfl⟩
         rcases Bool.eq_false_or_eq_true bh27 with h27 | h27
         ·
          obtain rfl : r = true := hr.out.symm.trans (by simp only [iActOk_p, eh2, h2, eh3, h3, eh8, h8, eh13, h13, eh18, h18, eh24, h24, eh25, h25, eh26, h26, eh27, h27, cond_true, cond_false])
          go_wp2
          go_ret
          exact rbk (by simp (maxDischargeDepth := 9))
         ·
          obtain rfl : r = false := hr.out.symm.trans (by simp only [iActOk_p, eh2, h2, eh3, h3, eh8, h8, eh13, h13, eh18, h18, eh24, h24, eh25, h25, eh26, h26, eh27, h27, cond_true, cond_false])
          go_wp2
          go_ret
          exact rbk (by simp (maxDischargeDepth := 9))
        ·
         obtain rfl : r = false := hr.out.symm.trans (by simp only [iActOk_p, eh2, h2, eh3, h3, eh8, h8, eh13, h13, eh18, h18, eh24, h24, eh25, h25, eh26, h26, cond_true, cond_false])
         go_wp2
         go_ret
         exact rbk (by simp (maxDischargeDepth := 9))
       ·
        obtain rfl : r = false := hr.out.symm.trans (by simp only [iActOk_p, eh2, h2, eh3, h3, eh8, h8, eh13, h13, eh18, h18, eh24, h24, eh25, h25, cond_true, cond_false])
        go_wp2
        go_ret
        exact rbk (by simp (maxDischargeDepth := 9))
      ·
       obtain ⟨bh28, eh28⟩ : ∃ b, (a0.Kind == 6) = b := ⟨_, rfl⟩
       rcases Bool.eq_false_or_eq_true bh28 with h28 | h28
       ·
        obtain ⟨bh29, eh29⟩ : ∃ b, (((a0.Args.length : Nat) : Int) == 0) = b := ⟨_, rfl⟩
        rcases Bool.eq_false_or_eq_true bh29 with h29 | h29
        ·
         have gh29 : Hid (a0.Args.length = 0) := Lib.hid (by have z := eh29.trans h29; simp only [beq_iff_eq] at z; omega)
         obtain ⟨bh30, eh30⟩ : ∃ b, (a0.N == 0) = b := ⟨_, rfl⟩
         rcases Bool.eq_false_or_eq_true bh30 with h30 | h30
         ·
          obtain ⟨bh31, eh31⟩ : ∃ b, a0.Undo.toList.isEmpty = b := ⟨_, rfl⟩
          rcases Bool.eq_false_or_eq_true bh31 with h31 | h31
          ·
           obtain rfl : r = true := hr.out.symm.trans (by simp only [iActOk_p, eh2, h2, eh3, h3, eh8, h8, eh13, h13, eh18, h18, eh24, h24, eh28, h28, eh29, h29, eh30, h30, eh31, h31, cond_true, cond_false])
           go_wp2
           go_ret
           exact rbk (by simp (maxDischargeDepth := 9))
          ·
           obtain rfl : r = false := hr.out.symm.trans (by simp only [iActOk_p, eh2, h2, eh3, h3, eh8, h8, eh13, h13, eh18, h18, eh24, h24, eh28, h28, eh29, h29, eh30, h30, eh31, h31, cond_true, cond_false])
           go_wp2
           go_ret
           exact rbk (by simp (maxDischargeDepth := 9))
         ·
          obtain rfl : r = false := hr.out.symm.trans (by simp only [iActOk_p, eh2, h2, eh3, h3, eh8, h8, eh13, h13, eh18, h18, eh24, h24, eh28, h28, eh29, h29, eh30, h30, cond_true, cond_false])
          go_wp2
          go_ret
          exact rbk (by simp (maxDischargeDepth := 9))
        ·
         obtain rfl : r = false := hr.out.symm.trans (by simp only [iActOk_p, eh2, h2, eh3, h3, eh8, h8, eh13, h13, eh18, h18, eh24, h24, eh28, h28, eh29, h29, cond_true, cond_false])
         go_wp2
         go_ret
         exact rbk (by simp (maxDischargeDepth := 9))
       ·
        obtain rfl : r = false := hr.out.symm.trans (by simp only [iActOk_p, eh2, h2, eh3, h3, eh8, h8, eh13, h13, eh18, h18, eh24, h24, eh28, h28, cond_true, cond_false])
        go_wp2
        go_ret
        exact rbk (by simp (maxDischargeDepth := 9))
 ·
  obtain ⟨bh32, eh32⟩ : ∃ b, (a0.Kind == 1) = b := ⟨_, rfl⟩
  rcases Bool.eq_false_or_eq_true bh32 with h32 | h32
  ·
   go_wp2_with fail
   refine (iargsOk_w a0 _ _ (s0_2.to (by simp (maxDischargeDepth := 9))) ok_a0).mono ?_
   rintro e w33 ⟨rfl, hb33⟩
   have B33 := via (w0 := w) (by simp (maxDischargeDepth := 9)) hb33
   have Xbx1_33 : Bx w33 (w.heap.size) [.int .i64 a0.Kind, .string a0.Name, .slice p0_2 a0.Args.length c0_2, .int .i64 a0.N, .string a0.Undo] := Bx.via (by simp (maxDischargeDepth := 9)) hb33
   have ⟨Xbx1_33k0, Xbx1_33k1, Xbx1_33k2, Xbx1_33k3, Xbx1_33k4⟩ := bx5 Xbx1_33
   cases h34 : iargsOk_p a0 with
   | true =>
    replace h34 := Lib.hid h34
    obtain ⟨bh35, eh35⟩ : ∃ b, (a0.N == 0) = b := ⟨_, rfl⟩
    rcases Bool.eq_false_or_eq_true bh35 with h35 | h35
    ·
     obtain ⟨bh36, eh36⟩ : ∃ b, a0.Undo.toList.isEmpty = b := ⟨_, rfl⟩
     rcases Bool.eq_false_or_eq_true bh36 with h36 | h36
     ·
      obtain rfl : r = true := hr.out.symm.trans (by simp only [iActOk_p, eh2, h2, eh32, h32, h34.out, eh35, h35, eh36, h36, cond_true, cond_false])
      go_wp2
      go_ret
      exact rbk (by simp (maxDischargeDepth := 9) [B33])
     ·
      obtain rfl : r = false := hr.out.symm.trans (by simp only [iActOk_p, eh2, h2, eh32, h32, h34.out, eh35, h35, eh36, h36, cond_true, cond_false])
      go_wp2
      go_ret
      exact rbk (by simp (maxDischargeDepth := 9) [B33])
    ·
     obtain rfl : r = false := hr.out.symm.trans (by simp only [iActOk_p, eh2, h2, eh32, h32, h34.out, eh35, h35, cond_true, cond_false])
     go_wp2
     go_ret
     exact rbk (by simp (maxDischargeDepth := 9) [B33])
   | false =>
    replace h34 := Lib.hid h34
    obtain rfl : r = false := hr.out.symm.trans (by simp only [iActOk_p, eh2, h2, eh32, h32, h34.out, cond_true, cond_false])
    go_wp2
    go_ret
    exact rbk (by simp (maxDischargeDepth := 9) [B33])
  ·
   obtain ⟨bh37, eh37⟩ : ∃ b, (a0.Kind == 2) = b := ⟨_, rfl⟩
   rcases Bool.eq_false_or_eq_true bh37 with h37 | h37
   ·
    obtain rfl : r = false := hr.out.symm.trans (by simp only [iActOk_p, eh2, h2, eh32, h32, eh37, h37, cond_true, cond_false])
    go_wp2
    go_ret
    exact rbk (by simp (maxDischargeDepth := 9))
   ·
    obtain ⟨bh38, eh38⟩ : ∃ b, (a0.Kind == 3) = b := ⟨_, rfl⟩
    rcases Bool.eq_false_or_eq_true bh38 with h38 | h38
    ·
     go_wp2_with fail
     refine (iargsOk_w a0 _ _ (s0_2.to (by simp (maxDischargeDepth := 9))) ok_a0).mono ?_
     rintro e w39 ⟨rfl, hb39⟩
     have B39 := via (w0 := w) (by simp (maxDischargeDepth := 9)) hb39
     have Xbx1_39 : Bx w39 (w.heap.size) [.int .i64 a0.Kind, .string a0.Name, .slice p0_2 a0.Args.length c0_2, .int .i64 a0.N, .string a0.Undo] := Bx.via (by simp (maxDischargeDepth := 9)) hb39
     have ⟨Xbx1_39k0, Xbx1_39k1, Xbx1_39k2, Xbx1_39k3, Xbx1_39k4⟩ := bx5 Xbx1_39
     cases h40 : iargsOk_p a0 with
     | true =>
      replace h40 := Lib.hid h40
      obtain ⟨bh41, eh41⟩ : ∃ b, (a0.N == 0) = b := ⟨_, rfl⟩
      rcases Bool.eq_false_or_eq_true bh41 with h41 | h41
      ·
       go_wp2_with fail
       refine (iisUndo_w a0.Undo  _ ok_a0.2.2.2).mono ?_
       rintro e w42 ⟨rfl, hb42⟩
       have B42 := via (w0 := w) (by simp (maxDischargeDepth := 9) [B39]) hb42
       have U42 : Below w39.heap.size w39 w42 := via (by simp (maxDischargeDepth := 9)) hb42
       have Xbx1_42 := Xbx1_39.via U42
       clear Xbx1_39 Xbx1_39k0 Xbx1_39k1 Xbx1_39k2 Xbx1_39k3 Xbx1_39k4
       have ⟨Xbx1_42k0, Xbx1_42k1, Xbx1_42k2, Xbx1_42k3, Xbx1_42k4⟩ := bx5 Xbx1_42
       clear U42
       clear B39
       obtain rfl : r = iisUndo_p a0.Undo := hr.out.symm.trans (by simp only [iActOk_p, eh2, h2, eh32, h32, eh37, h37, eh38, h38, h40.out, eh41, h41, cond_true, cond_false])
       go_wp2
       go_ret
       exact rbk (by simp (maxDischargeDepth := 9) [B42])
      ·
       obtain rfl : r = false := hr.out.symm.trans (by simp only [iActOk_p, eh2, h2, eh32, h32, eh37, h37, eh38, h38, h40.out, eh41, h41, cond_true, cond_false])
       go_wp2
       go_ret
       exact rbk (by simp (maxDischargeDepth := 9) [B39])
     | false =>
      replace h40 := Lib.hid h40
      obtain rfl : r = false := hr.out.symm.trans (by simp only [iActOk_p, eh2, h2, eh32, h32, eh37, h37, eh38, h38, h40.out, cond_true, cond_false])
      go_wp2
      go_ret
      exact rbk (by simp (maxDischargeDepth := 9) [B39])
    ·
     obtain ⟨bh43, eh43⟩ : ∃ b, (a0.Kind == 4) = b := ⟨_, rfl⟩
     rcases Bool.eq_false_or_eq_true bh43 with h43 | h43
     ·
      go_wp2_with fail
      refine (iargsOk_w a0 _ _ (s0_2.to (by simp (maxDischargeDepth := 9))) ok_a0).mono ?_
      rintro e w44 ⟨rfl, hb44⟩
      have B44 := via (w0 := w) (by simp (maxDischargeDepth := 9)) hb44
      have Xbx1_44 : Bx w44 (w.heap.size) [.int .i64 a0.Kind, .string a0.Name, .slice p0_2 a0.Args.length c0_2, .int .i64 a0.N, .string a0.Undo] := Bx.via (by simp (maxDischargeDepth := 9)) hb44
      have ⟨Xbx1_44k0, Xbx1_44k1, Xbx1_44k2, Xbx1_44k3, Xbx1_44k4⟩ := bx5 Xbx1_44
      cases h45 : iargsOk_p a0 with
      | true =>
       replace h45 := Lib.hid h45
       go_wp2_with fail
       refine (iinRange_w a0.N (0 : Int) (100000 : Int)  _ ).mono ?_
       rintro e w46 ⟨rfl, hb46⟩
       have B46 := via (w0 := w) (by simp (maxDischargeDepth := 9) [B44]) hb46
       have U46 : Below w44.heap.size w44 w46 := via (by simp (maxDischargeDepth := 9)) hb46
       have Xbx1_46 := Xbx1_44.via U46
       clear Xbx1_44 Xbx1_44k0 Xbx1_44k1 Xbx1_44k2 Xbx1_44k3 Xbx1_44k4
       have ⟨Xbx1_46k0, Xbx1_46k1, Xbx1_46k2, Xbx1_46k3, Xbx1_46k4⟩ := bx5 Xbx1_46
       clear U46
       clear B44
       cases h47 : inR a0.N (0 : Int) (100000 : Int) with
       | true =>
        have ⟨h47a, h47b⟩ := inR_true h47
        replace h47 := Lib.hid h47
        obtain ⟨bh48, eh48⟩ : ∃ b, a0.Undo.toList.isEmpty = b := ⟨_, rfl⟩
        rcases Bool.eq_false_or_eq_true bh48 with h48 | h48
        ·
         obtain rfl : r = true := hr.out.symm.trans (by simp only [iActOk_p, eh2, h2, eh32, h32, eh37, h37, eh38, h38, eh43, h43, h45.out, h47.out, eh48, h48, cond_true, cond_false])
         go_wp2
         go_ret
         exact rbk (by simp (maxDischargeDepth := 9) [B46])
        ·
         obtain rfl : r = false := hr.out.symm.trans (by simp only [iActOk_p, eh2, h2, eh32, h32, eh37, h37, eh38, h38, eh43, h43, h45.out, h47.out, eh48, h48, cond_true, cond_false])
         go_wp2
         go_ret
         exact rbk (by simp (maxDischargeDepth := 9) [B46])
       | false =>
        replace h47 := Lib.hid h47
        obtain rfl : r = false := hr.out.symm.trans (by simp only [iActOk_p, eh2, h2, eh32, h32, eh37, h37, eh38, h38, eh43, h43, h45.out, h47.out, cond_true, cond_false])
        go_wp2
        go_ret
        exact rbk (by simp (maxDischargeDepth := 9) [B46])
      | false =>
       replace h45 := Lib.hid h45
       obtain rfl : r = false := hr.out.symm.trans (by simp only [iActOk_p, eh2, h2, eh32, h32, eh37, h37, eh38, h38, eh43, h43, h45.out, cond_true, cond_false])
       go_wp2
       go_ret
       exact rbk (by simp (maxDischargeDepth := 9) [B44])
     ·
      obtain ⟨bh49, eh49⟩ : ∃ b, (a0.Kind == 5) = b := ⟨_, rfl⟩
      rcases Bool.eq_false_or_eq_true bh49 with h49 | h49
      ·
       obtain rfl : r = false := hr.out.symm.trans (by simp only [iActOk_p, eh2, h2, eh32, h32, eh37, h37, eh38, h38, eh43, h43, eh49, h49, cond_true, cond_false])
       go_wp2
       go_ret
       exact rbk (by simp (maxDischargeDepth := 9))
      ·
       obtain ⟨bh50, eh50⟩ : ∃ b, (a0.Kind == 6) = b := ⟨_, rfl⟩
       rcases Bool.eq_false_or_eq_true bh50 with h50 | h50
       ·
        obtain rfl : r = false := hr.out.symm.trans (by simp only [iActOk_p, eh2, h2, eh32, h32, eh37, h37, eh38, h38, eh43, h43, eh49, h49, eh50, h50, cond_true, cond_false])
        go_wp2
        go_ret
        exact rbk (by simp (maxDischargeDepth := 9))
       ·
        obtain rfl : r = false := hr.out.symm.trans (by simp only [iActOk_p, eh2, h2, eh32, h32, eh37, h37, eh38, h38, eh43, h43, eh49, h49, eh50, h50, cond_false])
        go_wp2
        go_ret
        exact rbk (by simp (maxDischargeDepth := 9))

-- slices.Index[[]string,string]
def slices_Index_string_p_b1 (a0 : List ByteArray) (a1 : ByteArray) (k1 : Nat) (_ : Unit) : St (Int) (Unit) := bif (a1.toList == (gt a0 k1).toList) then (.ret (k1 : Int)) else (.go ())
def slices_Index_string_p (a0 : List ByteArray) (a1 : ByteArray) : Int := match rounds (slices_Index_string_p_b1 a0 a1) a0.length () with | .ret r => r | .brk _ => default | .go _ => (-1 : Int)
set_option maxHeartbeats 1000000 in
set_option maxRecDepth 20000 in
theorem slices_Index_string_w (a0 : List ByteArray) (a1 : ByteArray) (v0_0 : Value) (w : World) (s0_0 : Sl w a0 v0_0) :
    Calls Tryz.prog 319 #[v0_0, .string a1] w (RetI (slices_Index_string_p a0 a1) w) := by
 obtain ⟨p0_0, c0_0, rfl, hl0_0, -, hk0_0, -⟩ := s0_0.open
 obtain ⟨r, hr⟩ : ∃ r, slices_Index_string_p a0 a1 = r := ⟨_, rfl⟩
 rw [hr]
 replace hr := Lib.hid hr
 go_enter Tryz.func319, Tryz.ntmps319
 go_wp2
 go_loopw [8] (fun i8 wr1 => Below w.heap.size w wr1 ∧ ∃ (k1 : Nat), i8 = .int .i64 k1 ∧ k1 ≤ a0.length ∧ Hid (rounds (slices_Index_string_p_b1 a0 a1) k1 () = .go ())) (fun i8 _ => a0.length - (intOf i8).toNat)
 case atStart => exact ⟨(by simp (maxDischargeDepth := 9)), 0, rfl, by omega, Lib.hid rfl⟩
 case round =>
  rename World => wr1
  obtain ⟨B2, k1, rfl, hk2, hy2⟩ := hrel
  by_cases hlt2 : k1 < a0.length
  ·
   have hi5 : k1 < a0.length := by first | assumption | omega
   obtain ⟨e4b, e4o, rfl, e4bl, e4ok, e4d0⟩ := Sl.gtString s0_0 k1 hi5
   have e4E := Lib.hid e4d0
   clear e4d0
   have e4d0n := cb1 B2 e4bl e4E.out
   obtain ⟨bh6, eh6⟩ : ∃ b, (a1.toList == (gt a0 k1).toList) = b := ⟨_, rfl⟩
   rcases Bool.eq_false_or_eq_true bh6 with h6 | h6
   ·
    have q7 : slices_Index_string_p_b1 a0 a1 k1 () = .ret (k1 : Int) := by simp only [slices_Index_string_p_b1, eh6, h6, cond_true]
    have q8 := rounds_ret hlt2 hy2.out q7
    obtain rfl : r = (k1 : Int) := hr.out.symm.trans (by simp only [slices_Index_string_p, q8])
    go_wp2
    go_ret
    exact ⟨by first | rfl | simp, (by simp (maxDischargeDepth := 9) [B2])⟩
   ·
    have q9 : slices_Index_string_p_b1 a0 a1 k1 () = .go () := by simp only [slices_Index_string_p_b1, eh6, h6, cond_false]
    replace q9 := Lib.hid (rounds_next hy2.out q9)
    go_wp2
    go_roundw
    case rel => exact ⟨(by simp (maxDischargeDepth := 9) [B2]), k1 + 1, by go_num, by omega, q9⟩
    case measure => simp [intOf]; omega
  ·
   obtain rfl : a0.length = k1 := by omega
   obtain rfl : r = (-1 : Int) := hr.out.symm.trans (by simp only [slices_Index_string_p, hy2.out])
   go_wp2
   go_ret
   exact ⟨by first | rfl | simp, (by simp (maxDischargeDepth := 9) [B2])⟩

-- slices.Contains[[]string,string]
def slices_Contains_string_p (a0 : List ByteArray) (a1 : ByteArray) : Bool := bif decide ((0 : Int) ≤ (slices_Index_string_p a0 a1)) then (true) else (false)
set_option maxHeartbeats 1000000 in
set_option maxRecDepth 20000 in
theorem slices_Contains_string_w (a0 : List ByteArray) (a1 : ByteArray) (v0_0 : Value) (w : World) (s0_0 : Sl w a0 v0_0) :
    Calls Tryz.prog 222 #[v0_0, .string a1] w (RetB (slices_Contains_string_p a0 a1) w) := by
 obtain ⟨p0_0, c0_0, rfl, hl0_0, -, hk0_0, -⟩ := s0_0.open
 obtain ⟨r, hr⟩ : ∃ r, slices_Contains_string_p a0 a1 = r := ⟨_, rfl⟩
 rw [hr]
 replace hr := Lib.hid hr
 go_enter Tryz.func222, Tryz.ntmps222
 go_wp2_with fail
 refine (slices_Index_string_w a0 a1 _ _ (s0_0.to (by simp (maxDischargeDepth := 9)))).mono ?_
 rintro e w1 ⟨rfl, hb1⟩
 have B1 := via (w0 := w) (by simp (maxDischargeDepth := 9)) hb1
 by_cases h2 : (0 : Int) ≤ (slices_Index_string_p a0 a1)
 ·
  have h2d := Lib.hid (decide_eq_true h2)
  obtain rfl : r = true := hr.out.symm.trans (by simp only [slices_Contains_string_p, h2d.out, cond_true])
  go_wp2
  go_ret
  exact rbk (by simp (maxDischargeDepth := 9) [B1])
 ·
  have h2d := Lib.hid (decide_eq_false h2)
  obtain rfl : r = false := hr.out.symm.trans (by simp only [slices_Contains_string_p, h2d.out, cond_false])
  go_wp2
  go_ret
  exact rbk (by simp (maxDischargeDepth := 9) [B1])
end Go.Proofs.YthnilnggpbploaaGreat
