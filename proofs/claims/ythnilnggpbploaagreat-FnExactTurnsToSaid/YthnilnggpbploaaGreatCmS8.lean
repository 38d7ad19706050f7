/- Functions that only read, walked (S). Printed by a program. -/
import Derived.Test.YthnilnggpbploaaGreatCmS1
import Derived.Test.YthnilnggpbploaaGreatCmS7
namespace Go.Proofs.YthnilnggpbploaaGreat
open Go.RowKit
open Cel (rd own rd_len rd_one own_rd own_lt rd_below rd_mono own_keep)

-- spec.l20Fired
def sl20Fired_p_b2 (a0 : DefD) (a1 : InstD) (k3 : Nat) (k16 : Nat) (_ : Unit) : St (Bool) (Unit) := bif (sFactOf_p a1.S (gt ((gt a1.Fired k3).Ids) k16)).2 then (.go ()) else (.ret false)
def sl20Fired_p_b1 (a0 : DefD) (a1 : InstD) (k3 : Nat) (_ : Unit) : St (Bool) (Unit) := bif sl15Rule_p a0 (gt a1.Fired k3) then (bif ((((gt a1.Fired k3).Binds.length : Nat) : Int) == 0) then (bif ((((gt a1.Fired k3).Ids.length : Nat) : Int) == (sPosCount_p (gt a0.Rules (((gt a1.Fired k3).Rule).toNat)))) then (match rounds (sl20Fired_p_b2 a0 a1 k3) ((gt a1.Fired k3).Ids.length) () with | .ret r => .ret r | .brk _ => .brk default | .go _ => .go ()) else (.ret false)) else (.ret false)) else (.ret false)
def sl20Fired_p (a0 : DefD) (a1 : InstD) : Bool := match rounds (sl20Fired_p_b1 a0 a1) a1.Fired.length () with | .ret r => r | .brk _ => default | .go _ => bif decide (a1.Fired.length ≤ 1000) then (true) else (false)
set_option maxHeartbeats 1000000 in
set_option maxRecDepth 20000 in
theorem sl20Fired_w (a0 : DefD) (a1 : InstD) (v0_1 : Value) (v1_0 : Value) (v1_2 : Value) (v1_3 : Value) (v1_4 : Value) (v1_5 : Value) (w : World) (s0_1 : Sl w a0.Rules v0_1) (s1_0 : Sl w a1.S.Items v1_0) (s1_2 : Sl w a1.Fired v1_2) (s1_3 : Sl w a1.Tasks v1_3) (s1_4 : Sl w a1.Timers v1_4) (s1_5 : Sl w a1.Undos v1_5) (hz_a1 : sznInst a1 ≤ 1048576) :
    Calls Tryz.prog 161 #[.agg #[.string a0.Name, v0_1], .agg #[v1_0, .int .i64 a1.S.Next, v1_2, v1_3, v1_4, v1_5, .int .i64 a1.State, .int .i64 a1.Now]] w (RetB (sl20Fired_p a0 a1) w) := by
 obtain ⟨p0_1, c0_1, rfl, hl0_1, -, hk0_1, -⟩ := s0_1.open
 obtain ⟨p1_0, c1_0, rfl, hl1_0, -, hk1_0, -⟩ := s1_0.open
 obtain ⟨p1_2, c1_2, rfl, hl1_2, -, hk1_2, -⟩ := s1_2.open
 obtain ⟨p1_3, c1_3, rfl, hl1_3, -, hk1_3, -⟩ := s1_3.open
 obtain ⟨p1_4, c1_4, rfl, hl1_4, -, hk1_4, -⟩ := s1_4.open
 obtain ⟨p1_5, c1_5, rfl, hl1_5, -, hk1_5, -⟩ := s1_5.open
 obtain ⟨r, hr⟩ : ∃ r, sl20Fired_p a0 a1 = r := ⟨_, rfl⟩
 rw [hr]
 replace hr := Lib.hid hr
 go_enter Tryz.func161, Tryz.ntmps161
 go_wp2
 go_loopw [5] (fun i5 wr3 => Below w.heap.size w wr3 ∧ Bx wr3 (w.heap.size) [.string a0.Name, .slice p0_1 a0.Rules.length c0_1] ∧ Bx wr3 (w.heap.size + 1) [.slice p1_0 a1.S.Items.length c1_0, .int .i64 a1.S.Next, .slice p1_2 a1.Fired.length c1_2, .slice p1_3 a1.Tasks.length c1_3, .slice p1_4 a1.Timers.length c1_4, .slice p1_5 a1.Undos.length c1_5, .int .i64 a1.State, .int .i64 a1.Now] ∧ ∃ (k3 : Nat), i5 = .int .i64 k3 ∧ k3 ≤ a1.Fired.length ∧ Hid (rounds (sl20Fired_p_b1 a0 a1) k3 () = .go ())) (fun i5 _ => a1.Fired.length - (intOf i5).toNat)
 case atStart => exact ⟨(by simp (maxDischargeDepth := 9)), (by simp (maxDischargeDepth := 9)), (by simp (maxDischargeDepth := 9)), 0, rfl, by omega, Lib.hid rfl⟩
 case round =>
  rename World => wr3
  obtain ⟨B4, Xbx1_4, Xbx2_4, k3, rfl, hk4, hy4⟩ := hrel
  have ⟨Xbx1_4k0, Xbx1_4k1⟩ := bx2 Xbx1_4
  have ⟨Xbx2_4k0, Xbx2_4k1, Xbx2_4k2, Xbx2_4k3, Xbx2_4k4, Xbx2_4k5, Xbx2_4k6, Xbx2_4k7⟩ := bx8 Xbx2_4
  by_cases hlt4 : k3 < a1.Fired.length
  ·
   have hi7 : k3 < a1.Fired.length := by first | assumption | omega
   obtain ⟨e6b, e6o, ue6_1, ue6_2, rfl, e6bl, e6ok, ⟨e6d0, e6d1, e6d2⟩, te6_1, te6_2⟩ := Sl.gtMatch s1_2 k3 hi7
   obtain ⟨pe6_1, ce6_1, rfl, hlpe6_1, -⟩ := te6_1.open
   obtain ⟨pe6_2, ce6_2, rfl, hlpe6_2, -⟩ := te6_2.open
   have e6E := Lib.hid (And.intro e6d0 (And.intro e6d1 e6d2))
   clear e6d0 e6d1 e6d2
   have ⟨e6d0n, e6d1n, e6d2n⟩ := cb3 B4 e6bl e6E.out
   cases h9 : sl15Rule_p a0 (gt a1.Fired k3) with
   | true =>
    have ⟨h9a, h9b⟩ := sl15Rule_true h9
    replace h9 := Lib.hid h9
    have hi11 : ((gt a1.Fired k3).Rule).toNat < a0.Rules.length := by first | assumption | omega
    obtain ⟨e10b, e10o, ue10_2, ue10_3, ue10_4, rfl, e10bl, e10ok, ⟨e10d0, e10d1, e10d2, e10d3, e10d4⟩, te10_2, te10_3, te10_4⟩ := Sl.gtRule s0_1 (((gt a1.Fired k3).Rule).toNat) hi11
    obtain ⟨pe10_2, ce10_2, rfl, hlpe10_2, -⟩ := te10_2.open
    obtain ⟨pe10_3, ce10_3, rfl, hlpe10_3, -⟩ := te10_3.open
    obtain ⟨pe10_4, ce10_4, rfl, hlpe10_4, -⟩ := te10_4.open
    have e10E := Lib.hid (And.intro e10d0 (And.intro e10d1 (And.intro e10d2 (And.intro e10d3 e10d4))))
    clear e10d0 e10d1 e10d2 e10d3 e10d4
    have ⟨e10d0n, e10d1n, e10d2n, e10d3n, e10d4n⟩ := cb5 B4 e10bl e10E.out
    go_wp2
    refine wp_region_noPanic ?_
    refine wp_region_held_drew (S := (fun w' => w'.cell? ⟨w.heap.size, 0, none⟩ = some (.string a0.Name) ∧ w'.cell? ⟨w.heap.size, 1, none⟩ = some (.slice (some ⟨e10b, e10o, none⟩) a0.Rules.length c0_1) ∧ w'.cell? ⟨w.heap.size + 1, 0, none⟩ = some (.slice p1_0 a1.S.Items.length c1_0) ∧ w'.cell? ⟨w.heap.size + 1, 1, none⟩ = some (.int .i64 a1.S.Next) ∧ w'.cell? ⟨w.heap.size + 1, 2, none⟩ = some (.slice (some ⟨e6b, e6o, none⟩) a1.Fired.length c1_2) ∧ w'.cell? ⟨w.heap.size + 1, 3, none⟩ = some (.slice p1_3 a1.Tasks.length c1_3) ∧ w'.cell? ⟨w.heap.size + 1, 4, none⟩ = some (.slice p1_4 a1.Timers.length c1_4) ∧ w'.cell? ⟨w.heap.size + 1, 5, none⟩ = some (.slice p1_5 a1.Undos.length c1_5) ∧ w'.cell? ⟨w.heap.size + 1, 6, none⟩ = some (.int .i64 a1.State) ∧ w'.cell? ⟨w.heap.size + 1, 7, none⟩ = some (.int .i64 a1.Now) ∧ w'.cell? ⟨wr3.heap.size, 0, none⟩ = some (.int .i64 ((gt a1.Fired k3).Rule)) ∧ w'.cell? ⟨wr3.heap.size, 1, none⟩ = some (.slice pe6_1 ((gt a1.Fired k3).Ids.length) ce6_1) ∧ w'.cell? ⟨wr3.heap.size, 2, none⟩ = some (.slice pe6_2 ((gt a1.Fired k3).Binds.length) ce6_2) ∧ w'.cell? ⟨e6b, e6o + k3 * 3, none⟩ = some (.int .i64 ((gt a1.Fired k3).Rule)) ∧ w'.cell? ⟨e6b, e6o + k3 * 3 + 1, none⟩ = some (.slice pe6_1 ((gt a1.Fired k3).Ids.length) ce6_1) ∧ w'.cell? ⟨e6b, e6o + k3 * 3 + 2, none⟩ = some (.slice pe6_2 ((gt a1.Fired k3).Binds.length) ce6_2) ∧ w'.cell? ⟨e10b, e10o + (((gt a1.Fired k3).Rule).toNat) * 5, none⟩ = some (.string ((gt a0.Rules (((gt a1.Fired k3).Rule).toNat)).Name)) ∧ w'.cell? ⟨e10b, e10o + (((gt a1.Fired k3).Rule).toNat) * 5 + 1, none⟩ = some (.int .i64 ((gt a0.Rules (((gt a1.Fired k3).Rule).toNat)).Sal)) ∧ w'.cell? ⟨e10b, e10o + (((gt a1.Fired k3).Rule).toNat) * 5 + 2, none⟩ = some (.slice pe10_2 ((gt a0.Rules (((gt a1.Fired k3).Rule).toNat)).Pats.length) ce10_2) ∧ w'.cell? ⟨e10b, e10o + (((gt a1.Fired k3).Rule).toNat) * 5 + 3, none⟩ = some (.slice pe10_3 ((gt a0.Rules (((gt a1.Fired k3).Rule).toNat)).Conds.length) ce10_3) ∧ w'.cell? ⟨e10b, e10o + (((gt a1.Fired k3).Rule).toNat) * 5 + 4, none⟩ = some (.slice pe10_4 ((gt a0.Rules (((gt a1.Fired k3).Rule).toNat)).Acts.length) ce10_4))) (by kernel_rfl) ?_ (fun hHeld0 => ?_)
    · go_keep
    refine tt 0 ?_
    simp only [Act.put, sa, s0, ss]
    refine tt 1 ?_
    simp only [Act.put, sa, s0, ss]
    refine wpAnyH_ready (rs := [2]) (by kernel_rfl) (by simp) ?_
    refine' AllReadyH.cons (o := _) ?hi1059_2 (fun K hK => ?_) AllReadyH.nil
    case hi1059_2 => simp only [List.getElem?_toArray, List.getElem?_cons_succ, List.getElem?_cons_zero]; exact rfl
    go_simp
    go_at_call 204
    refine (sl15Rule_w a0 (gt a1.Fired k3) _ _ _ _ (s0_1.to (by simp (maxDischargeDepth := 9) [B4])) (te6_1.to (by simp (maxDischargeDepth := 9) [B4])) (te6_2.to (by simp (maxDischargeDepth := 9) [B4]))).mono ?_
    rintro e w12 ⟨rfl, hb12⟩
    have B12 := via (w0 := w) (by simp (maxDischargeDepth := 9) [B4]) hb12
    have U12 : Below wr3.heap.size wr3 w12 := via (by simp (maxDischargeDepth := 9)) hb12
    have Xbx1_12 := Xbx1_4.via U12
    clear Xbx1_4 Xbx1_4k0 Xbx1_4k1
    have ⟨Xbx1_12k0, Xbx1_12k1⟩ := bx2 Xbx1_12
    have Xbx2_12 := Xbx2_4.via U12
    clear Xbx2_4 Xbx2_4k0 Xbx2_4k1 Xbx2_4k2 Xbx2_4k3 Xbx2_4k4 Xbx2_4k5 Xbx2_4k6 Xbx2_4k7
    have ⟨Xbx2_12k0, Xbx2_12k1, Xbx2_12k2, Xbx2_12k3, Xbx2_12k4, Xbx2_12k5, Xbx2_12k6, Xbx2_12k7⟩ := bx8 Xbx2_12
    have Xbx8_12 : Bx w12 (wr3.heap.size) [.int .i64 ((gt a1.Fired k3).Rule), .slice pe6_1 ((gt a1.Fired k3).Ids.length) ce6_1, .slice pe6_2 ((gt a1.Fired k3).Binds.length) ce6_2] := Bx.via (by simp (maxDischargeDepth := 9)) hb12
    have ⟨Xbx8_12k0, Xbx8_12k1, Xbx8_12k2⟩ := bx3 Xbx8_12
    clear e6d0n e6d1n e6d2n
    have ⟨e6d0n, e6d1n, e6d2n⟩ := cb3 B12 e6bl e6E.out
    clear e10d0n e10d1n e10d2n e10d3n e10d4n
    have ⟨e10d0n, e10d1n, e10d2n, e10d3n, e10d4n⟩ := cb5 B12 e10bl e10E.out
    clear U12
    clear B4
    rw [h9.out]
    go_wp2_with fail
    refine hK.out _ _ ?_ (fun hHeld2 => ?_)
    · go_keep
    clear hK K hHeld0
    refine tt 3 ?_
    simp only [Act.put, sa, s0, ss]
    refine tt 4 ?_
    simp only [Act.put, sa, s0, ss]
    refine tt 5 ?_
    simp only [Act.put, sa, s0, ss]
    refine tt 6 ?_
    simp only [Act.put, sa, s0, ss]
    refine tt 7 ?_
    simp only [Act.put, sa, s0, ss]
    obtain ⟨bh13, eh13⟩ : ∃ b, ((((gt a1.Fired k3).Binds.length : Nat) : Int) == 0) = b := ⟨_, rfl⟩
    have nh13 : ((((gt a1.Fired k3).Binds.length : Nat) : Int) != 0) = !bh13 := by rw [← eh13]; rfl
    rcases Bool.eq_false_or_eq_true bh13 with h13 | h13
    ·
     have gh13 : Hid ((gt a1.Fired k3).Binds.length = 0) := Lib.hid (by have z := eh13.trans h13; simp only [beq_iff_eq] at z; omega)
     refine tt 8 ?_
     simp only [Act.put, sa, s0, ss]
     refine tt 9 ?_
     simp only [Act.put, sa, s0, ss]
     refine tt 10 ?_
     simp only [Act.put, sa, s0, ss]
     refine tt 11 ?_
     simp only [Act.put, sa, s0, ss]
     refine tt 12 ?_
     simp only [Act.put, sa, s0, ss]
     refine tt 13 ?_
     simp only [Act.put, sa, s0, ss]
     refine tt 14 ?_
     simp only [Act.put, sa, s0, ss]
     refine tt 15 ?_
     simp only [Act.put, sa, s0, ss]
     refine tt 16 ?_
     simp only [Act.put, sa, s0, ss]
     refine tt 17 ?_
     simp only [Act.put, sa, s0, ss]
     refine tt 18 ?_
     simp only [Act.put, sa, s0, ss]
     refine tt 19 ?_
     simp only [Act.put, sa, s0, ss]
     refine wpAnyH_ready (rs := [20]) (by kernel_rfl) (by simp) ?_
     refine' AllReadyH.cons (o := _) ?hi1060_20 (fun K hK => ?_) AllReadyH.nil
     case hi1060_20 => simp only [List.getElem?_toArray, List.getElem?_cons_succ, List.getElem?_cons_zero]; exact rfl
     go_simp
     go_at_call 205
     refine (sPosCount_w (gt a0.Rules (((gt a1.Fired k3).Rule).toNat)) _ _ _ _ (te10_2.to (by simp (maxDischargeDepth := 9) [B12])) (te10_3.to (by simp (maxDischargeDepth := 9) [B12])) (te10_4.to (by simp (maxDischargeDepth := 9) [B12]))).mono ?_
     rintro e w14 ⟨rfl, hb14⟩
     have B14 := via (w0 := w) (by simp (maxDischargeDepth := 9) [B12]) hb14
     have U14 : Below w12.heap.size w12 w14 := via (by simp (maxDischargeDepth := 9)) hb14
     have Xbx1_14 := Xbx1_12.via U14
     clear Xbx1_12 Xbx1_12k0 Xbx1_12k1
     have ⟨Xbx1_14k0, Xbx1_14k1⟩ := bx2 Xbx1_14
     have Xbx2_14 := Xbx2_12.via U14
     clear Xbx2_12 Xbx2_12k0 Xbx2_12k1 Xbx2_12k2 Xbx2_12k3 Xbx2_12k4 Xbx2_12k5 Xbx2_12k6 Xbx2_12k7
     have ⟨Xbx2_14k0, Xbx2_14k1, Xbx2_14k2, Xbx2_14k3, Xbx2_14k4, Xbx2_14k5, Xbx2_14k6, Xbx2_14k7⟩ := bx8 Xbx2_14
     have Xbx8_14 := Xbx8_12.via U14
     clear Xbx8_12 Xbx8_12k0 Xbx8_12k1 Xbx8_12k2
     have ⟨Xbx8_14k0, Xbx8_14k1, Xbx8_14k2⟩ := bx3 Xbx8_14
     clear e6d0n e6d1n e6d2n
     have ⟨e6d0n, e6d1n, e6d2n⟩ := cb3 B14 e6bl e6E.out
     clear e10d0n e10d1n e10d2n e10d3n e10d4n
     have ⟨e10d0n, e10d1n, e10d2n, e10d3n, e10d4n⟩ := cb5 B14 e10bl e10E.out
     clear U14
     clear B12
     go_wp2_with fail
     refine hK.out _ _ ?_ (fun hHeld20 => ?_)
     · go_keep
     clear hK K hHeld2
     obtain ⟨bh15, eh15⟩ : ∃ b, ((((gt a1.Fired k3).Ids.length : Nat) : Int) == (sPosCount_p (gt a0.Rules (((gt a1.Fired k3).Rule).toNat)))) = b := ⟨_, rfl⟩
     have nh15 : ((((gt a1.Fired k3).Ids.length : Nat) : Int) != (sPosCount_p (gt a0.Rules (((gt a1.Fired k3).Rule).toNat)))) = !bh15 := by rw [← eh15]; rfl
     rcases Bool.eq_false_or_eq_true bh15 with h15 | h15
     ·
      refine tt 21 ?_
      simp only [Act.put, sa, s0, ss]
      refine tt 22 ?_
      simp only [Act.put, sa, s0, ss]
      refine wpAnyH_done (by kernel_rfl) ?_ _
      clear hHeld20
      refine NoPanic.normal ?_
      go_wp2
      go_loopw [7] (fun i7 wr16 => Below w.heap.size w wr16 ∧ Bx wr16 (w.heap.size) [.string a0.Name, .slice (some ⟨e10b, e10o, none⟩) a0.Rules.length c0_1] ∧ Bx wr16 (w.heap.size + 1) [.slice p1_0 a1.S.Items.length c1_0, .int .i64 a1.S.Next, .slice (some ⟨e6b, e6o, none⟩) a1.Fired.length c1_2, .slice p1_3 a1.Tasks.length c1_3, .slice p1_4 a1.Timers.length c1_4, .slice p1_5 a1.Undos.length c1_5, .int .i64 a1.State, .int .i64 a1.Now] ∧ Bx wr16 (wr3.heap.size) [.int .i64 ((gt a1.Fired k3).Rule), .slice pe6_1 ((gt a1.Fired k3).Ids.length) ce6_1, .slice pe6_2 ((gt a1.Fired k3).Binds.length) ce6_2] ∧ ∃ (k16 : Nat), i7 = .int .i64 k16 ∧ k16 ≤ (gt a1.Fired k3).Ids.length ∧ Hid (rounds (sl20Fired_p_b2 a0 a1 k3) k16 () = .go ())) (fun i7 _ => ((gt a1.Fired k3).Ids.length) - (intOf i7).toNat)
      case atStart => exact ⟨(by simp (maxDischargeDepth := 9) [B14]), (by simp (maxDischargeDepth := 9) [Xbx1_14]), (by simp (maxDischargeDepth := 9) [Xbx2_14]), (by simp (maxDischargeDepth := 9) [Xbx8_14]), 0, rfl, by omega, Lib.hid rfl⟩
      case round =>
       rename World => wr16
       clear Xbx1_14 Xbx1_14k0 Xbx1_14k1 Xbx2_14 Xbx2_14k0 Xbx2_14k1 Xbx2_14k2 Xbx2_14k3 Xbx2_14k4 Xbx2_14k5 Xbx2_14k6 Xbx2_14k7 Xbx8_14 Xbx8_14k0 Xbx8_14k1 Xbx8_14k2 B14
       obtain ⟨B17, Xbx1_17, Xbx2_17, Xbx8_17, k16, rfl, hk17, hy17⟩ := hrel
       have ⟨Xbx1_17k0, Xbx1_17k1⟩ := bx2 Xbx1_17
       have ⟨Xbx2_17k0, Xbx2_17k1, Xbx2_17k2, Xbx2_17k3, Xbx2_17k4, Xbx2_17k5, Xbx2_17k6, Xbx2_17k7⟩ := bx8 Xbx2_17
       have ⟨Xbx8_17k0, Xbx8_17k1, Xbx8_17k2⟩ := bx3 Xbx8_17
       clear e6d0n e6d1n e6d2n
       have ⟨e6d0n, e6d1n, e6d2n⟩ := cb3 B17 e6bl e6E.out
       clear e10d0n e10d1n e10d2n e10d3n e10d4n
       have ⟨e10d0n, e10d1n, e10d2n, e10d3n, e10d4n⟩ := cb5 B17 e10bl e10E.out
       by_cases hlt17 : k16 < (gt a1.Fired k3).Ids.length
       ·
        have hi20 : k16 < (gt a1.Fired k3).Ids.length := by first | assumption | omega | (have := gh13.out; omega)
        obtain ⟨e19b, e19o, rfl, e19bl, e19ok, e19d0⟩ := Sl.gtInt te6_1 k16 hi20
        have e19E := Lib.hid e19d0
        clear e19d0
        have e19d0n := cb1 B17 e19bl e19E.out
        go_wp2
        refine wp_region_noPanic ?_
        refine wp_region_held_drew (S := (fun w' => w'.cell? ⟨w.heap.size, 0, none⟩ = some (.string a0.Name) ∧ w'.cell? ⟨w.heap.size, 1, none⟩ = some (.slice (some ⟨e10b, e10o, none⟩) a0.Rules.length c0_1) ∧ w'.cell? ⟨w.heap.size + 1, 0, none⟩ = some (.slice p1_0 a1.S.Items.length c1_0) ∧ w'.cell? ⟨w.heap.size + 1, 1, none⟩ = some (.int .i64 a1.S.Next) ∧ w'.cell? ⟨w.heap.size + 1, 2, none⟩ = some (.slice (some ⟨e6b, e6o, none⟩) a1.Fired.length c1_2) ∧ w'.cell? ⟨w.heap.size + 1, 3, none⟩ = some (.slice p1_3 a1.Tasks.length c1_3) ∧ w'.cell? ⟨w.heap.size + 1, 4, none⟩ = some (.slice p1_4 a1.Timers.length c1_4) ∧ w'.cell? ⟨w.heap.size + 1, 5, none⟩ = some (.slice p1_5 a1.Undos.length c1_5) ∧ w'.cell? ⟨w.heap.size + 1, 6, none⟩ = some (.int .i64 a1.State) ∧ w'.cell? ⟨w.heap.size + 1, 7, none⟩ = some (.int .i64 a1.Now) ∧ w'.cell? ⟨wr3.heap.size, 0, none⟩ = some (.int .i64 ((gt a1.Fired k3).Rule)) ∧ w'.cell? ⟨wr3.heap.size, 1, none⟩ = some (.slice (some ⟨e19b, e19o, none⟩) ((gt a1.Fired k3).Ids.length) ce6_1) ∧ w'.cell? ⟨wr3.heap.size, 2, none⟩ = some (.slice pe6_2 ((gt a1.Fired k3).Binds.length) ce6_2) ∧ w'.cell? ⟨e6b, e6o + k3 * 3, none⟩ = some (.int .i64 ((gt a1.Fired k3).Rule)) ∧ w'.cell? ⟨e6b, e6o + k3 * 3 + 1, none⟩ = some (.slice (some ⟨e19b, e19o, none⟩) ((gt a1.Fired k3).Ids.length) ce6_1) ∧ w'.cell? ⟨e6b, e6o + k3 * 3 + 2, none⟩ = some (.slice pe6_2 ((gt a1.Fired k3).Binds.length) ce6_2) ∧ w'.cell? ⟨e10b, e10o + (((gt a1.Fired k3).Rule).toNat) * 5, none⟩ = some (.string ((gt a0.Rules (((gt a1.Fired k3).Rule).toNat)).Name)) ∧ w'.cell? ⟨e10b, e10o + (((gt a1.Fired k3).Rule).toNat) * 5 + 1, none⟩ = some (.int .i64 ((gt a0.Rules (((gt a1.Fired k3).Rule).toNat)).Sal)) ∧ w'.cell? ⟨e10b, e10o + (((gt a1.Fired k3).Rule).toNat) * 5 + 2, none⟩ = some (.slice pe10_2 ((gt a0.Rules (((gt a1.Fired k3).Rule).toNat)).Pats.length) ce10_2) ∧ w'.cell? ⟨e10b, e10o + (((gt a1.Fired k3).Rule).toNat) * 5 + 3, none⟩ = some (.slice pe10_3 ((gt a0.Rules (((gt a1.Fired k3).Rule).toNat)).Conds.length) ce10_3) ∧ w'.cell? ⟨e10b, e10o + (((gt a1.Fired k3).Rule).toNat) * 5 + 4, none⟩ = some (.slice pe10_4 ((gt a0.Rules (((gt a1.Fired k3).Rule).toNat)).Acts.length) ce10_4) ∧ w'.cell? ⟨e19b, e19o + k16, none⟩ = some (.int .i64 (gt ((gt a1.Fired k3).Ids) k16)))) (by kernel_rfl) ?_ (fun hHeld0 => ?_)
        · go_keep
        refine tt 0 ?_
        simp only [Act.put, sa, s0, ss]
        refine tt 1 ?_
        simp only [Act.put, sa, s0, ss]
        refine tt 2 ?_
        simp only [Act.put, sa, s0, ss]
        refine tt 3 ?_
        simp only [Act.put, sa, s0, ss]
        refine tt 4 ?_
        simp only [Act.put, sa, s0, ss]
        refine tt 5 ?_
        simp only [Act.put, sa, s0, ss]
        refine tt 6 ?_
        simp only [Act.put, sa, s0, ss]
        refine wpAnyH_ready (rs := [7, 11]) (by kernel_rfl) (by simp) ?_
        refine' AllReadyH.cons (o := _) ?hi1063_7 (fun K hK => ?st1063_7) (AllReadyH.cons (o := _) ?hi1063_11 (fun K hK => ?st1063_11) AllReadyH.nil)
        case hi1063_7 => simp only [List.getElem?_toArray, List.getElem?_cons_succ, List.getElem?_cons_zero]; exact rfl
        case hi1063_11 => simp only [List.getElem?_toArray, List.getElem?_cons_succ, List.getElem?_cons_zero]; exact rfl
        case st1063_7 =>
         go_simp
         go_at_call 246
         refine (sFactOf_w a1.S (gt ((gt a1.Fired k3).Ids) k16) _ _ (s1_0.to (by simp (maxDischargeDepth := 9) [B17])) (Nat.le_trans (szn_Inst_S a1) hz_a1)).mono ?_
         rintro e w22 ⟨u22_0, rfl, su22_0, hb22⟩
         obtain ⟨pu22_0, cu22_0, rfl, hlu22_0, -⟩ := su22_0.open
         have B22 := via (w0 := w) (by simp (maxDischargeDepth := 9) [B17]) hb22
         have U22 : Below wr16.heap.size wr16 w22 := via (by simp (maxDischargeDepth := 9)) hb22
         have Xbx1_22 := Xbx1_17.via U22
         clear Xbx1_17 Xbx1_17k0 Xbx1_17k1
         have ⟨Xbx1_22k0, Xbx1_22k1⟩ := bx2 Xbx1_22
         have Xbx2_22 := Xbx2_17.via U22
         clear Xbx2_17 Xbx2_17k0 Xbx2_17k1 Xbx2_17k2 Xbx2_17k3 Xbx2_17k4 Xbx2_17k5 Xbx2_17k6 Xbx2_17k7
         have ⟨Xbx2_22k0, Xbx2_22k1, Xbx2_22k2, Xbx2_22k3, Xbx2_22k4, Xbx2_22k5, Xbx2_22k6, Xbx2_22k7⟩ := bx8 Xbx2_22
         have Xbx8_22 := Xbx8_17.via U22
         clear Xbx8_17 Xbx8_17k0 Xbx8_17k1 Xbx8_17k2
         have ⟨Xbx8_22k0, Xbx8_22k1, Xbx8_22k2⟩ := bx3 Xbx8_22
         clear e6d0n e6d1n e6d2n
         have ⟨e6d0n, e6d1n, e6d2n⟩ := cb3 B22 e6bl e6E.out
         clear e10d0n e10d1n e10d2n e10d3n e10d4n
         have ⟨e10d0n, e10d1n, e10d2n, e10d3n, e10d4n⟩ := cb5 B22 e10bl e10E.out
         clear e19d0n
         have e19d0n := cb1 B22 e19bl e19E.out
         clear U22
         clear B17
         go_wp2_with fail
         refine hK.out _ _ ?_ (fun hHeld7 => ?_)
         · go_keep
         clear hK K hHeld0
         refine tt 8 ?_
         simp only [Act.put, sa, s0, ss]
         refine tt 9 ?_
         simp only [Act.put, sa, s0, ss]
         refine tt 10 ?_
         simp only [Act.put, sa, s0, ss]
         refine wpAnyH_ready (rs := [11]) (by kernel_rfl) (by simp) ?_
         refine' AllReadyH.cons (o := _) ?hi1064_11 (fun K hK => ?_) AllReadyH.nil
         case hi1064_11 => simp only [List.getElem?_toArray, List.getElem?_cons_succ, List.getElem?_cons_zero]; exact rfl
         (try go_simp)
         have sz24 : w.heap.size ≤ w22.heap.size := by have := B22.size; omega
         have ne25 : ¬ w.heap.size = w22.heap.size := by have := Xbx1_22.lt; omega
         have ne26 : ¬ w.heap.size + 1 = w22.heap.size := by have := Xbx2_22.lt; omega
         have ne27 : ¬ wr3.heap.size = w22.heap.size := by have := Xbx8_22.lt; omega
         have ne28 : ¬ e6b = w22.heap.size := by have := e6bl; have := B22.size; omega
         have ne29 : ¬ e10b = w22.heap.size := by have := e10bl; have := B22.size; omega
         have ne30 : ¬ e19b = w22.heap.size := by have := e19bl; have := B22.size; omega
         refine hK.out _ _ ?_ (fun hHeld11 => ?_)
         · go_keep
         clear hK K hHeld7
         refine wpAnyH_ready (rs := [12]) (by kernel_rfl) (by simp) ?_
         refine' AllReadyH.cons (o := _) ?hi1065_12 (fun K hK => ?_) AllReadyH.nil
         case hi1065_12 => simp only [List.getElem?_toArray, List.getElem?_cons_succ, List.getElem?_cons_zero]; exact rfl
         (try go_simp)
         refine hK.out _ _ ?_ (fun hHeld12 => ?_)
         · first | (go_keep; done) | (obtain ⟨q0, q1, q2, q3, q4, q5, q6, q7, q8, q9, q10, q11, q12, q13, q14, q15, q16, q17, q18, q19, q20, q21⟩ := hHeld11; exact ⟨(keep_set (keep_set q0 ne25) ne25), (keep_set (keep_set q1 ne25) ne25), (keep_set (keep_set q2 ne26) ne26), (keep_set (keep_set q3 ne26) ne26), (keep_set (keep_set q4 ne26) ne26), (keep_set (keep_set q5 ne26) ne26), (keep_set (keep_set q6 ne26) ne26), (keep_set (keep_set q7 ne26) ne26), (keep_set (keep_set q8 ne26) ne26), (keep_set (keep_set q9 ne26) ne26), (keep_set (keep_set q10 ne27) ne27), (keep_set (keep_set q11 ne27) ne27), (keep_set (keep_set q12 ne27) ne27), (keep_set (keep_set q13 ne28) ne28), (keep_set (keep_set q14 ne28) ne28), (keep_set (keep_set q15 ne28) ne28), (keep_set (keep_set q16 ne29) ne29), (keep_set (keep_set q17 ne29) ne29), (keep_set (keep_set q18 ne29) ne29), (keep_set (keep_set q19 ne29) ne29), (keep_set (keep_set q20 ne29) ne29), (keep_set (keep_set q21 ne30) ne30)⟩)
         clear hK K hHeld11
         refine tt 13 ?_
         simp only [Act.put, sa, s0, ss]
         refine wpAnyH_done (by kernel_rfl) ?_ _
         clear hHeld12
         refine NoPanic.normal ?_
         rcases Bool.eq_false_or_eq_true ((sFactOf_p a1.S (gt ((gt a1.Fired k3).Ids) k16)).2) with h31 | h31
         ·
          have q32 : sl20Fired_p_b2 a0 a1 k3 k16 () = .go () := by simp only [sl20Fired_p_b2, h31, cond_true]
          replace q32 := Lib.hid (rounds_next hy17.out q32)
          go_wp2
          go_roundw
          case rel => exact ⟨(by simp (maxDischargeDepth := 9) [B22]), (by simp (maxDischargeDepth := 9) [Xbx1_22]), (by simp (maxDischargeDepth := 9) [Xbx2_22]), (by simp (maxDischargeDepth := 9) [Xbx8_22]), k16 + 1, by go_num, by omega, q32⟩
          case measure => simp [intOf]; omega
         ·
          have q33 : sl20Fired_p_b2 a0 a1 k3 k16 () = .ret false := by simp only [sl20Fired_p_b2, h31, cond_false]
          have q34 := rounds_ret hlt17 hy17.out q33
          have q35 : sl20Fired_p_b1 a0 a1 k3 () = .ret false := by simp only [sl20Fired_p_b1, h9.out, eh13, h13, eh15, h15, q34, cond_true]
          have q36 := rounds_ret hlt4 hy4.out q35
          obtain rfl : r = false := hr.out.symm.trans (by simp only [sl20Fired_p, q36])
          go_wp2
          go_ret
          exact rbk (by simp (maxDischargeDepth := 9) [B22])
        case st1063_11 =>
         (try go_simp)
         have sz38 : w.heap.size ≤ wr16.heap.size := by have := B17.size; omega
         have ne39 : ¬ w.heap.size = wr16.heap.size := by have := Xbx1_17.lt; omega
         have ne40 : ¬ w.heap.size + 1 = wr16.heap.size := by have := Xbx2_17.lt; omega
         have ne41 : ¬ wr3.heap.size = wr16.heap.size := by have := Xbx8_17.lt; omega
         have ne42 : ¬ e6b = wr16.heap.size := by have := e6bl; have := B17.size; omega
         have ne43 : ¬ e10b = wr16.heap.size := by have := e10bl; have := B17.size; omega
         have ne44 : ¬ e19b = wr16.heap.size := by have := e19bl; have := B17.size; omega
         refine hK.out _ _ ?_ (fun hHeld11 => ?_)
         · go_keep
         clear hK K hHeld0
         refine wpAnyH_ready (rs := [7]) (by kernel_rfl) (by simp) ?_
         refine' AllReadyH.cons (o := _) ?hi1066_7 (fun K hK => ?_) AllReadyH.nil
         case hi1066_7 => simp only [List.getElem?_toArray, List.getElem?_cons_succ, List.getElem?_cons_zero]; exact rfl
         go_simp
         go_at_call 246
         refine (sFactOf_w a1.S (gt ((gt a1.Fired k3).Ids) k16) _ _ (s1_0.to (by simp (maxDischargeDepth := 9) [B17])) (Nat.le_trans (szn_Inst_S a1) hz_a1)).mono ?_
         rintro e w45 ⟨u45_0, rfl, su45_0, hb45⟩
         obtain ⟨pu45_0, cu45_0, rfl, hlu45_0, -⟩ := su45_0.open
         have B45 := via (w0 := w) (by simp (maxDischargeDepth := 9) [B17]) hb45
         have U45 : Below wr16.heap.size wr16 w45 := via (by simp (maxDischargeDepth := 9)) hb45
         have Xbx1_45 := Xbx1_17.via U45
         clear Xbx1_17 Xbx1_17k0 Xbx1_17k1
         have ⟨Xbx1_45k0, Xbx1_45k1⟩ := bx2 Xbx1_45
         have Xbx2_45 := Xbx2_17.via U45
         clear Xbx2_17 Xbx2_17k0 Xbx2_17k1 Xbx2_17k2 Xbx2_17k3 Xbx2_17k4 Xbx2_17k5 Xbx2_17k6 Xbx2_17k7
         have ⟨Xbx2_45k0, Xbx2_45k1, Xbx2_45k2, Xbx2_45k3, Xbx2_45k4, Xbx2_45k5, Xbx2_45k6, Xbx2_45k7⟩ := bx8 Xbx2_45
         have Xbx8_45 := Xbx8_17.via U45
         clear Xbx8_17 Xbx8_17k0 Xbx8_17k1 Xbx8_17k2
         have ⟨Xbx8_45k0, Xbx8_45k1, Xbx8_45k2⟩ := bx3 Xbx8_45
         have Xbx37_45 : Bx w45 (wr16.heap.size) [.string (⟨#[]⟩ : ByteArray), .slice none 0 0] := Bx.via (by simp (maxDischargeDepth := 9)) hb45
         have ⟨Xbx37_45k0, Xbx37_45k1⟩ := bx2 Xbx37_45
         have Xbx37_45z := Xbx37_45.z
         clear e6d0n e6d1n e6d2n
         have ⟨e6d0n, e6d1n, e6d2n⟩ := cb3 B45 e6bl e6E.out
         clear e10d0n e10d1n e10d2n e10d3n e10d4n
         have ⟨e10d0n, e10d1n, e10d2n, e10d3n, e10d4n⟩ := cb5 B45 e10bl e10E.out
         clear e19d0n
         have e19d0n := cb1 B45 e19bl e19E.out
         clear U45
         clear B17
         go_wp2_with fail
         refine hK.out _ _ ?_ (fun hHeld7 => ?_)
         · go_keep
         clear hK K hHeld11
         refine tt 8 ?_
         simp only [Act.put, sa, s0, ss]
         refine tt 9 ?_
         simp only [Act.put, sa, s0, ss]
         refine tt 10 ?_
         simp only [Act.put, sa, s0, ss]
         refine wpAnyH_ready (rs := [12]) (by kernel_rfl) (by simp) ?_
         refine' AllReadyH.cons (o := _) ?hi1067_12 (fun K hK => ?_) AllReadyH.nil
         case hi1067_12 => simp only [List.getElem?_toArray, List.getElem?_cons_succ, List.getElem?_cons_zero]; exact rfl
         (try go_simp)
         refine hK.out _ _ ?_ (fun hHeld12 => ?_)
         · first | (go_keep; done) | (obtain ⟨q0, q1, q2, q3, q4, q5, q6, q7, q8, q9, q10, q11, q12, q13, q14, q15, q16, q17, q18, q19, q20, q21⟩ := hHeld7; exact ⟨(keep_set (keep_set q0 ne39) ne39), (keep_set (keep_set q1 ne39) ne39), (keep_set (keep_set q2 ne40) ne40), (keep_set (keep_set q3 ne40) ne40), (keep_set (keep_set q4 ne40) ne40), (keep_set (keep_set q5 ne40) ne40), (keep_set (keep_set q6 ne40) ne40), (keep_set (keep_set q7 ne40) ne40), (keep_set (keep_set q8 ne40) ne40), (keep_set (keep_set q9 ne40) ne40), (keep_set (keep_set q10 ne41) ne41), (keep_set (keep_set q11 ne41) ne41), (keep_set (keep_set q12 ne41) ne41), (keep_set (keep_set q13 ne42) ne42), (keep_set (keep_set q14 ne42) ne42), (keep_set (keep_set q15 ne42) ne42), (keep_set (keep_set q16 ne43) ne43), (keep_set (keep_set q17 ne43) ne43), (keep_set (keep_set q18 ne43) ne43), (keep_set (keep_set q19 ne43) ne43), (keep_set (keep_set q20 ne43) ne43), (keep_set (keep_set q21 ne44) ne44)⟩)
         clear hK K hHeld7
         refine tt 13 ?_
         simp only [Act.put, sa, s0, ss]
         refine wpAnyH_done (by kernel_rfl) ?_ _
         clear hHeld12
         refine NoPanic.normal ?_
         rcases Bool.eq_false_or_eq_true ((sFactOf_p a1.S (gt ((gt a1.Fired k3).Ids) k16)).2) with h46 | h46
         ·
          have q47 : sl20Fired_p_b2 a0 a1 k3 k16 () = .go () := by simp only [sl20Fired_p_b2, h46, cond_true]
          replace q47 := Lib.hid (rounds_next hy17.out q47)
          go_wp2
          go_roundw
          case rel => exact ⟨(by simp (maxDischargeDepth := 9) [B45, sz38]), (by simp (maxDischargeDepth := 9) [Xbx1_45, ne39]), (by simp (maxDischargeDepth := 9) [Xbx2_45, ne40]), (by simp (maxDischargeDepth := 9) [Xbx8_45, ne41]), k16 + 1, by go_num, by omega, q47⟩
          case measure => simp [intOf]; omega
         ·
          have q48 : sl20Fired_p_b2 a0 a1 k3 k16 () = .ret false := by simp only [sl20Fired_p_b2, h46, cond_false]
          have q49 := rounds_ret hlt17 hy17.out q48
          have q50 : sl20Fired_p_b1 a0 a1 k3 () = .ret false := by simp only [sl20Fired_p_b1, h9.out, eh13, h13, eh15, h15, q49, cond_true]
          have q51 := rounds_ret hlt4 hy4.out q50
          obtain rfl : r = false := hr.out.symm.trans (by simp only [sl20Fired_p, q51])
          go_wp2
          go_ret
          exact rbk (by simp (maxDischargeDepth := 9) [B45, sz38])
       ·
        obtain rfl : (gt a1.Fired k3).Ids.length = k16 := by omega
        have q52 : sl20Fired_p_b1 a0 a1 k3 () = .go () := by simp only [sl20Fired_p_b1, h9.out, eh13, h13, eh15, h15, hy17.out, cond_true]
        replace q52 := Lib.hid (rounds_next hy4.out q52)
        go_wp2
        go_roundw
        case rel => exact ⟨(by simp (maxDischargeDepth := 9) [B17]), (by simp (maxDischargeDepth := 9) [Xbx1_17]), (by simp (maxDischargeDepth := 9) [Xbx2_17]), k3 + 1, by go_num, by omega, q52⟩
        case measure => simp [intOf]; omega
     ·
      refine tt 21 ?_
      simp only [Act.put, sa, s0, ss]
      refine tt 22 ?_
      simp only [Act.put, sa, s0, ss]
      refine wpAnyH_done (by kernel_rfl) ?_ _
      clear hHeld20
      refine NoPanic.normal ?_
      have q53 : sl20Fired_p_b1 a0 a1 k3 () = .ret false := by simp only [sl20Fired_p_b1, h9.out, eh13, h13, eh15, h15, cond_true, cond_false]
      have q54 := rounds_ret hlt4 hy4.out q53
      obtain rfl : r = false := hr.out.symm.trans (by simp only [sl20Fired_p, q54])
      go_wp2
      go_ret
      exact rbk (by simp (maxDischargeDepth := 9) [B14])
    ·
     refine tt 8 ?_
     simp only [Act.put, sa, s0, ss]
     refine tt 9 ?_
     simp only [Act.put, sa, s0, ss]
     refine tt 10 ?_
     simp only [Act.put, sa, s0, ss]
     refine tu 11 ?_
     simp only [Act.put, sa, s0, ss]
     refine tu 12 ?_
     simp only [Act.put, sa, s0, ss]
     refine tu 13 ?_
     simp only [Act.put, sa, s0, ss]
     refine tu 14 ?_
     simp only [Act.put, sa, s0, ss]
     refine tu 15 ?_
     simp only [Act.put, sa, s0, ss]
     refine tu 16 ?_
     simp only [Act.put, sa, s0, ss]
     refine tu 17 ?_
     simp only [Act.put, sa, s0, ss]
     refine tu 18 ?_
     simp only [Act.put, sa, s0, ss]
     refine tu 19 ?_
     simp only [Act.put, sa, s0, ss]
     refine tu 20 ?_
     simp only [Act.put, sa, s0, ss]
     refine tu 21 ?_
     simp only [Act.put, sa, s0, ss]
     refine tt 22 ?_
     simp only [Act.put, sa, s0, ss]
     refine wpAnyH_done (by kernel_rfl) ?_ _
     clear hHeld2
     refine NoPanic.normal ?_
     have q55 : sl20Fired_p_b1 a0 a1 k3 () = .ret false := by simp only [sl20Fired_p_b1, h9.out, eh13, h13, cond_true, cond_false]
     have q56 := rounds_ret hlt4 hy4.out q55
     obtain rfl : r = false := hr.out.symm.trans (by simp only [sl20Fired_p, q56])
     go_wp2
     go_ret
     exact rbk (by simp (maxDischargeDepth := 9) [B12])
   | false =>
    replace h9 := Lib.hid h9
    go_wp2
    refine wp_region_noPanic ?_
    refine wp_region_held_drew (S := (fun w' => w'.cell? ⟨w.heap.size, 0, none⟩ = some (.string a0.Name) ∧ w'.cell? ⟨w.heap.size, 1, none⟩ = some (.slice p0_1 a0.Rules.length c0_1) ∧ w'.cell? ⟨w.heap.size + 1, 0, none⟩ = some (.slice p1_0 a1.S.Items.length c1_0) ∧ w'.cell? ⟨w.heap.size + 1, 1, none⟩ = some (.int .i64 a1.S.Next) ∧ w'.cell? ⟨w.heap.size + 1, 2, none⟩ = some (.slice (some ⟨e6b, e6o, none⟩) a1.Fired.length c1_2) ∧ w'.cell? ⟨w.heap.size + 1, 3, none⟩ = some (.slice p1_3 a1.Tasks.length c1_3) ∧ w'.cell? ⟨w.heap.size + 1, 4, none⟩ = some (.slice p1_4 a1.Timers.length c1_4) ∧ w'.cell? ⟨w.heap.size + 1, 5, none⟩ = some (.slice p1_5 a1.Undos.length c1_5) ∧ w'.cell? ⟨w.heap.size + 1, 6, none⟩ = some (.int .i64 a1.State) ∧ w'.cell? ⟨w.heap.size + 1, 7, none⟩ = some (.int .i64 a1.Now) ∧ w'.cell? ⟨wr3.heap.size, 0, none⟩ = some (.int .i64 ((gt a1.Fired k3).Rule)) ∧ w'.cell? ⟨wr3.heap.size, 1, none⟩ = some (.slice pe6_1 ((gt a1.Fired k3).Ids.length) ce6_1) ∧ w'.cell? ⟨wr3.heap.size, 2, none⟩ = some (.slice pe6_2 ((gt a1.Fired k3).Binds.length) ce6_2) ∧ w'.cell? ⟨e6b, e6o + k3 * 3, none⟩ = some (.int .i64 ((gt a1.Fired k3).Rule)) ∧ w'.cell? ⟨e6b, e6o + k3 * 3 + 1, none⟩ = some (.slice pe6_1 ((gt a1.Fired k3).Ids.length) ce6_1) ∧ w'.cell? ⟨e6b, e6o + k3 * 3 + 2, none⟩ = some (.slice pe6_2 ((gt a1.Fired k3).Binds.length) ce6_2))) (by kernel_rfl) ?_ (fun hHeld0 => ?_)
    · go_keep
    refine tt 0 ?_
    simp only [Act.put, sa, s0, ss]
    refine tt 1 ?_
    simp only [Act.put, sa, s0, ss]
    refine wpAnyH_ready (rs := [2]) (by kernel_rfl) (by simp) ?_
    refine' AllReadyH.cons (o := _) ?hi1070_2 (fun K hK => ?_) AllReadyH.nil
    case hi1070_2 => simp only [List.getElem?_toArray, List.getElem?_cons_succ, List.getElem?_cons_zero]; exact rfl
    go_simp
    go_at_call 204
    refine (sl15Rule_w a0 (gt a1.Fired k3) _ _ _ _ (s0_1.to (by simp (maxDischargeDepth := 9) [B4])) (te6_1.to (by simp (maxDischargeDepth := 9) [B4])) (te6_2.to (by simp (maxDischargeDepth := 9) [B4]))).mono ?_
    rintro e w57 ⟨rfl, hb57⟩
    have B57 := via (w0 := w) (by simp (maxDischargeDepth := 9) [B4]) hb57
    have U57 : Below wr3.heap.size wr3 w57 := via (by simp (maxDischargeDepth := 9)) hb57
    have Xbx1_57 := Xbx1_4.via U57
    clear Xbx1_4 Xbx1_4k0 Xbx1_4k1
    have ⟨Xbx1_57k0, Xbx1_57k1⟩ := bx2 Xbx1_57
    have Xbx2_57 := Xbx2_4.via U57
    clear Xbx2_4 Xbx2_4k0 Xbx2_4k1 Xbx2_4k2 Xbx2_4k3 Xbx2_4k4 Xbx2_4k5 Xbx2_4k6 Xbx2_4k7
    have ⟨Xbx2_57k0, Xbx2_57k1, Xbx2_57k2, Xbx2_57k3, Xbx2_57k4, Xbx2_57k5, Xbx2_57k6, Xbx2_57k7⟩ := bx8 Xbx2_57
    have Xbx8_57 : Bx w57 (wr3.heap.size) [.int .i64 ((gt a1.Fired k3).Rule), .slice pe6_1 ((gt a1.Fired k3).Ids.length) ce6_1, .slice pe6_2 ((gt a1.Fired k3).Binds.length) ce6_2] := Bx.via (by simp (maxDischargeDepth := 9)) hb57
    have ⟨Xbx8_57k0, Xbx8_57k1, Xbx8_57k2⟩ := bx3 Xbx8_57
    clear e6d0n e6d1n e6d2n
    have ⟨e6d0n, e6d1n, e6d2n⟩ := cb3 B57 e6bl e6E.out
    clear U57
    clear B4
    rw [h9.out]
    go_wp2_with fail
    refine hK.out _ _ ?_ (fun hHeld2 => ?_)
    · go_keep
    clear hK K hHeld0
    refine tt 3 ?_
    simp only [Act.put, sa, s0, ss]
    refine tt 4 ?_
    simp only [Act.put, sa, s0, ss]
    refine tu 5 ?_
    simp only [Act.put, sa, s0, ss]
    refine tu 6 ?_
    simp only [Act.put, sa, s0, ss]
    refine tu 7 ?_
    simp only [Act.put, sa, s0, ss]
    refine tu 8 ?_
    simp only [Act.put, sa, s0, ss]
    refine tt 9 ?_
    simp only [Act.put, sa, s0, ss]
    refine tt 10 ?_
    simp only [Act.put, sa, s0, ss]
    refine tu 11 ?_
    simp only [Act.put, sa, s0, ss]
    refine tu 12 ?_
    simp only [Act.put, sa, s0, ss]
    refine tu 13 ?_
    simp only [Act.put, sa, s0, ss]
    refine tu 14 ?_
    simp only [Act.put, sa, s0, ss]
    refine tu 15 ?_
    simp only [Act.put, sa, s0, ss]
    refine tu 16 ?_
    simp only [Act.put, sa, s0, ss]
    refine tu 17 ?_
    simp only [Act.put, sa, s0, ss]
    refine tu 18 ?_
    simp only [Act.put, sa, s0, ss]
    refine tu 19 ?_
    simp only [Act.put, sa, s0, ss]
    refine tu 20 ?_
    simp only [Act.put, sa, s0, ss]
    refine tu 21 ?_
    simp only [Act.put, sa, s0, ss]
    refine tt 22 ?_
    simp only [Act.put, sa, s0, ss]
    refine wpAnyH_done (by kernel_rfl) ?_ _
    clear hHeld2
    refine NoPanic.normal ?_
    have q58 : sl20Fired_p_b1 a0 a1 k3 () = .ret false := by simp only [sl20Fired_p_b1, h9.out, cond_false]
    have q59 := rounds_ret hlt4 hy4.out q58
    obtain rfl : r = false := hr.out.symm.trans (by simp only [sl20Fired_p, q59])
    go_wp2
    go_ret
    exact rbk (by simp (maxDischargeDepth := 9) [B57])
  ·
   obtain rfl : a1.Fired.length = k3 := by omega
   by_cases h60 : a1.Fired.length ≤ 1000
   ·
    have h60d := Lib.hid (decide_eq_true h60)
    obtain rfl : r = true := hr.out.symm.trans (by simp only [sl20Fired_p, hy4.out, h60d.out, cond_true])
    go_wp2
    go_ret
    exact rbk (by simp (maxDischargeDepth := 9) [B4])
   ·
    have h60d := Lib.hid (decide_eq_false h60)
    obtain rfl : r = false := hr.out.symm.trans (by simp only [sl20Fired_p, hy4.out, h60d.out, cond_false])
    go_wp2
    go_ret
    exact rbk (by simp (maxDischargeDepth := 9) [B4])

-- spec.Ended
def sEnded_p (a0 : InstD) : Bool := bif (a0.State == 2) then (true) else (bif (a0.State == 4) then (true) else (bif (a0.State == 6) then (true) else (false)))
set_option maxHeartbeats 1000000 in
set_option maxRecDepth 20000 in
theorem sEnded_w (a0 : InstD) (v0_0 : Value) (v0_2 : Value) (v0_3 : Value) (v0_4 : Value) (v0_5 : Value) (w : World) (s0_0 : Sl w a0.S.Items v0_0) (s0_2 : Sl w a0.Fired v0_2) (s0_3 : Sl w a0.Tasks v0_3) (s0_4 : Sl w a0.Timers v0_4) (s0_5 : Sl w a0.Undos v0_5) :
    Calls Tryz.prog 162 #[.agg #[v0_0, .int .i64 a0.S.Next, v0_2, v0_3, v0_4, v0_5, .int .i64 a0.State, .int .i64 a0.Now]] w (RetB (sEnded_p a0) w) := by
 obtain ⟨p0_0, c0_0, rfl, hl0_0, -, hk0_0, -⟩ := s0_0.open
 obtain ⟨p0_2, c0_2, rfl, hl0_2, -, hk0_2, -⟩ := s0_2.open
 obtain ⟨p0_3, c0_3, rfl, hl0_3, -, hk0_3, -⟩ := s0_3.open
 obtain ⟨p0_4, c0_4, rfl, hl0_4, -, hk0_4, -⟩ := s0_4.open
 obtain ⟨p0_5, c0_5, rfl, hl0_5, -, hk0_5, -⟩ := s0_5.open
 obtain ⟨r, hr⟩ : ∃ r, sEnded_p a0 = r := ⟨_, rfl⟩
 rw [hr]
 replace hr := Lib.hid hr
 go_enter Tryz.func162, Tryz.ntmps162
 obtain ⟨bh2, eh2⟩ : ∃ b, (a0.State == 2) = b := ⟨_, rfl⟩
 rcases Bool.eq_false_or_eq_true bh2 with h2 | h2
 ·
  obtain rfl : r = true := hr.out.symm.trans (by simp only [sEnded_p, eh2, h2, cond_true])
  go_wp2
  go_ret
  exact rbk (by simp (maxDischargeDepth := 9))
 ·
  obtain ⟨bh3, eh3⟩ : ∃ b, (a0.State == 4) = b := ⟨_, rfl⟩
  rcases Bool.eq_false_or_eq_true bh3 with h3 | h3
  ·
   obtain rfl : r = true := hr.out.symm.trans (by simp only [sEnded_p, eh2, h2, eh3, h3, cond_true, cond_false])
   go_wp2
   go_ret
   exact rbk (by simp (maxDischargeDepth := 9))
  ·
   obtain ⟨bh4, eh4⟩ : ∃ b, (a0.State == 6) = b := ⟨_, rfl⟩
   rcases Bool.eq_false_or_eq_true bh4 with h4 | h4
   ·
    obtain rfl : r = true := hr.out.symm.trans (by simp only [sEnded_p, eh2, h2, eh3, h3, eh4, h4, cond_true, cond_false])
    go_wp2
    go_ret
    exact rbk (by simp (maxDischargeDepth := 9))
   ·
    obtain rfl : r = false := hr.out.symm.trans (by simp only [sEnded_p, eh2, h2, eh3, h3, eh4, h4, cond_false])
    go_wp2
    go_ret
    exact rbk (by simp (maxDischargeDepth := 9))

-- spec.l20Live
def sl20Live_p_b1 (a0 : List TaskD) (k1 : Nat) (_ : Unit) : St (Bool) (Unit) := bif ((gt a0 k1).State == 1) then (.ret true) else (bif ((gt a0 k1).State == 2) then (.ret true) else (.go ()))
def sl20Live_p (a0 : List TaskD) : Bool := match rounds (sl20Live_p_b1 a0) a0.length () with | .ret r => r | .brk _ => default | .go _ => false
set_option maxHeartbeats 1000000 in
set_option maxRecDepth 20000 in
theorem sl20Live_w (a0 : List TaskD) (v0_0 : Value) (w : World) (s0_0 : Sl w a0 v0_0) :
    Calls Tryz.prog 163 #[v0_0] w (RetB (sl20Live_p a0) w) := by
 obtain ⟨p0_0, c0_0, rfl, hl0_0, -, hk0_0, -⟩ := s0_0.open
 obtain ⟨r, hr⟩ : ∃ r, sl20Live_p a0 = r := ⟨_, rfl⟩
 rw [hr]
 replace hr := Lib.hid hr
 go_enter Tryz.func163, Tryz.ntmps163
 go_wp2
 go_loopw [3] (fun i3 wr1 => Below w.heap.size w wr1 ∧ ∃ (k1 : Nat), i3 = .int .i64 k1 ∧ k1 ≤ a0.length ∧ Hid (rounds (sl20Live_p_b1 a0) k1 () = .go ())) (fun i3 _ => a0.length - (intOf i3).toNat)
 case atStart => exact ⟨(by simp (maxDischargeDepth := 9)), 0, rfl, by omega, Lib.hid rfl⟩
 case round =>
  rename World => wr1
  obtain ⟨B2, k1, rfl, hk2, hy2⟩ := hrel
  by_cases hlt2 : k1 < a0.length
  ·
   have hi5 : k1 < a0.length := by first | assumption | omega
   obtain ⟨e4b, e4o, ue4_1, rfl, e4bl, e4ok, ⟨e4d0, e4d1, e4d2, e4d3, e4d4, e4d5, e4d6, e4d7, e4d8⟩, te4_1⟩ := Sl.gtTask s0_0 k1 hi5
   obtain ⟨pe4_1, ce4_1, rfl, hlpe4_1, -⟩ := te4_1.open
   have e4E := Lib.hid (And.intro e4d0 (And.intro e4d1 (And.intro e4d2 (And.intro e4d3 (And.intro e4d4 (And.intro e4d5 (And.intro e4d6 (And.intro e4d7 e4d8))))))))
   clear e4d0 e4d1 e4d2 e4d3 e4d4 e4d5 e4d6 e4d7 e4d8
   have ⟨e4d0n, e4d1n, e4d2n, e4d3n, e4d4n, e4d5n, e4d6n, e4d7n, e4d8n⟩ := cb9 B2 e4bl e4E.out
   obtain ⟨bh6, eh6⟩ : ∃ b, ((gt a0 k1).State == 1) = b := ⟨_, rfl⟩
   rcases Bool.eq_false_or_eq_true bh6 with h6 | h6
   ·
    have q7 : sl20Live_p_b1 a0 k1 () = .ret true := by simp only [sl20Live_p_b1, eh6, h6, cond_true]
    have q8 := rounds_ret hlt2 hy2.out q7
    obtain rfl : r = true := hr.out.symm.trans (by simp only [sl20Live_p, q8])
    go_wp2
    go_ret
    exact rbk (by simp (maxDischargeDepth := 9) [B2])
   ·
    obtain ⟨bh9, eh9⟩ : ∃ b, ((gt a0 k1).State == 2) = b := ⟨_, rfl⟩
    rcases Bool.eq_false_or_eq_true bh9 with h9 | h9
    ·
     have q10 : sl20Live_p_b1 a0 k1 () = .ret true := by simp only [sl20Live_p_b1, eh6, h6, eh9, h9, cond_true, cond_false]
     have q11 := rounds_ret hlt2 hy2.out q10
     obtain rfl : r = true := hr.out.symm.trans (by simp only [sl20Live_p, q11])
     go_wp2
     go_ret
     exact rbk (by simp (maxDischargeDepth := 9) [B2])
    ·
     have q12 : sl20Live_p_b1 a0 k1 () = .go () := by simp only [sl20Live_p_b1, eh6, h6, eh9, h9, cond_false]
     replace q12 := Lib.hid (rounds_next hy2.out q12)
     go_wp2
     go_roundw
     case rel => exact ⟨(by simp (maxDischargeDepth := 9) [B2]), k1 + 1, by go_num, by omega, q12⟩
     case measure => simp [intOf]; omega
  ·
   obtain rfl : a0.length = k1 := by omega
   obtain rfl : r = false := hr.out.symm.trans (by simp only [sl20Live_p, hy2.out])
   go_wp2
   go_ret
   exact rbk (by simp (maxDischargeDepth := 9) [B2])

-- spec.l20Undoing
def sl20Undoing_p (a0 : InstD) : Bool := bif (a0.State == 3) then (true) else (bif (a0.State == 5) then (true) else (false))
set_option maxHeartbeats 1000000 in
set_option maxRecDepth 20000 in
theorem sl20Undoing_w (a0 : InstD) (v0_0 : Value) (v0_2 : Value) (v0_3 : Value) (v0_4 : Value) (v0_5 : Value) (w : World) (s0_0 : Sl w a0.S.Items v0_0) (s0_2 : Sl w a0.Fired v0_2) (s0_3 : Sl w a0.Tasks v0_3) (s0_4 : Sl w a0.Timers v0_4) (s0_5 : Sl w a0.Undos v0_5) :
    Calls Tryz.prog 164 #[.agg #[v0_0, .int .i64 a0.S.Next, v0_2, v0_3, v0_4, v0_5, .int .i64 a0.State, .int .i64 a0.Now]] w (RetB (sl20Undoing_p a0) w) := by
 obtain ⟨p0_0, c0_0, rfl, hl0_0, -, hk0_0, -⟩ := s0_0.open
 obtain ⟨p0_2, c0_2, rfl, hl0_2, -, hk0_2, -⟩ := s0_2.open
 obtain ⟨p0_3, c0_3, rfl, hl0_3, -, hk0_3, -⟩ := s0_3.open
 obtain ⟨p0_4, c0_4, rfl, hl0_4, -, hk0_4, -⟩ := s0_4.open
 obtain ⟨p0_5, c0_5, rfl, hl0_5, -, hk0_5, -⟩ := s0_5.open
 obtain ⟨r, hr⟩ : ∃ r, sl20Undoing_p a0 = r := ⟨_, rfl⟩
 rw [hr]
 replace hr := Lib.hid hr
 go_enter Tryz.func164, Tryz.ntmps164
 obtain ⟨bh2, eh2⟩ : ∃ b, (a0.State == 3) = b := ⟨_, rfl⟩
 rcases Bool.eq_false_or_eq_true bh2 with h2 | h2
 ·
  obtain rfl : r = true := hr.out.symm.trans (by simp only [sl20Undoing_p, eh2, h2, cond_true])
  go_wp2
  go_ret
  exact rbk (by simp (maxDischargeDepth := 9))
 ·
  obtain ⟨bh3, eh3⟩ : ∃ b, (a0.State == 5) = b := ⟨_, rfl⟩
  rcases Bool.eq_false_or_eq_true bh3 with h3 | h3
  ·
   obtain rfl : r = true := hr.out.symm.trans (by simp only [sl20Undoing_p, eh2, h2, eh3, h3, cond_true, cond_false])
   go_wp2
   go_ret
   exact rbk (by simp (maxDischargeDepth := 9))
  ·
   obtain rfl : r = false := hr.out.symm.trans (by simp only [sl20Undoing_p, eh2, h2, eh3, h3, cond_false])
   go_wp2
   go_ret
   exact rbk (by simp (maxDischargeDepth := 9))
end Go.Proofs.YthnilnggpbploaaGreat
