/- The variables of a rule's patterns: the reference's. -/
import Derived.Test.YthnilnggpbploaaGreatCmS1
import Derived.Test.YthnilnggpbploaaGreatVars
namespace Go.Proofs.YthnilnggpbploaaGreat
open Go.RowKit
open Cel (rd own rd_len rd_one own_rd own_lt rd_below rd_mono own_keep)

def onceS (l : List ByteArray) (s : ByteArray) : List ByteArray := bif sl6Has_p l s then l else l ++ [s]
def varsL (args : List ArgD) : List ByteArray := args.foldl (fun l a => bif a.K == 1 then onceS l a.S else l) []
def mergeL (o l : List ByteArray) : List ByteArray := l.foldl onceS o
def posVarsS (pats : List PatD) : List ByteArray := pats.foldl (fun o p => bif p.Not then o else mergeL o (varsL p.Args)) []
def sPosVars_p (r : RuleD) : List ByteArray := posVarsS r.Pats
theorem onceS_len (l : List ByteArray) (s : ByteArray) : (onceS l s).length ≤ l.length + 1 := by unfold onceS; cases sl6Has_p l s <;> simp
theorem mergeL_len (l : List ByteArray) : ∀ o, (mergeL o l).length ≤ o.length + l.length := by
  unfold mergeL
  induction l with
  | nil => intro o; simp
  | cons x xs ih => intro o; have h1 := ih (onceS o x); have h2 := onceS_len o x; rw [List.foldl_cons, List.length_cons]; omega
theorem varsL_len (args : List ArgD) : ∀ k, k ≤ args.length → (varsL (args.take k)).length ≤ k := by
  intro k
  induction k with
  | zero => intro _; simp [varsL]
  | succ k ih =>
    intro h
    have h1 := ih (by omega)
    have h2 : varsL (args.take (k + 1)) = (bif args[k].K == 1 then onceS (varsL (args.take k)) args[k].S else varsL (args.take k)) := foldl_next _ _ _ _ (by omega)
    rw [h2]
    have h3 := onceS_len (varsL (args.take k)) args[k].S
    cases args[k].K == 1 <;> simp only [cond_true, cond_false] <;> omega
theorem posVarsS_len (pats : List PatD) : ∀ k, k ≤ pats.length → (posVarsS (pats.take k)).length ≤ ((pats.take k).map sznPat).sum := by
  intro k
  induction k with
  | zero => intro _; simp [posVarsS]
  | succ k ih =>
    intro h
    have h1 := ih (by omega)
    have h2 : posVarsS (pats.take (k + 1)) = (bif pats[k].Not then posVarsS (pats.take k) else mergeL (posVarsS (pats.take k)) (varsL pats[k].Args)) := foldl_next _ _ _ _ (by omega)
    rw [h2, List.take_succ_eq_append_getElem (by omega), List.map_append, List.sum_append]
    have h3 := mergeL_len (varsL pats[k].Args) (posVarsS (pats.take k))
    have h4 := args_len pats[k]
    have h5 := varsL_len pats[k].Args pats[k].Args.length (Nat.le_refl _)
    rw [List.take_length] at h5
    simp only [List.map_cons, List.map_nil, List.sum_cons, List.sum_nil]
    cases pats[k].Not <;> simp only [cond_true, cond_false] <;> omega

set_option maxHeartbeats 1000000 in
set_option maxRecDepth 20000 in
theorem sVarsOf_s (a0 : PatD) (v0_1 : Value) (w : World) (s0_1 : Sl w a0.Args v0_1) (hlen : a0.Args.length ≤ 1048576) :
    Calls Tryz.prog 330 #[.agg #[.string a0.Kind, v0_1, .bool a0.Not]] w (RetS (varsL a0.Args) w) := by
  obtain ⟨p, c, rfl, hl, -⟩ := s0_1.open
  generalize a0.Kind = nm at *
  generalize a0.Not = nt at *
  generalize a0.Args = l at *
  obtain ⟨L0, hL0⟩ : ∃ L, varsL l = L := ⟨_, rfl⟩
  rw [hL0]
  replace hL0 := Lib.hid hL0
  go_enter Tryz.func330, Tryz.ntmps330
  go_wp2
  have hX0 : Bx (w.alloc (.cells #[.string nm, .slice p l.length c, .bool nt] 276)) w.heap.size [.string nm, .slice p l.length c, .bool nt] := bx_new _ _ _ rfl
  have hE0 : Ext (α := ByteArray) [] (w.alloc (.cells #[.string nm, .slice p l.length c, .bool nt] 276)) [] (.slice (some ⟨w.heap.size + 1, 0, none⟩) 0 0) ((w.alloc (.cells #[.string nm, .slice p l.length c, .bool nt] 276)).alloc (.cells #[] 9)) :=
    Ext.new (α := ByteArray) _ #[] 9 (w.heap.size + 1) 0 (by simp) (by simp [maxLen]) (by simp)
  generalize hw0 : w.alloc (.cells #[.string nm, .slice p l.length c, .bool nt] 276) = w0 at *
  have hB0 : Below w.heap.size w w0 := by rw [← hw0]; simp
  replace hw0 := Lib.hid hw0
  go_loopw [3, 4] (fun lv i wr => ∃ (k : Nat) (L : List ByteArray) (a1 : Option Addr) (c1 : Nat), i = .int .i64 k ∧ lv = .slice a1 L.length c1 ∧ k ≤ l.length ∧ L.length ≤ k ∧ Hid (varsL (l.take k) = L) ∧ Ext [] w0 L (.slice a1 L.length c1) wr) (fun _ i _ => l.length - (intOf i).toNat)
  case atStart => exact ⟨0, [], _, _, rfl, rfl, by omega, by simp, Lib.hid rfl, hE0⟩
  case round =>
    clear hE0
    obtain ⟨k, L, a1, c1, rfl, rfl, hk, hLk, hL, hE⟩ := hrel
    have hX := Bx.chg hX0 hE.chg (by simp)
    have x0 := hX.c 0 _ rfl
    have x1 := hX.c 1 _ rfl
    have x2 := hX.c 2 _ rfl
    by_cases hlt : k < l.length
    · have hBw := via hB0 hE.chg.belw
      obtain ⟨b, o, rfl, hbl, hok, ⟨d0, d1, d2, d3, d4⟩⟩ := s0_1.atArg k hlt
      have hst := Lib.hid (show varsL (l.take (k + 1)) = (bif l[k].K == 1 then onceS (varsL (l.take k)) l[k].S else varsL (l.take k)) from foldl_next _ _ _ _ hlt)
      have e0 := cell_below hBw hbl d0
      have e1 := cell_below hBw hbl d1
      replace d0 := Lib.hid d0
      replace d1 := Lib.hid d1
      clear d2 d3 d4
      generalize l[k] = x at *
      cases hK : (x.K == 1) with
      | true =>
        go_wp2_with fail
        refine (sl6Has_w L x.S _ _ hE.sl).mono ?_
        rintro e w1 ⟨rfl, hb1⟩
        have hE1 := hE.via hb1
        have hX1 := Bx.chg hX0 hE1.chg (by simp)
        clear x0 x1 x2 hX e0 e1
        have x0 := hX1.c 0 _ rfl
        have x1 := hX1.c 1 _ rfl
        have x2 := hX1.c 2 _ rfl
        have hBw1 := via hB0 hE1.chg.belw
        have e0 := cell_below hBw1 hbl d0.out
        have e1 := cell_below hBw1 hbl d1.out
        cases hc : sl6Has_p L x.S with
        | true =>
          have hs2 : varsL (l.take (k + 1)) = L := by rw [hst.out, hK, hL.out]; show onceS L x.S = L; unfold onceS; rw [hc]; rfl
          replace hs2 := Lib.hid hs2
          replace hc := Lib.hid hc
          clear hst hL hE
          go_wp2
          go_roundw
          case rel => exact ⟨k + 1, L, a1, c1, by go_num, rfl, by omega, by omega, hs2, hE1⟩
          case measure => simp [intOf]; omega
        | false =>
          have hs2 : varsL (l.take (k + 1)) = L ++ [x.S] := by rw [hst.out, hK, hL.out]; show onceS L x.S = _; unfold onceS; rw [hc]; rfl
          replace hs2 := Lib.hid hs2
          replace hc := Lib.hid hc
          have hvk : own w1 [Value.string x.S] x.S [] := ⟨rfl, hok.2.1, rfl⟩
          have hb1 : (L.length + 1) * 16 ≤ 140737488355328 := by omega
          have hb2 : L.length + 1 ≤ maxLen := by simp [maxLen]; omega
          clear hst hL hE
          go_wp2_with (at_builtin; go_loud (refine wpList_ext1 rfl _ _ _ rfl slStr rfl hE1 rfl (by simp) hvk hb1 hb2 ?_); intro a2 c2 w2 hE2)
          go_roundw
          case rel => exact ⟨k + 1, L ++ [x.S], a2, c2, by go_num, by simp, by omega, by simp; omega, hs2, by simpa using hE2⟩
          case measure => simp [intOf]; omega
      | false =>
        have hs2 : varsL (l.take (k + 1)) = L := by rw [hst.out, hK]; exact hL.out
        replace hs2 := Lib.hid hs2
        clear hst hL
        go_wp2
        go_roundw
        case rel => exact ⟨k + 1, L, a1, c1, by go_num, rfl, by omega, by omega, hs2, hE⟩
        case measure => simp [intOf]; omega
    · obtain rfl : k = l.length := by omega
      rw [List.take_length] at hL
      obtain rfl : L0 = L := hL0.out.symm.trans hL.out
      go_wp2
      go_ret
      obtain ⟨f, h1, h2, h3, h4⟩ := hE
      exact ⟨a1, c1, f, rfl, h1, ⟨h2, fun b hb => by rcases h3 b hb with h | h; cases h; exact Nat.le_trans hB0.size h⟩, via hB0 h4.belw⟩

set_option maxHeartbeats 2000000 in
set_option maxRecDepth 20000 in
theorem sPosVars_w (a0 : RuleD) (v0_2 v0_3 v0_4 : Value) (w : World) (s0_2 : Sl w a0.Pats v0_2) (s0_3 : Sl w a0.Conds v0_3) (s0_4 : Sl w a0.Acts v0_4) (hz_a0 : sznRule a0 ≤ 1048576) :
    Calls Tryz.prog 238 #[.agg #[.string a0.Name, .int .i64 a0.Sal, v0_2, v0_3, v0_4]] w (fun e w' => ∃ u0, e = .returned (u0) ∧ Sl w' (sPosVars_p a0) u0 ∧ Below w.heap.size w w') := by
  obtain ⟨p, c, rfl, hl, -⟩ := s0_2.open
  obtain ⟨p3, c3, rfl, hl3, -⟩ := s0_3.open
  obtain ⟨p4, c4, rfl, hl4, -⟩ := s0_4.open
  have hsz : (a0.Pats.map sznPat).sum ≤ 1048576 := by have := szn_Rule_Pats a0; unfold sznSPat at this; omega
  unfold sPosVars_p
  generalize a0.Pats = l at *
  obtain ⟨L0, hL0⟩ : ∃ L, posVarsS l = L := ⟨_, rfl⟩
  rw [hL0]
  replace hL0 := Lib.hid hL0
  go_enter Tryz.func238, Tryz.ntmps238
  go_wp2
  have hX0 : Bx (w.alloc (.cells #[.string a0.Name, .int .i64 a0.Sal, .slice p l.length c, .slice p3 a0.Conds.length c3, .slice p4 a0.Acts.length c4] 174)) w.heap.size [.string a0.Name, .int .i64 a0.Sal, .slice p l.length c, .slice p3 a0.Conds.length c3, .slice p4 a0.Acts.length c4] := bx_new _ _ _ rfl
  have hE0 : Ext (α := ByteArray) [] (w.alloc (.cells #[.string a0.Name, .int .i64 a0.Sal, .slice p l.length c, .slice p3 a0.Conds.length c3, .slice p4 a0.Acts.length c4] 174)) [] (.slice (some ⟨w.heap.size + 1, 0, none⟩) 0 0) ((w.alloc (.cells #[.string a0.Name, .int .i64 a0.Sal, .slice p l.length c, .slice p3 a0.Conds.length c3, .slice p4 a0.Acts.length c4] 174)).alloc (.cells #[] 9)) :=
    Ext.new (α := ByteArray) _ #[] 9 (w.heap.size + 1) 0 (by simp) (by simp [maxLen]) (by simp)
  generalize hw0 : w.alloc (.cells #[.string a0.Name, .int .i64 a0.Sal, .slice p l.length c, .slice p3 a0.Conds.length c3, .slice p4 a0.Acts.length c4] 174) = w0 at *
  have hB0 : Below w.heap.size w w0 := by rw [← hw0]; simp
  replace hw0 := Lib.hid hw0
  go_loopw [3, 4] (fun lv i wr => ∃ (k : Nat) (L : List ByteArray) (a1 : Option Addr) (c1 : Nat), i = .int .i64 k ∧ lv = .slice a1 L.length c1 ∧ k ≤ l.length ∧ L.length ≤ 1048576 ∧ Hid (posVarsS (l.take k) = L) ∧ Ext [] w0 L (.slice a1 L.length c1) wr) (fun _ i _ => l.length - (intOf i).toNat)
  case atStart => exact ⟨0, [], _, _, rfl, rfl, by omega, by simp, Lib.hid rfl, hE0⟩
  case round =>
    clear hE0
    obtain ⟨k, L, a1, c1, rfl, rfl, hk, hLk, hL, hE⟩ := hrel
    have hX := Bx.chg hX0 hE.chg (by simp)
    have x0 := hX.c 0 _ rfl
    have x1 := hX.c 1 _ rfl
    have x2 := hX.c 2 _ rfl
    have x3 := hX.c 3 _ rfl
    have x4 := hX.c 4 _ rfl
    by_cases hlt : k < l.length
    · have hBw := via hB0 hE.chg.belw
      obtain ⟨b, o, u0, rfl, hbl, hok, ⟨d0, d1, d2⟩, t0⟩ := s0_2.atPat k hlt
      obtain ⟨a0', q0, rfl, hl0, -⟩ := t0.open
      have hst := Lib.hid (show posVarsS (l.take (k + 1)) = (bif l[k].Not then posVarsS (l.take k) else mergeL (posVarsS (l.take k)) (varsL l[k].Args)) from foldl_next _ _ _ _ hlt)
      have hln := posVarsS_len l (k + 1) (by omega)
      have hln2 := take_sum_le sznPat l (k + 1)
      have hln0 := posVarsS_len l k (by omega)
      have hln3 := take_sum_le sznPat l k
      have hal : l[k].Args.length ≤ 1048576 := by have h1 := args_len l[k]; have h2 := le_sum_get sznPat l k hlt; omega
      have hvl := varsL_len l[k].Args l[k].Args.length (Nat.le_refl _)
      rw [List.take_length] at hvl
      have e0 := cell_below hBw hbl d0
      have e1 := cell_below hBw hbl d1
      have e2 := cell_below hBw hbl d2
      replace d0 := Lib.hid d0
      replace d1 := Lib.hid d1
      replace d2 := Lib.hid d2
      generalize l[k] = x at *
      generalize hNt : x.Not = nt at *
      replace hNt := Lib.hid hNt
      go_wp2_with fail
      refine (args_eq (by rw [hNt.out]) (sVarsOf_s x _ _ (t0.to hBw) hal)).mono ?_
      rintro e w1 ⟨a5, c5, f5, rfl, o5, fr5, hb1⟩
      clear x0 x1 x2 x3 x4 hX e0 e1 e2 hBw
      generalize hV : varsL x.Args = V at *
      replace hV := Lib.hid hV
      obtain ⟨f1, q1, g2, g3, q4⟩ := hE
      have g1 := q1.below hb1
      have g4 := q4.trans (Chg.of_below hb1)
      have hd : ∀ b ∈ f5, b ∉ f1 := fun b hb hb2 => by have h8 := fr5.2 b hb; have h9 := q1.lt b hb2; omega
      clear q1 q4 fr5
      go_wp2
      go_loopw [3, 6] (fun lv i wr => ∃ (j : Nat) (K : List ByteArray) (a2 : Option Addr) (c2 : Nat), i = .int .i64 j ∧ lv = .slice a2 K.length c2 ∧ j ≤ V.length ∧ K.length ≤ L.length + j ∧ (nt = true → j = 0) ∧ Hid (mergeL L (V.take j) = K) ∧ Ext f1 w1 K (.slice a2 K.length c2) wr) (fun _ i _ => V.length - (intOf i).toNat)
      case atStart => exact ⟨0, L, a1, c1, rfl, rfl, by omega, by omega, fun _ => rfl, Lib.hid rfl, Ext.start g1 g2⟩
      case round =>
        obtain ⟨j, K, a2, c2, rfl, rfl, hj, hKj, hN0, hK, hE2⟩ := hrel
        have hE3 := Ext.trans g1 g3 g4 hE2
        have hX := Bx.chg hX0 hE3.chg (by simp)
        have x0 := hX.c 0 _ rfl
        have x1 := hX.c 1 _ rfl
        have x2 := hX.c 2 _ rfl
        have x3 := hX.c 3 _ rfl
        have x4 := hX.c 4 _ rfl
        have hBw := via hB0 hE3.chg.belw
        have e0 := cell_below hBw hbl d0.out
        have e1 := cell_below hBw hbl d1.out
        have e2 := cell_below hBw hbl d2.out
        have sV := (o5.chg hE2.chg hd).sl
        by_cases hjt : j < V.length
        · cases nt with
          | true =>
            obtain rfl : j = 0 := hN0 rfl
            have hs2 : posVarsS (l.take (k + 1)) = K := by rw [hst.out]; show posVarsS (l.take k) = K; rw [hL.out, ← hK.out]; rfl
            replace hs2 := Lib.hid hs2
            clear hst hL hK
            go_wp2
            go_roundw
            case rel => exact ⟨k + 1, K, a2, c2, by go_num, rfl, by omega, by omega, hs2, hE3⟩
            case measure => simp [intOf]; omega
          | false =>
            obtain ⟨b3, o3, rfl, hbl3, hsz3, e3⟩ := Sl.gtString sV j hjt
            have hst3 := Lib.hid (show mergeL L (V.take (j + 1)) = onceS (mergeL L (V.take j)) (gt V j) from by rw [← gt_get hjt]; exact foldl_next _ _ _ _ hjt)
            generalize gt V j = sj at *
            go_wp2_with fail
            refine (sl6Has_w K sj _ _ hE2.sl).mono ?_
            rintro e w2 ⟨rfl, hb2⟩
            have hE4 := hE2.via hb2
            have hE5 := Ext.trans g1 g3 g4 hE4
            clear x0 x1 x2 x3 x4 hX e0 e1 e2 hBw hE3 sV
            have hX := Bx.chg hX0 hE5.chg (by simp)
            have x0 := hX.c 0 _ rfl
            have x1 := hX.c 1 _ rfl
            have x2 := hX.c 2 _ rfl
            have x3 := hX.c 3 _ rfl
            have x4 := hX.c 4 _ rfl
            have e4 := cell_below hb2 hbl3 e3
            clear e3 hE5 hX
            cases hc : sl6Has_p K sj with
            | true =>
              have hs2 : mergeL L (V.take (j + 1)) = K := by rw [hst3.out, hK.out]; unfold onceS; rw [hc]; rfl
              replace hs2 := Lib.hid hs2
              replace hc := Lib.hid hc
              clear hst3 hK hE2
              go_wp2
              go_roundw
              case rel => exact ⟨j + 1, K, a2, c2, by go_num, rfl, by omega, by omega, (fun h => by cases h), hs2, hE4⟩
              case measure => simp [intOf]; omega
            | false =>
              have hs2 : mergeL L (V.take (j + 1)) = K ++ [sj] := by rw [hst3.out, hK.out]; unfold onceS; rw [hc]; rfl
              replace hs2 := Lib.hid hs2
              replace hc := Lib.hid hc
              have hvk : own w2 [Value.string sj] sj [] := ⟨rfl, hsz3, rfl⟩
              have hb3 : (K.length + 1) * 16 ≤ 140737488355328 := by omega
              have hb4 : K.length + 1 ≤ maxLen := by simp [maxLen]; omega
              clear hst3 hK hE2
              go_wp2_with (at_builtin; go_loud (refine wpList_ext1 rfl _ _ _ rfl slStr rfl hE4 rfl (by simp) hvk hb3 hb4 ?_); intro a6 c6 w6 hE6)
              go_roundw
              case rel => exact ⟨j + 1, K ++ [sj], a6, c6, by go_num, by simp, by omega, by simp; omega, (fun h => by cases h), hs2, by simpa using hE6⟩
              case measure => simp [intOf]; omega
        · obtain rfl : V.length = j := by omega
          rw [List.take_length] at hK
          have hs2 : posVarsS (l.take (k + 1)) = K := by
            rw [hst.out]
            cases nt with
            | true =>
              have hz := hN0 rfl
              have hV0 : V = [] := List.eq_nil_of_length_eq_zero hz
              rw [← hK.out, hV0]; exact hL.out
            | false => show mergeL _ _ = K; rw [hL.out]; exact hK.out
          have hKl : K.length ≤ 1048576 := by have h7 := hln; rw [hs2] at h7; omega
          replace hs2 := Lib.hid hs2
          clear hst hL hK
          go_wp2
          go_roundw
          case rel => exact ⟨k + 1, K, a2, c2, by go_num, rfl, by omega, hKl, hs2, hE3⟩
          case measure => simp [intOf]; omega
    · obtain rfl : k = l.length := by omega
      rw [List.take_length] at hL
      obtain rfl : L0 = L := hL0.out.symm.trans hL.out
      go_wp2
      go_ret
      exact ⟨_, rfl, hE.sl, via hB0 hE.chg.belw⟩
end Go.Proofs.YthnilnggpbploaaGreat
