/- The variables of a rule's patterns, conditions and acts. -/
import Derived.Test.YthnilnggpbploaaGreatCmA2
import Derived.Test.YthnilnggpbploaaGreatExt
namespace Go.Proofs.YthnilnggpbploaaGreat
open Go.RowKit
open Cel (rd own rd_len rd_one own_rd own_lt rd_below rd_mono own_keep)

theorem Chg.belw {w w' : World} (h : Chg [] w w') : Below w.heap.size w w' := ⟨h.os, h.tape, h.output, h.size, fun b hb => h.block b hb (by simp)⟩
theorem slStr : SlT Tryz.prog 48 1 16 := SlT.mk (z := .string ⟨#[]⟩) Tryz.underlying48 (by kernel_rfl) rfl
def addOnceL (l : List ByteArray) (s : ByteArray) : List ByteArray := bif slices_Contains_string_p l s then l else l ++ [s]
def addVarsL (l : List ByteArray) (args : List ArgD) : List ByteArray := args.foldl (fun l a => bif a.K == 1 then addOnceL l a.S else l) l
theorem addOnceL_len (l : List ByteArray) (s : ByteArray) : (addOnceL l s).length ≤ l.length + 1 := by
  unfold addOnceL; cases slices_Contains_string_p l s <;> simp
theorem foldl_next {α β : Type} (f : β → α → β) (i : β) (l : List α) (k : Nat) (h : k < l.length) : (l.take (k + 1)).foldl f i = f ((l.take k).foldl f i) l[k] := by
  rw [List.take_succ_eq_append_getElem h, List.foldl_append]; rfl
theorem addVarsL_len : ∀ (args : List ArgD) (l : List ByteArray), (addVarsL l args).length ≤ l.length + args.length := by
  intro args
  induction args with
  | nil => intro l; simp [addVarsL]
  | cons a args ih =>
    intro l
    have h := ih (bif a.K == 1 then addOnceL l a.S else l)
    have h2 : (bif a.K == 1 then addOnceL l a.S else l).length ≤ l.length + 1 := by
      cases a.K == 1
      · simp
      · exact addOnceL_len _ _
    show (addVarsL (bif a.K == 1 then addOnceL l a.S else l) args).length ≤ _
    rw [List.length_cons]; omega

set_option maxRecDepth 20000 in
theorem addOnce_e (l : List ByteArray) (s : ByteArray) (v : Value) (f : List Nat) (w : World) (h : OwnS w l v f) (hn : f.Nodup) (hs : s.size ≤ maxLen) (hl : l.length ≤ 8388608) :
    Calls Tryz.prog 390 #[v, .string s] w (RetE f (addOnceL l s) w) := by
  obtain ⟨a, c, rfl⟩ := h.open
  go_enter Tryz.func390, Tryz.ntmps390
  go_wp2_with fail
  refine (slices_Contains_string_w l s _ _ h.sl).mono ?_
  rintro e w1 ⟨rfl, hb1⟩
  have h1 := h.below hb1
  have hE : Ext f w l (.slice a l.length c) w1 := ⟨f, h1, hn, fun b hb => .inl hb, Chg.of_below hb1⟩
  cases hc : slices_Contains_string_p l s with
  | true =>
    have e : addOnceL l s = l := by unfold addOnceL; rw [hc]; rfl
    replace hc := Lib.hid hc
    replace e := Lib.hid e
    go_wp2
    go_ret
    exact ⟨a, c, by rw [e.out]; rfl, by rw [e.out]; exact hE⟩
  | false =>
    have e : addOnceL l s = l ++ [s] := by unfold addOnceL; rw [hc]; rfl
    replace hc := Lib.hid hc
    replace e := Lib.hid e
    have hvk : own w1 [Value.string s] s [] := ⟨rfl, hs, rfl⟩
    have hb1 : (l.length + 1) * 16 ≤ 140737488355328 := by omega
    have hb2 : l.length + 1 ≤ maxLen := by simp [maxLen]; omega
    go_wp2_with (at_builtin; go_loud (refine wpList_ext1 rfl _ _ _ rfl slStr rfl hE rfl (by simp) hvk hb1 hb2 ?_); intro a2 c2 w2 hE2)
    go_ret
    exact ⟨a2, c2, by rw [e.out]; simp, by rw [e.out]; simpa using hE2⟩

set_option maxRecDepth 20000 in
theorem addVars_e (l : List ByteArray) (args : List ArgD) (v v2 : Value) (f : List Nat) (w : World) (h : OwnS w l v f) (hn : f.Nodup) (hsl : ∀ u, Chg f w u → Sl u args v2) (hl : l.length + args.length ≤ 8388608) :
    Calls Tryz.prog 318 #[v, v2] w (RetE f (addVarsL l args) w) := by
  obtain ⟨a, c, rfl⟩ := h.open
  obtain ⟨p, q, rfl, hl2, -⟩ := (hsl w (Chg.refl _ _)).open
  obtain ⟨L0, hL0⟩ : ∃ L, addVarsL l args = L := ⟨_, rfl⟩
  rw [hL0]
  replace hL0 := Lib.hid hL0
  go_enter Tryz.func318, Tryz.ntmps318
  go_wp2
  go_loopw [0, 9] (fun lv i wr => ∃ (k : Nat) (L : List ByteArray) (a1 : Option Addr) (c1 : Nat), i = .int .i64 k ∧ lv = .slice a1 L.length c1 ∧ k ≤ args.length ∧ L.length ≤ l.length + k ∧ Hid (addVarsL l (args.take k) = L) ∧ Ext f w L (.slice a1 L.length c1) wr) (fun _ i _ => args.length - (intOf i).toNat)
  case atStart => exact ⟨0, l, a, c, rfl, rfl, by omega, by omega, Lib.hid rfl, Ext.start h hn⟩
  case round =>
    obtain ⟨k, L, a1, c1, rfl, rfl, hk, hLk, hL, hE⟩ := hrel
    by_cases hlt : k < args.length
    · obtain ⟨b, o, rfl, hbl, hok, ⟨d0, d1, d2, d3, d4⟩⟩ := (hsl _ hE.chg).atArg k hlt
      have hst := Lib.hid (foldl_next (fun l a => bif a.K == 1 then addOnceL l a.S else l) l args k hlt)
      generalize args[k] = x at *
      cases hK : (x.K == 1) with
      | true =>
        have hs2 : addVarsL l (args.take (k + 1)) = addOnceL L x.S := by
          show List.foldl _ _ _ = _
          rw [hst.out, hK]; show addOnceL (addVarsL l (args.take k)) x.S = _; rw [hL.out]
        replace hs2 := Lib.hid hs2
        have hlen := addOnceL_len L x.S
        have hE1 := hE.alloc (.cells #[.int .i64 x.K, .string x.S, .int .i64 x.V.K, .int .i64 x.V.N, .string x.V.S] 262)
        obtain ⟨f1, e1, e2, e3, e4⟩ := hE1
        clear hE hst hL
        go_wp2_with fail
        refine (addOnce_e L x.S _ f1 _ e1 e2 hok.2.1 (by omega)).mono ?_
        rintro e w1 ⟨a2, c2, rfl, hE2⟩
        have hE3 := Ext.trans e1 e3 e4 hE2
        clear hE2 e1 e3 e4
        generalize addOnceL L x.S = L2 at *
        go_wp2
        go_roundw
        case rel => exact ⟨k + 1, L2, a2, c2, by go_num, rfl, by omega, by omega, hs2, hE3⟩
        case measure => simp [intOf]; omega
      | false =>
        have hs2 : addVarsL l (args.take (k + 1)) = L := by
          show List.foldl _ _ _ = _
          rw [hst.out, hK]; exact hL.out
        replace hs2 := Lib.hid hs2
        have hE1 := hE.alloc (.cells #[.int .i64 x.K, .string x.S, .int .i64 x.V.K, .int .i64 x.V.N, .string x.V.S] 262)
        clear hE hst hL
        go_wp2
        go_roundw
        case rel => exact ⟨k + 1, L, a1, c1, by go_num, rfl, by omega, by omega, hs2, hE1⟩
        case measure => simp [intOf]; omega
    · obtain rfl : k = args.length := by omega
      rw [List.take_length] at hL
      obtain rfl : L0 = L := hL0.out.symm.trans hL.out
      go_wp2
      go_ret
      exact ⟨a1, c1, rfl, hE⟩
def posVarsL (pats : List PatD) : List ByteArray := pats.foldl (fun l p => bif p.Not then l else addVarsL l p.Args) []
def iPosVars_p (r : RuleD) : List ByteArray := posVarsL r.Pats
theorem args_len (x : PatD) : x.Args.length ≤ sznPat x := by unfold sznPat sznSArg; omega
theorem posVarsL_len (pats : List PatD) : ∀ k, k ≤ pats.length → (posVarsL (pats.take k)).length ≤ ((pats.take k).map sznPat).sum := by
  intro k
  induction k with
  | zero => intro _; simp [posVarsL]
  | succ k ih =>
    intro h
    have h1 := ih (by omega)
    have h2 : posVarsL (pats.take (k + 1)) = (bif pats[k].Not then posVarsL (pats.take k) else addVarsL (posVarsL (pats.take k)) pats[k].Args) := foldl_next _ _ _ _ (by omega)
    rw [h2, List.take_succ_eq_append_getElem (by omega), List.map_append, List.sum_append]
    have h3 := addVarsL_len pats[k].Args (posVarsL (pats.take k))
    have h4 := args_len pats[k]
    simp only [List.map_cons, List.map_nil, List.sum_cons, List.sum_nil]
    cases pats[k].Not <;> simp only [cond_true, cond_false] <;> omega
theorem take_sum_le {α : Type} (f : α → Nat) (l : List α) (k : Nat) : ((l.take k).map f).sum ≤ (l.map f).sum := by
  conv => rhs; rw [← List.take_append_drop k l, List.map_append, List.sum_append]
  omega

set_option maxRecDepth 20000 in
theorem iPosVars_w (a0 : RuleD) (v0_2 v0_3 v0_4 : Value) (w : World) (s0_2 : Sl w a0.Pats v0_2) (s0_3 : Sl w a0.Conds v0_3) (s0_4 : Sl w a0.Acts v0_4) (hz_a0 : sznRule a0 ≤ 1048576) :
    Calls Tryz.prog 220 #[.agg #[.string a0.Name, .int .i64 a0.Sal, v0_2, v0_3, v0_4]] w (fun e w' => ∃ u0, e = .returned (u0) ∧ Sl w' (iPosVars_p a0) u0 ∧ Below w.heap.size w w') := by
  obtain ⟨p, c, rfl, hl, -⟩ := s0_2.open
  obtain ⟨p3, c3, rfl, hl3, -⟩ := s0_3.open
  obtain ⟨p4, c4, rfl, hl4, -⟩ := s0_4.open
  have hsz : (a0.Pats.map sznPat).sum ≤ 1048576 := by have := szn_Rule_Pats a0; unfold sznSPat at this; omega
  unfold iPosVars_p
  generalize a0.Pats = l at *
  obtain ⟨L0, hL0⟩ : ∃ L, posVarsL l = L := ⟨_, rfl⟩
  rw [hL0]
  replace hL0 := Lib.hid hL0
  go_enter Tryz.func220, Tryz.ntmps220
  go_wp2
  go_loopw [3, 9] (fun lv i wr => ∃ (k : Nat) (L : List ByteArray) (a1 : Option Addr) (c1 : Nat), i = .int .i64 k ∧ lv = .slice a1 L.length c1 ∧ k ≤ l.length ∧ L.length ≤ 1048576 ∧ Hid (posVarsL (l.take k) = L) ∧ Ext [] w L (.slice a1 L.length c1) wr) (fun _ i _ => l.length - (intOf i).toNat)
  case atStart => exact ⟨0, [], none, 0, rfl, rfl, by omega, by simp, Lib.hid rfl, (show Ext [] w ([] : List ByteArray) (.slice none 0 0) w from ⟨[], OwnS.nil _, by simp, by simp, Chg.refl _ _⟩).alloc _⟩
  case round =>
    obtain ⟨k, L, a1, c1, rfl, rfl, hk, hLk, hL, hE⟩ := hrel
    by_cases hlt : k < l.length
    · obtain ⟨b, o, u0, rfl, hbl, hok, ⟨d0, d1, d2⟩, t0⟩ := s0_2.atPat k hlt
      obtain ⟨a0', q0, rfl, hl0, -⟩ := t0.open
      have hst := Lib.hid (show posVarsL (l.take (k + 1)) = (bif l[k].Not then posVarsL (l.take k) else addVarsL (posVarsL (l.take k)) l[k].Args) from foldl_next _ _ _ _ hlt)
      have hln := posVarsL_len l (k + 1) (by omega)
      have hln2 := take_sum_le sznPat l (k + 1)
      have hal : l[k].Args.length ≤ 1048576 := by have h1 := args_len l[k]; have h2 := le_sum_get sznPat l k hlt; omega
      have hbelw := hE.chg.belw
      have e0 := cell_below hbelw hbl d0
      have e1 := cell_below hbelw hbl d1
      have e2 := cell_below hbelw hbl d2
      replace d0 := Lib.hid d0
      replace d1 := Lib.hid d1
      replace d2 := Lib.hid d2
      generalize l[k] = x at *
      have hE1 := hE.alloc (.cells #[.string x.Kind, .slice a0' x.Args.length q0, .bool x.Not] 276)
      rcases Bool.eq_false_or_eq_true x.Not with hN | hN
      · have hs2 : posVarsL (l.take (k + 1)) = L := by rw [hst.out, hN]; exact hL.out
        replace hs2 := Lib.hid hs2
        rw [hN] at hE1
        clear hE hst hL
        go_wp2
        go_roundw
        case rel => exact ⟨k + 1, L, a1, c1, by go_num, rfl, by omega, by omega, hs2, hE1⟩
        case measure => simp [intOf]; omega
      · have hs2 : posVarsL (l.take (k + 1)) = addVarsL L x.Args := by rw [hst.out, hN]; show addVarsL _ _ = _; rw [hL.out]
        rw [hs2] at hln
        replace hs2 := Lib.hid hs2
        rw [hN] at hE1
        obtain ⟨f1, g1, g2, g3, g4⟩ := hE1
        have hsl : ∀ u, Chg f1 (wr.alloc (.cells #[.string x.Kind, .slice a0' x.Args.length q0, .bool false] 276)) u → Sl u x.Args (.slice a0' x.Args.length q0) := fun u hu =>
          t0.to (chgB (W := wr.alloc (.cells #[.string x.Kind, .slice a0' x.Args.length q0, .bool false] 276)) (by simp [hbelw]) hu (fun b hb => by rcases g3 b hb with h | h; cases h; exact h))
        clear hE hst hL
        go_wp2_with fail
        refine (addVars_e L x.Args _ _ f1 _ g1 g2 hsl (by omega)).mono ?_
        rintro e w1 ⟨a2, c2, rfl, hE2⟩
        have hE3 := Ext.trans g1 g3 g4 hE2
        clear hE2 g1 g3 g4 hsl
        generalize addVarsL L x.Args = L2 at *
        go_wp2
        go_roundw
        case rel => exact ⟨k + 1, L2, a2, c2, by go_num, rfl, by omega, by omega, hs2, hE3⟩
        case measure => simp [intOf]; omega
    · obtain rfl : k = l.length := by omega
      rw [List.take_length] at hL
      obtain rfl : L0 = L := hL0.out.symm.trans hL.out
      go_wp2
      go_ret
      exact ⟨_, rfl, hE.sl, hE.chg.belw⟩
end Go.Proofs.YthnilnggpbploaaGreat
