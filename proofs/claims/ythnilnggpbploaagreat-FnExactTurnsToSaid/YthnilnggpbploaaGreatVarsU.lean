/- The variables that a rule's conditions and acts use. Printed by a program. -/
import Derived.Test.YthnilnggpbploaaGreatVars
namespace Go.Proofs.YthnilnggpbploaaGreat
open Go.RowKit
open Cel (rd own rd_len rd_one own_rd own_lt rd_below rd_mono own_keep)

theorem rdmk_Val {B : Nat} {w : World} {x : ValD} (hx : okVal x) : rd B w [.int .i64 x.K, .int .i64 x.N, .string x.S] x :=
  ⟨[.int .i64 x.K], [.int .i64 x.N, .string x.S], rfl, ⟨rfl, hx.1⟩, ⟨[.int .i64 x.N], [.string x.S], rfl, ⟨rfl, hx.2.1⟩, ⟨rfl, hx.2.2⟩⟩⟩
theorem rdmk_Arg {B : Nat} {w : World} {x : ArgD} (hx : okArg x) : rd B w [.int .i64 x.K, .string x.S, .int .i64 x.V.K, .int .i64 x.V.N, .string x.V.S] x :=
  ⟨[.int .i64 x.K], [.string x.S, .int .i64 x.V.K, .int .i64 x.V.N, .string x.V.S], rfl, ⟨rfl, hx.1⟩, ⟨[.string x.S], [.int .i64 x.V.K, .int .i64 x.V.N, .string x.V.S], rfl, ⟨rfl, hx.2.1⟩, rdmk_Val hx.2.2⟩⟩
theorem sl_two {w : World} {g : Nat} {x y : ArgD} (hx : okArg x) (hy : okArg y) (h : Bx w g [.int .i64 x.K, .string x.S, .int .i64 x.V.K, .int .i64 x.V.N, .string x.V.S, .int .i64 y.K, .string y.S, .int .i64 y.V.K, .int .i64 y.V.N, .string y.V.S]) :
    Sl w [x, y] (.slice (some ⟨g, 0, none⟩) 2 2) := by
  refine ⟨some ⟨g, 0, none⟩, 2, rfl, by simp, by decide, by simp, .inr ⟨g, 0, rfl, h.lt, fun i z hz => ?_⟩⟩
  have hk : Cel.k ArgD = 5 := rfl
  rw [hk]
  have hi : i = 0 ∨ i = 1 := by
    have := (List.getElem?_eq_some_iff.1 hz).1
    simp at this; omega
  rcases hi with rfl | rfl
  · simp at hz; subst hz
    refine ⟨_, rdmk_Arg hx, fun j hj => ?_⟩
    have : j = 0 ∨ j = 1 ∨ j = 2 ∨ j = 3 ∨ j = 4 := by omega
    rcases this with rfl | rfl | rfl | rfl | rfl <;> exact h.c _ _ rfl
  · simp at hz; subst hz
    refine ⟨_, rdmk_Arg hy, fun j hj => ?_⟩
    have : j = 0 ∨ j = 1 ∨ j = 2 ∨ j = 3 ∨ j = 4 := by omega
    rcases this with rfl | rfl | rfl | rfl | rfl <;> exact h.c _ _ rfl
def condVarsL (l : List CondD) : List ByteArray := l.foldl (fun l c => addVarsL l [c.L, c.R]) []
def exprVarsL (l0 : List ByteArray) (l : List ExprD) : List ByteArray := l.foldl (fun l c => addVarsL l [c.L, c.R]) l0
def actVarsL (l0 : List ByteArray) (l : List ActD) : List ByteArray := l.foldl (fun l a => exprVarsL l a.Args) l0
def iusedVars_p (r : RuleD) : List ByteArray := actVarsL (condVarsL r.Conds) r.Acts
theorem two_len (l : List ByteArray) (x y : ArgD) : (addVarsL l [x, y]).length ≤ l.length + 2 := addVarsL_len [x, y] l
theorem condVarsL_len (l : List CondD) : ∀ k, k ≤ l.length → (condVarsL (l.take k)).length ≤ 2 * k := by
  intro k
  induction k with
  | zero => intro _; simp [condVarsL]
  | succ k ih =>
    intro h
    have h1 := ih (by omega)
    have h2 : condVarsL (l.take (k + 1)) = addVarsL (condVarsL (l.take k)) [l[k].L, l[k].R] := foldl_next _ _ _ _ (by omega)
    rw [h2]
    have h3 := two_len (condVarsL (l.take k)) l[k].L l[k].R
    omega
theorem exprVarsL_len (l0 : List ByteArray) (l : List ExprD) : (exprVarsL l0 l).length ≤ l0.length + 2 * l.length := by
  unfold exprVarsL
  induction l generalizing l0 with
  | nil => simp
  | cons x xs ih =>
    have h1 := ih (addVarsL l0 [x.L, x.R])
    have h2 := two_len l0 x.L x.R
    rw [List.foldl_cons, List.length_cons]; omega
theorem acts_len (x : ActD) : x.Args.length ≤ sznAct x := by unfold sznAct sznSExpr; omega
theorem actVarsL_len (l0 : List ByteArray) (l : List ActD) : ∀ k, k ≤ l.length → (actVarsL l0 (l.take k)).length ≤ l0.length + 2 * ((l.take k).map sznAct).sum := by
  intro k
  induction k with
  | zero => intro _; simp [actVarsL]
  | succ k ih =>
    intro h
    have h1 := ih (by omega)
    have h2 : actVarsL l0 (l.take (k + 1)) = exprVarsL (actVarsL l0 (l.take k)) l[k].Args := foldl_next _ _ _ _ (by omega)
    rw [h2, List.take_succ_eq_append_getElem (by omega), List.map_append, List.sum_append]
    have h3 := exprVarsL_len (actVarsL l0 (l.take k)) l[k].Args
    have h4 := acts_len l[k]
    simp only [List.map_cons, List.map_nil, List.sum_cons, List.sum_nil]
    omega

theorem ext_two {α : Type} [Cel α] {w0 w : World} {l : List α} {v : Value} (h : Ext [] w0 l v w) (o1 o2 : Obj) :
    ∃ f, OwnS ((w.alloc o1).alloc o2) l v f ∧ f.Nodup ∧ (∀ b ∈ f, b ∈ ([] : List Nat) ∨ w0.heap.size ≤ b) ∧ Chg [] w0 ((w.alloc o1).alloc o2) ∧ w.heap.size + 1 ∉ f := by
  obtain ⟨f, h1, h2, h3, h4⟩ := h
  exact ⟨f, (h1.alloc o1).alloc o2, h2, h3, (h4.alloc o1).alloc o2, fun hm => by have := h1.lt _ hm; omega⟩

set_option maxHeartbeats 1000000 in
set_option maxRecDepth 20000 in
theorem iusedVars_w (a0 : RuleD) (v0_2 v0_3 v0_4 : Value) (w : World) (s0_2 : Sl w a0.Pats v0_2) (s0_3 : Sl w a0.Conds v0_3) (s0_4 : Sl w a0.Acts v0_4) (hz_a0 : sznRule a0 ≤ 1048576) :
    Calls Tryz.prog 221 #[.agg #[.string a0.Name, .int .i64 a0.Sal, v0_2, v0_3, v0_4]] w (fun e w' => ∃ u0, e = .returned (u0) ∧ Sl w' (iusedVars_p a0) u0 ∧ Below w.heap.size w w') := by
  obtain ⟨p, c, rfl, hl2, -⟩ := s0_2.open
  obtain ⟨p3, c3, rfl, hl3, -⟩ := s0_3.open
  obtain ⟨p4, c4, rfl, hl4, -⟩ := s0_4.open
  have hsz : (a0.Acts.map sznAct).sum ≤ 1048576 := by have := szn_Rule_Acts a0; unfold sznSAct at this; omega
  have hcz : a0.Conds.length ≤ 1048576 := by have := szn_Rule_Conds a0; unfold sznSCond at this; omega
  unfold iusedVars_p
  generalize a0.Pats = lp at *
  generalize a0.Conds = lc at *
  generalize a0.Acts = la at *
  obtain ⟨M, hM⟩ : ∃ M, condVarsL lc = M := ⟨_, rfl⟩
  have hMl := condVarsL_len lc lc.length (Nat.le_refl _)
  rw [List.take_length, hM] at hMl
  rw [hM]
  obtain ⟨L0, hL0⟩ : ∃ L, actVarsL M la = L := ⟨_, rfl⟩
  rw [hL0]
  replace hM := Lib.hid hM
  replace hL0 := Lib.hid hL0
  go_enter Tryz.func221, Tryz.ntmps221
  go_wp2
  have hX0 : Bx (w.alloc (.cells #[.string a0.Name, .int .i64 a0.Sal, .slice p lp.length c, .slice p3 lc.length c3, .slice p4 la.length c4] 174)) w.heap.size [.string a0.Name, .int .i64 a0.Sal, .slice p lp.length c, .slice p3 lc.length c3, .slice p4 la.length c4] := bx_new _ _ _ rfl
  generalize hw0 : w.alloc (.cells #[.string a0.Name, .int .i64 a0.Sal, .slice p lp.length c, .slice p3 lc.length c3, .slice p4 la.length c4] 174) = w0 at *
  have hB0 : Below w.heap.size w w0 := by rw [← hw0]; simp
  replace hw0 := Lib.hid hw0
  replace s0_3 := s0_3.to hB0
  replace s0_4 := s0_4.to hB0
  go_loopw [3, 13] (fun lv i wr => ∃ (k : Nat) (L : List ByteArray) (a1 : Option Addr) (c1 : Nat), i = .int .i64 k ∧ lv = .slice a1 L.length c1 ∧ k ≤ lc.length ∧ L.length ≤ 2 * k ∧ Hid (condVarsL (lc.take k) = L) ∧ Ext [] w0 L (.slice a1 L.length c1) wr) (fun _ i _ => lc.length - (intOf i).toNat)
  case atStart => exact ⟨0, [], none, 0, rfl, rfl, by omega, by simp, Lib.hid rfl, ⟨[], OwnS.nil _, by simp, by simp, Chg.refl _ _⟩⟩
  case round =>
    obtain ⟨k, L, a1, c1, rfl, rfl, hk, hLk, hL, hE⟩ := hrel
    by_cases hlt : k < lc.length
    · obtain ⟨b, o, rfl, hbl, hok, ⟨d0, d1, d2, d3, d4, d5, d6, d7, d8, d9, d10⟩⟩ := (s0_3.to hE.chg.belw).atCond k hlt
      have hst := Lib.hid (show condVarsL (lc.take (k + 1)) = addVarsL (condVarsL (lc.take k)) [lc[k].L, lc[k].R] from foldl_next _ _ _ _ hlt)
      generalize lc[k] = x at *
      obtain ⟨f1, g1, g2, g3, g4, hnot⟩ := ext_two hE (.cells #[.int .i64 x.Op, .int .i64 x.L.K, .string x.L.S, .int .i64 x.L.V.K, .int .i64 x.L.V.N, .string x.L.V.S, .int .i64 x.R.K, .string x.R.S, .int .i64 x.R.V.K, .int .i64 x.R.V.N, .string x.R.V.S] 264) (.cells #[.int .i64 x.L.K, .string x.L.S, .int .i64 x.L.V.K, .int .i64 x.L.V.N, .string x.L.V.S, .int .i64 x.R.K, .string x.R.S, .int .i64 x.R.V.K, .int .i64 x.R.V.N, .string x.R.V.S] 262)
      have hsl : ∀ u, Chg f1 ((wr.alloc (.cells #[.int .i64 x.Op, .int .i64 x.L.K, .string x.L.S, .int .i64 x.L.V.K, .int .i64 x.L.V.N, .string x.L.V.S, .int .i64 x.R.K, .string x.R.S, .int .i64 x.R.V.K, .int .i64 x.R.V.N, .string x.R.V.S] 264)).alloc (.cells #[.int .i64 x.L.K, .string x.L.S, .int .i64 x.L.V.K, .int .i64 x.L.V.N, .string x.L.V.S, .int .i64 x.R.K, .string x.R.S, .int .i64 x.R.V.K, .int .i64 x.R.V.N, .string x.R.V.S] 262)) u → Sl u [x.L, x.R] (.slice (some ⟨wr.heap.size + 1, 0, none⟩) 2 2) := fun u hu =>
        sl_two hok.2.1 hok.2.2 (Bx.chg (bx_new _ [.int .i64 x.L.K, .string x.L.S, .int .i64 x.L.V.K, .int .i64 x.L.V.N, .string x.L.V.S, .int .i64 x.R.K, .string x.R.S, .int .i64 x.R.V.K, .int .i64 x.R.V.N, .string x.R.V.S] 262 (by simp)) hu hnot)
      have hs2 : condVarsL (lc.take (k + 1)) = addVarsL L [x.L, x.R] := by rw [hst.out, hL.out]
      have hlen := two_len L x.L x.R
      replace hs2 := Lib.hid hs2
      clear hE hst hL
      go_wp2_with fail
      refine (addVars_e L [x.L, x.R] _ _ f1 _ g1 g2 hsl (by simp; omega)).mono ?_
      rintro e w1 ⟨a2, c2, rfl, hE2⟩
      have hE3 := Ext.trans g1 g3 g4 hE2
      clear hE2 g1 g3 g4 hsl
      generalize addVarsL L [x.L, x.R] = L2 at *
      go_wp2
      go_roundw
      case rel => exact ⟨k + 1, L2, a2, c2, by go_num, rfl, by omega, by omega, hs2, hE3⟩
      case measure => simp [intOf]; omega
    · obtain rfl : k = lc.length := by omega
      rw [List.take_length] at hL
      obtain rfl : M = L := hM.out.symm.trans hL.out
      have hXw := Bx.chg hX0 hE.chg (by simp)
      have x0 := hXw.c 0 _ rfl
      have x1 := hXw.c 1 _ rfl
      have x2 := hXw.c 2 _ rfl
      have x3 := hXw.c 3 _ rfl
      have x4 := hXw.c 4 _ rfl
      go_wp2
      go_loopw [3, 28] (fun lv i wr => ∃ (k : Nat) (L : List ByteArray) (a1 : Option Addr) (c1 : Nat), i = .int .i64 k ∧ lv = .slice a1 L.length c1 ∧ k ≤ la.length ∧ L.length ≤ M.length + 2097152 ∧ Hid (actVarsL M (la.take k) = L) ∧ Ext [] w0 L (.slice a1 L.length c1) wr) (fun _ i _ => la.length - (intOf i).toNat)
      case atStart => exact ⟨0, M, a1, c1, rfl, rfl, by omega, by omega, Lib.hid rfl, hE⟩
      case round =>
        clear hE hXw x0 x1 x2 x3 x4
        obtain ⟨k, L, a1, c1, rfl, rfl, hk, hLk, hL, hE⟩ := hrel
        by_cases hlt : k < la.length
        · obtain ⟨b, o, u0, rfl, hbl, hok, ⟨d0, d1, d2, d3, d4⟩, t0⟩ := s0_4.atAct k hlt
          obtain ⟨a0', q0, rfl, hl0, -⟩ := t0.open
          have hst := Lib.hid (show actVarsL M (la.take (k + 1)) = exprVarsL (actVarsL M (la.take k)) la[k].Args from foldl_next _ _ _ _ hlt)
          have hln := actVarsL_len M la (k + 1) (by omega)
          have hln0 := actVarsL_len M la k (by omega)
          have hln2 := take_sum_le sznAct la (k + 1)
          have hln3 := take_sum_le sznAct la k
          have hal : la[k].Args.length ≤ 1048576 := by have h1 := acts_len la[k]; have h2 := le_sum_get sznAct la k hlt; omega
          rw [hst.out, hL.out] at hln
          rw [hL.out] at hln0
          have hbelw := hE.chg.belw
          replace d0 := cell_below hbelw hbl d0
          replace d1 := cell_below hbelw hbl d1
          replace d2 := cell_below hbelw hbl d2
          replace d3 := cell_below hbelw hbl d3
          replace d4 := cell_below hbelw hbl d4
          generalize la[k] = z at *
          have hE1 := hE.alloc (.cells #[.int .i64 z.Kind, .string z.Name, .slice a0' z.Args.length q0, .int .i64 z.N, .string z.Undo] 245)
          replace hst := Lib.hid (hst.out.trans (congrArg (fun q => exprVarsL q z.Args) hL.out))
          clear hE hbelw
          go_wp2
          go_loopw [3, 35] (fun lv i wr => ∃ (j : Nat) (K : List ByteArray) (a1 : Option Addr) (c1 : Nat), i = .int .i64 j ∧ lv = .slice a1 K.length c1 ∧ j ≤ z.Args.length ∧ K.length ≤ L.length + 2 * j ∧ Hid (exprVarsL L (z.Args.take j) = K) ∧ Ext [] w0 K (.slice a1 K.length c1) wr) (fun _ i _ => z.Args.length - (intOf i).toNat)
          case atStart => exact ⟨0, L, a1, c1, rfl, rfl, by omega, by omega, Lib.hid rfl, hE1⟩
          case round =>
            clear hE1 d0 d1 d2 d3 d4
            obtain ⟨j, K, a1, c1, rfl, rfl, hj, hKj, hK, hE⟩ := hrel
            by_cases hjt : j < z.Args.length
            · obtain ⟨b3, o3, rfl, hbl3, hok3, ⟨d0, d1, d2, d3, d4, d5, d6, d7, d8, d9, d10⟩⟩ := (t0.to hE.chg.belw).atExpr j hjt
              have hst3 := Lib.hid (show exprVarsL L (z.Args.take (j + 1)) = addVarsL (exprVarsL L (z.Args.take j)) [z.Args[j].L, z.Args[j].R] from foldl_next _ _ _ _ hjt)
              generalize z.Args[j] = x at *
              obtain ⟨f1, g1, g2, g3, g4, hnot⟩ := ext_two hE (.cells #[.string x.Op, .int .i64 x.L.K, .string x.L.S, .int .i64 x.L.V.K, .int .i64 x.L.V.N, .string x.L.V.S, .int .i64 x.R.K, .string x.R.S, .int .i64 x.R.V.K, .int .i64 x.R.V.N, .string x.R.V.S] 319) (.cells #[.int .i64 x.L.K, .string x.L.S, .int .i64 x.L.V.K, .int .i64 x.L.V.N, .string x.L.V.S, .int .i64 x.R.K, .string x.R.S, .int .i64 x.R.V.K, .int .i64 x.R.V.N, .string x.R.V.S] 262)
              have hsl : ∀ u, Chg f1 ((wr.alloc (.cells #[.string x.Op, .int .i64 x.L.K, .string x.L.S, .int .i64 x.L.V.K, .int .i64 x.L.V.N, .string x.L.V.S, .int .i64 x.R.K, .string x.R.S, .int .i64 x.R.V.K, .int .i64 x.R.V.N, .string x.R.V.S] 319)).alloc (.cells #[.int .i64 x.L.K, .string x.L.S, .int .i64 x.L.V.K, .int .i64 x.L.V.N, .string x.L.V.S, .int .i64 x.R.K, .string x.R.S, .int .i64 x.R.V.K, .int .i64 x.R.V.N, .string x.R.V.S] 262)) u → Sl u [x.L, x.R] (.slice (some ⟨wr.heap.size + 1, 0, none⟩) 2 2) := fun u hu =>
                sl_two hok3.2.1 hok3.2.2 (Bx.chg (bx_new _ [.int .i64 x.L.K, .string x.L.S, .int .i64 x.L.V.K, .int .i64 x.L.V.N, .string x.L.V.S, .int .i64 x.R.K, .string x.R.S, .int .i64 x.R.V.K, .int .i64 x.R.V.N, .string x.R.V.S] 262 (by simp)) hu hnot)
              have hs2 : exprVarsL L (z.Args.take (j + 1)) = addVarsL K [x.L, x.R] := by rw [hst3.out, hK.out]
              have hlen := two_len K x.L x.R
              replace hs2 := Lib.hid hs2
              clear hE hst3 hK
              go_wp2_with fail
              refine (addVars_e K [x.L, x.R] _ _ f1 _ g1 g2 hsl (by simp; omega)).mono ?_
              rintro e w1 ⟨a2, c2, rfl, hE2⟩
              have hE3 := Ext.trans g1 g3 g4 hE2
              clear hE2 g1 g3 g4 hsl
              generalize addVarsL K [x.L, x.R] = L2 at *
              go_wp2
              go_roundw
              case rel => exact ⟨j + 1, L2, a2, c2, by go_num, rfl, by omega, by omega, hs2, hE3⟩
              case measure => simp [intOf]; omega
            · obtain rfl : j = z.Args.length := by omega
              rw [List.take_length] at hK
              have hs2 := Lib.hid (hst.out.trans hK.out)
              have hKl : K.length ≤ M.length + 2097152 := by rw [hK.out] at hln; omega
              go_wp2
              go_roundw
              case rel => exact ⟨k + 1, K, a1, c1, by go_num, rfl, by omega, hKl, hs2, hE⟩
              case measure => simp [intOf]; omega
        · obtain rfl : k = la.length := by omega
          rw [List.take_length] at hL
          obtain rfl : L0 = L := hL0.out.symm.trans hL.out
          go_wp2
          go_ret
          exact ⟨_, rfl, hE.sl, via hB0 hE.chg.belw⟩
end Go.Proofs.YthnilnggpbploaaGreat
