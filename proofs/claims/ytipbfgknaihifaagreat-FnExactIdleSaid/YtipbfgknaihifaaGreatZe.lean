/- Parts of a proof. -/
import Derived.Test.YtipbfgknaihifaaGreatZd
namespace Go.Proofs.YtipbfgknaihifaaGreat
open Go.RowKit
noncomputable section
@[reducible] def vD : LB := ⟨[], ⟨35, [.d zH], [(3, .pt 0 0), (5, vo zA), (6, vd .int), (11, vd (.lst zC)), (12, vd .int), (13, vd .int), (20, vo zA), (21, vd .int), (22, vd .int)]⟩, ⟨35, [], []⟩, 2, fun x => (fun (w0 : El zH) (l5 : List (El zA)) (n6 : Int) (l11 : List (El zC)) (n12 : Int) (n13 : Int) (l20 : List (El zA)) (n21 : Int) (n22 : Int) => (bif decide (n22 < n21) then (.ix n22 l20 (.ck (((l5.length + [(n6, (zB zA l20 n22).2)].length : Nat) : Int) ≤ 16777216) (.ik (n22 + (1 : Int)) (.v (.go (w0, (), (l5 ++ [(n6, (zB zA l20 n22).2)]), n6, l11, n12, n13, l20, n21, (n22 + (1 : Int)), ())))))) else (.v (.brk (w0, (), l5, n6, l11, n12, n13, l20, n21, n22, ()))) : Tr (St _ _))) x.1 x.2.2.1 x.2.2.2.1 x.2.2.2.2.1 x.2.2.2.2.2.1 x.2.2.2.2.2.2.1 x.2.2.2.2.2.2.2.1 x.2.2.2.2.2.2.2.2.1 x.2.2.2.2.2.2.2.2.2.1⟩
theorem zZW (w0 : El zH) (n6 : Int) (l11 : List (El zC)) (n12 : Int) (n13 : Int) (l20 : List (El zA)) (l5 : List (El zA)) : LB.run vD (w0, (), l5, n6, l11, n12, n13, l20, (l20.length : Int), (0 : Int), ()) = .brk (w0, (), (zg (fun _ x (s : (List (El zA))) => (s ++ [(n6, x.2)])) 0 l20 l5), n6, l11, n12, n13, l20, (l20.length : Int), (l20.length : Int), ()) := LB.run_fold (l := vD) (fun i s => (w0, (), s, n6, l11, n12, n13, l20, (l20.length : Int), (i : Int), ())) (fun i x s h => by
  simp only [LB.b, vD, zQ, zR, cond_true, yM h, zG h]
  rfl) (fun s => by simp only [LB.b, vD, xl]; rfl)
theorem zZw (w00 : El zH) (l50 : List (El zA)) (n60 : Int) (l110 : List (El zC)) (n120 : Int) (n130 : Int) (l200 : List (El zA)) (n210 : Int) (n220 : Int)  : (LB.run vD (w00, (), l50, n60, l110, n120, n130, l200, n210, n220, ())).all (fun _ => False) (fun (w0, _, _, n6, l11, n12, n13, l20, n21, _) => w00 = w0 ∧ n60 = n6 ∧ l110 = l11 ∧ n120 = n12 ∧ n130 = n13 ∧ l200 = l20 ∧ n210 = n21) (fun (w0, _, _, n6, l11, n12, n13, l20, n21, _) => w00 = w0 ∧ n60 = n6 ∧ l110 = l11 ∧ n120 = n12 ∧ n130 = n13 ∧ l200 = l20 ∧ n210 = n21) := by
 have H : ∀ (w0 : El zH) (l5 : List (El zA)) (n6 : Int) (l11 : List (El zC)) (n12 : Int) (n13 : Int) (l20 : List (El zA)) (n21 : Int) (n22 : Int), (w00 = w0 ∧ n60 = n6 ∧ l110 = l11 ∧ n120 = n12 ∧ n130 = n13 ∧ l200 = l20 ∧ n210 = n21) → St.all (fun _ => False) (fun (w0, _, _, n6, l11, n12, n13, l20, n21, _) => w00 = w0 ∧ n60 = n6 ∧ l110 = l11 ∧ n120 = n12 ∧ n130 = n13 ∧ l200 = l20 ∧ n210 = n21) (fun (w0, _, _, n6, l11, n12, n13, l20, n21, _) => w00 = w0 ∧ n60 = n6 ∧ l110 = l11 ∧ n120 = n12 ∧ n130 = n13 ∧ l200 = l20 ∧ n210 = n21) (vD.b (w0, (), l5, n6, l11, n12, n13, l20, n21, n22, ())) := by
  intro w0 l5 n6 l11 n12 n13 l20 n21 n22 hI
  obtain ⟨eq0, eq1, eq2, eq3, eq4, eq5, eq6⟩ := hI
  simp only [LB.b, vD, zi, zQ, zR]
  refine zj (fun h1 => ?_) (fun h1 => ?_)
  ·replace h1 : n22 < n21 := of_decide_eq_true h1
   exact ⟨eq0, eq1, eq2, eq3, eq4, eq5, eq6⟩
  ·replace h1 : ¬ (n22 < n21) := of_decide_eq_false h1
   exact ⟨eq0, eq1, eq2, eq3, eq4, eq5, eq6⟩
 exact LB.post (l := vD) (A := fun _ => False) (fun (w0, _, _, n6, l11, n12, n13, l20, n21, _) => w00 = w0 ∧ n60 = n6 ∧ l110 = l11 ∧ n120 = n12 ∧ n130 = n13 ∧ l200 = l20 ∧ n210 = n21) (fun ⟨w0, ⟨⟩, l5, n6, l11, n12, n13, l20, n21, n22, ⟨⟩⟩ hx => H w0 l5 n6 l11 n12 n13 l20 n21 n22 hx) ⟨rfl, rfl, rfl, rfl, rfl, rfl, rfl⟩
theorem zX9 (w00 : El zH) (l50 : List (El zA)) (n60 : Int) (l110 : List (El zC)) (n120 : Int) (n130 : Int) (l200 : List (El zA)) (n210 : Int) (n220 : Int) (p0 : (l50.length : Int) ≤ 64000 * n130 + n220 ∧ n220 ≤ n210 ∧ n210 = (l200.length : Int)) : (LB.run vD (w00, (), l50, n60, l110, n120, n130, l200, n210, n220, ())).all (fun _ => False) (fun (w0, _, l5, n6, l11, n12, n13, l20, n21, n22, _) => w00 = w0 ∧ n60 = n6 ∧ l110 = l11 ∧ n120 = n12 ∧ n130 = n13 ∧ l200 = l20 ∧ n210 = n21 ∧ ((l5.length : Int) ≤ 64000 * n13 + n22 ∧ n22 ≤ n21 ∧ n21 = (l20.length : Int))) (fun (w0, _, l5, n6, l11, n12, n13, l20, n21, n22, _) => w00 = w0 ∧ n60 = n6 ∧ l110 = l11 ∧ n120 = n12 ∧ n130 = n13 ∧ l200 = l20 ∧ n210 = n21 ∧ ((l5.length : Int) ≤ 64000 * n13 + n22 ∧ n22 ≤ n21 ∧ n21 = (l20.length : Int))) := by
 have H : ∀ (w0 : El zH) (l5 : List (El zA)) (n6 : Int) (l11 : List (El zC)) (n12 : Int) (n13 : Int) (l20 : List (El zA)) (n21 : Int) (n22 : Int), (w00 = w0 ∧ n60 = n6 ∧ l110 = l11 ∧ n120 = n12 ∧ n130 = n13 ∧ l200 = l20 ∧ n210 = n21 ∧ ((l5.length : Int) ≤ 64000 * n13 + n22 ∧ n22 ≤ n21 ∧ n21 = (l20.length : Int))) → St.all (fun _ => False) (fun (w0, _, l5, n6, l11, n12, n13, l20, n21, n22, _) => w00 = w0 ∧ n60 = n6 ∧ l110 = l11 ∧ n120 = n12 ∧ n130 = n13 ∧ l200 = l20 ∧ n210 = n21 ∧ ((l5.length : Int) ≤ 64000 * n13 + n22 ∧ n22 ≤ n21 ∧ n21 = (l20.length : Int))) (fun (w0, _, l5, n6, l11, n12, n13, l20, n21, n22, _) => w00 = w0 ∧ n60 = n6 ∧ l110 = l11 ∧ n120 = n12 ∧ n130 = n13 ∧ l200 = l20 ∧ n210 = n21 ∧ ((l5.length : Int) ≤ 64000 * n13 + n22 ∧ n22 ≤ n21 ∧ n21 = (l20.length : Int))) (vD.b (w0, (), l5, n6, l11, n12, n13, l20, n21, n22, ())) := by
  intro w0 l5 n6 l11 n12 n13 l20 n21 n22 hI
  obtain ⟨eq0, eq1, eq2, eq3, eq4, eq5, eq6, eq7⟩ := hI
  simp only [LB.b, vD, zi, zQ, zR]
  refine zj (fun h2 => ?_) (fun h2 => ?_)
  ·replace h2 : n22 < n21 := of_decide_eq_true h2
   exact yg (show w00 = w0 ∧ n60 = n6 ∧ l110 = l11 ∧ n120 = n12 ∧ n130 = n13 ∧ l200 = l20 ∧ n210 = n21 ∧ (((l5 ++ [(n6, (zB zA l20 n22).2)]).length : Int) ≤ 64000 * n13 + (n22 + (1 : Int)) ∧ (n22 + (1 : Int)) ≤ n21 ∧ n21 = (l20.length : Int)) from ⟨eq0, eq1, eq2, eq3, eq4, eq5, eq6, by first | omega | rfl | assumption | (simp <;> omega)⟩)
  ·replace h2 : ¬ (n22 < n21) := of_decide_eq_false h2
   exact zCd (show w00 = w0 ∧ n60 = n6 ∧ l110 = l11 ∧ n120 = n12 ∧ n130 = n13 ∧ l200 = l20 ∧ n210 = n21 ∧ ((l5.length : Int) ≤ 64000 * n13 + n22 ∧ n22 ≤ n21 ∧ n21 = (l20.length : Int)) from ⟨eq0, eq1, eq2, eq3, eq4, eq5, eq6, by first | omega | rfl | assumption | (simp <;> omega)⟩)
 exact LB.post (l := vD) (A := fun _ => False) (fun (w0, _, l5, n6, l11, n12, n13, l20, n21, n22, _) => w00 = w0 ∧ n60 = n6 ∧ l110 = l11 ∧ n120 = n12 ∧ n130 = n13 ∧ l200 = l20 ∧ n210 = n21 ∧ ((l5.length : Int) ≤ 64000 * n13 + n22 ∧ n22 ≤ n21 ∧ n21 = (l20.length : Int))) (fun ⟨w0, ⟨⟩, l5, n6, l11, n12, n13, l20, n21, n22, ⟨⟩⟩ hx => H w0 l5 n6 l11 n12 n13 l20 n21 n22 hx) ⟨rfl, rfl, rfl, rfl, rfl, rfl, rfl, p0⟩
theorem zZQ : SF vD fun x : El zH × Unit × List (El zA) × Int × List (El zC) × Int × Int × List (El zA) × Int × Int × Unit => (0 ≤ x.2.2.2.2.2.2.2.2.2.1 ∧ x.2.2.2.2.2.2.2.2.1 = (x.2.2.2.2.2.2.2.1.length : Int) ∧ (x.2.2.1.length : Int) ≤ 64000 * x.2.2.2.2.2.2.1 + x.2.2.2.2.2.2.2.2.2.1 ∧ (x.2.2.2.2.2.2.2.1.length : Int) ≤ 64000 ∧ (0 ≤ x.2.2.2.2.2.2.1 ∧ x.2.2.2.2.2.2.1 < 12), x.2.2.2.2.2.2.2.2.1 - x.2.2.2.2.2.2.2.2.2.1) := xz (by
 rintro ⟨(w0 : El zH), ⟨⟩, (l5 : List (El zA)), (n6 : Int), (l11 : List (El zC)), (n12 : Int), (n13 : Int), (l20 : List (El zA)), (n21 : Int), (n22 : Int), ⟨⟩⟩ hI hw
 obtain ⟨i0, i1, k0, k1, k2⟩ := hI
 dsimp only at i0 i1 k0 k1 k2
 have _ : -9223372036854775808 ≤ n6 ∧ n6 ≤ 9223372036854775807 := zw hw.2.2.2.1
 have _ : -9223372036854775808 ≤ n12 ∧ n12 ≤ 9223372036854775807 := zw hw.2.2.2.2.2.1
 have _ : -9223372036854775808 ≤ n13 ∧ n13 ≤ 9223372036854775807 := zw hw.2.2.2.2.2.2.1
 have _ : -9223372036854775808 ≤ n21 ∧ n21 ≤ 9223372036854775807 := zw hw.2.2.2.2.2.2.2.2.1
 have _ : (l20.length : Int) ≤ 16777216 := zE (hw.2.2.2.2.2.2.2.1.1)
 have _ : (l5.length : Int) ≤ 16777216 := zE (hw.2.2.1.1)
 simp [vD]
 repeat' first | intro _ | apply And.intro
 all_goals omega)
@[reducible] def zBJ : LB := ⟨[1], ⟨35, [.d zH], [(3, .pt 0 0), (5, vo zA), (11, vd (.lst zC)), (12, vd .int), (13, vd .int)]⟩, ⟨35, [], []⟩, 0, fun x => (fun (w0 : El zH) (l5 : List (El zA)) (l11 : List (El zC)) (n12 : Int) (n13 : Int) => (bif decide (n13 < n12) then (.ix n13 l11 (.ck (zGS (zB zC l11 n13) w0) (let y1 := (yw (zB zC l11 n13) w0); .lp vD (w0, (), l5, n13, l11, n12, n13, y1.1, (y1.1.length : Int), (0 : Int), ()) (fun _ => .v (.ret ())) (fun t2 => .ik (t2.2.2.2.2.2.2.1 + (1 : Int)) (.v (.go (t2.1, (), t2.2.2.1, t2.2.2.2.2.1, t2.2.2.2.2.2.1, (t2.2.2.2.2.2.2.1 + (1 : Int)), ()))))))) else (.v (.brk (w0, (), l5, l11, n12, n13, ()))) : Tr (St _ _))) x.1 x.2.2.1 x.2.2.2.1 x.2.2.2.2.1 x.2.2.2.2.2.1⟩
theorem zZv (w00 : El zH) (l50 : List (El zA)) (l110 : List (El zC)) (n120 : Int) (n130 : Int)  : (LB.run zBJ (w00, (), l50, l110, n120, n130, ())).all (fun _ => False) (fun (w0, _, _, l11, n12, _) => w00 = w0 ∧ l110 = l11 ∧ n120 = n12) (fun (w0, _, _, l11, n12, _) => w00 = w0 ∧ l110 = l11 ∧ n120 = n12) := by
 have H : ∀ (w0 : El zH) (l5 : List (El zA)) (l11 : List (El zC)) (n12 : Int) (n13 : Int), (w00 = w0 ∧ l110 = l11 ∧ n120 = n12) → St.all (fun _ => False) (fun (w0, _, _, l11, n12, _) => w00 = w0 ∧ l110 = l11 ∧ n120 = n12) (fun (w0, _, _, l11, n12, _) => w00 = w0 ∧ l110 = l11 ∧ n120 = n12) (zBJ.b (w0, (), l5, l11, n12, n13, ())) := by
  intro w0 l5 l11 n12 n13 hI
  obtain ⟨eq0, eq1, eq2⟩ := hI
  simp only [LB.b, zBJ, zi, zQ, zR, zx]
  refine zj (fun h3 => ?_) (fun h3 => ?_)
  ·replace h3 : n13 < n12 := of_decide_eq_true h3
   refine zP7 (A' := fun _ => False) (B' := fun (t2w0, _, t2l5, t2n6, t2l11, t2n12, t2n13, t2l20, t2n21, t2n22, _) => w0 = t2w0 ∧ n13 = t2n6 ∧ l11 = t2l11 ∧ n12 = t2n12 ∧ n13 = t2n13 ∧ (yw (zB zC l11 n13) w0).1 = t2l20 ∧ ((yw (zB zC l11 n13) w0).1.length : Int) = t2n21) (zZw w0 l5 n13 l11 n12 n13 (yw (zB zC l11 n13) w0).1 ((yw (zB zC l11 n13) w0).1.length : Int) (0 : Int)) (fun _ h => h.elim) (fun t ht => ?_)
   obtain ⟨t2w0, ⟨⟩, t2l5, t2n6, t2l11, t2n12, t2n13, t2l20, t2n21, t2n22, ⟨⟩⟩ := t
   dsimp only
   obtain ⟨rfl, rfl, rfl, rfl, rfl, rfl, rfl⟩ := ht
   obtain ⟨t2n22, rfl⟩ : ∃ y : Int, y = t2n22 := ⟨_, rfl⟩
   exact ⟨eq0, eq1, eq2⟩
  ·replace h3 : ¬ (n13 < n12) := of_decide_eq_false h3
   exact ⟨eq0, eq1, eq2⟩
 exact LB.post (l := zBJ) (A := fun _ => False) (fun (w0, _, _, l11, n12, _) => w00 = w0 ∧ l110 = l11 ∧ n120 = n12) (fun ⟨w0, ⟨⟩, l5, l11, n12, n13, ⟨⟩⟩ hx => H w0 l5 l11 n12 n13 hx) ⟨rfl, rfl, rfl⟩
theorem zXs : SF zBJ fun x : El zH × Unit × List (El zA) × List (El zC) × Int × Int × Unit => (0 ≤ x.2.2.2.2.2.1 ∧ x.2.2.2.2.1 = (x.2.2.2.1.length : Int) ∧ (x.2.2.1.length : Int) ≤ 64000 * x.2.2.2.2.2.1 ∧ x.1.1.length ≤ 40 ∧ x.2.2.2.1.length ≤ 12 ∧ (∀ r ∈ x.2.2.2.1, (∀ p ∈ r.2.2.1, p.2.1.length ≤ 5) ∧ (yV r false).1.length ≤ 3), x.2.2.2.2.1 - x.2.2.2.2.2.1) := xz (by
 rintro ⟨(w0 : El zH), ⟨⟩, (l5 : List (El zA)), (l11 : List (El zC)), (n12 : Int), (n13 : Int), ⟨⟩⟩ hI hw
 dsimp only at hI ⊢
 obtain ⟨i0, i1, k0, k1, k2, k3⟩ := hI
 have _ : -9223372036854775808 ≤ n12 ∧ n12 ≤ 9223372036854775807 := zw hw.2.2.2.2.1
 have hb : (l11.length : Int) ≤ 16777216 := zE (hw.2.2.2.1.1)
 refine ⟨by omega, ?_⟩
 refine xM (fun h4 => ?_) (fun h4 => ?_)
 ·replace h4 : n13 < n12 := of_decide_eq_true h4
  refine yR ?_ ?_
  ·first | omega | (simp <;> omega)
  ·refine yR ?_ ?_
   ·exact ⟨k1, (k3 _ (z4 (by omega))).1, (k3 _ (z4 (by omega))).2⟩
   ·refine yR ?_ ?_
    ·exact zZQ _ ⟨by (have _ := xp (r := zB zC l11 n13) (s := w0) k1 (k3 _ (z4 (by omega))).1 (k3 _ (z4 (by omega))).2; dsimp only <;> first | omega | assumption | (simp <;> omega)), by (have _ := xp (r := zB zC l11 n13) (s := w0) k1 (k3 _ (z4 (by omega))).1 (k3 _ (z4 (by omega))).2; dsimp only <;> first | omega | assumption | (simp <;> omega)), by (have _ := xp (r := zB zC l11 n13) (s := w0) k1 (k3 _ (z4 (by omega))).1 (k3 _ (z4 (by omega))).2; dsimp only <;> first | omega | assumption | (simp <;> omega)), by (have _ := xp (r := zB zC l11 n13) (s := w0) k1 (k3 _ (z4 (by omega))).1 (k3 _ (z4 (by omega))).2; dsimp only <;> first | omega | assumption | (simp <;> omega)), by (have _ := xp (r := zB zC l11 n13) (s := w0) k1 (k3 _ (z4 (by omega))).1 (k3 _ (z4 (by omega))).2; dsimp only <;> first | omega | assumption | (simp <;> omega))⟩
    ·refine zNC (A' := fun _ => False) (B' := fun (t2w0, _, t2l5, t2n6, t2l11, t2n12, t2n13, t2l20, t2n21, t2n22, _) => w0 = t2w0 ∧ n13 = t2n6 ∧ l11 = t2l11 ∧ n12 = t2n12 ∧ n13 = t2n13 ∧ (yw (zB zC l11 n13) w0).1 = t2l20 ∧ ((yw (zB zC l11 n13) w0).1.length : Int) = t2n21 ∧ ((t2l5.length : Int) ≤ 64000 * t2n13 + t2n22 ∧ t2n22 ≤ t2n21 ∧ t2n21 = (t2l20.length : Int))) (zX9 w0 l5 n13 l11 n12 n13 (yw (zB zC l11 n13) w0).1 ((yw (zB zC l11 n13) w0).1.length : Int) (0 : Int) (by (have _ := xp (r := zB zC l11 n13) (s := w0) k1 (k3 _ (z4 (by omega))).1 (k3 _ (z4 (by omega))).2; first | omega | rfl | assumption | (simp <;> omega) | (refine ⟨?_, ?_, ?_⟩ <;> first | omega | rfl | (simp <;> omega)) | (refine ⟨?_, ?_⟩ <;> first | omega | rfl | (simp <;> omega))))) (fun _ h => h.elim) (fun t ht => ?_)
     obtain ⟨t2w0, ⟨⟩, t2l5, t2n6, t2l11, t2n12, t2n13, t2l20, t2n21, t2n22, ⟨⟩⟩ := t
     dsimp only
     obtain ⟨rfl, rfl, rfl, rfl, rfl, rfl, rfl, hth5⟩ := ht
     obtain ⟨t2n22, rfl⟩ : ∃ y : Int, y = t2n22 := ⟨_, rfl⟩
     replace hth5 : (t2l5.length : Int) ≤ 64000 * n13 + t2n22 ∧ t2n22 ≤ ((yw (zB zC l11 n13) w0).1.length : Int) ∧ ((yw (zB zC l11 n13) w0).1.length : Int) = ((yw (zB zC l11 n13) w0).1.length : Int) := hth5
     refine yR ?_ ?_
     ·exact ink (by omega) (by omega)
     ·exact show (0 ≤ (n13 + (1 : Int)) ∧ n12 = (l11.length : Int) ∧ (t2l5.length : Int) ≤ 64000 * (n13 + (1 : Int)) ∧ w0.1.length ≤ 40 ∧ l11.length ≤ 12 ∧ (∀ r ∈ l11, (∀ p ∈ r.2.2.1, p.2.1.length ≤ 5) ∧ (yV r false).1.length ≤ 3)) ∧ n12 - (n13 + (1 : Int)) < n12 - n13 ∧ 0 < n12 - n13 from ⟨⟨by (have _ := xp (r := zB zC l11 n13) (s := w0) k1 (k3 _ (z4 (by omega))).1 (k3 _ (z4 (by omega))).2; first | omega | rfl | assumption | (simp <;> omega)), by (have _ := xp (r := zB zC l11 n13) (s := w0) k1 (k3 _ (z4 (by omega))).1 (k3 _ (z4 (by omega))).2; first | omega | rfl | assumption | (simp <;> omega)), by (have _ := xp (r := zB zC l11 n13) (s := w0) k1 (k3 _ (z4 (by omega))).1 (k3 _ (z4 (by omega))).2; first | omega | rfl | assumption | (simp <;> omega)), by (have _ := xp (r := zB zC l11 n13) (s := w0) k1 (k3 _ (z4 (by omega))).1 (k3 _ (z4 (by omega))).2; first | omega | rfl | assumption | (simp <;> omega)), by (have _ := xp (r := zB zC l11 n13) (s := w0) k1 (k3 _ (z4 (by omega))).1 (k3 _ (z4 (by omega))).2; first | omega | rfl | assumption | (simp <;> omega)), by (have _ := xp (r := zB zC l11 n13) (s := w0) k1 (k3 _ (z4 (by omega))).1 (k3 _ (z4 (by omega))).2; first | omega | rfl | assumption | (simp <;> omega))⟩, by (first | omega | (simp only [List.length_set]; omega)), by (first | omega | (simp only [List.length_set]; omega))⟩
 ·replace h4 : ¬ (n13 < n12) := of_decide_eq_false h4
  exact trivial)
def zOE (a0 : El zN) (a1 : El zH) : Tr (List (El zA) × Unit) := .lp zBJ (a1, (), ([] : List (El zA)), a0.2, (a0.2.length : Int), (0 : Int), ()) (fun _ => .bad) (fun t3 => .v (t3.2.2.1, ()))
def zN3 a0 a1 := (zOE a0 a1).val
def zNs (a0 : El zN) (a1 : El zH) : Prop := znA a0 a1
@[reducible] def zXp : FnD := ⟨[va zN, va zH], [vo zA], false, fun a => some (zNs a.1 a.2.1), fun a => zN3 a.1 a.2.1⟩
theorem zhq (a0 : El zN) (a1 : El zH) (_ : xG zXp.args (a0, a1, ())) (hp : zNs a0 a1) : (zOE a0 a1).ok := by
 unfold zNs at hp
 obtain ⟨hp1, hp2, hp3⟩ := hp
 unfold zOE
 refine zI ?_ ?_
 ·exact zXs _ ⟨by (dsimp only <;> first | omega | rfl | assumption | (simp <;> omega)), by (dsimp only <;> first | omega | rfl | assumption | (simp <;> omega)), by (dsimp only <;> first | omega | rfl | assumption | (simp <;> omega)), by (dsimp only <;> first | omega | rfl | assumption | (simp <;> omega)), by (dsimp only <;> first | omega | rfl | assumption | (simp <;> omega)), by (dsimp only <;> first | omega | rfl | assumption | (simp <;> omega))⟩
 ·refine zIQ (A' := fun _ => False) (B' := fun (t3w0, _, t3l5, t3l11, t3n12, t3n13, _) => a1 = t3w0 ∧ a0.2 = t3l11 ∧ (a0.2.length : Int) = t3n12) (zZv a1 ([] : List (El zA)) a0.2 (a0.2.length : Int) (0 : Int)) (fun _ h => h.elim) (fun t ht => ?_)
  obtain ⟨t3w0, ⟨⟩, t3l5, t3l11, t3n12, t3n13, ⟨⟩⟩ := t
  dsimp only
  obtain ⟨rfl, rfl, rfl⟩ := ht
  obtain ⟨t3n13, rfl⟩ : ∃ y : Int, y = t3n13 := ⟨_, rfl⟩
  trivial
def zi8 : Con Tryz.prog := yD mo g0 [zVV] [zBJ, vD] 47 zXp (fn := Tryz.f47) ⟨lk, lk, trivial⟩ (fun a hw h => yT (by kernel_rfl) (zhq a.1 a.2.1 hw h) rfl)
def zKR (a0 : El zN) (a1 : El zA) : Tr (Bool × Unit) := bif decide (a1.1 ≥ (0 : Int)) then (.v (decide (a1.1 < (a0.2.length : Int)), ())) else (.v (false, ()))
def xB a0 a1 := (zKR a0 a1).val
@[reducible] def zaD : FnD := ⟨[va zN, va zA], [vd .bool], true, fun _ => none, fun a => xB a.1 a.2.1⟩
def zNB : Con Tryz.prog := yD mo g0 [] [] 83 zaD (fn := Tryz.f83) trivial (fun a _ _ => yT (t' := zKR a.1 a.2.1) (by kernel_rfl) (by simp [zKR]) rfl)
theorem zJc {d : El zN} {m : El zA} (h : (xB d m).1 = true) : 0 ≤ m.1 ∧ m.1 < (d.2.length : Int) := by
 simp only [xB, zKR, zi, zR] at h
 cases e : decide (m.1 ≥ (0 : Int)) with
 | false => rw [e] at h; cases h
 | true =>
  rw [e] at h
  exact ⟨of_decide_eq_true e, of_decide_eq_true h⟩
@[reducible] def yH : LB := ⟨[], ⟨36, [], [(0, vd (.lst .int)), (1, vd (.lst .int)), (9, vd (.lst .int)), (10, vd .int), (11, vd .int)]⟩, ⟨36, [], [(4, vd .int)]⟩, 0, fun x => (fun (l0 : List (El .int)) (l1 : List (El .int)) (l9 : List (El .int)) (n10 : Int) (n11 : Int) => (bif decide (n11 < n10) then (.ix n11 l9 (bif decide (n11 ≥ (l1.length : Int)) then (.v (.ret ((1 : Int), ()))) else (.ix n11 l1 (let y1 := (z0 (zB .int l9 n11) (zB .int l1 n11)); bif (y1.1 != (0 : Int)) then (.v (.ret (y1.1, ()))) else (.ik (n11 + (1 : Int)) (.v (.go (l0, l1, l9, n10, (n11 + (1 : Int)), ())))))))) else (.v (.brk (l0, l1, l9, n10, n11, ()))) : Tr (St _ _))) x.1 x.2.1 x.2.2.1 x.2.2.2.1 x.2.2.2.2.1⟩
theorem zGf (l0 : List (El .int)) (l1 : List (El .int)) (l9 : List (El .int)) : LB.run yH (l0, l1, l9, (l0.length : Int), (0 : Int), ()) = zCY (yt (fun i _ => bif (decide ((i : Int) ≥ (l1.length : Int))) then (some ((1 : Int), ())) else (bif ((z0 (zB .int l9 (i : Int)) (zB .int l1 (i : Int))).1 != (0 : Int)) then (some ((z0 (zB .int l9 (i : Int)) (zB .int l1 (i : Int))).1, ())) else none)) 0 l0) (l0, l1, l9, (l0.length : Int), (l0.length : Int), ()) := LB.run_scan (l := yH) (fun i => (l0, l1, l9, (l0.length : Int), (i : Int), ())) (fun i x h => by
  simp only [LB.b, yH, zi, zQ, zR, cond_true, yM h]
  cases (decide ((i : Int) ≥ (l1.length : Int)))
  ·cases ((z0 (zB .int l9 (i : Int)) (zB .int l1 (i : Int))).1 != (0 : Int)) <;> rfl
  ·rfl) (by simp only [LB.b, yH, xl]; rfl)
theorem zGR : SF yH fun x : List (El .int) × List (El .int) × List (El .int) × Int × Int × Unit => (0 ≤ x.2.2.2.2.1 ∧ x.2.2.2.1 = (x.1.length : Int) ∧ x.2.2.2.1 ≤ (x.2.2.1.length : Int), x.2.2.2.1 - x.2.2.2.2.1) := xz (by
 rintro ⟨(l0 : List (El .int)), (l1 : List (El .int)), (l9 : List (El .int)), (n10 : Int), (n11 : Int), ⟨⟩⟩ hI hw
 have _ : -9223372036854775808 ≤ n10 ∧ n10 ≤ 9223372036854775807 := zw hw.2.2.2.1
 have _ : (l0.length : Int) ≤ 16777216 := zE (hw.1.1)
 simp [yH] at hI ⊢
 repeat' first | intro _ | apply And.intro
 all_goals omega)
def vb (a0 : List (El .int)) (a1 : List (El .int)) : Tr (Int × Unit) := .lp yH (a0, a1, a0, (a0.length : Int), (0 : Int), ()) (fun r2 => .v (r2.1, ())) (fun t2 => bif decide ((t2.1.length : Int) < (t2.2.1.length : Int)) then (.v ((-1 : Int), ())) else (.v ((0 : Int), ())))
def ve a0 a1 := (vb a0 a1).val
@[reducible] def zDt : FnD := ⟨[vd (.lst .int), vd (.lst .int)], [vd .int], true, fun _ => none, fun a => ve a.1 a.2.1⟩
theorem zIJ (a0 : List (El .int)) (a1 : List (El .int)) (_ : xG zDt.args (a0, a1, ())) : (vb a0 a1).ok := by
 unfold vb
 refine zI ?_ ?_
 ·exact zGR _ ⟨by (dsimp only <;> omega), by (dsimp only <;> omega), by (dsimp only <;> omega)⟩
 ·simp
def zIR : Con Tryz.prog := yD mo g0 [zEr] [yH] 238 zDt (fn := Tryz.f238) ⟨lk, trivial⟩ (fun a hw _ => yT (by kernel_rfl) (zIJ a.1 a.2.1 hw) rfl)
theorem zIN (a0 : List (El .int)) (a1 : List (El .int)) : ve a0 a1 = zCh (yt (fun i _ => bif (decide ((i : Int) ≥ (a1.length : Int))) then (some ((1 : Int), ())) else (bif ((z0 (zB .int a0 (i : Int)) (zB .int a1 (i : Int))).1 != (0 : Int)) then (some ((z0 (zB .int a0 (i : Int)) (zB .int a1 (i : Int))).1, ())) else none)) 0 a0) (fun (r1 : yH.r.T) => (r1.1, ())) (bif (decide ((a0.length : Int) < (a1.length : Int))) then ((-1 : Int), ()) else ((0 : Int), ())) := by
 simp only [ve, vb, zR, zi, zx, zQ]
 rw [zGf, xI] <;> rfl
def zCX (a0 : El zA) (a1 : El zA) : Tr (Int × Unit) := let y3 := (zAA [(z0 a0.1 a1.1).1, (z0 (a0.2.1.length : Int) (a1.2.1.length : Int)).1]); bif (y3.1 == (0 : Int)) then (.v ((ve a0.2.1 a1.2.1).1, ())) else (.v (y3.1, ()))
def zEs a0 a1 := (zCX a0 a1).val
@[reducible] def zNv : FnD := ⟨[va zA, va zA], [vd .int], true, fun _ => none, fun a => zEs a.1 a.2.1⟩
def zNU : Con Tryz.prog := yD mo g0 [zEr, zNj, zIR] [] 195 zNv (fn := Tryz.f195) trivial (fun a _ _ => yT (t' := zCX a.1 a.2.1) (by kernel_rfl) (by simp [zCX]) rfl)
def zGW (a0 : El zA) (a1 : El zA) : Bool × Unit := (decide ((zEs a0 a1).1 < (0 : Int)), ())
@[reducible] def zW4 : FnD := ⟨[va zA, va zA], [vd .bool], true, fun _ => none, fun a => zGW a.1 a.2.1⟩
def zW5 : Con Tryz.prog := yD mo g0 [zNU] [] 140 zW4 (fn := Tryz.f140) trivial (fun _ _ _ => okv (by kernel_rfl))
def zLy (a0 : El zN) (a1 : El zA) (a2 : El zA) : Tr (Bool × Unit) := bif (!(xB a0 a1).1) then (.v (false, ())) else (bif (!(xB a0 a2).1) then (.v (false, ())) else (.ix a1.1 a0.2 (.ix a2.1 a0.2 (bif decide ((zB zC a0.2 a1.1).2.1 > (zB zC a0.2 a2.1).2.1) then (.v (true, ())) else (bif ((zB zC a0.2 a1.1).2.1 == (zB zC a0.2 a2.1).2.1) then (.v ((zGW a1 a2).1, ())) else (.v (false, ())))))))
def zCR a0 a1 a2 := (zLy a0 a1 a2).val
@[reducible] def zU1 : FnD := ⟨[va zN, va zA, va zA], [vd .bool], true, fun _ => none, fun a => zCR a.1 a.2.1 a.2.2.1⟩
theorem zfh (a0 : El zN) (a1 : El zA) (a2 : El zA) (_ : xG zU1.args (a0, a1, a2, ())) : (zLy a0 a1 a2).ok := by
 unfold zLy
 refine zp (fun _ => trivial) (fun h1 => ?_)
 replace h1 := vQ h1
 replace h1 := zJc h1
 refine zp (fun _ => trivial) (fun h2 => ?_)
 replace h2 := vQ h2
 replace h2 := zJc h2
 refine zI ?_ ?_
 ·first | omega | (simp <;> omega)
 ·refine zI ?_ ?_
  ·first | omega | (simp <;> omega)
  ·simp
def zhR : Con Tryz.prog := yD mo g0 [zNB, zW5] [] 85 zU1 (fn := Tryz.f85) trivial (fun a hw _ => yT (by kernel_rfl) (zfh a.1 a.2.1 a.2.2.1 hw) rfl)
@[reducible] def yc : LB := ⟨[], ⟨26, [], [(0, vd (.lst .int)), (1, vd (.lst .int)), (12, vd .int), (13, vd .int)]⟩, ⟨26, [], [(4, vd .bool)]⟩, 0, fun x => (fun (l0 : List (El .int)) (l1 : List (El .int)) (n12 : Int) (n13 : Int) => (bif decide (n13 < n12) then (.ix n13 l0 (.ix n13 l1 (bif ((zB .int l0 n13) != (zB .int l1 n13)) then (.v (.ret (false, ()))) else (.ik (n13 + (1 : Int)) (.v (.go (l0, l1, n12, (n13 + (1 : Int)), ()))))))) else (.v (.brk (l0, l1, n12, n13, ()))) : Tr (St _ _))) x.1 x.2.1 x.2.2.1 x.2.2.2.1⟩
theorem zHo (l0 : List (El .int)) (l1 : List (El .int)) : LB.run yc (l0, l1, (l0.length : Int), (0 : Int), ()) = bif zd (fun i x => bif (x != (zB .int l1 (i : Int))) then false else true) 0 l0 then .brk (l0, l1, (l0.length : Int), (l0.length : Int), ()) else .ret (false, ()) := LB.run_all (l := yc) (fun i => (l0, l1, (l0.length : Int), (i : Int), ())) (fun i x h => by
  simp only [LB.b, yc, zi, zQ, zR, cond_true, yM h, zG h]
  cases (x != (zB .int l1 (i : Int))) <;> rfl) (by simp only [LB.b, yc, xl]; rfl)
theorem zHn : SF yc fun x : List (El .int) × List (El .int) × Int × Int × Unit => (0 ≤ x.2.2.2.1 ∧ x.2.2.1 = (x.1.length : Int) ∧ x.2.2.1 ≤ (x.2.1.length : Int), x.2.2.1 - x.2.2.2.1) := xz (by
 rintro ⟨(l0 : List (El .int)), (l1 : List (El .int)), (n12 : Int), (n13 : Int), ⟨⟩⟩ hI hw
 have _ : -9223372036854775808 ≤ n12 ∧ n12 ≤ 9223372036854775807 := zw hw.2.2.1
 have _ : (l0.length : Int) ≤ 16777216 := zE (hw.1.1)
 simp [yc] at hI ⊢
 repeat' first | intro _ | apply And.intro
 all_goals omega)
def v7 (a0 : List (El .int)) (a1 : List (El .int)) : Tr (Bool × Unit) := bif ((a0.length : Int) != (a1.length : Int)) then (.v (false, ())) else (.lp yc (a0, a1, (a0.length : Int), (0 : Int), ()) (fun r1 => .v (r1.1, ())) (fun _ => .v (true, ())))
def v5 a0 a1 := (v7 a0 a1).val
@[reducible] def zEq : FnD := ⟨[vd (.lst .int), vd (.lst .int)], [vd .bool], true, fun _ => none, fun a => v5 a.1 a.2.1⟩
theorem zKV (a0 : List (El .int)) (a1 : List (El .int)) (_ : xG zEq.args (a0, a1, ())) : (v7 a0 a1).ok := by
 unfold v7
 refine zp (fun _ => trivial) (fun h1 => ?_)
 replace h1 := zAp h1
 refine zI ?_ ?_
 ·exact zHn _ ⟨by (dsimp only <;> omega), by (dsimp only <;> omega), by (dsimp only <;> omega)⟩
 ·simp
def zJ8 : Con Tryz.prog := yD mo g0 [] [yc] 194 zEq (fn := Tryz.f194) ⟨lk, trivial⟩ (fun a hw _ => yT (by kernel_rfl) (zKV a.1 a.2.1 hw) rfl)
theorem zJ0 (a0 : List (El .int)) (a1 : List (El .int)) : v5 a0 a1 = bif ((a0.length : Int) != (a1.length : Int)) then (false, ()) else (bif zd (fun i x => bif (x != (zB .int a1 (i : Int))) then false else true) 0 a0 then (true, ()) else (false, ())) := by
 simp only [v5, v7, zR, zi, zx, zQ]
 rw [zHo, z7] <;> rfl
def zGY (a0 : El zA) (a1 : El zA) : Tr (Bool × Unit) := bif (a0.1 == a1.1) then (.v ((v5 a0.2.1 a1.2.1).1, ())) else (.v (false, ()))
def zGP a0 a1 := (zGY a0 a1).val
@[reducible] def zV9 : FnD := ⟨[va zA, va zA], [vd .bool], true, fun _ => none, fun a => zGP a.1 a.2.1⟩
def zXU : Con Tryz.prog := yD mo g0 [zJ8] [] 139 zV9 (fn := Tryz.f139) trivial (fun a _ _ => yT (t' := zGY a.1 a.2.1) (by kernel_rfl) (by simp [zGY]) rfl)
def zCS (a0 : El zA) (a1 : El zA) : Bool × Unit := ((zGP a0 a1).1, ())
@[reducible] def zT2 : FnD := ⟨[va zA, .bx zA 0], [vd .bool], true, fun _ => none, fun a => zCS a.1 a.2.1⟩
def zTw : Con Tryz.prog := yD mo g0 [zXU] [] 138 zT2 (fn := Tryz.f138) trivial (fun _ _ _ => okv (by kernel_rfl))
@[reducible] def zU : LB := ⟨[], ⟨19, [], [(0, vd (.lst zA)), (1, .fn 138 [zA]), (7, vd .int), (8, vd .int)]⟩, ⟨19, [], [(4, vd .int)]⟩, 0, fun x => (fun (l0 : List (El zA)) (f1 : TyL [zA]) (n7 : Int) (n8 : Int) => (bif decide (n8 < n7) then (.ix n8 l0 (bif (zCS (zB zA l0 n8) f1.1).1 then (.v (.ret (n8, ()))) else (.ik (n8 + (1 : Int)) (.v (.go (l0, (f1.1, ()), n7, (n8 + (1 : Int)), ())))))) else (.v (.brk (l0, (f1.1, ()), n7, n8, ()))) : Tr (St _ _))) x.1 x.2.1 x.2.2.1 x.2.2.2.1⟩
theorem zBL (l0 : List (El zA)) (f1 : TyL [zA]) : LB.run zU (l0, f1, (l0.length : Int), (0 : Int), ()) = zCY (yt (fun i x => bif (zCS x f1.1).1 then (some ((i : Int), ())) else none) 0 l0) (l0, f1, (l0.length : Int), (l0.length : Int), ()) := LB.run_scan (l := zU) (fun i => (l0, f1, (l0.length : Int), (i : Int), ())) (fun i x h => by
  simp only [LB.b, zU, zi, zQ, zR, cond_true, yM h, zG h]
  cases (zCS x f1.1).1 <;> rfl) (by simp only [LB.b, zU, xl]; rfl)
theorem zBN : SF zU fun x : List (El zA) × TyL [zA] × Int × Int × Unit => (0 ≤ x.2.2.2.1 ∧ x.2.2.1 = (x.1.length : Int), x.2.2.1 - x.2.2.2.1) := xz (by
 rintro ⟨(l0 : List (El zA)), (f1 : TyL [zA]), (n7 : Int), (n8 : Int), ⟨⟩⟩ hI hw
 have _ : -9223372036854775808 ≤ n7 ∧ n7 ≤ 9223372036854775807 := zw hw.2.2.1
 have _ : (l0.length : Int) ≤ 16777216 := zE (hw.1.1)
 simp [zU] at hI ⊢
 repeat' first | intro _ | apply And.intro
 all_goals omega)
def yb (a0 : List (El zA)) (a1 : TyL [zA]) : Tr (Int × Unit) := .lp zU (a0, (a1.1, ()), (a0.length : Int), (0 : Int), ()) (fun r2 => .v (r2.1, ())) (fun _ => .v ((-1 : Int), ()))
def ya a0 a1 := (yb a0 a1).val
@[reducible] def vR : FnD := ⟨[vd (.lst zA), .fn 138 [zA]], [vd .int], true, fun _ => none, fun a => ya a.1 a.2.1⟩
theorem zCU (a0 : List (El zA)) (a1 : TyL [zA]) (_ : xG vR.args (a0, a1, ())) : (yb a0 a1).ok := by
 unfold yb
 refine zI ?_ ?_
 ·exact zBN _ ⟨by (dsimp only <;> omega), by (dsimp only <;> omega)⟩
 ·simp
def zCW : Con Tryz.prog := yD mo g0 [zTw] [zU] 193 vR (fn := Tryz.f193) ⟨lk, trivial⟩ (fun a hw _ => yT (by kernel_rfl) (zCU a.1 a.2.1 hw) rfl)
theorem zCT (a0 : List (El zA)) (a1 : TyL [zA]) : ya a0 a1 = zCh (yt (fun i x => bif (zCS x (a1.1, ()).1).1 then (some ((i : Int), ())) else none) 0 a0) (fun (r1 : zU.r.T) => (r1.1, ())) ((-1 : Int), ()) := by
 simp only [ya, yb, zR, zx, zQ]
 rw [zBL, xI] <;> rfl
def yx (a0 : List (El zA)) (a1 : TyL [zA]) : Bool × Unit := (decide ((ya a0 (a1.1, ())).1 ≥ (0 : Int)), ())
@[reducible] def zBM : FnD := ⟨[vd (.lst zA), .fn 138 [zA]], [vd .bool], true, fun _ => none, fun a => yx a.1 a.2.1⟩
def zBK : Con Tryz.prog := yD mo g0 [zCW] [] 137 zBM (fn := Tryz.f137) trivial (fun _ _ _ => okv (by kernel_rfl))
def zAF (a0 : List (El zA)) (a1 : El zA) : Bool × Unit := ((yx a0 (a1, ())).1, ())
@[reducible] def zXx : FnD := ⟨[vd (.lst zA), va zA], [vd .bool], true, fun _ => none, fun a => zAF a.1 a.2.1⟩
def zXo : Con Tryz.prog := yD mo g0 [zBK] [] 84 zXx (fn := Tryz.f84) trivial (fun _ _ _ => okv (by kernel_rfl))
def zGV (a0 : El zA) : El zA × Unit := (a0, ())
@[reducible] def zW0 : FnD := ⟨[va zA], [.val true (.pr (.d .int) (.pr (.o (.d .int)) (.o (.d zF))))], true, fun _ => none, fun a => zGV a.1⟩
def zVT : Con Tryz.prog := yD mo g0 [zEo, xy] [] 86 zW0 (fn := Tryz.f86) trivial (fun _ _ _ => okv (by kernel_rfl))
@[reducible] def zAC : LB := ⟨[1, 0, 2], ⟨40, [.pr (.d .int) (.pr (.o (.d .int)) (.o (.d zF))), .d zN, .d zA], [(2, vd (.lst zA)), (3, .pt 1 0), (6, .pt 0 0), (8, .pt 2 0), (9, vd .bool), (12, vd (.lst zA)), (13, vd .int), (14, vd .int)]⟩, ⟨40, [], []⟩, 0, fun x => (fun (w0 : El zA) (w1 : El zN) (w2 : El zA) (l2 : List (El zA)) (b9 : Bool) (l12 : List (El zA)) (n13 : Int) (n14 : Int) => (bif decide (n14 < n13) then (.ix n14 l12 (bif (!(xB w1 (zB zA l12 n14)).1) then (.ik (n14 + (1 : Int)) (.v (.go (w0, w1, w2, l2, (), (), (), b9, l12, n13, (n14 + (1 : Int)), ())))) else (bif (zAF l2 (zB zA l12 n14)).1 then (.ik (n14 + (1 : Int)) (.v (.go (w0, w1, w2, l2, (), (), (), b9, l12, n13, (n14 + (1 : Int)), ())))) else (bif (!b9) then (.ik (n14 + (1 : Int)) (.v (.go (w0, w1, (zB zA l12 n14), l2, (), (), (), true, l12, n13, (n14 + (1 : Int)), ())))) else (bif (zCR w1 (zB zA l12 n14) w2).1 then (.ik (n14 + (1 : Int)) (.v (.go (w0, w1, (zB zA l12 n14), l2, (), (), (), true, l12, n13, (n14 + (1 : Int)), ())))) else (.ik (n14 + (1 : Int)) (.v (.go (w0, w1, w2, l2, (), (), (), b9, l12, n13, (n14 + (1 : Int)), ()))))))))) else (.v (.brk (w0, w1, w2, l2, (), (), (), b9, l12, n13, n14, ()))) : Tr (St _ _))) x.1 x.2.1 x.2.2.1 x.2.2.2.1 x.2.2.2.2.2.2.2.1 x.2.2.2.2.2.2.2.2.1 x.2.2.2.2.2.2.2.2.2.1 x.2.2.2.2.2.2.2.2.2.2.1⟩
theorem zKa (w0 : El zA) (w1 : El zN) (l2 : List (El zA)) (l12 : List (El zA)) (w2 : El zA) (b9 : Bool) : LB.run zAC (w0, w1, w2, l2, (), (), (), b9, l12, (l12.length : Int), (0 : Int), ()) = .brk (w0, w1, (zg (fun _ x (s : (El zA) × Bool) => bif (!(xB w1 x).1) then (s.1, s.2) else (bif (zAF l2 x).1 then (s.1, s.2) else (bif (!s.2) then (x, true) else (bif (zCR w1 x s.1).1 then (x, true) else (s.1, s.2))))) 0 l12 (w2, b9)).1, l2, (), (), (), (zg (fun _ x (s : (El zA) × Bool) => bif (!(xB w1 x).1) then (s.1, s.2) else (bif (zAF l2 x).1 then (s.1, s.2) else (bif (!s.2) then (x, true) else (bif (zCR w1 x s.1).1 then (x, true) else (s.1, s.2))))) 0 l12 (w2, b9)).2, l12, (l12.length : Int), (l12.length : Int), ()) := LB.run_fold (l := zAC) (fun i s => (w0, w1, s.1, l2, (), (), (), s.2, l12, (l12.length : Int), (i : Int), ())) (f := fun i x s => bif (!(xB w1 x).1) then (s.1, s.2) else (bif (zAF l2 x).1 then (s.1, s.2) else (bif (!s.2) then (x, true) else (bif (zCR w1 x s.1).1 then (x, true) else (s.1, s.2))))) (s := (w2, b9)) (fun i x s h => by
  simp only [LB.b, zAC, zi, zQ, zR, cond_true, yM h, zG h]
  cases (!(xB w1 x).1)
  ·cases (zAF l2 x).1
   ·cases (!s.2)
    ·cases (zCR w1 x s.1).1 <;> rfl
    ·rfl
   ·rfl
  ·rfl) (fun s => by simp only [LB.b, zAC, xl]; rfl)
theorem zPm : SF zAC fun x : El zA × El zN × El zA × List (El zA) × Unit × Unit × Unit × Bool × List (El zA) × Int × Int × Unit => (0 ≤ x.2.2.2.2.2.2.2.2.2.2.1 ∧ x.2.2.2.2.2.2.2.2.2.1 = (x.2.2.2.2.2.2.2.2.1.length : Int), x.2.2.2.2.2.2.2.2.2.1 - x.2.2.2.2.2.2.2.2.2.2.1) := xz (by
 rintro ⟨(w0 : El zA), (w1 : El zN), (w2 : El zA), (l2 : List (El zA)), ⟨⟩, ⟨⟩, ⟨⟩, (b9 : Bool), (l12 : List (El zA)), (n13 : Int), (n14 : Int), ⟨⟩⟩ hI hw
 have _ : -9223372036854775808 ≤ n13 ∧ n13 ≤ 9223372036854775807 := zw hw.2.2.2.2.2.2.2.2.2.1
 have _ : (l12.length : Int) ≤ 16777216 := zE (hw.2.2.2.2.2.2.2.2.1.1)
 have _ := fun h : (xB w1 (zB zA l12 n14)).1 = true => zJc h
 simp [zAC] at hI ⊢
 repeat' first | intro _ | apply And.intro
 all_goals omega)
def zGb (a0 : El zN) (a1 : List (El zA)) (a2 : List (El zA)) : Tr (El zA × Bool × Unit) := .lp zAC (((0 : Int), (([] : List (El .int)), ([] : List (El zF)))), a0, ((0 : Int), (([] : List (El .int)), ([] : List (El zF)))), a2, (), (), (), false, a1, (a1.length : Int), (0 : Int), ()) (fun _ => .bad) (fun t7 => .v ((zGV t7.2.2.1).1, t7.2.2.2.2.2.2.2.1, ()))
def zE1 a0 a1 a2 := (zGb a0 a1 a2).val
@[reducible] def zOT : FnD := ⟨[va zN, vd (.lst zA), vd (.lst zA)], [.val true (.pr (.d .int) (.pr (.o (.d .int)) (.o (.d zF)))), vd .bool], true, fun _ => none, fun a => zE1 a.1 a.2.1 a.2.2.1⟩
theorem zWm (a0 : El zN) (a1 : List (El zA)) (a2 : List (El zA)) (_ : xG zOT.args (a0, a1, a2, ())) : (zGb a0 a1 a2).ok := by
 unfold zGb
 refine zI ?_ ?_
 ·exact zPm _ ⟨by simp, by simp⟩
 ·refine vP (zKa ((0 : Int), (([] : List (El .int)), ([] : List (El zF)))) a0 a2 a1 ((0 : Int), (([] : List (El .int)), ([] : List (El zF)))) false) ?_
  try dsimp only
  trivial
def zVg : Con Tryz.prog := yD mo g0 [zNB, zhR, zXo, zVT] [zAC] 46 zOT (fn := Tryz.f46) ⟨lk, trivial⟩ (fun a hw _ => yT (by kernel_rfl) (zWm a.1 a.2.1 a.2.2.1 hw) rfl)
theorem zXW (a0 : El zN) (a1 : List (El zA)) (a2 : List (El zA)) : zE1 a0 a1 a2 = ((zGV (zg (fun _ x (s : (El zA) × Bool) => bif (!(xB a0 x).1) then (s.1, s.2) else (bif (zAF a2 x).1 then (s.1, s.2) else (bif (!s.2) then (x, true) else (bif (zCR a0 x s.1).1 then (x, true) else (s.1, s.2))))) 0 a1 (((0 : Int), (([] : List (El .int)), ([] : List (El zF)))), false)).1).1, (zg (fun _ x (s : (El zA) × Bool) => bif (!(xB a0 x).1) then (s.1, s.2) else (bif (zAF a2 x).1 then (s.1, s.2) else (bif (!s.2) then (x, true) else (bif (zCR a0 x s.1).1 then (x, true) else (s.1, s.2))))) 0 a1 (((0 : Int), (([] : List (El .int)), ([] : List (El zF)))), false)).2, ()) := by
 simp only [zE1, zGb, zR, zx, zQ]
 rw [zKa, xf] <;> rfl
def zKU (a0 : El zO) (a1 : Int) : Tr (El zA × Bool × Unit) := .ix a1 a0.2.1 (bif ((zB ze a0.2.1 a1).2.2.2.2.2.2.2.1 != (1 : Int)) then (.v (((0 : Int), (([] : List (El .int)), ([] : List (El zF)))), false, ())) else (.ck (zDo a0 a1) (.ck (zNs (vX a0 a1).1 (zB ze a0.2.1 a1).2.2.1) (let y2 := (zE1 (vX a0 a1).1 (zN3 (vX a0 a1).1 (zB ze a0.2.1 a1).2.2.1).1 (zB ze a0.2.1 a1).2.2.2.1); .v (y2.1, y2.2.1, ())))))
def zA3 a0 a1 := (zKU a0 a1).val
def zFE (a0 : El zO) (a1 : Int) : Prop := ((0 ≤ a1 ∧ a1 < (a0.2.1.length : Int)) ∧ 0 ≤ (x6 a0 (zB ze a0.2.1 a1).2.1).1) ∧ znA (vX a0 a1).1 (zB ze a0.2.1 a1).2.2.1
@[reducible] def zR9 : FnD := ⟨[.bx zO 0, vd .int], [.val true (.pr (.d .int) (.pr (.o (.d .int)) (.o (.d zF)))), vd .bool], true, fun a => some (zFE a.1 a.2.1), fun a => zA3 a.1 a.2.1⟩
theorem zaG (a0 : El zO) (a1 : Int) (_ : xG zR9.args (a0, a1, ())) (hp : zFE a0 a1) : (zKU a0 a1).ok := by
 unfold zFE at hp
 unfold zKU
 refine zI ?_ ?_
 ·exact hp.1.1
 ·refine zp (fun _ => trivial) (fun h1 => ?_)
  replace h1 := zAp h1
  refine zI ?_ ?_
  ·exact hp.1
  ·refine zI ?_ ?_
   ·exact hp.2
   ·simp
def zQg : Con Tryz.prog := yD mo g0 [zO6, zi8, zVg] [] 22 zR9 (fn := Tryz.f22) trivial (fun a hw h => yT (by kernel_rfl) (zaG a.1 a.2.1 hw h) rfl)
theorem mdB {a n : Int} (h : 0 ≤ a) (hn : 0 < n) : 0 ≤ Int.tmod a n ∧ Int.tmod a n < n := ⟨Int.tmod_nonneg _ h, Int.tmod_lt_of_pos _ hn⟩
def zJG (a0 : Int) : Tr (Bool × Unit) := bif decide (a0 ≥ (97 : Int)) then (.v (decide (a0 ≤ (122 : Int)), ())) else (.v (false, ()))
def zHi a0 := (zJG a0).val
@[reducible] def zaj : FnD := ⟨[vd .u8], [vd .bool], true, fun _ => none, fun a => zHi a.1⟩
def zQR : Con Tryz.prog := yD mo g0 [] [] 71 zaj (fn := Tryz.f71) trivial (fun a _ _ => yT (t' := zJG a.1) (by kernel_rfl) (by simp [zJG]) rfl)
def zJe (a0 : Int) : Tr (Bool × Unit) := bif decide (a0 ≥ (48 : Int)) then (.v (decide (a0 ≤ (57 : Int)), ())) else (.v (false, ()))
def zM0 a0 := (zJe a0).val
@[reducible] def zb0 : FnD := ⟨[vd .u8], [vd .bool], true, fun _ => none, fun a => zM0 a.1⟩
def zbC : Con Tryz.prog := yD mo g0 [] [] 186 zb0 (fn := Tryz.f186) trivial (fun a _ _ => yT (t' := zJe a.1) (by kernel_rfl) (by simp [zJe]) rfl)
def zFf (a0 : Int) : Tr (Bool × Unit) := bif (zHi a0).1 then (.v (true, ())) else (bif (zM0 a0).1 then (.v (true, ())) else (.v ((a0 == (95 : Int)), ())))
def xk a0 := (zFf a0).val
@[reducible] def zSi : FnD := ⟨[vd .u8], [vd .bool], true, fun _ => none, fun a => xk a.1⟩
def zMn : Con Tryz.prog := yD mo g0 [zQR, zbC] [] 127 zSi (fn := Tryz.f127) trivial (fun a _ _ => yT (t' := zFf a.1) (by kernel_rfl) (by simp [zFf]) rfl)
@[reducible] def zBq : LB := ⟨[], ⟨21, [], [(0, vd .str), (5, vd .int)]⟩, ⟨21, [], [(4, vd .bool)]⟩, 0, fun x => (fun (s0 : ByteArray) (n5 : Int) => (bif decide (n5 < (s0.size : Int)) then (.is n5 s0 (bif (!(xk ((bt s0 n5).toNat : Int)).1) then (.v (.ret (false, ()))) else (.ik (n5 + (1 : Int)) (.v (.go (s0, (n5 + (1 : Int)), ())))))) else (.v (.brk (s0, n5, ()))) : Tr (St _ _))) x.1 x.2.1⟩
theorem zXf (s0 : ByteArray) : LB.run zBq (s0, (0 : Int), ()) = bif zd (fun _ x => bif (!(xk (x.toNat : Int)).1) then false else true) 0 s0.data.toList then .brk (s0, (s0.size : Int), ()) else .ret (false, ()) := LB.run_all (l := zBq) (fun i => (s0, (i : Int), ())) (fun i x h => by
  simp only [LB.b, zBq, zi, zQ, zR, cond_true, zin h, zUf h]
  cases (!(xk (x.toNat : Int)).1) <;> rfl) (by show LB.b zBq (s0, (s0.size : Int), ()) = _; simp only [LB.b, zBq, xl]; rfl)
theorem zVQ : SF zBq fun x : ByteArray × Int × Unit => (0 ≤ x.2.1, (x.1.size : Int) - x.2.1) := xz (by
 rintro ⟨(s0 : ByteArray), (n5 : Int), ⟨⟩⟩ hI hw
 have _ : (s0.size : Int) ≤ 9223372036854775807 := zNd (hw.1)
 simp [zBq] at hI ⊢
 repeat' first | intro _ | apply And.intro
 all_goals omega)
def zLU (a0 : ByteArray) (a1 : Int) : Tr (Bool × Unit) := bif decide ((a0.size : Int) > a1) then (.v (false, ())) else (.lp zBq (a0, (0 : Int), ()) (fun r2 => .v (r2.1, ())) (fun _ => .v (true, ())))
def zFV a0 a1 := (zLU a0 a1).val
@[reducible] def zVE : FnD := ⟨[vd .str, vd .int], [vd .bool], true, fun _ => none, fun a => zFV a.1 a.2.1⟩
theorem zfQ (a0 : ByteArray) (a1 : Int) (_ : xG zVE.args (a0, a1, ())) : (zLU a0 a1).ok := by
 unfold zLU
 refine zp (fun _ => trivial) (fun h1 => ?_)
 replace h1 : ¬ ((a0.size : Int) > a1) := of_decide_eq_false h1
 refine zI ?_ ?_
 ·exact zVQ _ (by (dsimp only <;> omega))
 ·simp
def zUN : Con Tryz.prog := yD mo g0 [zMn] [zBq] 72 zVE (fn := Tryz.f72) ⟨lk, trivial⟩ (fun a hw _ => yT (by kernel_rfl) (zfQ a.1 a.2.1 hw) rfl)
theorem zg9 (a0 : ByteArray) (a1 : Int) : zFV a0 a1 = bif (decide ((a0.size : Int) > a1)) then (false, ()) else (bif zd (fun _ x => bif (!(xk (x.toNat : Int)).1) then false else true) 0 a0.data.toList then (true, ()) else (false, ())) := by
 simp only [zFV, zLU, zR, zi, zx, zQ]
 rw [zXf, z7] <;> rfl
def zLv (a0 : ByteArray) : Tr (Bool × Unit) := bif decide ((a0.size : Int) > (0 : Int)) then (.is (0 : Int) a0 (bif (zHi ((bt a0 (0 : Int)).toNat : Int)).1 then (.v ((zFV a0 (12 : Int)).1, ())) else (.v (false, ())))) else (.v (false, ()))
def xi a0 := (zLv a0).val
@[reducible] def zUr : FnD := ⟨[vd .str], [vd .bool], true, fun _ => none, fun a => xi a.1⟩
theorem zf2 (a0 : ByteArray) (_ : xG zUr.args (a0, ())) : (zLv a0).ok := by
 unfold zLv
 refine zp (fun h1 => ?_) (fun _ => trivial)
 replace h1 : (a0.size : Int) > (0 : Int) := of_decide_eq_true h1
 refine zI ?_ ?_
 ·first | omega | (simp <;> omega)
 ·simp
def zFG : Con Tryz.prog := yD mo g0 [zQR, zUN] [] 42 zUr (fn := Tryz.f42) trivial (fun a hw _ => yT (by kernel_rfl) (zf2 a.1 hw) rfl)
def zJQ (a0 : Int) (a1 : Int) (a2 : Int) : Tr (Bool × Unit) := bif decide (a0 ≥ a1) then (.v (decide (a0 ≤ a2), ())) else (.v (false, ()))
def z3 a0 a1 a2 := (zJQ a0 a1 a2).val
@[reducible] def zbp : FnD := ⟨[vd .int, vd .int, vd .int], [vd .bool], true, fun _ => none, fun a => z3 a.1 a.2.1 a.2.2.1⟩
def vu : Con Tryz.prog := yD mo g0 [] [] 39 zbp (fn := Tryz.f39) trivial (fun a _ _ => yT (t' := zJQ a.1 a.2.1 a.2.2.1) (by kernel_rfl) (by simp [zJQ]) rfl)
theorem zAN {x a b : Int} (h : (z3 x a b).1 = true) : a ≤ x ∧ x ≤ b := by
 simp only [z3, zJQ, zi, zR] at h
 cases e : decide (x ≥ a) with
 | false => rw [e] at h; cases h
 | true =>
  rw [e] at h
  exact ⟨of_decide_eq_true e, of_decide_eq_true h⟩
def zKH (a0 : Int) : Tr (Bool × Unit) := bif decide (a0 ≥ (65 : Int)) then (.v (decide (a0 ≤ (90 : Int)), ())) else (.v (false, ()))
def zBy a0 := (zKH a0).val
@[reducible] def zcQ : FnD := ⟨[vd .u8], [vd .bool], true, fun _ => none, fun a => zBy a.1⟩
def zdM : Con Tryz.prog := yD mo g0 [] [] 279 zcQ (fn := Tryz.f279) trivial (fun a _ _ => yT (t' := zKH a.1) (by kernel_rfl) (by simp [zKH]) rfl)
@[reducible] def zDj : LB := ⟨[], ⟨36, [], [(0, vd .str), (3, vd .int)]⟩, ⟨36, [], [(2, vd .bool)]⟩, 0, fun x => (fun (s0 : ByteArray) (n3 : Int) => (bif decide (n3 < (s0.size : Int)) then (.is n3 s0 (bif (!(xk ((bt s0 n3).toNat : Int)).1) then (.is n3 s0 (bif (!(zBy ((bt s0 n3).toNat : Int)).1) then (.v (.ret (false, ()))) else (.ik (n3 + (1 : Int)) (.v (.go (s0, (n3 + (1 : Int)), ())))))) else (.ik (n3 + (1 : Int)) (.v (.go (s0, (n3 + (1 : Int)), ())))))) else (.v (.brk (s0, n3, ()))) : Tr (St _ _))) x.1 x.2.1⟩
theorem zY7 (s0 : ByteArray) : LB.run zDj (s0, (0 : Int), ()) = bif zd (fun _ x => bif (!(xk (x.toNat : Int)).1) then (bif (!(zBy (x.toNat : Int)).1) then false else true) else true) 0 s0.data.toList then .brk (s0, (s0.size : Int), ()) else .ret (false, ()) := LB.run_all (l := zDj) (fun i => (s0, (i : Int), ())) (fun i x h => by
  simp only [LB.b, zDj, zi, zQ, zR, cond_true, zin h, zUf h]
  cases (!(xk (x.toNat : Int)).1)
  ·rfl
  ·cases (!(zBy (x.toNat : Int)).1) <;> rfl) (by show LB.b zDj (s0, (s0.size : Int), ()) = _; simp only [LB.b, zDj, xl]; rfl)
theorem zYW : SF zDj fun x : ByteArray × Int × Unit => (0 ≤ x.2.1, (x.1.size : Int) - x.2.1) := xz (by
 rintro ⟨(s0 : ByteArray), (n3 : Int), ⟨⟩⟩ hI hw
 have _ : (s0.size : Int) ≤ 9223372036854775807 := zNd (hw.1)
 simp [zDj] at hI ⊢
 repeat' first | intro _ | apply And.intro
 all_goals omega)
def zOK (a0 : ByteArray) : Tr (Bool × Unit) := bif decide ((a0.size : Int) < (1 : Int)) then (.v (false, ())) else (bif decide ((a0.size : Int) > (12 : Int)) then (.v (false, ())) else (.is (0 : Int) a0 (bif (!(zBy ((bt a0 (0 : Int)).toNat : Int)).1) then (.v (false, ())) else (.lp zDj (a0, (0 : Int), ()) (fun r8 => .v (r8.1, ())) (fun _ => .v (true, ()))))))
def zK1 a0 := (zOK a0).val
@[reducible] def zZb : FnD := ⟨[vd .str], [vd .bool], true, fun _ => none, fun a => zK1 a.1⟩
theorem zjS (a0 : ByteArray) (_ : xG zZb.args (a0, ())) : (zOK a0).ok := by
 unfold zOK
 refine zp (fun _ => trivial) (fun h1 => ?_)
 replace h1 : ¬ ((a0.size : Int) < (1 : Int)) := of_decide_eq_false h1
 refine zp (fun _ => trivial) (fun h2 => ?_)
 replace h2 : ¬ ((a0.size : Int) > (12 : Int)) := of_decide_eq_false h2
 refine zI ?_ ?_
 ·first | omega | (simp <;> omega)
 ·refine zp (fun _ => trivial) (fun h3 => ?_)
  refine zI ?_ ?_
  ·exact zYW _ (by (dsimp only <;> omega))
  ·simp
def zjI : Con Tryz.prog := yD mo g0 [zMn, zdM] [zDj] 264 zZb (fn := Tryz.f264) ⟨lk, trivial⟩ (fun a hw _ => yT (by kernel_rfl) (zjS a.1 hw) rfl)
theorem zhw (a0 : ByteArray) : zK1 a0 = bif (decide ((a0.size : Int) < (1 : Int))) then (false, ()) else (bif (decide ((a0.size : Int) > (12 : Int))) then (false, ()) else (bif (!(zBy ((bt a0 (0 : Int)).toNat : Int)).1) then (false, ()) else (bif zd (fun _ x => bif (!(xk (x.toNat : Int)).1) then (bif (!(zBy (x.toNat : Int)).1) then false else true) else true) 0 a0.data.toList then (true, ()) else (false, ())))) := by
 simp only [zK1, zOK, zR, zi, zx, zQ]
 rw [zY7, z7] <;> rfl
def zOW (a0 : El zK) : Tr (Bool × Unit) := bif (a0.1 == (1 : Int)) then (bif (z3 a0.2.1 (-1000000000 : Int) (1000000000 : Int)).1 then (.v ((a0.2.2.toList == (⟨#[]⟩ : ByteArray).toList), ())) else (.v (false, ()))) else (bif (a0.1 == (2 : Int)) then (bif (a0.2.1 == (0 : Int)) then (.v ((zFV a0.2.2 (20 : Int)).1, ())) else (.v (false, ()))) else (.v (false, ())))
def zCC a0 := (zOW a0).val
@[reducible] def zib : FnD := ⟨[va zK], [vd .bool], true, fun _ => none, fun a => zCC a.1⟩
def zQr : Con Tryz.prog := yD mo g0 [vu, zUN] [] 187 zib (fn := Tryz.f187) trivial (fun a _ _ => yT (t' := zOW a.1) (by kernel_rfl) (by simp [zOW]) rfl)
def zOM (a0 : El zo) : Tr (Bool × Unit) := bif (a0.1 == (1 : Int)) then (bif (zK1 a0.2.1).1 then (.v (((a0.2.2.1 == (0 : Int)) && ((a0.2.2.2.1 == (0 : Int)) && ((a0.2.2.2.2.toList == (⟨#[]⟩ : ByteArray).toList) && true))), ())) else (.v (false, ()))) else (bif (a0.1 == (2 : Int)) then (bif (a0.2.1.toList == (⟨#[]⟩ : ByteArray).toList) then (.v ((zCC a0.2.2).1, ())) else (.v (false, ()))) else (bif (a0.1 == (3 : Int)) then (bif (a0.2.1.toList == (⟨#[]⟩ : ByteArray).toList) then (.v (((a0.2.2.1 == (0 : Int)) && ((a0.2.2.2.1 == (0 : Int)) && ((a0.2.2.2.2.toList == (⟨#[]⟩ : ByteArray).toList) && true))), ())) else (.v (false, ()))) else (.v (false, ()))))
def zF5 a0 := (zOM a0).val
@[reducible] def zkD : FnD := ⟨[va zo], [vd .bool], true, fun _ => none, fun a => zF5 a.1⟩
def zZU : Con Tryz.prog := yD mo g0 [zjI, zQr] [] 231 zkD (fn := Tryz.f231) trivial (fun a _ _ => yT (t' := zOM a.1) (by kernel_rfl) (by simp [zOM]) rfl)
def zLH (a0 : El zo) : Tr (Bool × Unit) := bif (a0.1 != (3 : Int)) then (.v ((zF5 a0).1, ())) else (.v (false, ()))
def zCP a0 := (zLH a0).val
@[reducible] def zfR : FnD := ⟨[va zo], [vd .bool], true, fun _ => none, fun a => zCP a.1⟩
def zUm : Con Tryz.prog := yD mo g0 [zZU] [] 181 zfR (fn := Tryz.f181) trivial (fun a _ _ => yT (t' := zLH a.1) (by kernel_rfl) (by simp [zLH]) rfl)
def zLZ (a0 : El zS) : Tr (Bool × Unit) := bif (z3 a0.1 (1 : Int) (3 : Int)).1 then (bif (zCP a0.2.1).1 then (.v ((zCP a0.2.2).1, ())) else (.v (false, ()))) else (.v (false, ()))
def zFZ a0 := (zLZ a0).val
@[reducible] def zfn : FnD := ⟨[va zS], [vd .bool], true, fun _ => none, fun a => zFZ a.1⟩
def zhB : Con Tryz.prog := yD mo g0 [vu, zUm] [] 119 zfn (fn := Tryz.f119) trivial (fun a _ _ => yT (t' := zLZ a.1) (by kernel_rfl) (by simp [zLZ]) rfl)
def zLk (a0 : El zq) : Tr (Bool × Unit) := bif (a0.1.toList == (⟨#[]⟩ : ByteArray).toList) then (bif (zCP a0.2.1).1 then (.v (((a0.2.2.1 == (0 : Int)) && ((a0.2.2.2.1.toList == (⟨#[]⟩ : ByteArray).toList) && (((a0.2.2.2.2.1 == (0 : Int)) && ((a0.2.2.2.2.2.1 == (0 : Int)) && ((a0.2.2.2.2.2.2.toList == (⟨#[]⟩ : ByteArray).toList) && true))) && true))), ())) else (.v (false, ()))) else (bif (a0.1.toList == (⟨#[43]⟩ : ByteArray).toList) then (bif (a0.1.toList == (⟨#[43]⟩ : ByteArray).toList) then (bif (zCP a0.2.1).1 then (.v ((zCP a0.2.2).1, ())) else (.v (false, ()))) else (.v (false, ()))) else (bif (a0.1.toList == (⟨#[45]⟩ : ByteArray).toList) then (bif (zCP a0.2.1).1 then (.v ((zCP a0.2.2).1, ())) else (.v (false, ()))) else (.v (false, ()))))
def zFT a0 := (zLk a0).val
@[reducible] def zff : FnD := ⟨[va zq], [vd .bool], true, fun _ => none, fun a => zFT a.1⟩
def zhJ : Con Tryz.prog := yD mo g0 [zUm] [] 232 zff (fn := Tryz.f232) trivial (fun a _ _ => yT (t' := zLk a.1) (by kernel_rfl) (by simp [zLk]) rfl)
@[reducible] def zCo : LB := ⟨[], ⟨26, [], [(16, vd (.lst zq)), (17, vd .int), (18, vd .int)]⟩, ⟨26, [], [(2, vd .bool)]⟩, 0, fun x => (fun (l16 : List (El zq)) (n17 : Int) (n18 : Int) => (bif decide (n18 < n17) then (.ix n18 l16 (bif (!(zFT (zB zq l16 n18)).1) then (.v (.ret (false, ()))) else (.ik (n18 + (1 : Int)) (.v (.go (l16, n17, (n18 + (1 : Int)), ())))))) else (.v (.brk (l16, n17, n18, ()))) : Tr (St _ _))) x.1 x.2.1 x.2.2.1⟩
theorem zV3 (l16 : List (El zq)) : LB.run zCo (l16, (l16.length : Int), (0 : Int), ()) = bif zd (fun _ x => bif (!(zFT x).1) then false else true) 0 l16 then .brk (l16, (l16.length : Int), (l16.length : Int), ()) else .ret (false, ()) := LB.run_all (l := zCo) (fun i => (l16, (l16.length : Int), (i : Int), ())) (fun i x h => by
  simp only [LB.b, zCo, zi, zQ, zR, cond_true, yM h, zG h]
  cases (!(zFT x).1) <;> rfl) (by simp only [LB.b, zCo, xl]; rfl)
theorem zVu : SF zCo fun x : List (El zq) × Int × Int × Unit => (0 ≤ x.2.2.1 ∧ x.2.1 = (x.1.length : Int), x.2.1 - x.2.2.1) := xz (by
 rintro ⟨(l16 : List (El zq)), (n17 : Int), (n18 : Int), ⟨⟩⟩ hI hw
 have _ : -9223372036854775808 ≤ n17 ∧ n17 ≤ 9223372036854775807 := zw hw.2.1
 have _ : (l16.length : Int) ≤ 16777216 := zE (hw.1.1)
 simp [zCo] at hI ⊢
 repeat' first | intro _ | apply And.intro
 all_goals omega)
def zLx (a0 : El z5) : Tr (Bool × Unit) := bif (!(xi a0.2.1).1) then (.v (false, ())) else (bif decide ((a0.2.2.1.length : Int) > (5 : Int)) then (.v (false, ())) else (.lp zCo (a0.2.2.1, (a0.2.2.1.length : Int), (0 : Int), ()) (fun r3 => .v (r3.1, ())) (fun _ => .v (true, ()))))
def zCQ a0 := (zLx a0).val
@[reducible] def zUt : FnD := ⟨[va z5], [vd .bool], true, fun _ => none, fun a => zCQ a.1⟩
theorem ze5 (a0 : El z5) (_ : xG zUt.args (a0, ())) : (zLx a0).ok := by
 unfold zLx
 refine zp (fun _ => trivial) (fun h1 => ?_)
 refine zp (fun _ => trivial) (fun h2 => ?_)
 replace h2 : ¬ ((a0.2.2.1.length : Int) > (5 : Int)) := of_decide_eq_false h2
 refine zI ?_ ?_
 ·exact zVu _ ⟨by (dsimp only <;> omega), by (dsimp only <;> omega)⟩
 ·simp
def zej : Con Tryz.prog := yD mo g0 [zFG, zhJ] [zCo] 182 zUt (fn := Tryz.f182) ⟨lk, trivial⟩ (fun a hw _ => yT (by kernel_rfl) (ze5 a.1 hw) rfl)
theorem zf7 (a0 : El z5) : zCQ a0 = bif (!(xi a0.2.1).1) then (false, ()) else (bif (decide ((a0.2.2.1.length : Int) > (5 : Int))) then (false, ()) else (bif zd (fun _ x => bif (!(zFT x).1) then false else true) 0 a0.2.2.1 then (true, ()) else (false, ()))) := by
 simp only [zCQ, zLx, zR, zi, zx, zQ]
 rw [zV3, z7] <;> rfl
def zLl (a0 : ByteArray) : Tr (Bool × Unit) := bif (a0.toList == (⟨#[]⟩ : ByteArray).toList) then (.v (true, ())) else (.v ((xi a0).1, ()))
def zGo a0 := (zLl a0).val
@[reducible] def zeE : FnD := ⟨[vd .str], [vd .bool], true, fun _ => none, fun a => zGo a.1⟩
def zUi : Con Tryz.prog := yD mo g0 [zFG] [] 183 zeE (fn := Tryz.f183) trivial (fun a _ _ => yT (t' := zLl a.1) (by kernel_rfl) (by simp [zLl]) rfl)
def zNQ (a0 : El z5) : Tr (Bool × Unit) := bif (a0.2.1.toList == (⟨#[]⟩ : ByteArray).toList) then (bif (a0.1 == (1 : Int)) then (bif (zCQ a0).1 then (bif (a0.2.2.2.1 == (0 : Int)) then (.v ((a0.2.2.2.2.toList == (⟨#[]⟩ : ByteArray).toList), ())) else (.v (false, ()))) else (.v (false, ()))) else (bif (a0.1 == (2 : Int)) then (bif ((a0.2.2.1.length : Int) == (0 : Int)) then (bif (z3 a0.2.2.2.1 (0 : Int) (7 : Int)).1 then (.v ((a0.2.2.2.2.toList == (⟨#[]⟩ : ByteArray).toList), ())) else (.v (false, ()))) else (.v (false, ()))) else (bif (a0.1 == (3 : Int)) then (bif (zCQ a0).1 then (bif (a0.2.2.2.1 == (0 : Int)) then (.v ((zGo a0.2.2.2.2).1, ())) else (.v (false, ()))) else (.v (false, ()))) else (bif (a0.1 == (4 : Int)) then (bif (zCQ a0).1 then (bif (z3 a0.2.2.2.1 (0 : Int) (100000 : Int)).1 then (.v ((a0.2.2.2.2.toList == (⟨#[]⟩ : ByteArray).toList), ())) else (.v (false, ()))) else (.v (false, ()))) else (bif (a0.1 == (5 : Int)) then (bif (a0.1 == (5 : Int)) then (bif ((a0.2.2.1.length : Int) == (0 : Int)) then (bif (a0.2.2.2.1 == (0 : Int)) then (.v ((a0.2.2.2.2.toList == (⟨#[]⟩ : ByteArray).toList), ())) else (.v (false, ()))) else (.v (false, ()))) else (.v (false, ()))) else (bif (a0.1 == (6 : Int)) then (bif ((a0.2.2.1.length : Int) == (0 : Int)) then (bif (a0.2.2.2.1 == (0 : Int)) then (.v ((a0.2.2.2.2.toList == (⟨#[]⟩ : ByteArray).toList), ())) else (.v (false, ()))) else (.v (false, ()))) else (.v (false, ())))))))) else (bif (a0.1 == (1 : Int)) then (bif (zCQ a0).1 then (bif (a0.2.2.2.1 == (0 : Int)) then (.v ((a0.2.2.2.2.toList == (⟨#[]⟩ : ByteArray).toList), ())) else (.v (false, ()))) else (.v (false, ()))) else (bif (a0.1 == (2 : Int)) then (.v (false, ())) else (bif (a0.1 == (3 : Int)) then (bif (zCQ a0).1 then (bif (a0.2.2.2.1 == (0 : Int)) then (.v ((zGo a0.2.2.2.2).1, ())) else (.v (false, ()))) else (.v (false, ()))) else (bif (a0.1 == (4 : Int)) then (bif (zCQ a0).1 then (bif (z3 a0.2.2.2.1 (0 : Int) (100000 : Int)).1 then (.v ((a0.2.2.2.2.toList == (⟨#[]⟩ : ByteArray).toList), ())) else (.v (false, ()))) else (.v (false, ()))) else (bif (a0.1 == (5 : Int)) then (bif (a0.1 == (5 : Int)) then (.v (false, ())) else (.v (false, ()))) else (bif (a0.1 == (6 : Int)) then (.v (false, ())) else (.v (false, ()))))))))
def zHA a0 := (zNQ a0).val
@[reducible] def zhm : FnD := ⟨[va z5], [vd .bool], true, fun _ => none, fun a => zHA a.1⟩
def ziD : Con Tryz.prog := yD mo g0 [zej, vu, zUi] [] 120 zhm (fn := Tryz.f120) trivial (fun a _ _ => yT (t' := zNQ a.1) (by kernel_rfl) (by simp [zNQ]) rfl)
@[reducible] def zAu : LB := ⟨[], ⟨20, [], [(3, vd .int), (7, vd (.lst zJ)), (8, vd .int), (9, vd .int)]⟩, ⟨20, [], []⟩, 0, fun x => (fun (n3 : Int) (l7 : List (El zJ)) (n8 : Int) (n9 : Int) => (bif decide (n9 < n8) then (.ix n9 l7 (bif (!(zB zJ l7 n9).2.2) then (.ik (n3 + (1 : Int)) (.ik (n9 + (1 : Int)) (.v (.go ((n3 + (1 : Int)), l7, n8, (n9 + (1 : Int)), ()))))) else (.ik (n9 + (1 : Int)) (.v (.go (n3, l7, n8, (n9 + (1 : Int)), ())))))) else (.v (.brk (n3, l7, n8, n9, ()))) : Tr (St _ _))) x.1 x.2.1 x.2.2.1 x.2.2.2.1⟩
theorem zHB (l7 : List (El zJ)) (n3 : Int) : LB.run zAu (n3, l7, (l7.length : Int), (0 : Int), ()) = .brk ((zg (fun _ x (s : Int) => bif (!x.2.2) then (s + (1 : Int)) else s) 0 l7 n3), l7, (l7.length : Int), (l7.length : Int), ()) := LB.run_fold (l := zAu) (fun i s => (s, l7, (l7.length : Int), (i : Int), ())) (fun i x s h => by
  simp only [LB.b, zAu, zi, zQ, zR, cond_true, yM h, zG h]
  cases (!x.2.2) <;> rfl) (fun s => by simp only [LB.b, zAu, xl]; rfl)
theorem zRg : SF zAu fun x : Int × List (El zJ) × Int × Int × Unit => (0 ≤ x.2.2.2.1 ∧ x.2.2.1 = (x.2.1.length : Int) ∧ (0 ≤ x.1 ∧ x.1 ≤ x.2.2.2.1), x.2.2.1 - x.2.2.2.1) := xz (by
 rintro ⟨(n3 : Int), (l7 : List (El zJ)), (n8 : Int), (n9 : Int), ⟨⟩⟩ hI hw
 have _ : -9223372036854775808 ≤ n3 ∧ n3 ≤ 9223372036854775807 := zw hw.1
 have _ : -9223372036854775808 ≤ n8 ∧ n8 ≤ 9223372036854775807 := zw hw.2.2.1
 have _ : (l7.length : Int) ≤ 16777216 := zE (hw.2.1.1)
 simp [zAu] at hI ⊢
 repeat' first | intro _ | apply And.intro
 all_goals omega)
def zGB (a0 : El zC) : Tr (Int × Unit) := .lp zAu ((0 : Int), a0.2.2.1, (a0.2.2.1.length : Int), (0 : Int), ()) (fun _ => .bad) (fun t1 => .v (t1.1, ()))
def yd a0 := (zGB a0).val
@[reducible] def zO8 : FnD := ⟨[va zC], [vd .int], true, fun _ => none, fun a => yd a.1⟩
theorem zZ7 (a0 : El zC) (_ : xG zO8.args (a0, ())) : (zGB a0).ok := by
 unfold zGB
 refine zI ?_ ?_
 ·exact zRg _ ⟨by (dsimp only <;> omega), by (dsimp only <;> omega), by (dsimp only <;> omega)⟩
 ·refine vP (zHB a0.2.2.1 (0 : Int)) ?_
  try dsimp only
  trivial
def zKz : Con Tryz.prog := yD mo g0 [] [zAu] 121 zO8 (fn := Tryz.f121) ⟨lk, trivial⟩ (fun a hw _ => yT (by kernel_rfl) (zZ7 a.1 hw) rfl)
theorem zY9 (a0 : El zC) : yd a0 = ((zg (fun _ x (s : Int) => bif (!x.2.2) then (s + (1 : Int)) else s) 0 a0.2.2.1 (0 : Int)), ()) := by
 simp only [yd, zGB, zR, zx, zQ]
 rw [zHB, xf] <;> rfl
theorem zTQ (r : El zC) : (yd r).1 = ((r.2.2.1.filter (fun p => !p.2.2)).length : Int) := by
 simp only [yd, zGB, zQ, zR, zx]
 rw [zHB]
 show zg (fun i x (s : Int) => bif (!x.2.2) then (s + (1 : Int)) else s) 0 r.2.2.1 (0 : Int) = _
 rw [zH7]; simp
@[reducible] def z9 : LB := ⟨[], ⟨19, [], [(0, vd (.lst .str)), (1, vd .str), (7, vd .int), (8, vd .int)]⟩, ⟨19, [], [(4, vd .int)]⟩, 0, fun x => (fun (l0 : List (El .str)) (s1 : ByteArray) (n7 : Int) (n8 : Int) => (bif decide (n8 < n7) then (.ix n8 l0 (bif (s1.toList == (zB .str l0 n8).toList) then (.v (.ret (n8, ()))) else (.ik (n8 + (1 : Int)) (.v (.go (l0, s1, n7, (n8 + (1 : Int)), ())))))) else (.v (.brk (l0, s1, n7, n8, ()))) : Tr (St _ _))) x.1 x.2.1 x.2.2.1 x.2.2.2.1⟩
theorem zE8 (l0 : List (El .str)) (s1 : ByteArray) : LB.run z9 (l0, s1, (l0.length : Int), (0 : Int), ()) = zCY (yt (fun i x => bif (s1.toList == x.toList) then (some ((i : Int), ())) else none) 0 l0) (l0, s1, (l0.length : Int), (l0.length : Int), ()) := LB.run_scan (l := z9) (fun i => (l0, s1, (l0.length : Int), (i : Int), ())) (fun i x h => by
  simp only [LB.b, z9, zi, zQ, zR, cond_true, yM h, zG h]
  cases (s1.toList == x.toList) <;> rfl) (by simp only [LB.b, z9, xl]; rfl)
theorem zE7 : SF z9 fun x : List (El .str) × ByteArray × Int × Int × Unit => (0 ≤ x.2.2.2.1 ∧ x.2.2.1 = (x.1.length : Int), x.2.2.1 - x.2.2.2.1) := xz (by
 rintro ⟨(l0 : List (El .str)), (s1 : ByteArray), (n7 : Int), (n8 : Int), ⟨⟩⟩ hI hw
 have _ : -9223372036854775808 ≤ n7 ∧ n7 ≤ 9223372036854775807 := zw hw.2.2.1
 have _ : (l0.length : Int) ≤ 16777216 := zE (hw.1.1)
 simp [z9] at hI ⊢
 repeat' first | intro _ | apply And.intro
 all_goals omega)
def xo (a0 : List (El .str)) (a1 : ByteArray) : Tr (Int × Unit) := .lp z9 (a0, a1, (a0.length : Int), (0 : Int), ()) (fun r1 => .v (r1.1, ())) (fun _ => .v ((-1 : Int), ()))
def xn a0 a1 := (xo a0 a1).val
@[reducible] def zCO : FnD := ⟨[vd (.lst .str), vd .str], [vd .int], true, fun _ => none, fun a => xn a.1 a.2.1⟩
theorem zGN (a0 : List (El .str)) (a1 : ByteArray) (_ : xG zCO.args (a0, a1, ())) : (xo a0 a1).ok := by
 unfold xo
 refine zI ?_ ?_
 ·exact zE7 _ ⟨by (dsimp only <;> omega), by (dsimp only <;> omega)⟩
 ·simp
def zGM : Con Tryz.prog := yD mo g0 [] [z9] 185 zCO (fn := Tryz.f185) ⟨lk, trivial⟩ (fun a hw _ => yT (by kernel_rfl) (zGN a.1 a.2.1 hw) rfl)
theorem zGK (a0 : List (El .str)) (a1 : ByteArray) : xn a0 a1 = zCh (yt (fun i x => bif (a1.toList == x.toList) then (some ((i : Int), ())) else none) 0 a0) (fun (r1 : z9.r.T) => (r1.1, ())) ((-1 : Int), ()) := by
 simp only [xn, xo, zR, zx, zQ]
 rw [zE8, xI] <;> rfl
def zu (a0 : List (El .str)) (a1 : ByteArray) : Bool × Unit := (decide ((xn a0 a1).1 ≥ (0 : Int)), ())
@[reducible] def zE9 : FnD := ⟨[vd (.lst .str), vd .str], [vd .bool], true, fun _ => none, fun a => zu a.1 a.2.1⟩
def zA5 : Con Tryz.prog := yD mo g0 [zGM] [] 124 zE9 (fn := Tryz.f124) trivial (fun _ _ _ => okv (by kernel_rfl))
def zG2 (a0 : List (El .str)) (a1 : ByteArray) : Tr (List (El .str) × Unit) := bif (zu a0 a1).1 then (.v (a0, ())) else (.ck (((a0.length + [a1].length : Nat) : Int) ≤ 16777216) (.v ((a0 ++ [a1]), ())))
def zAM a0 a1 := (zG2 a0 a1).val
def zHl (a0 : List (El .str)) (_a1 : ByteArray) : Prop := (a0.length : Int) < 16777216
@[reducible] def zRy : FnD := ⟨[vo .str, vd .str], [vo .str], true, fun a => some (zHl a.1 a.2.1), fun a => zAM a.1 a.2.1⟩
theorem zbv (a0 : List (El .str)) (a1 : ByteArray) (hw : xG zRy.args (a0, a1, ())) (hp : zHl a0 a1) : (zG2 a0 a1).ok := by
 unfold zHl at hp
 unfold zG2
 refine zp (fun _ => trivial) (fun h1 => ?_)
 refine zI ?_ ?_
 ·have _ : (a0.length : Int) ≤ 16777216 := zE (hw.1.1); first | omega | (simp <;> omega)
 ·trivial
def zaX : Con Tryz.prog := yD mo g0 [zA5] [] 233 zRy (fn := Tryz.f233) trivial (fun a hw h => yT (by kernel_rfl) (zbv a.1 a.2.1 hw h) rfl)
theorem zQi (l : List (El .str)) (s : ByteArray) : ((zAM l s).1.length : Int) ≤ (l.length : Int) + 1 := by
 simp only [zAM, zG2, zi, zQ, zR]
 cases (zu l s).1 with
 | true => show (l.length : Int) ≤ _; omega
 | false => show ((l ++ [s]).length : Int) ≤ _; simp
@[reducible] def x5 : LB := ⟨[], ⟨22, [], [(0, vo .str), (7, vd (.lst zo)), (8, vd .int), (9, vd .int)]⟩, ⟨22, [], []⟩, 0, fun x => (fun (l0 : List (El .str)) (l7 : List (El zo)) (n8 : Int) (n9 : Int) => (bif decide (n9 < n8) then (.ix n9 l7 (bif ((zB zo l7 n9).1 == (1 : Int)) then (.ck (zHl l0 (zB zo l7 n9).2.1) (.ik (n9 + (1 : Int)) (.v (.go ((zAM l0 (zB zo l7 n9).2.1).1, l7, n8, (n9 + (1 : Int)), ()))))) else (.ik (n9 + (1 : Int)) (.v (.go (l0, l7, n8, (n9 + (1 : Int)), ())))))) else (.v (.brk (l0, l7, n8, n9, ()))) : Tr (St _ _))) x.1 x.2.1 x.2.2.1 x.2.2.2.1⟩
theorem zSf (l7 : List (El zo)) (l0 : List (El .str)) : LB.run x5 (l0, l7, (l7.length : Int), (0 : Int), ()) = .brk ((zg (fun _ x (s : (List (El .str))) => bif (x.1 == (1 : Int)) then (zAM s x.2.1).1 else s) 0 l7 l0), l7, (l7.length : Int), (l7.length : Int), ()) := LB.run_fold (l := x5) (fun i s => (s, l7, (l7.length : Int), (i : Int), ())) (fun i x s h => by
  simp only [LB.b, x5, zi, zQ, zR, cond_true, yM h, zG h]
  cases (x.1 == (1 : Int)) <;> rfl) (fun s => by simp only [LB.b, x5, xl]; rfl)
theorem zMe (l00 : List (El .str)) (l70 : List (El zo)) (n80 : Int) (n90 : Int) (p0 : (l00.length : Int) ≤ (l00.length : Int) + n90 ∧ n90 ≤ n80 ∧ n80 = (l70.length : Int)) : (LB.run x5 (l00, l70, n80, n90, ())).all (fun _ => False) (fun (l0, l7, n8, n9, _) => l70 = l7 ∧ n80 = n8 ∧ ((l0.length : Int) ≤ (l00.length : Int) + n9 ∧ n9 ≤ n8 ∧ n8 = (l7.length : Int))) (fun (l0, l7, n8, n9, _) => l70 = l7 ∧ n80 = n8 ∧ ((l0.length : Int) ≤ (l00.length : Int) + n9 ∧ n9 ≤ n8 ∧ n8 = (l7.length : Int))) := by
 have H : ∀ (l0 : List (El .str)) (l7 : List (El zo)) (n8 : Int) (n9 : Int), (l70 = l7 ∧ n80 = n8 ∧ ((l0.length : Int) ≤ (l00.length : Int) + n9 ∧ n9 ≤ n8 ∧ n8 = (l7.length : Int))) → St.all (fun _ => False) (fun (l0, l7, n8, n9, _) => l70 = l7 ∧ n80 = n8 ∧ ((l0.length : Int) ≤ (l00.length : Int) + n9 ∧ n9 ≤ n8 ∧ n8 = (l7.length : Int))) (fun (l0, l7, n8, n9, _) => l70 = l7 ∧ n80 = n8 ∧ ((l0.length : Int) ≤ (l00.length : Int) + n9 ∧ n9 ≤ n8 ∧ n8 = (l7.length : Int))) (x5.b (l0, l7, n8, n9, ())) := by
  intro l0 l7 n8 n9 hI
  obtain ⟨eq0, eq1, eq2⟩ := hI
  simp only [LB.b, x5, zi, zQ, zR]
  refine zj (fun h3 => ?_) (fun h3 => ?_)
  ·replace h3 : n9 < n8 := of_decide_eq_true h3
   refine zj (fun h4 => ?_) (fun h4 => ?_)
   ·replace h4 := zIe h4
    exact yg (show l70 = l7 ∧ n80 = n8 ∧ (((zAM l0 (zB zo l7 n9).2.1).1.length : Int) ≤ (l00.length : Int) + (n9 + (1 : Int)) ∧ (n9 + (1 : Int)) ≤ n8 ∧ n8 = (l7.length : Int)) from ⟨eq0, eq1, by have _ := zQi l0 (zB zo l7 n9).2.1; first | omega | rfl | assumption | (simp <;> omega)⟩)
   ·replace h4 := zIw h4
    exact yg (show l70 = l7 ∧ n80 = n8 ∧ ((l0.length : Int) ≤ (l00.length : Int) + (n9 + (1 : Int)) ∧ (n9 + (1 : Int)) ≤ n8 ∧ n8 = (l7.length : Int)) from ⟨eq0, eq1, by first | omega | rfl | assumption | (simp <;> omega)⟩)
  ·replace h3 : ¬ (n9 < n8) := of_decide_eq_false h3
   exact zCd (show l70 = l7 ∧ n80 = n8 ∧ ((l0.length : Int) ≤ (l00.length : Int) + n9 ∧ n9 ≤ n8 ∧ n8 = (l7.length : Int)) from ⟨eq0, eq1, by first | omega | rfl | assumption | (simp <;> omega)⟩)
 exact LB.post (l := x5) (A := fun _ => False) (fun (l0, l7, n8, n9, _) => l70 = l7 ∧ n80 = n8 ∧ ((l0.length : Int) ≤ (l00.length : Int) + n9 ∧ n9 ≤ n8 ∧ n8 = (l7.length : Int))) (fun ⟨l0, l7, n8, n9, ⟨⟩⟩ hx => H l0 l7 n8 n9 hx) ⟨rfl, rfl, p0⟩
theorem zS9 : SF x5 fun x : List (El .str) × List (El zo) × Int × Int × Unit => (0 ≤ x.2.2.2.1 ∧ x.2.2.1 = (x.2.1.length : Int) ∧ (x.1.length : Int) + (x.2.1.length : Int) - x.2.2.2.1 ≤ 16777216, x.2.2.1 - x.2.2.2.1) := xz (by
 rintro ⟨(l0 : List (El .str)), (l7 : List (El zo)), (n8 : Int), (n9 : Int), ⟨⟩⟩ hI hw
 obtain ⟨i0, i1, k0⟩ := hI
 dsimp only at i0 i1 k0
 have _ : -9223372036854775808 ≤ n8 ∧ n8 ≤ 9223372036854775807 := zw hw.2.2.1
 have _ : (l7.length : Int) ≤ 16777216 := zE (hw.2.1.1)
 have _ := zQi l0 (zB zo l7 n9).2.1
 simp [x5]
 repeat' first | (simp [zHl]; omega) | assumption | intro _ | apply And.intro
 all_goals omega)
def zG9 (a0 : List (El .str)) (a1 : List (El zo)) : Tr (List (El .str) × Unit) := .lp x5 (a0, a1, (a1.length : Int), (0 : Int), ()) (fun _ => .bad) (fun t2 => .v (t2.1, ()))
def yJ a0 a1 := (zG9 a0 a1).val
def zFd (a0 : List (El .str)) (a1 : List (El zo)) : Prop := (a0.length : Int) + (a1.length : Int) ≤ 16777216
@[reducible] def zRN : FnD := ⟨[vo .str, vd (.lst zo)], [vo .str], true, fun a => some (zFd a.1 a.2.1), fun a => yJ a.1 a.2.1⟩
theorem zbK (a0 : List (El .str)) (a1 : List (El zo)) (_ : xG zRN.args (a0, a1, ())) (hp : zFd a0 a1) : (zG9 a0 a1).ok := by
 unfold zFd at hp
 unfold zG9
 refine zI ?_ ?_
 ·exact zS9 _ ⟨by (dsimp only <;> first | omega | assumption | (simp <;> omega)), by (dsimp only <;> first | omega | assumption | (simp <;> omega)), by (dsimp only <;> first | omega | assumption | (simp <;> omega))⟩
 ·refine zIQ (A' := fun _ => False) (B' := fun (t2l0, t2l7, t2n8, t2n9, _) => a1 = t2l7 ∧ (a1.length : Int) = t2n8 ∧ ((t2l0.length : Int) ≤ (a0.length : Int) + t2n9 ∧ t2n9 ≤ t2n8 ∧ t2n8 = (t2l7.length : Int))) (zMe a0 a1 (a1.length : Int) (0 : Int) (by (first | omega | rfl | assumption | (simp <;> omega) | (refine ⟨?_, ?_, ?_⟩ <;> first | omega | rfl | (simp <;> omega)) | (refine ⟨?_, ?_⟩ <;> first | omega | rfl | (simp <;> omega))))) (fun _ h => h.elim) (fun t ht => ?_)
  obtain ⟨t2l0, t2l7, t2n8, t2n9, ⟨⟩⟩ := t
  dsimp only
  obtain ⟨rfl, rfl, hth5⟩ := ht
  obtain ⟨t2n9, rfl⟩ : ∃ y : Int, y = t2n9 := ⟨_, rfl⟩
  replace hth5 : (t2l0.length : Int) ≤ (a0.length : Int) + t2n9 ∧ t2n9 ≤ (a1.length : Int) ∧ (a1.length : Int) = (a1.length : Int) := hth5
  trivial
def zRj : Con Tryz.prog := yD mo g0 [zaX] [x5] 184 zRN (fn := Tryz.f184) ⟨lk, trivial⟩ (fun a hw h => yT (by kernel_rfl) (zbK a.1 a.2.1 hw h) rfl)
theorem zSI (a0 : List (El .str)) (a1 : List (El zo)) : yJ a0 a1 = ((zg (fun _ x (s : (List (El .str))) => bif (x.1 == (1 : Int)) then (zAM s x.2.1).1 else s) 0 a1 a0), ()) := by
 simp only [yJ, zG9, zR, zx, zQ]
 rw [zSf, xf] <;> rfl
theorem zAV (l : List (El .str)) (a : List (El zo)) : ((yJ l a).1.length : Int) ≤ (l.length : Int) + (a.length : Int) := by
 simp only [yJ, zG9, zQ, zR, zx]
 have := zMe l a (a.length : Int) (0 : Int) (by refine ⟨?_, ?_, ?_⟩ <;> omega)
 revert this
 cases (LB.run x5 (l, a, (a.length : Int), (0 : Int), ())) with
 | ret r => intro h; exact h.elim
 | brk t => obtain ⟨t0, t1, t2, t3, ⟨⟩⟩ := t; rintro ⟨rfl, rfl, h1, h2, h3⟩; obtain ⟨t3, rfl⟩ : ∃ y : Int, y = t3 := ⟨_, rfl⟩; replace h1 : (t0.length : Int) ≤ (l.length : Int) + t3 := h1; replace h2 : t3 ≤ (a.length : Int) := h2; show (t0.length : Int) ≤ _; omega
 | go t => obtain ⟨t0, t1, t2, t3, ⟨⟩⟩ := t; rintro ⟨rfl, rfl, h1, h2, h3⟩; obtain ⟨t3, rfl⟩ : ∃ y : Int, y = t3 := ⟨_, rfl⟩; replace h1 : (t0.length : Int) ≤ (l.length : Int) + t3 := h1; replace h2 : t3 ≤ (a.length : Int) := h2; show (t0.length : Int) ≤ _; omega
@[reducible] def zDL : LB := ⟨[], ⟨22, [], [(3, vo .str), (7, vd (.lst zJ)), (8, vd .int), (9, vd .int)]⟩, ⟨22, [], []⟩, 0, fun x => (fun (l3 : List (El .str)) (l7 : List (El zJ)) (n8 : Int) (n9 : Int) => (bif decide (n9 < n8) then (.ix n9 l7 (bif (!(zB zJ l7 n9).2.2) then (.ck (zFd l3 (zB zJ l7 n9).2.1) (.ik (n9 + (1 : Int)) (.v (.go ((yJ l3 (zB zJ l7 n9).2.1).1, l7, n8, (n9 + (1 : Int)), ()))))) else (.ik (n9 + (1 : Int)) (.v (.go (l3, l7, n8, (n9 + (1 : Int)), ())))))) else (.v (.brk (l3, l7, n8, n9, ()))) : Tr (St _ _))) x.1 x.2.1 x.2.2.1 x.2.2.2.1⟩
theorem zMl (l7 : List (El zJ)) (l3 : List (El .str)) : LB.run zDL (l3, l7, (l7.length : Int), (0 : Int), ()) = .brk ((zg (fun _ x (s : (List (El .str))) => bif (!x.2.2) then (yJ s x.2.1).1 else s) 0 l7 l3), l7, (l7.length : Int), (l7.length : Int), ()) := LB.run_fold (l := zDL) (fun i s => (s, l7, (l7.length : Int), (i : Int), ())) (fun i x s h => by
  simp only [LB.b, zDL, zi, zQ, zR, cond_true, yM h, zG h]
  cases (!x.2.2) <;> rfl) (fun s => by simp only [LB.b, zDL, xl]; rfl)
theorem zSd : SF zDL fun x : List (El .str) × List (El zJ) × Int × Int × Unit => (0 ≤ x.2.2.2.1 ∧ x.2.2.1 = (x.2.1.length : Int) ∧ (x.1.length : Int) + zAv x.2.1 x.2.2.2.1 ≤ 16777216, x.2.2.1 - x.2.2.2.1) := xz (by
 rintro ⟨(l3 : List (El .str)), (l7 : List (El zJ)), (n8 : Int), (n9 : Int), ⟨⟩⟩ hI hw
 dsimp only at hI ⊢
 obtain ⟨i0, i1, k0⟩ := hI
 have _ : -9223372036854775808 ≤ n8 ∧ n8 ≤ 9223372036854775807 := zw hw.2.2.1
 have hb : (l7.length : Int) ≤ 16777216 := zE (hw.2.1.1)
 refine ⟨by omega, ?_⟩
 refine xM (fun h1 => ?_) (fun h1 => ?_)
 ·replace h1 : n9 < n8 := of_decide_eq_true h1
  refine yR ?_ ?_
  ·first | omega | (simp <;> omega)
  ·refine xM (fun h2 => ?_) (fun h2 => ?_)
   ·refine yR ?_ ?_
    ·have _ := zAR l7 n9 (by omega); show (l3.length : Int) + ((zB zJ l7 n9).2.1.length : Int) ≤ 16777216; omega
    ·refine yR ?_ ?_
     ·exact ink (by omega) (by omega)
     ·exact show (0 ≤ (n9 + (1 : Int)) ∧ n8 = (l7.length : Int) ∧ ((yJ l3 (zB zJ l7 n9).2.1).1.length : Int) + zAv l7 (n9 + (1 : Int)) ≤ 16777216) ∧ n8 - (n9 + (1 : Int)) < n8 - n9 ∧ 0 < n8 - n9 from ⟨⟨by (have _ := zAV l3 (zB zJ l7 n9).2.1; have _ := zAR l7 n9 (by omega); first | omega | rfl | assumption | (simp <;> omega)), by (have _ := zAV l3 (zB zJ l7 n9).2.1; have _ := zAR l7 n9 (by omega); first | omega | rfl | assumption | (simp <;> omega)), by (have _ := zAV l3 (zB zJ l7 n9).2.1; have _ := zAR l7 n9 (by omega); first | omega | rfl | assumption | (simp <;> omega))⟩, by (first | omega | (simp only [List.length_set]; omega)), by (first | omega | (simp only [List.length_set]; omega))⟩
   ·refine yR ?_ ?_
    ·exact ink (by omega) (by omega)
    ·exact show (0 ≤ (n9 + (1 : Int)) ∧ n8 = (l7.length : Int) ∧ (l3.length : Int) + zAv l7 (n9 + (1 : Int)) ≤ 16777216) ∧ n8 - (n9 + (1 : Int)) < n8 - n9 ∧ 0 < n8 - n9 from ⟨⟨by (have _ := zAR l7 n9 (by omega); first | omega | rfl | assumption | (simp <;> omega)), by (have _ := zAR l7 n9 (by omega); first | omega | rfl | assumption | (simp <;> omega)), by (have _ := zAR l7 n9 (by omega); first | omega | rfl | assumption | (simp <;> omega))⟩, by (first | omega | (simp only [List.length_set]; omega)), by (first | omega | (simp only [List.length_set]; omega))⟩
 ·replace h1 : ¬ (n9 < n8) := of_decide_eq_false h1
  exact trivial)
def zKQ (a0 : El zC) : Tr (List (El .str) × Unit) := .lp zDL (([] : List (El .str)), a0.2.2.1, (a0.2.2.1.length : Int), (0 : Int), ()) (fun _ => .bad) (fun t2 => .v (t2.1, ()))
def zDC a0 := (zKQ a0).val
def zJJ (a0 : El zC) : Prop := SzR a0
@[reducible] def zSP : FnD := ⟨[va zC], [vo .str], true, fun a => some (zJJ a.1), fun a => zDC a.1⟩
theorem zcF (a0 : El zC) (_ : xG zSP.args (a0, ())) (hp : zJJ a0) : (zKQ a0).ok := by
 unfold zJJ at hp
 unfold zKQ
 refine zI ?_ ?_
 ·exact zSd _ ⟨by (have _ := hp.1; dsimp only <;> first | omega | rfl | assumption | (simp <;> omega)), by (have _ := hp.1; dsimp only <;> first | omega | rfl | assumption | (simp <;> omega)), by (have _ := hp.1; dsimp only <;> first | omega | rfl | assumption | (simp <;> omega))⟩
 ·refine vP (zMl a0.2.2.1 ([] : List (El .str))) ?_
  try dsimp only
  trivial
def zbc : Con Tryz.prog := yD mo g0 [zRj] [zDL] 122 zSP (fn := Tryz.f122) ⟨lk, trivial⟩ (fun a hw h => yT (by kernel_rfl) (zcF a.1 hw h) rfl)
theorem zdJ (a0 : El zC) : zDC a0 = ((zg (fun _ x (s : (List (El .str))) => bif (!x.2.2) then (yJ s x.2.1).1 else s) 0 a0.2.2.1 ([] : List (El .str))), ()) := by
 simp only [zDC, zKQ, zR, zx, zQ]
 rw [zMl, xf] <;> rfl
@[reducible] def vA : LB := ⟨[], ⟨49, [.d zC], [(1, .pt 0 0), (3, vo .str), (11, vd (.lst zS)), (12, vd .int), (13, vd .int)]⟩, ⟨49, [], []⟩, 0, fun x => (fun (w0 : El zC) (l3 : List (El .str)) (l11 : List (El zS)) (n12 : Int) (n13 : Int) => (bif decide (n13 < n12) then (.ix n13 l11 (.ck (zFd l3 [(zB zS l11 n13).2.1, (zB zS l11 n13).2.2]) (.ik (n13 + (1 : Int)) (.v (.go (w0, (), (yJ l3 [(zB zS l11 n13).2.1, (zB zS l11 n13).2.2]).1, l11, n12, (n13 + (1 : Int)), ())))))) else (.v (.brk (w0, (), l3, l11, n12, n13, ()))) : Tr (St _ _))) x.1 x.2.2.1 x.2.2.2.1 x.2.2.2.2.1 x.2.2.2.2.2.1⟩
theorem zRp (w0 : El zC) (l11 : List (El zS)) (l3 : List (El .str)) : LB.run vA (w0, (), l3, l11, (l11.length : Int), (0 : Int), ()) = .brk (w0, (), (zg (fun _ x (s : (List (El .str))) => (yJ s [x.2.1, x.2.2]).1) 0 l11 l3), l11, (l11.length : Int), (l11.length : Int), ()) := LB.run_fold (l := vA) (fun i s => (w0, (), s, l11, (l11.length : Int), (i : Int), ())) (fun i x s h => by
  simp only [LB.b, vA, zQ, zR, cond_true, yM h, zG h]
  rfl) (fun s => by simp only [LB.b, vA, xl]; rfl)
theorem zQ1 (w00 : El zC) (l30 : List (El .str)) (l110 : List (El zS)) (n120 : Int) (n130 : Int) (p0 : (l30.length : Int) + 2 * ((l110.length : Int) - n130) + 2 * vZ w00.2.2.2.2 0 ≤ 16777216 ∧ n120 = (l110.length : Int) ∧ n130 ≤ n120) : (LB.run vA (w00, (), l30, l110, n120, n130, ())).all (fun _ => False) (fun (w0, _, l3, l11, n12, n13, _) => w00 = w0 ∧ l110 = l11 ∧ n120 = n12 ∧ ((l3.length : Int) + 2 * ((l11.length : Int) - n13) + 2 * vZ w0.2.2.2.2 0 ≤ 16777216 ∧ n12 = (l11.length : Int) ∧ n13 ≤ n12)) (fun (w0, _, l3, l11, n12, n13, _) => w00 = w0 ∧ l110 = l11 ∧ n120 = n12 ∧ ((l3.length : Int) + 2 * ((l11.length : Int) - n13) + 2 * vZ w0.2.2.2.2 0 ≤ 16777216 ∧ n12 = (l11.length : Int) ∧ n13 ≤ n12)) := by
 have H : ∀ (w0 : El zC) (l3 : List (El .str)) (l11 : List (El zS)) (n12 : Int) (n13 : Int), (w00 = w0 ∧ l110 = l11 ∧ n120 = n12 ∧ ((l3.length : Int) + 2 * ((l11.length : Int) - n13) + 2 * vZ w0.2.2.2.2 0 ≤ 16777216 ∧ n12 = (l11.length : Int) ∧ n13 ≤ n12)) → St.all (fun _ => False) (fun (w0, _, l3, l11, n12, n13, _) => w00 = w0 ∧ l110 = l11 ∧ n120 = n12 ∧ ((l3.length : Int) + 2 * ((l11.length : Int) - n13) + 2 * vZ w0.2.2.2.2 0 ≤ 16777216 ∧ n12 = (l11.length : Int) ∧ n13 ≤ n12)) (fun (w0, _, l3, l11, n12, n13, _) => w00 = w0 ∧ l110 = l11 ∧ n120 = n12 ∧ ((l3.length : Int) + 2 * ((l11.length : Int) - n13) + 2 * vZ w0.2.2.2.2 0 ≤ 16777216 ∧ n12 = (l11.length : Int) ∧ n13 ≤ n12)) (vA.b (w0, (), l3, l11, n12, n13, ())) := by
  intro w0 l3 l11 n12 n13 hI
  obtain ⟨eq0, eq1, eq2, eq3⟩ := hI
  simp only [LB.b, vA, zi, zQ, zR]
  refine zj (fun h2 => ?_) (fun h2 => ?_)
  ·replace h2 : n13 < n12 := of_decide_eq_true h2
   exact yg (show w00 = w0 ∧ l110 = l11 ∧ n120 = n12 ∧ (((yJ l3 [(zB zS l11 n13).2.1, (zB zS l11 n13).2.2]).1.length : Int) + 2 * ((l11.length : Int) - (n13 + (1 : Int))) + 2 * vZ w0.2.2.2.2 0 ≤ 16777216 ∧ n12 = (l11.length : Int) ∧ (n13 + (1 : Int)) ≤ n12) from ⟨eq0, eq1, eq2, by have _ := zAV l3 [(zB zS l11 n13).2.1, (zB zS l11 n13).2.2]; simp only [List.length_cons, List.length_nil] at *; first | omega | rfl | assumption | (simp <;> omega)⟩)
  ·replace h2 : ¬ (n13 < n12) := of_decide_eq_false h2
   exact zCd (show w00 = w0 ∧ l110 = l11 ∧ n120 = n12 ∧ ((l3.length : Int) + 2 * ((l11.length : Int) - n13) + 2 * vZ w0.2.2.2.2 0 ≤ 16777216 ∧ n12 = (l11.length : Int) ∧ n13 ≤ n12) from ⟨eq0, eq1, eq2, by first | omega | rfl | assumption | (simp <;> omega)⟩)
 exact LB.post (l := vA) (A := fun _ => False) (fun (w0, _, l3, l11, n12, n13, _) => w00 = w0 ∧ l110 = l11 ∧ n120 = n12 ∧ ((l3.length : Int) + 2 * ((l11.length : Int) - n13) + 2 * vZ w0.2.2.2.2 0 ≤ 16777216 ∧ n12 = (l11.length : Int) ∧ n13 ≤ n12)) (fun ⟨w0, ⟨⟩, l3, l11, n12, n13, ⟨⟩⟩ hx => H w0 l3 l11 n12 n13 hx) ⟨rfl, rfl, rfl, p0⟩
theorem zQB : SF vA fun x : El zC × Unit × List (El .str) × List (El zS) × Int × Int × Unit => (0 ≤ x.2.2.2.2.2.1 ∧ x.2.2.2.2.1 = (x.2.2.2.1.length : Int) ∧ (x.2.2.1.length : Int) + 2 * ((x.2.2.2.1.length : Int) - x.2.2.2.2.2.1) + 2 * vZ x.1.2.2.2.2 0 ≤ 16777216, x.2.2.2.2.1 - x.2.2.2.2.2.1) := xz (by
 rintro ⟨(w0 : El zC), ⟨⟩, (l3 : List (El .str)), (l11 : List (El zS)), (n12 : Int), (n13 : Int), ⟨⟩⟩ hI hw
 dsimp only at hI ⊢
 obtain ⟨i0, i1, k0⟩ := hI
 have _ : -9223372036854775808 ≤ n12 ∧ n12 ≤ 9223372036854775807 := zw hw.2.2.2.2.1
 have hb : (l11.length : Int) ≤ 16777216 := zE (hw.2.2.2.1.1)
 refine ⟨by omega, ?_⟩
 refine xM (fun h3 => ?_) (fun h3 => ?_)
 ·replace h3 : n13 < n12 := of_decide_eq_true h3
  refine yR ?_ ?_
  ·first | omega | (simp <;> omega)
  ·refine yR ?_ ?_
   ·have _ := zZ9 w0.2.2.2.2 0; show (l3.length : Int) + ([(zB zS l11 n13).2.1, (zB zS l11 n13).2.2].length : Int) ≤ 16777216; simp only [List.length_cons, List.length_nil]; omega
   ·refine yR ?_ ?_
    ·exact ink (by omega) (by omega)
    ·exact show (0 ≤ (n13 + (1 : Int)) ∧ n12 = (l11.length : Int) ∧ ((yJ l3 [(zB zS l11 n13).2.1, (zB zS l11 n13).2.2]).1.length : Int) + 2 * ((l11.length : Int) - (n13 + (1 : Int))) + 2 * vZ w0.2.2.2.2 0 ≤ 16777216) ∧ n12 - (n13 + (1 : Int)) < n12 - n13 ∧ 0 < n12 - n13 from ⟨⟨by (have _ := zAV l3 [(zB zS l11 n13).2.1, (zB zS l11 n13).2.2]; simp only [List.length_cons, List.length_nil] at *; first | omega | rfl | assumption | (simp <;> omega)), by (have _ := zAV l3 [(zB zS l11 n13).2.1, (zB zS l11 n13).2.2]; simp only [List.length_cons, List.length_nil] at *; first | omega | rfl | assumption | (simp <;> omega)), by (have _ := zAV l3 [(zB zS l11 n13).2.1, (zB zS l11 n13).2.2]; simp only [List.length_cons, List.length_nil] at *; first | omega | rfl | assumption | (simp <;> omega))⟩, by (first | omega | (simp only [List.length_set]; omega)), by (first | omega | (simp only [List.length_set]; omega))⟩
 ·replace h3 : ¬ (n13 < n12) := of_decide_eq_false h3
  exact trivial)
@[reducible] def y7 : LB := ⟨[], ⟨49, [], [(3, vo .str), (26, vd (.lst z5)), (27, vd .int), (28, vd .int), (33, vd (.lst zq)), (34, vd .int), (35, vd .int)]⟩, ⟨49, [], []⟩, 4, fun x => (fun (l3 : List (El .str)) (l26 : List (El z5)) (n27 : Int) (n28 : Int) (l33 : List (El zq)) (n34 : Int) (n35 : Int) => (bif decide (n35 < n34) then (.ix n35 l33 (.ck (zFd l3 [(zB zq l33 n35).2.1, (zB zq l33 n35).2.2]) (.ik (n35 + (1 : Int)) (.v (.go ((yJ l3 [(zB zq l33 n35).2.1, (zB zq l33 n35).2.2]).1, l26, n27, n28, l33, n34, (n35 + (1 : Int)), ())))))) else (.v (.brk (l3, l26, n27, n28, l33, n34, n35, ()))) : Tr (St _ _))) x.1 x.2.1 x.2.2.1 x.2.2.2.1 x.2.2.2.2.1 x.2.2.2.2.2.1 x.2.2.2.2.2.2.1⟩
theorem zSG (l26 : List (El z5)) (n27 : Int) (n28 : Int) (l33 : List (El zq)) (l3 : List (El .str)) : LB.run y7 (l3, l26, n27, n28, l33, (l33.length : Int), (0 : Int), ()) = .brk ((zg (fun _ x (s : (List (El .str))) => (yJ s [x.2.1, x.2.2]).1) 0 l33 l3), l26, n27, n28, l33, (l33.length : Int), (l33.length : Int), ()) := LB.run_fold (l := y7) (fun i s => (s, l26, n27, n28, l33, (l33.length : Int), (i : Int), ())) (fun i x s h => by
  simp only [LB.b, y7, zQ, zR, cond_true, yM h, zG h]
  rfl) (fun s => by simp only [LB.b, y7, xl]; rfl)
theorem zQz (l30 : List (El .str)) (l260 : List (El z5)) (n270 : Int) (n280 : Int) (l330 : List (El zq)) (n340 : Int) (n350 : Int)  : (LB.run y7 (l30, l260, n270, n280, l330, n340, n350, ())).all (fun _ => False) (fun (_, l26, n27, n28, l33, n34, _) => l260 = l26 ∧ n270 = n27 ∧ n280 = n28 ∧ l330 = l33 ∧ n340 = n34) (fun (_, l26, n27, n28, l33, n34, _) => l260 = l26 ∧ n270 = n27 ∧ n280 = n28 ∧ l330 = l33 ∧ n340 = n34) := by
 have H : ∀ (l3 : List (El .str)) (l26 : List (El z5)) (n27 : Int) (n28 : Int) (l33 : List (El zq)) (n34 : Int) (n35 : Int), (l260 = l26 ∧ n270 = n27 ∧ n280 = n28 ∧ l330 = l33 ∧ n340 = n34) → St.all (fun _ => False) (fun (_, l26, n27, n28, l33, n34, _) => l260 = l26 ∧ n270 = n27 ∧ n280 = n28 ∧ l330 = l33 ∧ n340 = n34) (fun (_, l26, n27, n28, l33, n34, _) => l260 = l26 ∧ n270 = n27 ∧ n280 = n28 ∧ l330 = l33 ∧ n340 = n34) (y7.b (l3, l26, n27, n28, l33, n34, n35, ())) := by
  intro l3 l26 n27 n28 l33 n34 n35 hI
  obtain ⟨eq0, eq1, eq2, eq3, eq4⟩ := hI
  simp only [LB.b, y7, zi, zQ, zR]
  refine zj (fun h4 => ?_) (fun h4 => ?_)
  ·replace h4 : n35 < n34 := of_decide_eq_true h4
   exact ⟨eq0, eq1, eq2, eq3, eq4⟩
  ·replace h4 : ¬ (n35 < n34) := of_decide_eq_false h4
   exact ⟨eq0, eq1, eq2, eq3, eq4⟩
 exact LB.post (l := y7) (A := fun _ => False) (fun (_, l26, n27, n28, l33, n34, _) => l260 = l26 ∧ n270 = n27 ∧ n280 = n28 ∧ l330 = l33 ∧ n340 = n34) (fun ⟨l3, l26, n27, n28, l33, n34, n35, ⟨⟩⟩ hx => H l3 l26 n27 n28 l33 n34 n35 hx) ⟨rfl, rfl, rfl, rfl, rfl⟩
theorem zQJ (l30 : List (El .str)) (l260 : List (El z5)) (n270 : Int) (n280 : Int) (l330 : List (El zq)) (n340 : Int) (n350 : Int) (p0 : (l30.length : Int) + 2 * ((l330.length : Int) - n350) + 2 * vZ l260 (n280 + 1) ≤ 16777216 ∧ n340 = (l330.length : Int) ∧ n350 ≤ n340) : (LB.run y7 (l30, l260, n270, n280, l330, n340, n350, ())).all (fun _ => False) (fun (l3, l26, n27, n28, l33, n34, n35, _) => l260 = l26 ∧ n270 = n27 ∧ n280 = n28 ∧ l330 = l33 ∧ n340 = n34 ∧ ((l3.length : Int) + 2 * ((l33.length : Int) - n35) + 2 * vZ l26 (n28 + 1) ≤ 16777216 ∧ n34 = (l33.length : Int) ∧ n35 ≤ n34)) (fun (l3, l26, n27, n28, l33, n34, n35, _) => l260 = l26 ∧ n270 = n27 ∧ n280 = n28 ∧ l330 = l33 ∧ n340 = n34 ∧ ((l3.length : Int) + 2 * ((l33.length : Int) - n35) + 2 * vZ l26 (n28 + 1) ≤ 16777216 ∧ n34 = (l33.length : Int) ∧ n35 ≤ n34)) := by
 have H : ∀ (l3 : List (El .str)) (l26 : List (El z5)) (n27 : Int) (n28 : Int) (l33 : List (El zq)) (n34 : Int) (n35 : Int), (l260 = l26 ∧ n270 = n27 ∧ n280 = n28 ∧ l330 = l33 ∧ n340 = n34 ∧ ((l3.length : Int) + 2 * ((l33.length : Int) - n35) + 2 * vZ l26 (n28 + 1) ≤ 16777216 ∧ n34 = (l33.length : Int) ∧ n35 ≤ n34)) → St.all (fun _ => False) (fun (l3, l26, n27, n28, l33, n34, n35, _) => l260 = l26 ∧ n270 = n27 ∧ n280 = n28 ∧ l330 = l33 ∧ n340 = n34 ∧ ((l3.length : Int) + 2 * ((l33.length : Int) - n35) + 2 * vZ l26 (n28 + 1) ≤ 16777216 ∧ n34 = (l33.length : Int) ∧ n35 ≤ n34)) (fun (l3, l26, n27, n28, l33, n34, n35, _) => l260 = l26 ∧ n270 = n27 ∧ n280 = n28 ∧ l330 = l33 ∧ n340 = n34 ∧ ((l3.length : Int) + 2 * ((l33.length : Int) - n35) + 2 * vZ l26 (n28 + 1) ≤ 16777216 ∧ n34 = (l33.length : Int) ∧ n35 ≤ n34)) (y7.b (l3, l26, n27, n28, l33, n34, n35, ())) := by
  intro l3 l26 n27 n28 l33 n34 n35 hI
  obtain ⟨eq0, eq1, eq2, eq3, eq4, eq5⟩ := hI
  simp only [LB.b, y7, zi, zQ, zR]
  refine zj (fun h5 => ?_) (fun h5 => ?_)
  ·replace h5 : n35 < n34 := of_decide_eq_true h5
   exact yg (show l260 = l26 ∧ n270 = n27 ∧ n280 = n28 ∧ l330 = l33 ∧ n340 = n34 ∧ (((yJ l3 [(zB zq l33 n35).2.1, (zB zq l33 n35).2.2]).1.length : Int) + 2 * ((l33.length : Int) - (n35 + (1 : Int))) + 2 * vZ l26 (n28 + 1) ≤ 16777216 ∧ n34 = (l33.length : Int) ∧ (n35 + (1 : Int)) ≤ n34) from ⟨eq0, eq1, eq2, eq3, eq4, by have _ := zAV l3 [(zB zq l33 n35).2.1, (zB zq l33 n35).2.2]; simp only [List.length_cons, List.length_nil] at *; first | omega | rfl | assumption | (simp <;> omega)⟩)
  ·replace h5 : ¬ (n35 < n34) := of_decide_eq_false h5
   exact zCd (show l260 = l26 ∧ n270 = n27 ∧ n280 = n28 ∧ l330 = l33 ∧ n340 = n34 ∧ ((l3.length : Int) + 2 * ((l33.length : Int) - n35) + 2 * vZ l26 (n28 + 1) ≤ 16777216 ∧ n34 = (l33.length : Int) ∧ n35 ≤ n34) from ⟨eq0, eq1, eq2, eq3, eq4, by first | omega | rfl | assumption | (simp <;> omega)⟩)
 exact LB.post (l := y7) (A := fun _ => False) (fun (l3, l26, n27, n28, l33, n34, n35, _) => l260 = l26 ∧ n270 = n27 ∧ n280 = n28 ∧ l330 = l33 ∧ n340 = n34 ∧ ((l3.length : Int) + 2 * ((l33.length : Int) - n35) + 2 * vZ l26 (n28 + 1) ≤ 16777216 ∧ n34 = (l33.length : Int) ∧ n35 ≤ n34)) (fun ⟨l3, l26, n27, n28, l33, n34, n35, ⟨⟩⟩ hx => H l3 l26 n27 n28 l33 n34 n35 hx) ⟨rfl, rfl, rfl, rfl, rfl, p0⟩
theorem zR5 : SF y7 fun x : List (El .str) × List (El z5) × Int × Int × List (El zq) × Int × Int × Unit => (0 ≤ x.2.2.2.2.2.2.1 ∧ x.2.2.2.2.2.1 = (x.2.2.2.2.1.length : Int) ∧ (x.1.length : Int) + 2 * ((x.2.2.2.2.1.length : Int) - x.2.2.2.2.2.2.1) + 2 * vZ x.2.1 (x.2.2.2.1 + 1) ≤ 16777216, x.2.2.2.2.2.1 - x.2.2.2.2.2.2.1) := xz (by
 rintro ⟨(l3 : List (El .str)), (l26 : List (El z5)), (n27 : Int), (n28 : Int), (l33 : List (El zq)), (n34 : Int), (n35 : Int), ⟨⟩⟩ hI hw
 dsimp only at hI ⊢
 obtain ⟨i0, i1, k0⟩ := hI
 have _ : -9223372036854775808 ≤ n27 ∧ n27 ≤ 9223372036854775807 := zw hw.2.2.1
 have _ : -9223372036854775808 ≤ n28 ∧ n28 ≤ 9223372036854775807 := zw hw.2.2.2.1
 have _ : -9223372036854775808 ≤ n34 ∧ n34 ≤ 9223372036854775807 := zw hw.2.2.2.2.2.1
 have hb : (l33.length : Int) ≤ 16777216 := zE (hw.2.2.2.2.1.1)
 refine ⟨by omega, ?_⟩
 refine xM (fun h6 => ?_) (fun h6 => ?_)
 ·replace h6 : n35 < n34 := of_decide_eq_true h6
  refine yR ?_ ?_
  ·first | omega | (simp <;> omega)
  ·refine yR ?_ ?_
   ·have _ := zZ9 l26 (n28 + 1); show (l3.length : Int) + ([(zB zq l33 n35).2.1, (zB zq l33 n35).2.2].length : Int) ≤ 16777216; simp only [List.length_cons, List.length_nil]; omega
   ·refine yR ?_ ?_
    ·exact ink (by omega) (by omega)
    ·exact show (0 ≤ (n35 + (1 : Int)) ∧ n34 = (l33.length : Int) ∧ ((yJ l3 [(zB zq l33 n35).2.1, (zB zq l33 n35).2.2]).1.length : Int) + 2 * ((l33.length : Int) - (n35 + (1 : Int))) + 2 * vZ l26 (n28 + 1) ≤ 16777216) ∧ n34 - (n35 + (1 : Int)) < n34 - n35 ∧ 0 < n34 - n35 from ⟨⟨by (have _ := zAV l3 [(zB zq l33 n35).2.1, (zB zq l33 n35).2.2]; simp only [List.length_cons, List.length_nil] at *; first | omega | rfl | assumption | (simp <;> omega)), by (have _ := zAV l3 [(zB zq l33 n35).2.1, (zB zq l33 n35).2.2]; simp only [List.length_cons, List.length_nil] at *; first | omega | rfl | assumption | (simp <;> omega)), by (have _ := zAV l3 [(zB zq l33 n35).2.1, (zB zq l33 n35).2.2]; simp only [List.length_cons, List.length_nil] at *; first | omega | rfl | assumption | (simp <;> omega))⟩, by (first | omega | (simp only [List.length_set]; omega)), by (first | omega | (simp only [List.length_set]; omega))⟩
 ·replace h6 : ¬ (n35 < n34) := of_decide_eq_false h6
  exact trivial)
@[reducible] def xq : LB := ⟨[], ⟨49, [], [(3, vo .str), (26, vd (.lst z5)), (27, vd .int), (28, vd .int)]⟩, ⟨49, [], []⟩, 2, fun x => (fun (l3 : List (El .str)) (l26 : List (El z5)) (n27 : Int) (n28 : Int) => (bif decide (n28 < n27) then (.ix n28 l26 (.lp y7 (l3, l26, n27, n28, (zB z5 l26 n28).2.2.1, ((zB z5 l26 n28).2.2.1.length : Int), (0 : Int), ()) (fun _ => .v (.ret ())) (fun t4 => .ik (t4.2.2.2.1 + (1 : Int)) (.v (.go (t4.1, t4.2.1, t4.2.2.1, (t4.2.2.2.1 + (1 : Int)), ())))))) else (.v (.brk (l3, l26, n27, n28, ()))) : Tr (St _ _))) x.1 x.2.1 x.2.2.1 x.2.2.2.1⟩
theorem zRA (l30 : List (El .str)) (l260 : List (El z5)) (n270 : Int) (n280 : Int)  : (LB.run xq (l30, l260, n270, n280, ())).all (fun _ => False) (fun (_, l26, n27, _) => l260 = l26 ∧ n270 = n27) (fun (_, l26, n27, _) => l260 = l26 ∧ n270 = n27) := by
 have H : ∀ (l3 : List (El .str)) (l26 : List (El z5)) (n27 : Int) (n28 : Int), (l260 = l26 ∧ n270 = n27) → St.all (fun _ => False) (fun (_, l26, n27, _) => l260 = l26 ∧ n270 = n27) (fun (_, l26, n27, _) => l260 = l26 ∧ n270 = n27) (xq.b (l3, l26, n27, n28, ())) := by
  intro l3 l26 n27 n28 hI
  obtain ⟨eq0, eq1⟩ := hI
  simp only [LB.b, xq, zi, zQ, zR, zx]
  refine zj (fun h7 => ?_) (fun h7 => ?_)
  ·replace h7 : n28 < n27 := of_decide_eq_true h7
   refine zP7 (A' := fun _ => False) (B' := fun (t4l3, t4l26, t4n27, t4n28, t4l33, t4n34, t4n35, _) => l26 = t4l26 ∧ n27 = t4n27 ∧ n28 = t4n28 ∧ (zB z5 l26 n28).2.2.1 = t4l33 ∧ ((zB z5 l26 n28).2.2.1.length : Int) = t4n34) (zQz l3 l26 n27 n28 (zB z5 l26 n28).2.2.1 ((zB z5 l26 n28).2.2.1.length : Int) (0 : Int)) (fun _ h => h.elim) (fun t ht => ?_)
   obtain ⟨t4l3, t4l26, t4n27, t4n28, t4l33, t4n34, t4n35, ⟨⟩⟩ := t
   dsimp only
   obtain ⟨rfl, rfl, rfl, rfl, rfl⟩ := ht
   obtain ⟨t4n35, rfl⟩ : ∃ y : Int, y = t4n35 := ⟨_, rfl⟩
   exact ⟨eq0, eq1⟩
  ·replace h7 : ¬ (n28 < n27) := of_decide_eq_false h7
   exact ⟨eq0, eq1⟩
 exact LB.post (l := xq) (A := fun _ => False) (fun (_, l26, n27, _) => l260 = l26 ∧ n270 = n27) (fun ⟨l3, l26, n27, n28, ⟨⟩⟩ hx => H l3 l26 n27 n28 hx) ⟨rfl, rfl⟩
theorem zRc : SF xq fun x : List (El .str) × List (El z5) × Int × Int × Unit => (0 ≤ x.2.2.2.1 ∧ x.2.2.1 = (x.2.1.length : Int) ∧ (x.1.length : Int) + 2 * vZ x.2.1 x.2.2.2.1 ≤ 16777216, x.2.2.1 - x.2.2.2.1) := xz (by
 rintro ⟨(l3 : List (El .str)), (l26 : List (El z5)), (n27 : Int), (n28 : Int), ⟨⟩⟩ hI hw
 dsimp only at hI ⊢
 obtain ⟨i0, i1, k0⟩ := hI
 have _ : -9223372036854775808 ≤ n27 ∧ n27 ≤ 9223372036854775807 := zw hw.2.2.1
 have hb : (l26.length : Int) ≤ 16777216 := zE (hw.2.1.1)
 refine ⟨by omega, ?_⟩
 refine xM (fun h8 => ?_) (fun h8 => ?_)
 ·replace h8 : n28 < n27 := of_decide_eq_true h8
  refine yR ?_ ?_
  ·first | omega | (simp <;> omega)
  ·refine yR ?_ ?_
   ·exact zR5 _ ⟨by (have _ := zKB l26 n28 (by omega); dsimp only <;> first | omega | rfl | assumption | (simp <;> omega)), by (have _ := zKB l26 n28 (by omega); dsimp only <;> first | omega | rfl | assumption | (simp <;> omega)), by (have _ := zKB l26 n28 (by omega); dsimp only <;> first | omega | rfl | assumption | (simp <;> omega))⟩
   ·refine zNC (A' := fun _ => False) (B' := fun (t4l3, t4l26, t4n27, t4n28, t4l33, t4n34, t4n35, _) => l26 = t4l26 ∧ n27 = t4n27 ∧ n28 = t4n28 ∧ (zB z5 l26 n28).2.2.1 = t4l33 ∧ ((zB z5 l26 n28).2.2.1.length : Int) = t4n34 ∧ ((t4l3.length : Int) + 2 * ((t4l33.length : Int) - t4n35) + 2 * vZ t4l26 (t4n28 + 1) ≤ 16777216 ∧ t4n34 = (t4l33.length : Int) ∧ t4n35 ≤ t4n34)) (zQJ l3 l26 n27 n28 (zB z5 l26 n28).2.2.1 ((zB z5 l26 n28).2.2.1.length : Int) (0 : Int) (by (have _ := zKB l26 n28 (by omega); first | omega | rfl | assumption | (simp <;> omega) | (refine ⟨?_, ?_, ?_⟩ <;> first | omega | rfl | (simp <;> omega)) | (refine ⟨?_, ?_⟩ <;> first | omega | rfl | (simp <;> omega))))) (fun _ h => h.elim) (fun t ht => ?_)
    obtain ⟨t4l3, t4l26, t4n27, t4n28, t4l33, t4n34, t4n35, ⟨⟩⟩ := t
    dsimp only
    obtain ⟨rfl, rfl, rfl, rfl, rfl, hth9⟩ := ht
    obtain ⟨t4n35, rfl⟩ : ∃ y : Int, y = t4n35 := ⟨_, rfl⟩
    replace hth9 : (t4l3.length : Int) + 2 * (((zB z5 l26 n28).2.2.1.length : Int) - t4n35) + 2 * vZ l26 (n28 + 1) ≤ 16777216 ∧ ((zB z5 l26 n28).2.2.1.length : Int) = ((zB z5 l26 n28).2.2.1.length : Int) ∧ t4n35 ≤ ((zB z5 l26 n28).2.2.1.length : Int) := hth9
    refine yR ?_ ?_
    ·exact ink (by omega) (by omega)
    ·exact show (0 ≤ (n28 + (1 : Int)) ∧ n27 = (l26.length : Int) ∧ (t4l3.length : Int) + 2 * vZ l26 (n28 + (1 : Int)) ≤ 16777216) ∧ n27 - (n28 + (1 : Int)) < n27 - n28 ∧ 0 < n27 - n28 from ⟨⟨by (first | omega | rfl | assumption | (simp <;> omega)), by (first | omega | rfl | assumption | (simp <;> omega)), by (first | omega | rfl | assumption | (simp <;> omega))⟩, by (first | omega | (simp only [List.length_set]; omega)), by (first | omega | (simp only [List.length_set]; omega))⟩
 ·replace h8 : ¬ (n28 < n27) := of_decide_eq_false h8
  exact trivial)
def zH0 (a0 : El zC) : Tr (List (El .str) × Unit) := .lp vA (a0, (), ([] : List (El .str)), a0.2.2.2.1, (a0.2.2.2.1.length : Int), (0 : Int), ()) (fun _ => .bad) (fun t2 => .lp xq (t2.2.2.1, t2.1.2.2.2.2, (t2.1.2.2.2.2.length : Int), (0 : Int), ()) (fun _ => .bad) (fun t5 => .v (t5.1, ())))
def zAG a0 := (zH0 a0).val
def zHr (a0 : El zC) : Prop := SzR a0
@[reducible] def zPG : FnD := ⟨[va zC], [vo .str], true, fun a => some (zHr a.1), fun a => zAG a.1⟩
theorem zZz (a0 : El zC) (_ : xG zPG.args (a0, ())) (hp : zHr a0) : (zH0 a0).ok := by
 unfold zHr at hp
 unfold zH0
 refine zI ?_ ?_
 ·exact zQB _ ⟨by (have _ := hp.2; dsimp only <;> first | omega | rfl | assumption | (simp <;> omega)), by (have _ := hp.2; dsimp only <;> first | omega | rfl | assumption | (simp <;> omega)), by (have _ := hp.2; dsimp only <;> first | omega | rfl | assumption | (simp <;> omega))⟩
 ·refine zIQ (A' := fun _ => False) (B' := fun (t2w0, _, t2l3, t2l11, t2n12, t2n13, _) => a0 = t2w0 ∧ a0.2.2.2.1 = t2l11 ∧ (a0.2.2.2.1.length : Int) = t2n12 ∧ ((t2l3.length : Int) + 2 * ((t2l11.length : Int) - t2n13) + 2 * vZ t2w0.2.2.2.2 0 ≤ 16777216 ∧ t2n12 = (t2l11.length : Int) ∧ t2n13 ≤ t2n12)) (zQ1 a0 ([] : List (El .str)) a0.2.2.2.1 (a0.2.2.2.1.length : Int) (0 : Int) (by (have _ := hp.2; first | omega | rfl | assumption | (simp <;> omega) | (refine ⟨?_, ?_, ?_⟩ <;> first | omega | rfl | (simp <;> omega)) | (refine ⟨?_, ?_⟩ <;> first | omega | rfl | (simp <;> omega))))) (fun _ h => h.elim) (fun t ht => ?_)
  obtain ⟨t2w0, ⟨⟩, t2l3, t2l11, t2n12, t2n13, ⟨⟩⟩ := t
  dsimp only
  obtain ⟨rfl, rfl, rfl, hth10⟩ := ht
  obtain ⟨t2n13, rfl⟩ : ∃ y : Int, y = t2n13 := ⟨_, rfl⟩
  replace hth10 : (t2l3.length : Int) + 2 * ((a0.2.2.2.1.length : Int) - t2n13) + 2 * vZ a0.2.2.2.2 0 ≤ 16777216 ∧ (a0.2.2.2.1.length : Int) = (a0.2.2.2.1.length : Int) ∧ t2n13 ≤ (a0.2.2.2.1.length : Int) := hth10
  refine zI ?_ ?_
  ·exact zRc _ ⟨by (dsimp only <;> first | omega | rfl | assumption | (simp <;> omega)), by (dsimp only <;> first | omega | rfl | assumption | (simp <;> omega)), by (dsimp only <;> first | omega | rfl | assumption | (simp <;> omega))⟩
  ·refine zIQ (A' := fun _ => False) (B' := fun (t5l3, t5l26, t5n27, t5n28, _) => a0.2.2.2.2 = t5l26 ∧ (a0.2.2.2.2.length : Int) = t5n27) (zRA t2l3 a0.2.2.2.2 (a0.2.2.2.2.length : Int) (0 : Int)) (fun _ h => h.elim) (fun t ht => ?_)
   obtain ⟨t5l3, t5l26, t5n27, t5n28, ⟨⟩⟩ := t
   dsimp only
   obtain ⟨rfl, rfl⟩ := ht
   obtain ⟨t5n28, rfl⟩ : ∃ y : Int, y = t5n28 := ⟨_, rfl⟩
   trivial
def zZh : Con Tryz.prog := yD mo g0 [zRj] [vA, xq, y7] 123 zPG (fn := Tryz.f123) ⟨lk, lk, lk, trivial⟩ (fun a hw h => yT (by kernel_rfl) (zZz a.1 hw h) rfl)
@[reducible] def zEa : LB := ⟨[], ⟨26, [], [(16, vd (.lst zo)), (17, vd .int), (18, vd .int)]⟩, ⟨26, [], [(2, vd .bool)]⟩, 0, fun x => (fun (l16 : List (El zo)) (n17 : Int) (n18 : Int) => (bif decide (n18 < n17) then (.ix n18 l16 (bif (!(zF5 (zB zo l16 n18)).1) then (.v (.ret (false, ()))) else (.ik (n18 + (1 : Int)) (.v (.go (l16, n17, (n18 + (1 : Int)), ())))))) else (.v (.brk (l16, n17, n18, ()))) : Tr (St _ _))) x.1 x.2.1 x.2.2.1⟩
theorem zZ4 (l16 : List (El zo)) : LB.run zEa (l16, (l16.length : Int), (0 : Int), ()) = bif zd (fun _ x => bif (!(zF5 x).1) then false else true) 0 l16 then .brk (l16, (l16.length : Int), (l16.length : Int), ()) else .ret (false, ()) := LB.run_all (l := zEa) (fun i => (l16, (l16.length : Int), (i : Int), ())) (fun i x h => by
  simp only [LB.b, zEa, zi, zQ, zR, cond_true, yM h, zG h]
  cases (!(zF5 x).1) <;> rfl) (by simp only [LB.b, zEa, xl]; rfl)
theorem zYu : SF zEa fun x : List (El zo) × Int × Int × Unit => (0 ≤ x.2.2.1 ∧ x.2.1 = (x.1.length : Int), x.2.1 - x.2.2.1) := xz (by
 rintro ⟨(l16 : List (El zo)), (n17 : Int), (n18 : Int), ⟨⟩⟩ hI hw
 have _ : -9223372036854775808 ≤ n17 ∧ n17 ≤ 9223372036854775807 := zw hw.2.1
 have _ : (l16.length : Int) ≤ 16777216 := zE (hw.1.1)
 simp [zEa] at hI ⊢
 repeat' first | intro _ | apply And.intro
 all_goals omega)
def zKy (a0 : El zJ) : Tr (Bool × Unit) := bif (!(xi a0.1).1) then (.v (false, ())) else (bif decide ((a0.2.1.length : Int) > (5 : Int)) then (.v (false, ())) else (.lp zEa (a0.2.1, (a0.2.1.length : Int), (0 : Int), ()) (fun r3 => .v (r3.1, ())) (fun _ => .v (true, ()))))
def zD0 a0 := (zKy a0).val
@[reducible] def zZf : FnD := ⟨[va zJ], [vd .bool], true, fun _ => none, fun a => zD0 a.1⟩
theorem zjr (a0 : El zJ) (_ : xG zZf.args (a0, ())) : (zKy a0).ok := by
 unfold zKy
 refine zp (fun _ => trivial) (fun h1 => ?_)
 refine zp (fun _ => trivial) (fun h2 => ?_)
 replace h2 : ¬ ((a0.2.1.length : Int) > (5 : Int)) := of_decide_eq_false h2
 refine zI ?_ ?_
 ·exact zYu _ ⟨by (dsimp only <;> omega), by (dsimp only <;> omega)⟩
 ·simp
def ziA : Con Tryz.prog := yD mo g0 [zFG, zZU] [zEa] 180 zZf (fn := Tryz.f180) ⟨lk, trivial⟩ (fun a hw _ => yT (by kernel_rfl) (zjr a.1 hw) rfl)
theorem ziE (a0 : El zJ) : zD0 a0 = bif (!(xi a0.1).1) then (false, ()) else (bif (decide ((a0.2.1.length : Int) > (5 : Int))) then (false, ()) else (bif zd (fun _ x => bif (!(zF5 x).1) then false else true) 0 a0.2.1 then (true, ()) else (false, ()))) := by
 simp only [zD0, zKy, zR, zi, zx, zQ]
 rw [zZ4, z7] <;> rfl
theorem zjt {p : El zJ} (h : (zD0 p).1 = true) : p.2.1.length ≤ 5 := by
 simp only [zD0, zKy, zi, zQ, zR, zx, z6, zAY] at h
 have := of_decide_eq_false h.2.1
 omega
@[reducible] def zC1 : LB := ⟨[], ⟨37, [.d zC], [(1, .pt 0 0), (17, vd (.lst zJ)), (18, vd .int), (19, vd .int)]⟩, ⟨37, [], [(2, vd .bool)]⟩, 0, fun x => (fun (w0 : El zC) (l17 : List (El zJ)) (n18 : Int) (n19 : Int) => (bif decide (n19 < n18) then (.ix n19 l17 (bif (!(zD0 (zB zJ l17 n19)).1) then (.v (.ret (false, ()))) else (bif (!((zB zJ l17 n19).2.2 == decide (n19 ≥ (yd w0).1))) then (.v (.ret (false, ()))) else (.ik (n19 + (1 : Int)) (.v (.go (w0, (), l17, n18, (n19 + (1 : Int)), ()))))))) else (.v (.brk (w0, (), l17, n18, n19, ()))) : Tr (St _ _))) x.1 x.2.2.1 x.2.2.2.1 x.2.2.2.2.1⟩
theorem zVx (w0 : El zC) (l17 : List (El zJ)) : LB.run zC1 (w0, (), l17, (l17.length : Int), (0 : Int), ()) = bif zd (fun i x => bif (!(zD0 x).1) then false else (bif (!(x.2.2 == decide ((i : Int) ≥ (yd w0).1))) then false else true)) 0 l17 then .brk (w0, (), l17, (l17.length : Int), (l17.length : Int), ()) else .ret (false, ()) := LB.run_all (l := zC1) (fun i => (w0, (), l17, (l17.length : Int), (i : Int), ())) (fun i x h => by
  simp only [LB.b, zC1, zi, zQ, zR, cond_true, yM h, zG h]
  cases (!(zD0 x).1)
  ·cases (!(x.2.2 == decide ((i : Int) ≥ (yd w0).1))) <;> rfl
  ·rfl) (by simp only [LB.b, zC1, xl]; rfl)
theorem zV7 : SF zC1 fun x : El zC × Unit × List (El zJ) × Int × Int × Unit => (0 ≤ x.2.2.2.2.1 ∧ x.2.2.2.1 = (x.2.2.1.length : Int), x.2.2.2.1 - x.2.2.2.2.1) := xz (by
 rintro ⟨(w0 : El zC), ⟨⟩, (l17 : List (El zJ)), (n18 : Int), (n19 : Int), ⟨⟩⟩ hI hw
 have _ : -9223372036854775808 ≤ n18 ∧ n18 ≤ 9223372036854775807 := zw hw.2.2.2.1
 have _ : (l17.length : Int) ≤ 16777216 := zE (hw.2.2.1.1)
 simp [zC1] at hI ⊢
 repeat' first | intro _ | apply And.intro
 all_goals omega)
def zMO (a0 : El zC) : Tr (Bool × Unit) := bif (!(z3 (a0.2.2.1.length : Int) (1 : Int) (6 : Int)).1) then (.v (false, ())) else (bif (!(z3 (yd a0).1 (1 : Int) (3 : Int)).1) then (.v (false, ())) else (.lp zC1 (a0, (), a0.2.2.1, (a0.2.2.1.length : Int), (0 : Int), ()) (fun r5 => .v (r5.1, ())) (fun _ => .v (true, ()))))
def zFJ a0 := (zMO a0).val
@[reducible] def zUR : FnD := ⟨[va zC], [vd .bool], true, fun _ => none, fun a => zFJ a.1⟩
theorem zgd (a0 : El zC) (_ : xG zUR.args (a0, ())) : (zMO a0).ok := by
 unfold zMO
 refine zp (fun _ => trivial) (fun h1 => ?_)
 replace h1 := vQ h1
 replace h1 := zAN h1
 refine zp (fun _ => trivial) (fun h2 => ?_)
 replace h2 := vQ h2
 replace h2 := zAN h2
 refine zI ?_ ?_
 ·exact zV7 _ ⟨by (dsimp only <;> omega), by (dsimp only <;> omega)⟩
 ·simp
def zhO : Con Tryz.prog := yD mo g0 [vu, ziA, zKz] [zC1] 118 zUR (fn := Tryz.f118) ⟨lk, trivial⟩ (fun a hw _ => yT (by kernel_rfl) (zgd a.1 hw) rfl)
theorem zUd (a0 : El zC) : zFJ a0 = bif (!(z3 (a0.2.2.1.length : Int) (1 : Int) (6 : Int)).1) then (false, ()) else (bif (!(z3 (yd a0).1 (1 : Int) (3 : Int)).1) then (false, ()) else (bif zd (fun i x => bif (!(zD0 x).1) then false else (bif (!(x.2.2 == decide ((i : Int) ≥ (yd a0).1))) then false else true)) 0 a0.2.2.1 then (true, ()) else (false, ()))) := by
 simp only [zFJ, zMO, zR, zi, zx, zQ]
 rw [zVx, z7] <;> rfl
theorem zg7 {r : El zC} (h : (zFJ r).1 = true) : (∀ p ∈ r.2.2.1, p.2.1.length ≤ 5) ∧ (yV r false).1.length ≤ 3 := by
 rw [zUd] at h
 simp only [z6, zAY, zIT] at h
 obtain ⟨h1, h2, h3, _⟩ := h
 rw [zr] at h3
 constructor
 ·intro p hp
  obtain ⟨i, hi⟩ := List.mem_iff_getElem?.1 hp
  have := h3 i p hi
  simp only [zAY] at this
  exact zjt (vQ this.1)
 ·have := zAN (vQ h2)
  rw [zTQ] at this
  rw [zNi]
  have e : (fun (p : El zJ) => p.2.2 == false) = fun p => !p.2.2 := by funext p; cases p.2.2 <;> rfl
  rw [e]; omega
@[reducible] def zDD : LB := ⟨[], ⟨84, [.d zC], [(1, .pt 0 0), (37, vd (.lst zS)), (38, vd .int), (39, vd .int)]⟩, ⟨84, [], [(2, vd .bool)]⟩, 0, fun x => (fun (w0 : El zC) (l37 : List (El zS)) (n38 : Int) (n39 : Int) => (bif decide (n39 < n38) then (.ix n39 l37 (bif (!(zFZ (zB zS l37 n39)).1) then (.v (.ret (false, ()))) else (.ik (n39 + (1 : Int)) (.v (.go (w0, (), l37, n38, (n39 + (1 : Int)), ())))))) else (.v (.brk (w0, (), l37, n38, n39, ()))) : Tr (St _ _))) x.1 x.2.2.1 x.2.2.2.1 x.2.2.2.2.1⟩
theorem zNq (w0 : El zC) (l37 : List (El zS)) : LB.run zDD (w0, (), l37, (l37.length : Int), (0 : Int), ()) = bif zd (fun _ x => bif (!(zFZ x).1) then false else true) 0 l37 then .brk (w0, (), l37, (l37.length : Int), (l37.length : Int), ()) else .ret (false, ()) := LB.run_all (l := zDD) (fun i => (w0, (), l37, (l37.length : Int), (i : Int), ())) (fun i x h => by
  simp only [LB.b, zDD, zi, zQ, zR, cond_true, yM h, zG h]
  cases (!(zFZ x).1) <;> rfl) (by simp only [LB.b, zDD, xl]; rfl)
theorem zV0 : SF zDD fun x : El zC × Unit × List (El zS) × Int × Int × Unit => (0 ≤ x.2.2.2.2.1 ∧ x.2.2.2.1 = (x.2.2.1.length : Int), x.2.2.2.1 - x.2.2.2.2.1) := xz (by
 rintro ⟨(w0 : El zC), ⟨⟩, (l37 : List (El zS)), (n38 : Int), (n39 : Int), ⟨⟩⟩ hI hw
 obtain ⟨i0, i1⟩ := hI
 dsimp only at i0 i1
 have _ : -9223372036854775808 ≤ n38 ∧ n38 ≤ 9223372036854775807 := zw hw.2.2.2.1
 have _ : (l37.length : Int) ≤ 16777216 := zE (hw.2.2.1.1)
 simp [zDD]
 repeat' first | exact hp | assumption | intro _ | apply And.intro
 all_goals omega)
@[reducible] def zDB : LB := ⟨[], ⟨84, [.d zC], [(1, .pt 0 0), (48, vd (.lst z5)), (49, vd .int), (50, vd .int)]⟩, ⟨84, [], [(2, vd .bool)]⟩, 2, fun x => (fun (w0 : El zC) (l48 : List (El z5)) (n49 : Int) (n50 : Int) => (bif decide (n50 < n49) then (.ix n50 l48 (bif (!(zHA (zB z5 l48 n50)).1) then (.v (.ret (false, ()))) else (bif ((zB z5 l48 n50).1 == (2 : Int)) then (bif decide ((zB z5 l48 n50).2.2.2.1 ≥ (yd w0).1) then (.v (.ret (false, ()))) else (.ik (n50 + (1 : Int)) (.v (.go (w0, (), l48, n49, (n50 + (1 : Int)), ()))))) else (.ik (n50 + (1 : Int)) (.v (.go (w0, (), l48, n49, (n50 + (1 : Int)), ()))))))) else (.v (.brk (w0, (), l48, n49, n50, ()))) : Tr (St _ _))) x.1 x.2.2.1 x.2.2.2.1 x.2.2.2.2.1⟩
theorem zNP (w0 : El zC) (l48 : List (El z5)) : LB.run zDB (w0, (), l48, (l48.length : Int), (0 : Int), ()) = bif zd (fun _ x => bif (!(zHA x).1) then false else (bif (x.1 == (2 : Int)) then (bif (decide (x.2.2.2.1 ≥ (yd w0).1)) then false else true) else true)) 0 l48 then .brk (w0, (), l48, (l48.length : Int), (l48.length : Int), ()) else .ret (false, ()) := LB.run_all (l := zDB) (fun i => (w0, (), l48, (l48.length : Int), (i : Int), ())) (fun i x h => by
  simp only [LB.b, zDB, zi, zQ, zR, cond_true, yM h, zG h]
  cases (!(zHA x).1)
  ·cases (x.1 == (2 : Int))
   ·rfl
   ·cases (decide (x.2.2.2.1 ≥ (yd w0).1)) <;> rfl
  ·rfl) (by simp only [LB.b, zDB, xl]; rfl)
theorem zW6 : SF zDB fun x : El zC × Unit × List (El z5) × Int × Int × Unit => (0 ≤ x.2.2.2.2.1 ∧ x.2.2.2.1 = (x.2.2.1.length : Int), x.2.2.2.1 - x.2.2.2.2.1) := xz (by
 rintro ⟨(w0 : El zC), ⟨⟩, (l48 : List (El z5)), (n49 : Int), (n50 : Int), ⟨⟩⟩ hI hw
 obtain ⟨i0, i1⟩ := hI
 dsimp only at i0 i1
 have _ : -9223372036854775808 ≤ n49 ∧ n49 ≤ 9223372036854775807 := zw hw.2.2.2.1
 have _ : (l48.length : Int) ≤ 16777216 := zE (hw.2.2.1.1)
 simp [zDB]
 repeat' first | exact hp | assumption | intro _ | apply And.intro
 all_goals omega)
@[reducible] def zCt : LB := ⟨[], ⟨84, [], [(7, vo .str), (73, vo .str), (74, vd .int), (75, vd .int)]⟩, ⟨84, [], [(2, vd .bool)]⟩, 4, fun x => (fun (l7 : List (El .str)) (l73 : List (El .str)) (n74 : Int) (n75 : Int) => (bif decide (n75 < n74) then (.ix n75 l73 (bif (!(zu l7 (zB .str l73 n75)).1) then (.v (.ret (false, ()))) else (.ik (n75 + (1 : Int)) (.v (.go (l7, l73, n74, (n75 + (1 : Int)), ())))))) else (.v (.brk (l7, l73, n74, n75, ()))) : Tr (St _ _))) x.1 x.2.1 x.2.2.1 x.2.2.2.1⟩
theorem zWf (l7 : List (El .str)) (l73 : List (El .str)) : LB.run zCt (l7, l73, (l73.length : Int), (0 : Int), ()) = bif zd (fun _ x => bif (!(zu l7 x).1) then false else true) 0 l73 then .brk (l7, l73, (l73.length : Int), (l73.length : Int), ()) else .ret (false, ()) := LB.run_all (l := zCt) (fun i => (l7, l73, (l73.length : Int), (i : Int), ())) (fun i x h => by
  simp only [LB.b, zCt, zi, zQ, zR, cond_true, yM h, zG h]
  cases (!(zu l7 x).1) <;> rfl) (by simp only [LB.b, zCt, xl]; rfl)
theorem zV4 : SF zCt fun x : List (El .str) × List (El .str) × Int × Int × Unit => (0 ≤ x.2.2.2.1 ∧ x.2.2.1 = (x.2.1.length : Int), x.2.2.1 - x.2.2.2.1) := xz (by
 rintro ⟨(l7 : List (El .str)), (l73 : List (El .str)), (n74 : Int), (n75 : Int), ⟨⟩⟩ hI hw
 obtain ⟨i0, i1⟩ := hI
 dsimp only at i0 i1
 have _ : -9223372036854775808 ≤ n74 ∧ n74 ≤ 9223372036854775807 := zw hw.2.2.1
 have _ : (l73.length : Int) ≤ 16777216 := zE (hw.2.1.1)
 simp [zCt]
 repeat' first | exact hp | assumption | intro _ | apply And.intro
 all_goals omega)
def zI1 (a0 : El zC) : Tr (Bool × Unit) := bif (!(xi a0.1).1) then (.v (false, ())) else (bif (!(z3 a0.2.1 (-100 : Int) (100 : Int)).1) then (.v (false, ())) else (bif (!(zFJ a0).1) then (.v (false, ())) else (bif decide ((a0.2.2.2.1.length : Int) > (6 : Int)) then (.v (false, ())) else (bif (!(z3 (a0.2.2.2.2.length : Int) (1 : Int) (6 : Int)).1) then (.v (false, ())) else (.lp zDD (a0, (), a0.2.2.2.1, (a0.2.2.2.1.length : Int), (0 : Int), ()) (fun r30 => .v (r30.1, ())) (fun t30 => .lp zDB (t30.1, (), t30.1.2.2.2.2, (t30.1.2.2.2.2.length : Int), (0 : Int), ()) (fun r31 => .v (r31.1, ())) (fun t31 => .ck (zJJ t31.1) (.ck (zHr t31.1) (.lp zCt ((zDC t31.1).1, (zAG t31.1).1, ((zAG t31.1).1.length : Int), (0 : Int), ()) (fun r32 => .v (r32.1, ())) (fun _ => .v (true, ())))))))))))
def zBD a0 := (zI1 a0).val
def zMG (a0 : El zC) : Prop := SzR a0
@[reducible] def zUg : FnD := ⟨[va zC], [vd .bool], true, fun a => some (zMG a.1), fun a => zBD a.1⟩
theorem zgE (a0 : El zC) (_ : xG zUg.args (a0, ())) (hp : zMG a0) : (zI1 a0).ok := by
 unfold zMG at hp
 unfold zI1
 refine zp (fun _ => trivial) (fun h1 => ?_)
 refine zp (fun _ => trivial) (fun h2 => ?_)
 replace h2 := vQ h2
 replace h2 := zAN h2
 refine zp (fun _ => trivial) (fun h3 => ?_)
 refine zp (fun _ => trivial) (fun h4 => ?_)
 replace h4 : ¬ ((a0.2.2.2.1.length : Int) > (6 : Int)) := of_decide_eq_false h4
 refine zp (fun _ => trivial) (fun h5 => ?_)
 replace h5 := vQ h5
 replace h5 := zAN h5
 refine zI ?_ ?_
 ·exact zV0 _ ⟨by (dsimp only <;> omega), by (dsimp only <;> omega)⟩
 ·refine zWL (zNq a0 a0.2.2.2.1) ?_ trivial
  try dsimp only
  refine zI ?_ ?_
  ·exact zW6 _ ⟨by (dsimp only <;> omega), by (dsimp only <;> omega)⟩
  ·refine zWL (zNP a0 a0.2.2.2.2) ?_ trivial
   try dsimp only
   refine zI ?_ ?_
   ·exact hp
   ·refine zI ?_ ?_
    ·exact hp
    ·refine zI ?_ ?_
     ·exact zV4 _ ⟨by (dsimp only <;> omega), by (dsimp only <;> omega)⟩
     ·simp
def zhh : Con Tryz.prog := yD mo g0 [zFG, zhB, ziD, zKz, zbc, zZh, zA5, vu, zhO] [zDD, zDB, zCt] 67 zUg (fn := Tryz.f67) ⟨lk, lk, lk, trivial⟩ (fun a hw h => yT (by kernel_rfl) (zgE a.1 hw h) rfl)
theorem zfC (a0 : El zC) : zBD a0 = bif (!(xi a0.1).1) then (false, ()) else (bif (!(z3 a0.2.1 (-100 : Int) (100 : Int)).1) then (false, ()) else (bif (!(zFJ a0).1) then (false, ()) else (bif (decide ((a0.2.2.2.1.length : Int) > (6 : Int))) then (false, ()) else (bif (!(z3 (a0.2.2.2.2.length : Int) (1 : Int) (6 : Int)).1) then (false, ()) else (bif zd (fun _ x => bif (!(zFZ x).1) then false else true) 0 a0.2.2.2.1 then (bif zd (fun _ x => bif (!(zHA x).1) then false else (bif (x.1 == (2 : Int)) then (bif (decide (x.2.2.2.1 ≥ (yd a0).1)) then false else true) else true)) 0 a0.2.2.2.2 then (bif zd (fun _ x => bif (!(zu (zDC a0).1 x).1) then false else true) 0 (zAG a0).1 then (true, ()) else (false, ())) else (false, ())) else (false, ())))))) := by
 simp only [zBD, zI1, zR, zi, zx, zQ]
 rw [zNq, z7, zNP, z7, zWf, z7] <;> rfl
theorem zgU {r : El zC} (h : (zBD r).1 = true) : (∀ p ∈ r.2.2.1, p.2.1.length ≤ 5) ∧ (yV r false).1.length ≤ 3 := by
 simp only [zBD, zI1, zi, zQ, zR, zx, z6, zAY] at h
 exact zg7 (vQ h.2.2.1)
def zF9 (a0 : El zC) (a1 : ByteArray) : Bool × Unit := ((a0.1.toList == a1.toList), ())
@[reducible] def zYn : FnD := ⟨[va zC, .bx .str 0], [vd .bool], true, fun _ => none, fun a => zF9 a.1 a.2.1⟩
def zZ8 : Con Tryz.prog := yD mo g0 [] [] 126 zYn (fn := Tryz.f126) trivial (fun _ _ _ => okv (by kernel_rfl))
@[reducible] def zZ : LB := ⟨[], ⟨19, [], [(0, vd (.lst zC)), (1, .fn 126 [.str]), (7, vd .int), (8, vd .int)]⟩, ⟨19, [], [(4, vd .int)]⟩, 0, fun x => (fun (l0 : List (El zC)) (f1 : TyL [.str]) (n7 : Int) (n8 : Int) => (bif decide (n8 < n7) then (.ix n8 l0 (bif (zF9 (zB zC l0 n8) f1.1).1 then (.v (.ret (n8, ()))) else (.ik (n8 + (1 : Int)) (.v (.go (l0, (f1.1, ()), n7, (n8 + (1 : Int)), ())))))) else (.v (.brk (l0, (f1.1, ()), n7, n8, ()))) : Tr (St _ _))) x.1 x.2.1 x.2.2.1 x.2.2.2.1⟩
theorem zB6 (l0 : List (El zC)) (f1 : TyL [.str]) : LB.run zZ (l0, f1, (l0.length : Int), (0 : Int), ()) = zCY (yt (fun i x => bif (zF9 x f1.1).1 then (some ((i : Int), ())) else none) 0 l0) (l0, f1, (l0.length : Int), (l0.length : Int), ()) := LB.run_scan (l := zZ) (fun i => (l0, f1, (l0.length : Int), (i : Int), ())) (fun i x h => by
  simp only [LB.b, zZ, zi, zQ, zR, cond_true, yM h, zG h]
  cases (zF9 x f1.1).1 <;> rfl) (by simp only [LB.b, zZ, xl]; rfl)
theorem zCM : SF zZ fun x : List (El zC) × TyL [.str] × Int × Int × Unit => (0 ≤ x.2.2.2.1 ∧ x.2.2.1 = (x.1.length : Int), x.2.2.1 - x.2.2.2.1) := xz (by
 rintro ⟨(l0 : List (El zC)), (f1 : TyL [.str]), (n7 : Int), (n8 : Int), ⟨⟩⟩ hI hw
 have _ : -9223372036854775808 ≤ n7 ∧ n7 ≤ 9223372036854775807 := zw hw.2.2.1
 have _ : (l0.length : Int) ≤ 16777216 := zE (hw.1.1)
 simp [zZ] at hI ⊢
 repeat' first | intro _ | apply And.intro
 all_goals omega)
def yl (a0 : List (El zC)) (a1 : TyL [.str]) : Tr (Int × Unit) := .lp zZ (a0, (a1.1, ()), (a0.length : Int), (0 : Int), ()) (fun r2 => .v (r2.1, ())) (fun _ => .v ((-1 : Int), ()))
def yq a0 a1 := (yl a0 a1).val
@[reducible] def vh : FnD := ⟨[vd (.lst zC), .fn 126 [.str]], [vd .int], true, fun _ => none, fun a => yq a.1 a.2.1⟩
theorem zDW (a0 : List (El zC)) (a1 : TyL [.str]) (_ : xG vh.args (a0, a1, ())) : (yl a0 a1).ok := by
 unfold yl
 refine zI ?_ ?_
 ·exact zCM _ ⟨by (dsimp only <;> omega), by (dsimp only <;> omega)⟩
 ·simp
def zCz : Con Tryz.prog := yD mo g0 [zZ8] [zZ] 125 vh (fn := Tryz.f125) ⟨lk, trivial⟩ (fun a hw _ => yT (by kernel_rfl) (zDW a.1 a.2.1 hw) rfl)
theorem zDh (a0 : List (El zC)) (a1 : TyL [.str]) : yq a0 a1 = zCh (yt (fun i x => bif (zF9 x (a1.1, ()).1).1 then (some ((i : Int), ())) else none) 0 a0) (fun (r1 : zZ.r.T) => (r1.1, ())) ((-1 : Int), ()) := by
 simp only [yq, yl, zR, zx, zQ]
 rw [zB6, xI] <;> rfl
def zFe (a0 : El zN) (a1 : ByteArray) : Int × Unit := ((yq a0.2 (a1, ())).1, ())
@[reducible] def zfU : FnD := ⟨[va zN, vd .str], [vd .int], true, fun _ => none, fun a => zFe a.1 a.2.1⟩
def zfx : Con Tryz.prog := yD mo g0 [zCz] [] 68 zfU (fn := Tryz.f68) trivial (fun _ _ _ => okv (by kernel_rfl))
@[reducible] def zEO : LB := ⟨[], ⟨36, [.d zN], [(1, .pt 0 0), (17, vd (.lst zC)), (18, vd .int), (19, vd .int)]⟩, ⟨36, [], [(2, vd .bool)]⟩, 0, fun x => (fun (w0 : El zN) (l17 : List (El zC)) (n18 : Int) (n19 : Int) => (bif decide (n19 < n18) then (.ix n19 l17 (.ck (zMG (zB zC l17 n19)) (bif (!(zBD (zB zC l17 n19)).1) then (.v (.ret (false, ()))) else (bif ((zFe w0 (zB zC l17 n19).1).1 != n19) then (.v (.ret (false, ()))) else (.ik (n19 + (1 : Int)) (.v (.go (w0, (), l17, n18, (n19 + (1 : Int)), ())))))))) else (.v (.brk (w0, (), l17, n18, n19, ()))) : Tr (St _ _))) x.1 x.2.2.1 x.2.2.2.1 x.2.2.2.2.1⟩
theorem zZ3 (w0 : El zN) (l17 : List (El zC)) : LB.run zEO (w0, (), l17, (l17.length : Int), (0 : Int), ()) = bif zd (fun i x => bif (!(zBD x).1) then false else (bif ((zFe w0 x.1).1 != (i : Int)) then false else true)) 0 l17 then .brk (w0, (), l17, (l17.length : Int), (l17.length : Int), ()) else .ret (false, ()) := LB.run_all (l := zEO) (fun i => (w0, (), l17, (l17.length : Int), (i : Int), ())) (fun i x h => by
  simp only [LB.b, zEO, zi, zQ, zR, cond_true, yM h, zG h]
  cases (!(zBD x).1)
  ·cases ((zFe w0 x.1).1 != (i : Int)) <;> rfl
  ·rfl) (by simp only [LB.b, zEO, xl]; rfl)
theorem zXv : SF zEO fun x : El zN × Unit × List (El zC) × Int × Int × Unit => (0 ≤ x.2.2.2.2.1 ∧ x.2.2.2.1 = (x.2.2.1.length : Int) ∧ ∀ r ∈ x.2.2.1, SzR r, x.2.2.2.1 - x.2.2.2.2.1) := xz (by
 rintro ⟨(w0 : El zN), ⟨⟩, (l17 : List (El zC)), (n18 : Int), (n19 : Int), ⟨⟩⟩ hI hw
 obtain ⟨i0, i1, k0⟩ := hI
 dsimp only at i0 i1 k0
 have _ : -9223372036854775808 ≤ n18 ∧ n18 ≤ 9223372036854775807 := zw hw.2.2.2.1
 have _ : (l17.length : Int) ≤ 16777216 := zE (hw.2.2.1.1)
 simp [zEO, -Prod.forall]
 repeat' first | exact k0 _ (z4 (by omega)) | assumption | intro _ | apply And.intro
 all_goals omega)
def zNy (a0 : El zN) : Tr (Bool × Unit) := bif (!(xi a0.1).1) then (.v (false, ())) else (bif (!(z3 (a0.2.length : Int) (1 : Int) (12 : Int)).1) then (.v (false, ())) else (.lp zEO (a0, (), a0.2, (a0.2.length : Int), (0 : Int), ()) (fun r5 => .v (r5.1, ())) (fun _ => .v (true, ()))))
def zDQ a0 := (zNy a0).val
def zKh (a0 : El zN) : Prop := ∀ r ∈ a0.2, SzR r
@[reducible] def zZO : FnD := ⟨[va zN], [vd .bool], true, fun a => some (zKh a.1), fun a => zDQ a.1⟩
theorem zjC (a0 : El zN) (_ : xG zZO.args (a0, ())) (hp : zKh a0) : (zNy a0).ok := by
 unfold zKh at hp
 unfold zNy
 refine zp (fun _ => trivial) (fun h1 => ?_)
 refine zp (fun _ => trivial) (fun h2 => ?_)
 replace h2 := vQ h2
 replace h2 := zAN h2
 refine zI ?_ ?_
 ·exact zXv _ ⟨by (dsimp only <;> first | omega | assumption | (simp <;> omega)), by (dsimp only <;> first | omega | assumption | (simp <;> omega)), by (dsimp only <;> first | omega | assumption | (simp <;> omega))⟩
 ·simp
def zYO : Con Tryz.prog := yD mo g0 [zFG, zhh, zfx, vu] [zEO] 40 zZO (fn := Tryz.f40) ⟨lk, trivial⟩ (fun a hw h => yT (by kernel_rfl) (zjC a.1 hw h) rfl)
theorem zZE (a0 : El zN) : zDQ a0 = bif (!(xi a0.1).1) then (false, ()) else (bif (!(z3 (a0.2.length : Int) (1 : Int) (12 : Int)).1) then (false, ()) else (bif zd (fun i x => bif (!(zBD x).1) then false else (bif ((zFe a0 x.1).1 != (i : Int)) then false else true)) 0 a0.2 then (true, ()) else (false, ()))) := by
 simp only [zDQ, zNy, zR, zi, zx, zQ]
 rw [zZ3, z7] <;> rfl
theorem ziv {d : El zN} (h : (zDQ d).1 = true) : d.2.length ≤ 12 ∧ ∀ r ∈ d.2, (zBD r).1 = true := by
 rw [zZE] at h
 simp only [z6, zAY, zIT] at h
 obtain ⟨h1, h2, h3, _⟩ := h
 have := zAN (vQ h2)
 rw [zr] at h3
 refine ⟨by omega, fun r hr => ?_⟩
 obtain ⟨i, hi⟩ := List.mem_iff_getElem?.1 hr
 have := h3 i r hi
 simp only [zAY] at this
 exact vQ this.1
def zN1 (a0 : El yf) : Tr (Bool × Unit) := bif (a0.2.2.2.2.2.1 == (2 : Int)) then (.v (true, ())) else (bif (a0.2.2.2.2.2.1 == (4 : Int)) then (.v (true, ())) else (.v ((a0.2.2.2.2.2.1 == (6 : Int)), ())))
def zRS a0 := (zN1 a0).val
@[reducible] def zjD : FnD := ⟨[va yf], [vd .bool], true, fun _ => none, fun a => zRS a.1⟩
def ziF : Con Tryz.prog := yD mo g0 [] [] 80 zjD (fn := Tryz.f80) trivial (fun a _ _ => yT (t' := zN1 a.1) (by kernel_rfl) (by simp [zN1]) rfl)
def zLh (a0 : El zP) : Tr (Bool × Unit) := bif (a0.2.2.1 == (1 : Int)) then (.v (true, ())) else (.v ((a0.2.2.1 == (2 : Int)), ()))
def zEQ a0 := (zLh a0).val
@[reducible] def zfy : FnD := ⟨[va zP], [vd .bool], true, fun _ => none, fun a => zEQ a.1⟩
def zep : Con Tryz.prog := yD mo g0 [] [] 82 zfy (fn := Tryz.f82) trivial (fun a _ _ => yT (t' := zLh a.1) (by kernel_rfl) (by simp [zLh]) rfl)
@[reducible] def zX : LB := ⟨[], ⟨19, [], [(0, vd (.lst zP)), (1, .fn 82 []), (7, vd .int), (8, vd .int)]⟩, ⟨19, [], [(4, vd .int)]⟩, 0, fun x => (fun (l0 : List (El zP)) (_f1 : TyL []) (n7 : Int) (n8 : Int) => (bif decide (n8 < n7) then (.ix n8 l0 (bif (zEQ (zB zP l0 n8)).1 then (.v (.ret (n8, ()))) else (.ik (n8 + (1 : Int)) (.v (.go (l0, (), n7, (n8 + (1 : Int)), ())))))) else (.v (.brk (l0, (), n7, n8, ()))) : Tr (St _ _))) x.1 x.2.1 x.2.2.1 x.2.2.2.1⟩
theorem zCJ (l0 : List (El zP)) (f1 : TyL []) : LB.run zX (l0, f1, (l0.length : Int), (0 : Int), ()) = zCY (yt (fun i x => bif (zEQ x).1 then (some ((i : Int), ())) else none) 0 l0) (l0, f1, (l0.length : Int), (l0.length : Int), ()) := LB.run_scan (l := zX) (fun i => (l0, f1, (l0.length : Int), (i : Int), ())) (fun i x h => by
  simp only [LB.b, zX, zi, zQ, zR, cond_true, yM h, zG h]
  cases (zEQ x).1 <;> rfl) (by simp only [LB.b, zX, xl]; rfl)
theorem zCK : SF zX fun x : List (El zP) × TyL [] × Int × Int × Unit => (0 ≤ x.2.2.2.1 ∧ x.2.2.1 = (x.1.length : Int), x.2.2.1 - x.2.2.2.1) := xz (by
 rintro ⟨(l0 : List (El zP)), (f1 : TyL []), (n7 : Int), (n8 : Int), ⟨⟩⟩ hI hw
 have _ : -9223372036854775808 ≤ n7 ∧ n7 ≤ 9223372036854775807 := zw hw.2.2.1
 have _ : (l0.length : Int) ≤ 16777216 := zE (hw.1.1)
 simp [zX] at hI ⊢
 repeat' first | intro _ | apply And.intro
 all_goals omega)
def yn (a0 : List (El zP)) (_a1 : TyL []) : Tr (Int × Unit) := .lp zX (a0, (), (a0.length : Int), (0 : Int), ()) (fun r2 => .v (r2.1, ())) (fun _ => .v ((-1 : Int), ()))
def yp a0 a1 := (yn a0 a1).val
@[reducible] def vj : FnD := ⟨[vd (.lst zP), .fn 82 []], [vd .int], true, fun _ => none, fun a => yp a.1 a.2.1⟩
theorem zDe (a0 : List (El zP)) (a1 : TyL []) (_ : xG vj.args (a0, a1, ())) : (yn a0 a1).ok := by
 unfold yn
 refine zI ?_ ?_
 ·exact zCK _ ⟨by (dsimp only <;> omega), by (dsimp only <;> omega)⟩
 ·simp
def zC5 : Con Tryz.prog := yD mo g0 [zep] [zX] 136 vj (fn := Tryz.f136) ⟨lk, trivial⟩ (fun a hw _ => yT (by kernel_rfl) (zDe a.1 a.2.1 hw) rfl)
theorem zDG (a0 : List (El zP)) (a1 : TyL []) : yp a0 a1 = zCh (yt (fun i x => bif (zEQ x).1 then (some ((i : Int), ())) else none) 0 a0) (fun (r1 : zX.r.T) => (r1.1, ())) ((-1 : Int), ()) := by
 simp only [yp, yn, zR, zx, zQ]
 rw [zCJ, xI] <;> rfl
def yX (a0 : List (El zP)) (_a1 : TyL []) : Bool × Unit := (decide ((yp a0 ()).1 ≥ (0 : Int)), ())
@[reducible] def zCA : FnD := ⟨[vd (.lst zP), .fn 82 []], [vd .bool], true, fun _ => none, fun a => yX a.1 a.2.1⟩
def zB9 : Con Tryz.prog := yD mo g0 [zC5] [] 81 zCA (fn := Tryz.f81) trivial (fun _ _ _ => okv (by kernel_rfl))
def zEe : Con Tryz.prog := ⟨235, zHO zK false, zQ3 mo (fn := Tryz.f235) (t := 121) (u := 4) (e := 125) (p0 := "slices.go:355") (p1 := "slices.go:357") (p2 := "slices.go:358") (p3 := "slices.go:362") (by kernel_rfl) (by kernel_rfl) (by kernel_rfl) (by kernel_rfl) (by kernel_rfl) zK false (by kernel_rfl) (fun l => by kernel_rfl) (.inr rfl)⟩
def zID (a0 : El zt) : El zt × Unit := (a0, ())
@[reducible] def zX0 : FnD := ⟨[va zt], [.val true (.pr (.d .str) (.o (.d zK)))], true, fun _ => none, fun a => zID a.1⟩
def zYy : Con Tryz.prog := yD mo g0 [zEe] [] 192 zX0 (fn := Tryz.f192) trivial (fun _ _ _ => okv (by kernel_rfl))
@[reducible] def zBp : LB := ⟨[1], ⟨24, [.pr (.d .str) (.o (.d zK))], [(1, vd .int), (4, .pt 0 0), (9, vd (.lst zD)), (10, vd .int), (11, vd .int)]⟩, ⟨24, [.pr (.d .str) (.o (.d zK))], [(4, .pt 0 0), (5, vd .bool)]⟩, 0, fun x => (fun (w0 : El zt) (n1 : Int) (l9 : List (El zD)) (n10 : Int) (n11 : Int) => (bif decide (n11 < n10) then (.ix n11 l9 (bif ((zB zD l9 n11).1 == n1) then (.v (.ret ((zID (zB zD l9 n11).2).1, (), true, ()))) else (.ik (n11 + (1 : Int)) (.v (.go (w0, n1, (), l9, n10, (n11 + (1 : Int)), ())))))) else (.v (.brk (w0, n1, (), l9, n10, n11, ()))) : Tr (St _ _))) x.1 x.2.1 x.2.2.2.1 x.2.2.2.2.1 x.2.2.2.2.2.1⟩
theorem zVY (w0 : El zt) (n1 : Int) (l9 : List (El zD)) : LB.run zBp (w0, n1, (), l9, (l9.length : Int), (0 : Int), ()) = zCY (yt (fun _ x => bif (x.1 == n1) then (some ((zID x.2).1, (), true, ())) else none) 0 l9) (w0, n1, (), l9, (l9.length : Int), (l9.length : Int), ()) := LB.run_scan (l := zBp) (fun i => (w0, n1, (), l9, (l9.length : Int), (i : Int), ())) (fun i x h => by
  simp only [LB.b, zBp, zi, zQ, zR, cond_true, yM h, zG h]
  cases (x.1 == n1) <;> rfl) (by simp only [LB.b, zBp, xl]; rfl)
theorem zWc : SF zBp fun x : El zt × Int × Unit × List (El zD) × Int × Int × Unit => (0 ≤ x.2.2.2.2.2.1 ∧ x.2.2.2.2.1 = (x.2.2.2.1.length : Int), x.2.2.2.2.1 - x.2.2.2.2.2.1) := xz (by
 rintro ⟨(w0 : El zt), (n1 : Int), ⟨⟩, (l9 : List (El zD)), (n10 : Int), (n11 : Int), ⟨⟩⟩ hI hw
 have _ : -9223372036854775808 ≤ n1 ∧ n1 ≤ 9223372036854775807 := zw hw.2.1
 have _ : -9223372036854775808 ≤ n10 ∧ n10 ≤ 9223372036854775807 := zw hw.2.2.2.2.1
 have _ : (l9.length : Int) ≤ 16777216 := zE (hw.2.2.2.1.1)
 simp [zBp] at hI ⊢
 repeat' first | intro _ | apply And.intro
 all_goals omega)
def zLV (a0 : El zH) (a1 : Int) : Tr (El zt × Bool × Unit) := .lp zBp (((⟨#[]⟩ : ByteArray), ([] : List (El zK))), a1, (), a0.1, (a0.1.length : Int), (0 : Int), ()) (fun r2 => .v (r2.1, r2.2.2.1, ())) (fun _ => .v (((⟨#[]⟩ : ByteArray), ([] : List (El zK))), false, ()))
def zAd a0 a1 := (zLV a0 a1).val
@[reducible] def zT5 : FnD := ⟨[va zH, vd .int], [.val true (.pr (.d .str) (.o (.d zK))), vd .bool], true, fun _ => none, fun a => zAd a.1 a.2.1⟩
theorem zgX (a0 : El zH) (a1 : Int) (_ : xG zT5.args (a0, a1, ())) : (zLV a0 a1).ok := by
 unfold zLV
 refine zI ?_ ?_
 ·exact zWc _ ⟨by simp, by simp⟩
 ·simp
def zgy : Con Tryz.prog := yD mo g0 [zYy] [zBp] 135 zT5 (fn := Tryz.f135) ⟨lk, trivial⟩ (fun a hw _ => yT (by kernel_rfl) (zgX a.1 a.2.1 hw) rfl)
theorem zes (a0 : El zH) (a1 : Int) : zAd a0 a1 = zCh (yt (fun _ x => bif (x.1 == a1) then (some ((zID x.2).1, (), true, ())) else none) 0 a0.1) (fun (r1 : zBp.r.T) => (r1.1, r1.2.2.1, ())) (((⟨#[]⟩ : ByteArray), ([] : List (El zK))), false, ()) := by
 simp only [zAd, zLV, zR, zx, zQ]
 rw [zVY, xI] <;> rfl
@[reducible] def vN : LB := ⟨[], ⟨63, [.d zN, .d yf], [(2, .pt 0 0), (3, .pt 1 0), (16, vd (.lst zA)), (17, vd .int), (18, vd .int), (46, vd (.lst .int)), (47, vd .int), (48, vd .int)]⟩, ⟨63, [], [(4, vd .bool)]⟩, 2, fun x => (fun (w0 : El zN) (w1 : El yf) (l16 : List (El zA)) (n17 : Int) (n18 : Int) (l46 : List (El .int)) (n47 : Int) (n48 : Int) => (bif decide (n48 < n47) then (.ix n48 l46 (bif (!(zAd w1.1 (zB .int l46 n48)).2.1) then (.v (.ret (false, ()))) else (.ik (n48 + (1 : Int)) (.v (.go (w0, w1, (), (), l16, n17, n18, l46, n47, (n48 + (1 : Int)), ())))))) else (.v (.brk (w0, w1, (), (), l16, n17, n18, l46, n47, n48, ()))) : Tr (St _ _))) x.1 x.2.1 x.2.2.2.2.1 x.2.2.2.2.2.1 x.2.2.2.2.2.2.1 x.2.2.2.2.2.2.2.1 x.2.2.2.2.2.2.2.2.1 x.2.2.2.2.2.2.2.2.2.1⟩
theorem zTj (w0 : El zN) (w1 : El yf) (l16 : List (El zA)) (n17 : Int) (n18 : Int) (l46 : List (El .int)) : LB.run vN (w0, w1, (), (), l16, n17, n18, l46, (l46.length : Int), (0 : Int), ()) = bif zd (fun _ x => bif (!(zAd w1.1 x).2.1) then false else true) 0 l46 then .brk (w0, w1, (), (), l16, n17, n18, l46, (l46.length : Int), (l46.length : Int), ()) else .ret (false, ()) := LB.run_all (l := vN) (fun i => (w0, w1, (), (), l16, n17, n18, l46, (l46.length : Int), (i : Int), ())) (fun i x h => by
  simp only [LB.b, vN, zi, zQ, zR, cond_true, yM h, zG h]
  cases (!(zAd w1.1 x).2.1) <;> rfl) (by simp only [LB.b, vN, xl]; rfl)
theorem zTO : SF vN fun x : El zN × El yf × Unit × Unit × List (El zA) × Int × Int × List (El .int) × Int × Int × Unit => (0 ≤ x.2.2.2.2.2.2.2.2.2.1 ∧ x.2.2.2.2.2.2.2.2.1 = (x.2.2.2.2.2.2.2.1.length : Int), x.2.2.2.2.2.2.2.2.1 - x.2.2.2.2.2.2.2.2.2.1) := xz (by
 rintro ⟨(w0 : El zN), (w1 : El yf), ⟨⟩, ⟨⟩, (l16 : List (El zA)), (n17 : Int), (n18 : Int), (l46 : List (El .int)), (n47 : Int), (n48 : Int), ⟨⟩⟩ hI hw
 have _ : -9223372036854775808 ≤ n17 ∧ n17 ≤ 9223372036854775807 := zw hw.2.2.2.2.2.1
 have _ : -9223372036854775808 ≤ n18 ∧ n18 ≤ 9223372036854775807 := zw hw.2.2.2.2.2.2.1
 have _ : -9223372036854775808 ≤ n47 ∧ n47 ≤ 9223372036854775807 := zw hw.2.2.2.2.2.2.2.2.1
 have _ : (l46.length : Int) ≤ 16777216 := zE (hw.2.2.2.2.2.2.2.1.1)
 simp [vN] at hI ⊢
 repeat' first | intro _ | apply And.intro
 all_goals omega)
@[reducible] def zCp : LB := ⟨[], ⟨63, [.d zN, .d yf], [(2, .pt 0 0), (3, .pt 1 0), (16, vd (.lst zA)), (17, vd .int), (18, vd .int)]⟩, ⟨63, [], [(4, vd .bool)]⟩, 0, fun x => (fun (w0 : El zN) (w1 : El yf) (l16 : List (El zA)) (n17 : Int) (n18 : Int) => (bif decide (n18 < n17) then (.ix n18 l16 (bif (!(xB w0 (zB zA l16 n18)).1) then (.v (.ret (false, ()))) else (bif (((zB zA l16 n18).2.2.length : Int) != (0 : Int)) then (.v (.ret (false, ()))) else (.ix (zB zA l16 n18).1 w0.2 (bif (((zB zA l16 n18).2.1.length : Int) != (yd (zB zC w0.2 (zB zA l16 n18).1)).1) then (.v (.ret (false, ()))) else (.lp vN (w0, w1, (), (), l16, n17, n18, (zB zA l16 n18).2.1, ((zB zA l16 n18).2.1.length : Int), (0 : Int), ()) (fun r8 => .v (.ret (r8.1, ()))) (fun t8 => .ik (t8.2.2.2.2.2.2.1 + (1 : Int)) (.v (.go (t8.1, t8.2.1, (), (), t8.2.2.2.2.1, t8.2.2.2.2.2.1, (t8.2.2.2.2.2.2.1 + (1 : Int)), ())))))))))) else (.v (.brk (w0, w1, (), (), l16, n17, n18, ()))) : Tr (St _ _))) x.1 x.2.1 x.2.2.2.2.1 x.2.2.2.2.2.1 x.2.2.2.2.2.2.1⟩
theorem zSy : SF zCp fun x : El zN × El yf × Unit × Unit × List (El zA) × Int × Int × Unit => (0 ≤ x.2.2.2.2.2.2.1 ∧ x.2.2.2.2.2.1 = (x.2.2.2.2.1.length : Int), x.2.2.2.2.2.1 - x.2.2.2.2.2.2.1) := xz (by
 rintro ⟨(w0 : El zN), (w1 : El yf), ⟨⟩, ⟨⟩, (l16 : List (El zA)), (n17 : Int), (n18 : Int), ⟨⟩⟩ hI hw
 dsimp only at hI ⊢
 obtain ⟨i0, i1⟩ := hI
 have _ : -9223372036854775808 ≤ n17 ∧ n17 ≤ 9223372036854775807 := zw hw.2.2.2.2.2.1
 have hb : (l16.length : Int) ≤ 16777216 := zE (hw.2.2.2.2.1.1)
 refine ⟨by omega, ?_⟩
 refine xM (fun h3 => ?_) (fun h3 => ?_)
 ·replace h3 : n18 < n17 := of_decide_eq_true h3
  refine yR ?_ ?_
  ·first | omega | (simp <;> omega)
  ·refine xM (fun h4 => ?_) (fun h4 => ?_)
   ·exact trivial
   ·replace h4 := vQ h4
    replace h4 := zJc h4
    refine xM (fun h5 => ?_) (fun h5 => ?_)
    ·replace h5 := zdY h5
     exact trivial
    ·replace h5 := zAp h5
     refine yR ?_ ?_
     ·first | omega | (simp <;> omega)
     ·refine xM (fun h6 => ?_) (fun h6 => ?_)
      ·replace h6 := zdY h6
       exact trivial
      ·replace h6 := zAp h6
       refine yR ?_ ?_
       ·exact zTO _ ⟨by (dsimp only <;> omega), by (dsimp only <;> omega)⟩
       ·refine zXi (zTj w0 w1 l16 n17 n18 (zB zA l16 n18).2.1) ?_ ?_
        ·try dsimp only
         refine yR ?_ ?_
         ·exact ink (by omega) (by omega)
         ·exact show (0 ≤ (n18 + (1 : Int)) ∧ n17 = (l16.length : Int)) ∧ n17 - (n18 + (1 : Int)) < n17 - n18 ∧ 0 < n17 - n18 from ⟨⟨by (first | omega | rfl | assumption | (simp <;> omega)), by (first | omega | rfl | assumption | (simp <;> omega))⟩, by (first | omega | (simp only [List.length_set]; omega)), by (first | omega | (simp only [List.length_set]; omega))⟩
        ·try dsimp only
         exact trivial
 ·replace h3 : ¬ (n18 < n17) := of_decide_eq_false h3
  exact trivial)
def zKE (a0 : El zN) (a1 : El yf) : Tr (Bool × Unit) := bif decide ((a1.2.1.length : Int) > (1000 : Int)) then (.v (false, ())) else (.lp zCp (a0, a1, (), (), a1.2.1, (a1.2.1.length : Int), (0 : Int), ()) (fun r9 => .v (r9.1, ())) (fun _ => .v (true, ())))
def zHK a0 a1 := (zKE a0 a1).val
@[reducible] def zR7 : FnD := ⟨[va zN, va yf], [vd .bool], true, fun _ => none, fun a => zHK a.1 a.2.1⟩
theorem zae (a0 : El zN) (a1 : El yf) (_ : xG zR7.args (a0, a1, ())) : (zKE a0 a1).ok := by
 unfold zKE
 refine zp (fun _ => trivial) (fun h7 => ?_)
 replace h7 : ¬ ((a1.2.1.length : Int) > (1000 : Int)) := of_decide_eq_false h7
 refine zI ?_ ?_
 ·exact zSy _ ⟨by (dsimp only <;> first | omega | rfl | assumption | (simp <;> omega)), by (dsimp only <;> first | omega | rfl | assumption | (simp <;> omega))⟩
 ·simp
def zcN : Con Tryz.prog := yD mo g0 [zNB, zgy, zKz] [zCp, vN] 79 zR7 (fn := Tryz.f79) ⟨lk, lk, trivial⟩ (fun a hw _ => yT (by kernel_rfl) (zae a.1 a.2.1 hw) rfl)
def zFN (a0 : Int) : Bool × Unit := ((z3 a0 (0 : Int) (1000000000 : Int)).1, ())
@[reducible] def zgz : FnD := ⟨[vd .int], [vd .bool], true, fun _ => none, fun a => zFN a.1⟩
def zO3 : Con Tryz.prog := yD mo g0 [vu] [] 38 zgz (fn := Tryz.f38) trivial (fun _ _ _ => okv (by kernel_rfl))
def zI4 (a0 : ByteArray) : Bool × Unit := ((z3 (a0.size : Int) (1 : Int) (200 : Int)).1, ())
@[reducible] def zi2 : FnD := ⟨[vd .str], [vd .bool], true, fun _ => none, fun a => zI4 a.1⟩
def ziP : Con Tryz.prog := yD mo g0 [vu] [] 133 zi2 (fn := Tryz.f133) trivial (fun _ _ _ => okv (by kernel_rfl))
end
end Go.Proofs.YtipbfgknaihifaaGreat
namespace Go.Proofs.YtipbfgknaihifaaGreat
open Go.RowKit
noncomputable section
def zFz (a0 : El zV) (a1 : ByteArray) : Bool × Unit := ((a0.1.toList == a1.toList), ())
@[reducible] def zZg : FnD := ⟨[va zV, .bx .str 0], [vd .bool], true, fun _ => none, fun a => zFz a.1 a.2.1⟩
def zZK : Con Tryz.prog := yD mo g0 [] [] 191 zZg (fn := Tryz.f191) trivial (fun _ _ _ => okv (by kernel_rfl))
@[reducible] def zY : LB := ⟨[], ⟨19, [], [(0, vd (.lst zV)), (1, .fn 191 [.str]), (7, vd .int), (8, vd .int)]⟩, ⟨19, [], [(4, vd .int)]⟩, 0, fun x => (fun (l0 : List (El zV)) (f1 : TyL [.str]) (n7 : Int) (n8 : Int) => (bif decide (n8 < n7) then (.ix n8 l0 (bif (zFz (zB zV l0 n8) f1.1).1 then (.v (.ret (n8, ()))) else (.ik (n8 + (1 : Int)) (.v (.go (l0, (f1.1, ()), n7, (n8 + (1 : Int)), ())))))) else (.v (.brk (l0, (f1.1, ()), n7, n8, ()))) : Tr (St _ _))) x.1 x.2.1 x.2.2.1 x.2.2.2.1⟩
theorem zCB (l0 : List (El zV)) (f1 : TyL [.str]) : LB.run zY (l0, f1, (l0.length : Int), (0 : Int), ()) = zCY (yt (fun i x => bif (zFz x f1.1).1 then (some ((i : Int), ())) else none) 0 l0) (l0, f1, (l0.length : Int), (l0.length : Int), ()) := LB.run_scan (l := zY) (fun i => (l0, f1, (l0.length : Int), (i : Int), ())) (fun i x h => by
  simp only [LB.b, zY, zi, zQ, zR, cond_true, yM h, zG h]
  cases (zFz x f1.1).1 <;> rfl) (by simp only [LB.b, zY, xl]; rfl)
theorem zCI : SF zY fun x : List (El zV) × TyL [.str] × Int × Int × Unit => (0 ≤ x.2.2.2.1 ∧ x.2.2.1 = (x.1.length : Int), x.2.2.1 - x.2.2.2.1) := xz (by
 rintro ⟨(l0 : List (El zV)), (f1 : TyL [.str]), (n7 : Int), (n8 : Int), ⟨⟩⟩ hI hw
 have _ : -9223372036854775808 ≤ n7 ∧ n7 ≤ 9223372036854775807 := zw hw.2.2.1
 have _ : (l0.length : Int) ≤ 16777216 := zE (hw.1.1)
 simp [zY] at hI ⊢
 repeat' first | intro _ | apply And.intro
 all_goals omega)
def yh (a0 : List (El zV)) (a1 : TyL [.str]) : Tr (Int × Unit) := .lp zY (a0, (a1.1, ()), (a0.length : Int), (0 : Int), ()) (fun r2 => .v (r2.1, ())) (fun _ => .v ((-1 : Int), ()))
def yj a0 a1 := (yh a0 a1).val
@[reducible] def vk : FnD := ⟨[vd (.lst zV), .fn 191 [.str]], [vd .int], true, fun _ => none, fun a => yj a.1 a.2.1⟩
theorem zCs (a0 : List (El zV)) (a1 : TyL [.str]) (_ : xG vk.args (a0, a1, ())) : (yh a0 a1).ok := by
 unfold yh
 refine zI ?_ ?_
 ·exact zCI _ ⟨by (dsimp only <;> omega), by (dsimp only <;> omega)⟩
 ·simp
def zC3 : Con Tryz.prog := yD mo g0 [zZK] [zY] 234 vk (fn := Tryz.f234) ⟨lk, trivial⟩ (fun a hw _ => yT (by kernel_rfl) (zCs a.1 a.2.1 hw) rfl)
theorem zCu (a0 : List (El zV)) (a1 : TyL [.str]) : yj a0 a1 = zCh (yt (fun i x => bif (zFz x (a1.1, ()).1).1 then (some ((i : Int), ())) else none) 0 a0) (fun (r1 : zY.r.T) => (r1.1, ())) ((-1 : Int), ()) := by
 simp only [yj, yh, zR, zx, zQ]
 rw [zCB, xI] <;> rfl
def y8 (a0 : List (El zV)) (a1 : TyL [.str]) : Bool × Unit := (decide ((yj a0 (a1.1, ())).1 ≥ (0 : Int)), ())
@[reducible] def zCD : FnD := ⟨[vd (.lst zV), .fn 191 [.str]], [vd .bool], true, fun _ => none, fun a => y8 a.1 a.2.1⟩
def zB4 : Con Tryz.prog := yD mo g0 [zC3] [] 190 zCD (fn := Tryz.f190) trivial (fun _ _ _ => okv (by kernel_rfl))
def zFc (a0 : List (El zV)) (a1 : ByteArray) : Bool × Unit := ((y8 a0 (a1, ())).1, ())
@[reducible] def zeT : FnD := ⟨[vd (.lst zV), vd .str], [vd .bool], true, fun _ => none, fun a => zFc a.1 a.2.1⟩
def zgg : Con Tryz.prog := yD mo g0 [zB4] [] 134 zeT (fn := Tryz.f134) trivial (fun _ _ _ => okv (by kernel_rfl))
@[reducible] def zCv : LB := ⟨[], ⟨26, [], [(16, vd (.lst zK)), (17, vd .int), (18, vd .int)]⟩, ⟨26, [], [(2, vd .bool)]⟩, 0, fun x => (fun (l16 : List (El zK)) (n17 : Int) (n18 : Int) => (bif decide (n18 < n17) then (.ix n18 l16 (bif (!(zCC (zB zK l16 n18)).1) then (.v (.ret (false, ()))) else (.ik (n18 + (1 : Int)) (.v (.go (l16, n17, (n18 + (1 : Int)), ())))))) else (.v (.brk (l16, n17, n18, ()))) : Tr (St _ _))) x.1 x.2.1 x.2.2.1⟩
theorem zWl (l16 : List (El zK)) : LB.run zCv (l16, (l16.length : Int), (0 : Int), ()) = bif zd (fun _ x => bif (!(zCC x).1) then false else true) 0 l16 then .brk (l16, (l16.length : Int), (l16.length : Int), ()) else .ret (false, ()) := LB.run_all (l := zCv) (fun i => (l16, (l16.length : Int), (i : Int), ())) (fun i x h => by
  simp only [LB.b, zCv, zi, zQ, zR, cond_true, yM h, zG h]
  cases (!(zCC x).1) <;> rfl) (by simp only [LB.b, zCv, xl]; rfl)
theorem zWG : SF zCv fun x : List (El zK) × Int × Int × Unit => (0 ≤ x.2.2.1 ∧ x.2.1 = (x.1.length : Int), x.2.1 - x.2.2.1) := xz (by
 rintro ⟨(l16 : List (El zK)), (n17 : Int), (n18 : Int), ⟨⟩⟩ hI hw
 have _ : -9223372036854775808 ≤ n17 ∧ n17 ≤ 9223372036854775807 := zw hw.2.1
 have _ : (l16.length : Int) ≤ 16777216 := zE (hw.1.1)
 simp [zCv] at hI ⊢
 repeat' first | intro _ | apply And.intro
 all_goals omega)
def zMX (a0 : El zt) : Tr (Bool × Unit) := bif (!(xi a0.1).1) then (.v (false, ())) else (bif decide ((a0.2.length : Int) > (5 : Int)) then (.v (false, ())) else (.lp zCv (a0.2, (a0.2.length : Int), (0 : Int), ()) (fun r3 => .v (r3.1, ())) (fun _ => .v (true, ()))))
def vp a0 := (zMX a0).val
@[reducible] def zU6 : FnD := ⟨[va zt], [vd .bool], true, fun _ => none, fun a => vp a.1⟩
theorem zhV (a0 : El zt) (_ : xG zU6.args (a0, ())) : (zMX a0).ok := by
 unfold zMX
 refine zp (fun _ => trivial) (fun h1 => ?_)
 refine zp (fun _ => trivial) (fun h2 => ?_)
 replace h2 : ¬ ((a0.2.length : Int) > (5 : Int)) := of_decide_eq_false h2
 refine zI ?_ ?_
 ·exact zWG _ ⟨by (dsimp only <;> omega), by (dsimp only <;> omega)⟩
 ·simp
def zL0 : Con Tryz.prog := yD mo g0 [zFG, zQr] [zCv] 128 zU6 (fn := Tryz.f128) ⟨lk, trivial⟩ (fun a hw _ => yT (by kernel_rfl) (zhV a.1 hw) rfl)
theorem zgo (a0 : El zt) : vp a0 = bif (!(xi a0.1).1) then (false, ()) else (bif (decide ((a0.2.length : Int) > (5 : Int))) then (false, ()) else (bif zd (fun _ x => bif (!(zCC x).1) then false else true) 0 a0.2 then (true, ()) else (false, ()))) := by
 simp only [vp, zMX, zR, zi, zx, zQ]
 rw [zWl, z7] <;> rfl
@[reducible] def zBU : LB := ⟨[], ⟨34, [], [(0, vd (.lst zV)), (8, vd (.lst zV)), (9, vd .int), (10, vd .int)]⟩, ⟨34, [], [(2, vd .bool)]⟩, 0, fun x => (fun (l0 : List (El zV)) (l8 : List (El zV)) (n9 : Int) (n10 : Int) => (bif decide (n10 < n9) then (.ix n10 l8 (bif (!(zI4 (zB zV l8 n10).1).1) then (.v (.ret (false, ()))) else (bif (!(vp (zB zV l8 n10).2).1) then (.v (.ret (false, ()))) else (.ck (0 ≤ (0 : Int) ∧ (0 : Int) ≤ n10 ∧ n10 ≤ (l0.length : Int)) (bif (zFc ((l0.take n10.toNat).drop (0 : Int).toNat) (zB zV l8 n10).1).1 then (.v (.ret (false, ()))) else (.ik (n10 + (1 : Int)) (.v (.go (l0, l8, n9, (n10 + (1 : Int)), ()))))))))) else (.v (.brk (l0, l8, n9, n10, ()))) : Tr (St _ _))) x.1 x.2.1 x.2.2.1 x.2.2.2.1⟩
theorem zTy (l0 : List (El zV)) (l8 : List (El zV)) : LB.run zBU (l0, l8, (l0.length : Int), (0 : Int), ()) = bif zd (fun i _ => bif (!(zI4 (zB zV l8 (i : Int)).1).1) then false else (bif (!(vp (zB zV l8 (i : Int)).2).1) then false else (bif (zFc ((l0.take (i : Int).toNat).drop (0 : Int).toNat) (zB zV l8 (i : Int)).1).1 then false else true))) 0 l0 then .brk (l0, l8, (l0.length : Int), (l0.length : Int), ()) else .ret (false, ()) := LB.run_all (l := zBU) (fun i => (l0, l8, (l0.length : Int), (i : Int), ())) (fun i x h => by
  simp only [LB.b, zBU, zi, zQ, zR, cond_true, yM h]
  cases (!(zI4 (zB zV l8 (i : Int)).1).1)
  ·cases (!(vp (zB zV l8 (i : Int)).2).1)
   ·cases (zFc ((l0.take (i : Int).toNat).drop (0 : Int).toNat) (zB zV l8 (i : Int)).1).1 <;> rfl
   ·rfl
  ·rfl) (by simp only [LB.b, zBU, xl]; rfl)
theorem zTa : SF zBU fun x : List (El zV) × List (El zV) × Int × Int × Unit => (0 ≤ x.2.2.2.1 ∧ x.2.2.1 = (x.1.length : Int) ∧ x.2.2.1 ≤ (x.2.1.length : Int), x.2.2.1 - x.2.2.2.1) := xz (by
 rintro ⟨(l0 : List (El zV)), (l8 : List (El zV)), (n9 : Int), (n10 : Int), ⟨⟩⟩ hI hw
 have _ : -9223372036854775808 ≤ n9 ∧ n9 ≤ 9223372036854775807 := zw hw.2.2.1
 have _ : (l0.length : Int) ≤ 16777216 := zE (hw.1.1)
 simp [zBU] at hI ⊢
 repeat' first | intro _ | apply And.intro
 all_goals omega)
def zJZ (a0 : List (El zV)) : Tr (Bool × Unit) := bif decide ((a0.length : Int) > (30 : Int)) then (.v (false, ())) else (.lp zBU (a0, a0, (a0.length : Int), (0 : Int), ()) (fun r5 => .v (r5.1, ())) (fun _ => .v (true, ())))
def zHD a0 := (zJZ a0).val
@[reducible] def zQo : FnD := ⟨[vd (.lst zV)], [vd .bool], true, fun _ => none, fun a => zHD a.1⟩
theorem za0 (a0 : List (El zV)) (_ : xG zQo.args (a0, ())) : (zJZ a0).ok := by
 unfold zJZ
 refine zp (fun _ => trivial) (fun h1 => ?_)
 replace h1 : ¬ ((a0.length : Int) > (30 : Int)) := of_decide_eq_false h1
 refine zI ?_ ?_
 ·exact zTa _ ⟨by (dsimp only <;> omega), by (dsimp only <;> omega), by (dsimp only <;> omega)⟩
 ·simp
def zcf : Con Tryz.prog := yD mo g0 [ziP, zgg, zL0] [zBU] 78 zQo (fn := Tryz.f78) ⟨lk, trivial⟩ (fun a hw _ => yT (by kernel_rfl) (za0 a.1 hw) rfl)
theorem zcv (a0 : List (El zV)) : zHD a0 = bif (decide ((a0.length : Int) > (30 : Int))) then (false, ()) else (bif zd (fun i _ => bif (!(zI4 (zB zV a0 (i : Int)).1).1) then false else (bif (!(vp (zB zV a0 (i : Int)).2).1) then false else (bif (zFc ((a0.take (i : Int).toNat).drop (0 : Int).toNat) (zB zV a0 (i : Int)).1).1 then false else true))) 0 a0 then (true, ()) else (false, ())) := by
 simp only [zHD, zJZ, zR, zi, zx, zQ]
 rw [zTy, z7] <;> rfl
def zJw (a0 : El zD) : Tr (Bool × Unit) := bif (zFN a0.1).1 then (.v ((vp a0.2).1, ())) else (.v (false, ()))
def zD8 a0 := (zJw a0).val
@[reducible] def zba : FnD := ⟨[va zD], [vd .bool], true, fun _ => none, fun a => zD8 a.1⟩
def zam : Con Tryz.prog := yD mo g0 [zO3, zL0] [] 132 zba (fn := Tryz.f132) trivial (fun a _ _ => yT (t' := zJw a.1) (by kernel_rfl) (by simp [zJw]) rfl)
@[reducible] def zAk : LB := ⟨[], ⟨34, [], [(0, vd (.lst zD)), (8, vd (.lst zD)), (9, vd .int), (10, vd .int)]⟩, ⟨34, [], [(2, vd .bool)]⟩, 0, fun x => (fun (l0 : List (El zD)) (l8 : List (El zD)) (n9 : Int) (n10 : Int) => (bif decide (n10 < n9) then (.ix n10 l8 (bif (!(zD8 (zB zD l8 n10)).1) then (.v (.ret (false, ()))) else (bif decide (n10 > (0 : Int)) then (.ik (n10 - (1 : Int)) (.ix (n10 - (1 : Int)) l0 (bif decide ((zB zD l0 (n10 - (1 : Int))).1 > (zB zD l8 n10).1) then (.v (.ret (false, ()))) else (.ik (n10 + (1 : Int)) (.v (.go (l0, l8, n9, (n10 + (1 : Int)), ()))))))) else (.ik (n10 + (1 : Int)) (.v (.go (l0, l8, n9, (n10 + (1 : Int)), ()))))))) else (.v (.brk (l0, l8, n9, n10, ()))) : Tr (St _ _))) x.1 x.2.1 x.2.2.1 x.2.2.2.1⟩
theorem zRd (l0 : List (El zD)) (l8 : List (El zD)) : LB.run zAk (l0, l8, (l0.length : Int), (0 : Int), ()) = bif zd (fun i _ => bif (!(zD8 (zB zD l8 (i : Int))).1) then false else (bif (decide ((i : Int) > (0 : Int))) then (bif (decide ((zB zD l0 ((i : Int) - (1 : Int))).1 > (zB zD l8 (i : Int)).1)) then false else true) else true)) 0 l0 then .brk (l0, l8, (l0.length : Int), (l0.length : Int), ()) else .ret (false, ()) := LB.run_all (l := zAk) (fun i => (l0, l8, (l0.length : Int), (i : Int), ())) (fun i x h => by
  simp only [LB.b, zAk, zi, zQ, zR, cond_true, yM h]
  cases (!(zD8 (zB zD l8 (i : Int))).1)
  ·cases (decide ((i : Int) > (0 : Int)))
   ·rfl
   ·cases (decide ((zB zD l0 ((i : Int) - (1 : Int))).1 > (zB zD l8 (i : Int)).1)) <;> rfl
  ·rfl) (by simp only [LB.b, zAk, xl]; rfl)
theorem zRZ : SF zAk fun x : List (El zD) × List (El zD) × Int × Int × Unit => (0 ≤ x.2.2.2.1 ∧ x.2.2.1 = (x.1.length : Int) ∧ x.2.2.1 ≤ (x.2.1.length : Int), x.2.2.1 - x.2.2.2.1) := xz (by
 rintro ⟨(l0 : List (El zD)), (l8 : List (El zD)), (n9 : Int), (n10 : Int), ⟨⟩⟩ hI hw
 have _ : -9223372036854775808 ≤ n9 ∧ n9 ≤ 9223372036854775807 := zw hw.2.2.1
 have _ : (l0.length : Int) ≤ 16777216 := zE (hw.1.1)
 simp [zAk] at hI ⊢
 repeat' first | intro _ | apply And.intro
 all_goals omega)
def zH6 (a0 : List (El zD)) : Tr (Bool × Unit) := bif decide ((a0.length : Int) > (30 : Int)) then (.v (false, ())) else (.lp zAk (a0, a0, (a0.length : Int), (0 : Int), ()) (fun r2 => .v (r2.1, ())) (fun _ => .v (true, ())))
def zFu a0 := (zH6 a0).val
@[reducible] def zPK : FnD := ⟨[vd (.lst zD)], [vd .bool], true, fun _ => none, fun a => zFu a.1⟩
theorem zX6 (a0 : List (El zD)) (_ : xG zPK.args (a0, ())) : (zH6 a0).ok := by
 unfold zH6
 refine zp (fun _ => trivial) (fun h1 => ?_)
 replace h1 : ¬ ((a0.length : Int) > (30 : Int)) := of_decide_eq_false h1
 refine zI ?_ ?_
 ·exact zRZ _ ⟨by (dsimp only <;> omega), by (dsimp only <;> omega), by (dsimp only <;> omega)⟩
 ·simp
def zYQ : Con Tryz.prog := yD mo g0 [zam] [zAk] 77 zPK (fn := Tryz.f77) ⟨lk, trivial⟩ (fun a hw _ => yT (by kernel_rfl) (zX6 a.1 hw) rfl)
theorem zXz (a0 : List (El zD)) : zFu a0 = bif (decide ((a0.length : Int) > (30 : Int))) then (false, ()) else (bif zd (fun i _ => bif (!(zD8 (zB zD a0 (i : Int))).1) then false else (bif (decide ((i : Int) > (0 : Int))) then (bif (decide ((zB zD a0 ((i : Int) - (1 : Int))).1 > (zB zD a0 (i : Int)).1)) then false else true) else true)) 0 a0 then (true, ()) else (false, ())) := by
 simp only [zFu, zH6, zR, zi, zx, zQ]
 rw [zRd, z7] <;> rfl
def zMQ (a0 : El zP) : Tr (Bool × Unit) := bif (!(vp a0.1).1) then (.v (false, ())) else (bif (!(zGo a0.2.1).1) then (.v (false, ())) else (bif (!(z3 a0.2.2.1 (1 : Int) (4 : Int)).1) then (.v (false, ())) else (bif (!(z3 a0.2.2.2.1 (0 : Int) (4 : Int)).1) then (.v (false, ())) else (bif (a0.2.2.1 == (1 : Int)) then (bif (a0.2.2.2.1 != (0 : Int)) then (.v (false, ())) else (bif (a0.2.2.1 == (2 : Int)) then (bif (a0.2.2.2.1 == (0 : Int)) then (.v (false, ())) else (bif (z3 a0.2.2.2.2.1 (0 : Int) (1000001000 : Int)).1 then (bif ((a0.2.2.2.2.2.1 == (0 : Int)) && ((a0.2.2.2.2.2.2.1 == (0 : Int)) && ((a0.2.2.2.2.2.2.2.toList == (⟨#[]⟩ : ByteArray).toList) && true))) then (.v (true, ())) else (.v ((zCC a0.2.2.2.2.2).1, ()))) else (.v (false, ())))) else (bif (z3 a0.2.2.2.2.1 (0 : Int) (1000001000 : Int)).1 then (bif ((a0.2.2.2.2.2.1 == (0 : Int)) && ((a0.2.2.2.2.2.2.1 == (0 : Int)) && ((a0.2.2.2.2.2.2.2.toList == (⟨#[]⟩ : ByteArray).toList) && true))) then (.v (true, ())) else (.v ((zCC a0.2.2.2.2.2).1, ()))) else (.v (false, ()))))) else (bif (a0.2.2.1 == (2 : Int)) then (bif (a0.2.2.2.1 == (0 : Int)) then (.v (false, ())) else (bif (z3 a0.2.2.2.2.1 (0 : Int) (1000001000 : Int)).1 then (bif ((a0.2.2.2.2.2.1 == (0 : Int)) && ((a0.2.2.2.2.2.2.1 == (0 : Int)) && ((a0.2.2.2.2.2.2.2.toList == (⟨#[]⟩ : ByteArray).toList) && true))) then (.v (true, ())) else (.v ((zCC a0.2.2.2.2.2).1, ()))) else (.v (false, ())))) else (bif (z3 a0.2.2.2.2.1 (0 : Int) (1000001000 : Int)).1 then (bif ((a0.2.2.2.2.2.1 == (0 : Int)) && ((a0.2.2.2.2.2.2.1 == (0 : Int)) && ((a0.2.2.2.2.2.2.2.toList == (⟨#[]⟩ : ByteArray).toList) && true))) then (.v (true, ())) else (.v ((zCC a0.2.2.2.2.2).1, ()))) else (.v (false, ()))))))))
def zFA a0 := (zMQ a0).val
@[reducible] def zeb : FnD := ⟨[va zP], [vd .bool], true, fun _ => none, fun a => zFA a.1⟩
def zhK : Con Tryz.prog := yD mo g0 [zL0, vu, zQr, zUi] [] 130 zeb (fn := Tryz.f130) trivial (fun a _ _ => yT (t' := zMQ a.1) (by kernel_rfl) (by simp [zMQ]) rfl)
@[reducible] def z8 : LB := ⟨[], ⟨26, [], [(0, vd (.lst zK)), (1, vd (.lst zK)), (12, vd .int), (13, vd .int)]⟩, ⟨26, [], [(4, vd .bool)]⟩, 0, fun x => (fun (l0 : List (El zK)) (l1 : List (El zK)) (n12 : Int) (n13 : Int) => (bif decide (n13 < n12) then (.ix n13 l0 (.ix n13 l1 (bif (!(((zB zK l0 n13).1 == (zB zK l1 n13).1) && (((zB zK l0 n13).2.1 == (zB zK l1 n13).2.1) && (((zB zK l0 n13).2.2.toList == (zB zK l1 n13).2.2.toList) && true)))) then (.v (.ret (false, ()))) else (.ik (n13 + (1 : Int)) (.v (.go (l0, l1, n12, (n13 + (1 : Int)), ()))))))) else (.v (.brk (l0, l1, n12, n13, ()))) : Tr (St _ _))) x.1 x.2.1 x.2.2.1 x.2.2.2.1⟩
theorem zDz (l0 : List (El zK)) (l1 : List (El zK)) : LB.run z8 (l0, l1, (l0.length : Int), (0 : Int), ()) = bif zd (fun i x => bif (!((x.1 == (zB zK l1 (i : Int)).1) && ((x.2.1 == (zB zK l1 (i : Int)).2.1) && ((x.2.2.toList == (zB zK l1 (i : Int)).2.2.toList) && true)))) then false else true) 0 l0 then .brk (l0, l1, (l0.length : Int), (l0.length : Int), ()) else .ret (false, ()) := LB.run_all (l := z8) (fun i => (l0, l1, (l0.length : Int), (i : Int), ())) (fun i x h => by
  simp only [LB.b, z8, zi, zQ, zR, cond_true, yM h, zG h]
  cases (!((x.1 == (zB zK l1 (i : Int)).1) && ((x.2.1 == (zB zK l1 (i : Int)).2.1) && ((x.2.2.toList == (zB zK l1 (i : Int)).2.2.toList) && true)))) <;> rfl) (by simp only [LB.b, z8, xl]; rfl)
theorem zDu : SF z8 fun x : List (El zK) × List (El zK) × Int × Int × Unit => (0 ≤ x.2.2.2.1 ∧ x.2.2.1 = (x.1.length : Int) ∧ x.2.2.1 ≤ (x.2.1.length : Int), x.2.2.1 - x.2.2.2.1) := xz (by
 rintro ⟨(l0 : List (El zK)), (l1 : List (El zK)), (n12 : Int), (n13 : Int), ⟨⟩⟩ hI hw
 have _ : -9223372036854775808 ≤ n12 ∧ n12 ≤ 9223372036854775807 := zw hw.2.2.1
 have _ : (l0.length : Int) ≤ 16777216 := zE (hw.1.1)
 simp [z8] at hI ⊢
 repeat' first | intro _ | apply And.intro
 all_goals omega)
def xE (a0 : List (El zK)) (a1 : List (El zK)) : Tr (Bool × Unit) := bif ((a0.length : Int) != (a1.length : Int)) then (.v (false, ())) else (.lp z8 (a0, a1, (a0.length : Int), (0 : Int), ()) (fun r1 => .v (r1.1, ())) (fun _ => .v (true, ())))
def yo a0 a1 := (xE a0 a1).val
@[reducible] def zAz : FnD := ⟨[vd (.lst zK), vd (.lst zK)], [vd .bool], true, fun _ => none, fun a => yo a.1 a.2.1⟩
theorem zEd (a0 : List (El zK)) (a1 : List (El zK)) (_ : xG zAz.args (a0, a1, ())) : (xE a0 a1).ok := by
 unfold xE
 refine zp (fun _ => trivial) (fun h1 => ?_)
 replace h1 := zAp h1
 refine zI ?_ ?_
 ·exact zDu _ ⟨by (dsimp only <;> omega), by (dsimp only <;> omega), by (dsimp only <;> omega)⟩
 ·simp
def zEy : Con Tryz.prog := yD mo g0 [] [z8] 188 zAz (fn := Tryz.f188) ⟨lk, trivial⟩ (fun a hw _ => yT (by kernel_rfl) (zEd a.1 a.2.1 hw) rfl)
theorem zEf (a0 : List (El zK)) (a1 : List (El zK)) : yo a0 a1 = bif ((a0.length : Int) != (a1.length : Int)) then (false, ()) else (bif zd (fun i x => bif (!((x.1 == (zB zK a1 (i : Int)).1) && ((x.2.1 == (zB zK a1 (i : Int)).2.1) && ((x.2.2.toList == (zB zK a1 (i : Int)).2.2.toList) && true)))) then false else true) 0 a0 then (true, ()) else (false, ())) := by
 simp only [yo, xE, zR, zi, zx, zQ]
 rw [zDz, z7] <;> rfl
def zHw (a0 : El zt) (a1 : El zt) : Tr (Bool × Unit) := bif (a0.1.toList == a1.1.toList) then (.v ((yo a0.2 a1.2).1, ())) else (.v (false, ()))
def vH a0 a1 := (zHw a0 a1).val
@[reducible] def zYg : FnD := ⟨[va zt, va zt], [vd .bool], true, fun _ => none, fun a => vH a.1 a.2.1⟩
def zPe : Con Tryz.prog := yD mo g0 [zEy] [] 129 zYg (fn := Tryz.f129) trivial (fun a _ _ => yT (t' := zHw a.1 a.2.1) (by kernel_rfl) (by simp [zHw]) rfl)
def zAK (a0 : El zP) (a1 : El zt) : Bool × Unit := ((vH a0.1 a1).1, ())
@[reducible] def zOs : FnD := ⟨[va zP, .bx zt 0], [vd .bool], true, fun _ => none, fun a => zAK a.1 a.2.1⟩
def zOn : Con Tryz.prog := yD mo g0 [zPe] [] 189 zOs (fn := Tryz.f189) trivial (fun _ _ _ => okv (by kernel_rfl))
@[reducible] def zT : LB := ⟨[], ⟨19, [], [(0, vd (.lst zP)), (1, .fn 189 [zt]), (7, vd .int), (8, vd .int)]⟩, ⟨19, [], [(4, vd .int)]⟩, 0, fun x => (fun (l0 : List (El zP)) (f1 : TyL [zt]) (n7 : Int) (n8 : Int) => (bif decide (n8 < n7) then (.ix n8 l0 (bif (zAK (zB zP l0 n8) f1.1).1 then (.v (.ret (n8, ()))) else (.ik (n8 + (1 : Int)) (.v (.go (l0, (f1.1, ()), n7, (n8 + (1 : Int)), ())))))) else (.v (.brk (l0, (f1.1, ()), n7, n8, ()))) : Tr (St _ _))) x.1 x.2.1 x.2.2.1 x.2.2.2.1⟩
theorem zBE (l0 : List (El zP)) (f1 : TyL [zt]) : LB.run zT (l0, f1, (l0.length : Int), (0 : Int), ()) = zCY (yt (fun i x => bif (zAK x f1.1).1 then (some ((i : Int), ())) else none) 0 l0) (l0, f1, (l0.length : Int), (l0.length : Int), ()) := LB.run_scan (l := zT) (fun i => (l0, f1, (l0.length : Int), (i : Int), ())) (fun i x h => by
  simp only [LB.b, zT, zi, zQ, zR, cond_true, yM h, zG h]
  cases (zAK x f1.1).1 <;> rfl) (by simp only [LB.b, zT, xl]; rfl)
theorem zBH : SF zT fun x : List (El zP) × TyL [zt] × Int × Int × Unit => (0 ≤ x.2.2.2.1 ∧ x.2.2.1 = (x.1.length : Int), x.2.2.1 - x.2.2.2.1) := xz (by
 rintro ⟨(l0 : List (El zP)), (f1 : TyL [zt]), (n7 : Int), (n8 : Int), ⟨⟩⟩ hI hw
 have _ : -9223372036854775808 ≤ n7 ∧ n7 ≤ 9223372036854775807 := zw hw.2.2.1
 have _ : (l0.length : Int) ≤ 16777216 := zE (hw.1.1)
 simp [zT] at hI ⊢
 repeat' first | intro _ | apply And.intro
 all_goals omega)
def yU (a0 : List (El zP)) (a1 : TyL [zt]) : Tr (Int × Unit) := .lp zT (a0, (a1.1, ()), (a0.length : Int), (0 : Int), ()) (fun r2 => .v (r2.1, ())) (fun _ => .v ((-1 : Int), ()))
def yW a0 a1 := (yU a0 a1).val
@[reducible] def vL : FnD := ⟨[vd (.lst zP), .fn 189 [zt]], [vd .int], true, fun _ => none, fun a => yW a.1 a.2.1⟩
theorem zCL (a0 : List (El zP)) (a1 : TyL [zt]) (_ : xG vL.args (a0, a1, ())) : (yU a0 a1).ok := by
 unfold yU
 refine zI ?_ ?_
 ·exact zBH _ ⟨by (dsimp only <;> omega), by (dsimp only <;> omega)⟩
 ·simp
def zCE : Con Tryz.prog := yD mo g0 [zOn] [zT] 136 vL (fn := Tryz.f136) ⟨lk, trivial⟩ (fun a hw _ => yT (by kernel_rfl) (zCL a.1 a.2.1 hw) rfl)
theorem zCH (a0 : List (El zP)) (a1 : TyL [zt]) : yW a0 a1 = zCh (yt (fun i x => bif (zAK x (a1.1, ()).1).1 then (some ((i : Int), ())) else none) 0 a0) (fun (r1 : zT.r.T) => (r1.1, ())) ((-1 : Int), ()) := by
 simp only [yW, yU, zR, zx, zQ]
 rw [zBE, xI] <;> rfl
def zAQ (a0 : List (El zP)) (a1 : El zt) : Int × Unit := ((yW a0 (a1, ())).1, ())
@[reducible] def zSM : FnD := ⟨[vd (.lst zP), va zt], [vd .int], true, fun _ => none, fun a => zAQ a.1 a.2.1⟩
def zRD : Con Tryz.prog := yD mo g0 [zCE] [] 131 zSM (fn := Tryz.f131) trivial (fun _ _ _ => okv (by kernel_rfl))
@[reducible] def zBk : LB := ⟨[], ⟨27, [], [(0, vd (.lst zP)), (8, vd (.lst zP)), (9, vd .int), (10, vd .int)]⟩, ⟨27, [], [(2, vd .bool)]⟩, 0, fun x => (fun (l0 : List (El zP)) (l8 : List (El zP)) (n9 : Int) (n10 : Int) => (bif decide (n10 < n9) then (.ix n10 l8 (bif (!(zFA (zB zP l8 n10)).1) then (.v (.ret (false, ()))) else (bif ((zAQ l0 (zB zP l8 n10).1).1 != n10) then (.v (.ret (false, ()))) else (.ik (n10 + (1 : Int)) (.v (.go (l0, l8, n9, (n10 + (1 : Int)), ()))))))) else (.v (.brk (l0, l8, n9, n10, ()))) : Tr (St _ _))) x.1 x.2.1 x.2.2.1 x.2.2.2.1⟩
theorem zSh (l0 : List (El zP)) (l8 : List (El zP)) : LB.run zBk (l0, l8, (l0.length : Int), (0 : Int), ()) = bif zd (fun i _ => bif (!(zFA (zB zP l8 (i : Int))).1) then false else (bif ((zAQ l0 (zB zP l8 (i : Int)).1).1 != (i : Int)) then false else true)) 0 l0 then .brk (l0, l8, (l0.length : Int), (l0.length : Int), ()) else .ret (false, ()) := LB.run_all (l := zBk) (fun i => (l0, l8, (l0.length : Int), (i : Int), ())) (fun i x h => by
  simp only [LB.b, zBk, zi, zQ, zR, cond_true, yM h]
  cases (!(zFA (zB zP l8 (i : Int))).1)
  ·cases ((zAQ l0 (zB zP l8 (i : Int)).1).1 != (i : Int)) <;> rfl
  ·rfl) (by simp only [LB.b, zBk, xl]; rfl)
theorem zS1 : SF zBk fun x : List (El zP) × List (El zP) × Int × Int × Unit => (0 ≤ x.2.2.2.1 ∧ x.2.2.1 = (x.1.length : Int) ∧ x.2.2.1 ≤ (x.2.1.length : Int), x.2.2.1 - x.2.2.2.1) := xz (by
 rintro ⟨(l0 : List (El zP)), (l8 : List (El zP)), (n9 : Int), (n10 : Int), ⟨⟩⟩ hI hw
 have _ : -9223372036854775808 ≤ n9 ∧ n9 ≤ 9223372036854775807 := zw hw.2.2.1
 have _ : (l0.length : Int) ≤ 16777216 := zE (hw.1.1)
 simp [zBk] at hI ⊢
 repeat' first | intro _ | apply And.intro
 all_goals omega)
def zJT (a0 : List (El zP)) : Tr (Bool × Unit) := bif decide ((a0.length : Int) > (30 : Int)) then (.v (false, ())) else (.lp zBk (a0, a0, (a0.length : Int), (0 : Int), ()) (fun r3 => .v (r3.1, ())) (fun _ => .v (true, ())))
def zHP a0 := (zJT a0).val
@[reducible] def zST : FnD := ⟨[vd (.lst zP)], [vd .bool], true, fun _ => none, fun a => zHP a.1⟩
theorem zbH (a0 : List (El zP)) (_ : xG zST.args (a0, ())) : (zJT a0).ok := by
 unfold zJT
 refine zp (fun _ => trivial) (fun h1 => ?_)
 replace h1 : ¬ ((a0.length : Int) > (30 : Int)) := of_decide_eq_false h1
 refine zI ?_ ?_
 ·exact zS1 _ ⟨by (dsimp only <;> omega), by (dsimp only <;> omega), by (dsimp only <;> omega)⟩
 ·simp
def zcj : Con Tryz.prog := yD mo g0 [zhK, zRD] [zBk] 76 zST (fn := Tryz.f76) ⟨lk, trivial⟩ (fun a hw _ => yT (by kernel_rfl) (zbH a.1 hw) rfl)
theorem zbJ (a0 : List (El zP)) : zHP a0 = bif (decide ((a0.length : Int) > (30 : Int))) then (false, ()) else (bif zd (fun i _ => bif (!(zFA (zB zP a0 (i : Int))).1) then false else (bif ((zAQ a0 (zB zP a0 (i : Int)).1).1 != (i : Int)) then false else true)) 0 a0 then (true, ()) else (false, ())) := by
 simp only [zHP, zJT, zR, zi, zx, zQ]
 rw [zSh, z7] <;> rfl
@[reducible] def zAm : LB := ⟨[], ⟨70, [.d zH, .d zD], [(1, .pt 0 0), (4, .pt 1 0), (18, vd (.lst zD)), (19, vd .int), (20, vd .int), (57, vd (.lst zD)), (58, vd .int), (59, vd .int)]⟩, ⟨70, [], [(2, vd .bool)]⟩, 2, fun x => (fun (w0 : El zH) (w1 : El zD) (l18 : List (El zD)) (n19 : Int) (n20 : Int) (l57 : List (El zD)) (n58 : Int) (n59 : Int) => (bif decide (n59 < n58) then (.ix n59 l57 (bif (vH w1.2 (zB zD l57 n59).2).1 then (.v (.ret (false, ()))) else (.ik (n59 + (1 : Int)) (.v (.go (w0, w1, (), (), l18, n19, n20, l57, n58, (n59 + (1 : Int)), ())))))) else (.v (.brk (w0, w1, (), (), l18, n19, n20, l57, n58, n59, ()))) : Tr (St _ _))) x.1 x.2.1 x.2.2.2.2.1 x.2.2.2.2.2.1 x.2.2.2.2.2.2.1 x.2.2.2.2.2.2.2.1 x.2.2.2.2.2.2.2.2.1 x.2.2.2.2.2.2.2.2.2.1⟩
theorem zIK (w0 : El zH) (w1 : El zD) (l18 : List (El zD)) (n19 : Int) (n20 : Int) (l57 : List (El zD)) : LB.run zAm (w0, w1, (), (), l18, n19, n20, l57, (l57.length : Int), (0 : Int), ()) = bif zd (fun _ x => bif (vH w1.2 x.2).1 then false else true) 0 l57 then .brk (w0, w1, (), (), l18, n19, n20, l57, (l57.length : Int), (l57.length : Int), ()) else .ret (false, ()) := LB.run_all (l := zAm) (fun i => (w0, w1, (), (), l18, n19, n20, l57, (l57.length : Int), (i : Int), ())) (fun i x h => by
  simp only [LB.b, zAm, zi, zQ, zR, cond_true, yM h, zG h]
  cases (vH w1.2 x.2).1 <;> rfl) (by simp only [LB.b, zAm, xl]; rfl)
theorem zMi : SF zAm fun x : El zH × El zD × Unit × Unit × List (El zD) × Int × Int × List (El zD) × Int × Int × Unit => (0 ≤ x.2.2.2.2.2.2.2.2.2.1 ∧ x.2.2.2.2.2.2.2.2.1 = (x.2.2.2.2.2.2.2.1.length : Int), x.2.2.2.2.2.2.2.2.1 - x.2.2.2.2.2.2.2.2.2.1) := xz (by
 rintro ⟨(w0 : El zH), (w1 : El zD), ⟨⟩, ⟨⟩, (l18 : List (El zD)), (n19 : Int), (n20 : Int), (l57 : List (El zD)), (n58 : Int), (n59 : Int), ⟨⟩⟩ hI hw
 have _ : -9223372036854775808 ≤ n19 ∧ n19 ≤ 9223372036854775807 := zw hw.2.2.2.2.2.1
 have _ : -9223372036854775808 ≤ n20 ∧ n20 ≤ 9223372036854775807 := zw hw.2.2.2.2.2.2.1
 have _ : -9223372036854775808 ≤ n58 ∧ n58 ≤ 9223372036854775807 := zw hw.2.2.2.2.2.2.2.2.1
 have _ : (l57.length : Int) ≤ 16777216 := zE (hw.2.2.2.2.2.2.2.1.1)
 simp [zAm] at hI ⊢
 repeat' first | intro _ | apply And.intro
 all_goals omega)
@[reducible] def zDg : LB := ⟨[], ⟨70, [.d zH], [(1, .pt 0 0), (18, vd (.lst zD)), (19, vd .int), (20, vd .int)]⟩, ⟨70, [], [(2, vd .bool)]⟩, 0, fun x => (fun (w0 : El zH) (l18 : List (El zD)) (n19 : Int) (n20 : Int) => (bif decide (n20 < n19) then (.ix n20 l18 (bif (!(vp (zB zD l18 n20).2).1) then (.v (.ret (false, ()))) else (.ik (w0.2 - (1 : Int)) (bif (!(z3 (zB zD l18 n20).1 (1 : Int) (w0.2 - (1 : Int))).1) then (.v (.ret (false, ()))) else (bif decide (n20 > (0 : Int)) then (.ik (n20 - (1 : Int)) (.ix (n20 - (1 : Int)) w0.1 (bif decide ((zB zD l18 n20).1 ≤ (zB zD w0.1 (n20 - (1 : Int))).1) then (.v (.ret (false, ()))) else (.ck (0 ≤ (0 : Int) ∧ (0 : Int) ≤ n20 ∧ n20 ≤ (w0.1.length : Int)) (.lp zAm (w0, (zB zD l18 n20), (), (), l18, n19, n20, ((w0.1.take n20.toNat).drop (0 : Int).toNat), (((w0.1.take n20.toNat).drop (0 : Int).toNat).length : Int), (0 : Int), ()) (fun r8 => .v (.ret (r8.1, ()))) (fun t8 => .ik (t8.2.2.2.2.2.2.1 + (1 : Int)) (.v (.go (t8.1, (), t8.2.2.2.2.1, t8.2.2.2.2.2.1, (t8.2.2.2.2.2.2.1 + (1 : Int)), ()))))))))) else (.ck (0 ≤ (0 : Int) ∧ (0 : Int) ≤ n20 ∧ n20 ≤ (w0.1.length : Int)) (.lp zAm (w0, (zB zD l18 n20), (), (), l18, n19, n20, ((w0.1.take n20.toNat).drop (0 : Int).toNat), (((w0.1.take n20.toNat).drop (0 : Int).toNat).length : Int), (0 : Int), ()) (fun r9 => .v (.ret (r9.1, ()))) (fun t9 => .ik (t9.2.2.2.2.2.2.1 + (1 : Int)) (.v (.go (t9.1, (), t9.2.2.2.2.1, t9.2.2.2.2.2.1, (t9.2.2.2.2.2.2.1 + (1 : Int)), ()))))))))))) else (.v (.brk (w0, (), l18, n19, n20, ()))) : Tr (St _ _))) x.1 x.2.2.1 x.2.2.2.1 x.2.2.2.2.1⟩
theorem zS7 : SF zDg fun x : El zH × Unit × List (El zD) × Int × Int × Unit => (0 ≤ x.2.2.2.2.1 ∧ x.2.2.2.1 = (x.2.2.1.length : Int) ∧ @LE.le Int _ 1 x.1.2 ∧ (x.2.2.1.length : Int) = (x.1.1.length : Int), x.2.2.2.1 - x.2.2.2.2.1) := xz (by
 rintro ⟨(w0 : El zH), ⟨⟩, (l18 : List (El zD)), (n19 : Int), (n20 : Int), ⟨⟩⟩ hI hw
 dsimp only at hI ⊢
 obtain ⟨i0, i1, k0, k1⟩ := hI
 have _ : -9223372036854775808 ≤ n19 ∧ n19 ≤ 9223372036854775807 := zw hw.2.2.2.1
 have hb : (l18.length : Int) ≤ 16777216 := zE (hw.2.2.1.1)
 refine ⟨by omega, ?_⟩
 refine xM (fun h3 => ?_) (fun h3 => ?_)
 ·replace h3 : n20 < n19 := of_decide_eq_true h3
  refine yR ?_ ?_
  ·first | omega | (simp <;> omega)
  ·refine xM (fun h4 => ?_) (fun h4 => ?_)
   ·exact trivial
   ·refine yR ?_ ?_
    ·exact ink (by have _ : @LE.le Int _ (-9223372036854775808) w0.2 ∧ @LE.le Int _ w0.2 9223372036854775807 := zw hw.1.2; omega) (by have _ : @LE.le Int _ (-9223372036854775808) w0.2 ∧ @LE.le Int _ w0.2 9223372036854775807 := zw hw.1.2; omega)
    ·refine xM (fun h5 => ?_) (fun h5 => ?_)
     ·exact trivial
     ·replace h5 := vQ h5
      replace h5 := zAN h5
      refine xM (fun h6 => ?_) (fun h6 => ?_)
      ·replace h6 : n20 > (0 : Int) := of_decide_eq_true h6
       refine yR ?_ ?_
       ·exact ink (by omega) (by omega)
       ·refine yR ?_ ?_
        ·first | omega | (simp <;> omega)
        ·refine xM (fun h7 => ?_) (fun h7 => ?_)
         ·replace h7 : (zB zD l18 n20).1 ≤ (zB zD w0.1 (n20 - (1 : Int))).1 := of_decide_eq_true h7
          exact trivial
         ·replace h7 : ¬ ((zB zD l18 n20).1 ≤ (zB zD w0.1 (n20 - (1 : Int))).1) := of_decide_eq_false h7
          refine yR ?_ ?_
          ·first | omega | (simp <;> omega)
          ·refine yR ?_ ?_
           ·exact zMi _ ⟨by (dsimp only <;> omega), by (dsimp only <;> omega)⟩
           ·refine zXi (zIK w0 (zB zD l18 n20) l18 n19 n20 ((w0.1.take n20.toNat).drop (0 : Int).toNat)) ?_ ?_
            ·try dsimp only
             refine yR ?_ ?_
             ·exact ink (by omega) (by omega)
             ·exact show (0 ≤ (n20 + (1 : Int)) ∧ n19 = (l18.length : Int) ∧ @LE.le Int _ 1 w0.2 ∧ (l18.length : Int) = (w0.1.length : Int)) ∧ n19 - (n20 + (1 : Int)) < n19 - n20 ∧ 0 < n19 - n20 from ⟨⟨by (first | omega | rfl | assumption | (simp <;> omega)), by (first | omega | rfl | assumption | (simp <;> omega)), by (first | omega | rfl | assumption | (simp <;> omega)), by (first | omega | rfl | assumption | (simp <;> omega))⟩, by (first | omega | (simp only [List.length_set]; omega)), by (first | omega | (simp only [List.length_set]; omega))⟩
            ·try dsimp only
             exact trivial
      ·replace h6 : ¬ (n20 > (0 : Int)) := of_decide_eq_false h6
       refine yR ?_ ?_
       ·first | omega | (simp <;> omega)
       ·refine yR ?_ ?_
        ·exact zMi _ ⟨by (dsimp only <;> omega), by (dsimp only <;> omega)⟩
        ·refine zXi (zIK w0 (zB zD l18 n20) l18 n19 n20 ((w0.1.take n20.toNat).drop (0 : Int).toNat)) ?_ ?_
         ·try dsimp only
          refine yR ?_ ?_
          ·exact ink (by omega) (by omega)
          ·exact show (0 ≤ (n20 + (1 : Int)) ∧ n19 = (l18.length : Int) ∧ @LE.le Int _ 1 w0.2 ∧ (l18.length : Int) = (w0.1.length : Int)) ∧ n19 - (n20 + (1 : Int)) < n19 - n20 ∧ 0 < n19 - n20 from ⟨⟨by (first | omega | rfl | assumption | (simp <;> omega)), by (first | omega | rfl | assumption | (simp <;> omega)), by (first | omega | rfl | assumption | (simp <;> omega)), by (first | omega | rfl | assumption | (simp <;> omega))⟩, by (first | omega | (simp only [List.length_set]; omega)), by (first | omega | (simp only [List.length_set]; omega))⟩
         ·try dsimp only
          exact trivial
 ·replace h3 : ¬ (n20 < n19) := of_decide_eq_false h3
  exact trivial)
def zHj (a0 : El zH) : Tr (Bool × Unit) := bif decide ((a0.1.length : Int) > (40 : Int)) then (.v (false, ())) else (bif (!(z3 a0.2 (1 : Int) (1000000 : Int)).1) then (.v (false, ())) else (.lp zDg (a0, (), a0.1, (a0.1.length : Int), (0 : Int), ()) (fun r12 => .v (r12.1, ())) (fun _ => .v (true, ()))))
def zDA a0 := (zHj a0).val
@[reducible] def zQl : FnD := ⟨[va zH], [vd .bool], true, fun _ => none, fun a => zDA a.1⟩
theorem zby (a0 : El zH) (_ : xG zQl.args (a0, ())) : (zHj a0).ok := by
 unfold zHj
 refine zp (fun _ => trivial) (fun h8 => ?_)
 replace h8 : ¬ ((a0.1.length : Int) > (40 : Int)) := of_decide_eq_false h8
 refine zp (fun _ => trivial) (fun h9 => ?_)
 replace h9 := vQ h9
 replace h9 := zAN h9
 refine zI ?_ ?_
 ·exact zS7 _ ⟨by (dsimp only <;> first | omega | rfl | assumption | (simp <;> omega)), by (dsimp only <;> first | omega | rfl | assumption | (simp <;> omega)), by (dsimp only <;> first | omega | rfl | assumption | (simp <;> omega)), by (dsimp only <;> first | omega | rfl | assumption | (simp <;> omega))⟩
 ·simp
def zb8 : Con Tryz.prog := yD mo g0 [zL0, zPe, vu] [zDg, zAm] 75 zQl (fn := Tryz.f75) ⟨lk, lk, trivial⟩ (fun a hw _ => yT (by kernel_rfl) (zby a.1 hw) rfl)
theorem zbF {s : El zH} (h : (zDA s).1 = true) : s.1.length ≤ 40 := by
 simp only [zDA, zHj, zi, zQ, zR, zx, z6, zAY] at h
 have := of_decide_eq_false h.1
 omega
def zI9 (a0 : El zN) (a1 : El yf) : Tr (Bool × Unit) := .ck (zKh a0) (bif (!(zDQ a0).1) then (.v (false, ())) else (bif (!(zDA a1.1).1) then (.v (false, ())) else (bif (!(zHP a1.2.2.1).1) then (.v (false, ())) else (bif (!(zFu a1.2.2.2.1).1) then (.v (false, ())) else (bif (!(zHD a1.2.2.2.2.1).1) then (.v (false, ())) else (bif (!(z3 a1.2.2.2.2.2.1 (1 : Int) (6 : Int)).1) then (.v (false, ())) else (bif (!(zFN a1.2.2.2.2.2.2).1) then (.v (false, ())) else (bif (!(zHK a0 a1).1) then (.v (false, ())) else (bif (a1.2.2.2.2.2.1 == (3 : Int)) then (.v (decide ((a1.2.2.2.2.1.length : Int) > (0 : Int)), ())) else (bif (a1.2.2.2.2.2.1 == (5 : Int)) then (.v (decide ((a1.2.2.2.2.1.length : Int) > (0 : Int)), ())) else (bif (!(zRS a1).1) then (.v (true, ())) else (bif ((a1.2.2.2.1.length : Int) == (0 : Int)) then (.v ((!(yX a1.2.2.1 ()).1), ())) else (.v (false, ()))))))))))))))
def zBG a0 a1 := (zI9 a0 a1).val
def zLM (a0 : El zN) (_a1 : El yf) : Prop := ∀ r ∈ a0.2, SzR r
@[reducible] def zUS : FnD := ⟨[va zN, va yf], [vd .bool], true, fun a => some (zLM a.1 a.2.1), fun a => zBG a.1 a.2.1⟩
theorem zgG (a0 : El zN) (a1 : El yf) (_ : xG zUS.args (a0, a1, ())) (hp : zLM a0 a1) : (zI9 a0 a1).ok := by
 unfold zLM at hp
 unfold zI9
 refine zI ?_ ?_
 ·exact hp
 ·simp
def zfJ : Con Tryz.prog := yD mo g0 [zYO, vu, ziF, zB9, zcN, zO3, zcf, zYQ, zcj, zb8] [] 44 zUS (fn := Tryz.f44) trivial (fun a hw h => yT (by kernel_rfl) (zgG a.1 a.2.1 hw h) rfl)
theorem zhQ {d : El zN} {x : El yf} (h : (zBG d x).1 = true) : (zDQ d).1 = true ∧ (zDA x.1).1 = true := by
 simp only [zBG, zI9, zi, zQ, zR, z6, zAY] at h
 exact ⟨vQ h.1, vQ h.2.1⟩
theorem zUJ {d : El zN} {x : El yf} (h : (zBG d x).1 = true) : znA d x.1 := by
 obtain ⟨h1, h2⟩ := zhQ h
 obtain ⟨h3, h4⟩ := ziv h1
 exact ⟨zbF h2, h3, fun r hr => zgU (h4 r hr)⟩
def zGE (a0 : El ze) (a1 : ByteArray) : Bool × Unit := ((a0.1.toList == a1.toList), ())
@[reducible] def zZj : FnD := ⟨[va ze, .bx .str 0], [vd .bool], true, fun _ => none, fun a => zGE a.1 a.2.1⟩
def zYo : Con Tryz.prog := yD mo g0 [] [] 74 zZj (fn := Tryz.f74) trivial (fun _ _ _ => okv (by kernel_rfl))
@[reducible] def zW : LB := ⟨[], ⟨19, [], [(0, vd (.lst ze)), (1, .fn 74 [.str]), (7, vd .int), (8, vd .int)]⟩, ⟨19, [], [(4, vd .int)]⟩, 0, fun x => (fun (l0 : List (El ze)) (f1 : TyL [.str]) (n7 : Int) (n8 : Int) => (bif decide (n8 < n7) then (.ix n8 l0 (bif (zGE (zB ze l0 n8) f1.1).1 then (.v (.ret (n8, ()))) else (.ik (n8 + (1 : Int)) (.v (.go (l0, (f1.1, ()), n7, (n8 + (1 : Int)), ())))))) else (.v (.brk (l0, (f1.1, ()), n7, n8, ()))) : Tr (St _ _))) x.1 x.2.1 x.2.2.1 x.2.2.2.1⟩
theorem zCF (l0 : List (El ze)) (f1 : TyL [.str]) : LB.run zW (l0, f1, (l0.length : Int), (0 : Int), ()) = zCY (yt (fun i x => bif (zGE x f1.1).1 then (some ((i : Int), ())) else none) 0 l0) (l0, f1, (l0.length : Int), (l0.length : Int), ()) := LB.run_scan (l := zW) (fun i => (l0, f1, (l0.length : Int), (i : Int), ())) (fun i x h => by
  simp only [LB.b, zW, zi, zQ, zR, cond_true, yM h, zG h]
  cases (zGE x f1.1).1 <;> rfl) (by simp only [LB.b, zW, xl]; rfl)
theorem zB8 : SF zW fun x : List (El ze) × TyL [.str] × Int × Int × Unit => (0 ≤ x.2.2.2.1 ∧ x.2.2.1 = (x.1.length : Int), x.2.2.1 - x.2.2.2.1) := xz (by
 rintro ⟨(l0 : List (El ze)), (f1 : TyL [.str]), (n7 : Int), (n8 : Int), ⟨⟩⟩ hI hw
 have _ : -9223372036854775808 ≤ n7 ∧ n7 ≤ 9223372036854775807 := zw hw.2.2.1
 have _ : (l0.length : Int) ≤ 16777216 := zE (hw.1.1)
 simp [zW] at hI ⊢
 repeat' first | intro _ | apply And.intro
 all_goals omega)
def yk (a0 : List (El ze)) (a1 : TyL [.str]) : Tr (Int × Unit) := .lp zW (a0, (a1.1, ()), (a0.length : Int), (0 : Int), ()) (fun r2 => .v (r2.1, ())) (fun _ => .v ((-1 : Int), ()))
def ym a0 a1 := (yk a0 a1).val
@[reducible] def vn : FnD := ⟨[vd (.lst ze), .fn 74 [.str]], [vd .int], true, fun _ => none, fun a => ym a.1 a.2.1⟩
theorem zCi (a0 : List (El ze)) (a1 : TyL [.str]) (_ : xG vn.args (a0, a1, ())) : (yk a0 a1).ok := by
 unfold yk
 refine zI ?_ ?_
 ·exact zB8 _ ⟨by (dsimp only <;> omega), by (dsimp only <;> omega)⟩
 ·simp
def zC2 : Con Tryz.prog := yD mo g0 [zYo] [zW] 73 vn (fn := Tryz.f73) ⟨lk, trivial⟩ (fun a hw _ => yT (by kernel_rfl) (zCi a.1 a.2.1 hw) rfl)
theorem zCj (a0 : List (El ze)) (a1 : TyL [.str]) : ym a0 a1 = zCh (yt (fun i x => bif (zGE x (a1.1, ()).1).1 then (some ((i : Int), ())) else none) 0 a0) (fun (r1 : zW.r.T) => (r1.1, ())) ((-1 : Int), ()) := by
 simp only [ym, yk, zR, zx, zQ]
 rw [zCF, xI] <;> rfl
def zFP (a0 : El zO) (a1 : ByteArray) : Int × Unit := ((ym a0.2.1 (a1, ())).1, ())
@[reducible] def zgV : FnD := ⟨[va zO, vd .str], [vd .int], true, fun _ => none, fun a => zFP a.1 a.2.1⟩
def zeY : Con Tryz.prog := yD mo g0 [zC2] [] 43 zgV (fn := Tryz.f43) trivial (fun _ _ _ => okv (by kernel_rfl))
@[reducible] def zC7 : LB := ⟨[], ⟨101, [.d zO], [(1, .pt 0 0), (34, vd (.lst zN)), (35, vd .int), (36, vd .int)]⟩, ⟨101, [], [(2, vd .bool)]⟩, 0, fun x => (fun (w0 : El zO) (l34 : List (El zN)) (n35 : Int) (n36 : Int) => (bif decide (n36 < n35) then (.ix n36 l34 (.ck (zKh (zB zN l34 n36)) (bif (!(zDQ (zB zN l34 n36)).1) then (.v (.ret (false, ()))) else (bif ((x6 w0 (zB zN l34 n36).1).1 != n36) then (.v (.ret (false, ()))) else (.ik (n36 + (1 : Int)) (.v (.go (w0, (), l34, n35, (n36 + (1 : Int)), ())))))))) else (.v (.brk (w0, (), l34, n35, n36, ()))) : Tr (St _ _))) x.1 x.2.2.1 x.2.2.2.1 x.2.2.2.2.1⟩
theorem zOJ (w0 : El zO) (l34 : List (El zN)) : LB.run zC7 (w0, (), l34, (l34.length : Int), (0 : Int), ()) = bif zd (fun i x => bif (!(zDQ x).1) then false else (bif ((x6 w0 x.1).1 != (i : Int)) then false else true)) 0 l34 then .brk (w0, (), l34, (l34.length : Int), (l34.length : Int), ()) else .ret (false, ()) := LB.run_all (l := zC7) (fun i => (w0, (), l34, (l34.length : Int), (i : Int), ())) (fun i x h => by
  simp only [LB.b, zC7, zi, zQ, zR, cond_true, yM h, zG h]
  cases (!(zDQ x).1)
  ·cases ((x6 w0 x.1).1 != (i : Int)) <;> rfl
  ·rfl) (by simp only [LB.b, zC7, xl]; rfl)
theorem zWs : SF zC7 fun x : El zO × Unit × List (El zN) × Int × Int × Unit => (0 ≤ x.2.2.2.2.1 ∧ x.2.2.2.1 = (x.2.2.1.length : Int) ∧ ∀ d ∈ x.2.2.1, ∀ r ∈ d.2, SzR r, x.2.2.2.1 - x.2.2.2.2.1) := xz (by
 rintro ⟨(w0 : El zO), ⟨⟩, (l34 : List (El zN)), (n35 : Int), (n36 : Int), ⟨⟩⟩ hI hw
 obtain ⟨i0, i1, k0⟩ := hI
 dsimp only at i0 i1 k0
 have _ : -9223372036854775808 ≤ n35 ∧ n35 ≤ 9223372036854775807 := zw hw.2.2.2.1
 have _ : (l34.length : Int) ≤ 16777216 := zE (hw.2.2.1.1)
 simp [zC7, -Prod.forall]
 repeat' first | exact k0 _ (z4 (by omega)) | assumption | intro _ | apply And.intro
 all_goals omega)
@[reducible] def zC9 : LB := ⟨[], ⟨101, [.d zO], [(1, .pt 0 0), (54, vd (.lst ze)), (55, vd .int), (56, vd .int)]⟩, ⟨101, [], [(2, vd .bool)]⟩, 2, fun x => (fun (w0 : El zO) (l54 : List (El ze)) (n55 : Int) (n56 : Int) => (bif decide (n56 < n55) then (.ix n56 l54 (let y4 := (x6 w0 (zB ze l54 n56).2.1); bif (!(xi (zB ze l54 n56).1).1) then (.v (.ret (false, ()))) else (bif ((zFP w0 (zB ze l54 n56).1).1 != n56) then (.v (.ret (false, ()))) else (bif decide (y4.1 < (0 : Int)) then (.v (.ret (false, ()))) else (bif decide ((zB ze l54 n56).2.2.2.2.2.2.2.2 > w0.2.2.1) then (.v (.ret (false, ()))) else (.ix y4.1 w0.1 (.ck (zLM (zB zN w0.1 y4.1) (zB ze l54 n56).2.2) (bif (!(zBG (zB zN w0.1 y4.1) (zB ze l54 n56).2.2).1) then (.v (.ret (false, ()))) else (.ik (n56 + (1 : Int)) (.v (.go (w0, (), l54, n55, (n56 + (1 : Int)), ())))))))))))) else (.v (.brk (w0, (), l54, n55, n56, ()))) : Tr (St _ _))) x.1 x.2.2.1 x.2.2.2.1 x.2.2.2.2.1⟩
theorem zWh (w0 : El zO) (l54 : List (El ze)) : LB.run zC9 (w0, (), l54, (l54.length : Int), (0 : Int), ()) = bif zd (fun i x => bif (!(xi x.1).1) then false else (bif ((zFP w0 x.1).1 != (i : Int)) then false else (bif (decide ((x6 w0 x.2.1).1 < (0 : Int))) then false else (bif (decide (x.2.2.2.2.2.2.2.2 > w0.2.2.1)) then false else (bif (!(zBG (zB zN w0.1 (x6 w0 x.2.1).1) x.2.2).1) then false else true))))) 0 l54 then .brk (w0, (), l54, (l54.length : Int), (l54.length : Int), ()) else .ret (false, ()) := LB.run_all (l := zC9) (fun i => (w0, (), l54, (l54.length : Int), (i : Int), ())) (fun i x h => by
  simp only [LB.b, zC9, zi, zQ, zR, cond_true, yM h, zG h]
  cases (!(xi x.1).1)
  ·cases ((zFP w0 x.1).1 != (i : Int))
   ·cases (decide ((x6 w0 x.2.1).1 < (0 : Int)))
    ·cases (decide (x.2.2.2.2.2.2.2.2 > w0.2.2.1))
     ·cases (!(zBG (zB zN w0.1 (x6 w0 x.2.1).1) x.2.2).1) <;> rfl
     ·rfl
    ·rfl
   ·rfl
  ·rfl) (by simp only [LB.b, zC9, xl]; rfl)
theorem zVW : SF zC9 fun x : El zO × Unit × List (El ze) × Int × Int × Unit => (0 ≤ x.2.2.2.2.1 ∧ x.2.2.2.1 = (x.2.2.1.length : Int) ∧ ∀ d ∈ x.1.1, ∀ r ∈ d.2, SzR r, x.2.2.2.1 - x.2.2.2.2.1) := xz (by
 rintro ⟨(w0 : El zO), ⟨⟩, (l54 : List (El ze)), (n55 : Int), (n56 : Int), ⟨⟩⟩ hI hw
 obtain ⟨i0, i1, k0⟩ := hI
 dsimp only at i0 i1 k0
 have _ : -9223372036854775808 ≤ n55 ∧ n55 ≤ 9223372036854775807 := zw hw.2.2.2.1
 have _ : (l54.length : Int) ≤ 16777216 := zE (hw.2.2.1.1)
 have _ := zZL w0 (zB ze l54 n56).2.1
 simp [zC9, -Prod.forall]
 repeat' first | exact k0 _ (z4 (by omega)) | assumption | intro _ | apply And.intro
 all_goals omega)
def zLt (a0 : El zO) : Tr (Bool × Unit) := bif decide ((a0.1.length : Int) > (8 : Int)) then (.v (false, ())) else (bif decide ((a0.2.1.length : Int) > (10 : Int)) then (.v (false, ())) else (bif (!(zFN a0.2.2.1).1) then (.v (false, ())) else (bif (!(z3 a0.2.2.2 (0 : Int) (a0.2.1.length : Int)).1) then (.v (false, ())) else (.lp zC7 (a0, (), a0.1, (a0.1.length : Int), (0 : Int), ()) (fun r32 => .v (r32.1, ())) (fun t32 => .lp zC9 (t32.1, (), t32.1.2.1, (t32.1.2.1.length : Int), (0 : Int), ()) (fun r33 => .v (r33.1, ())) (fun _ => .v (true, ())))))))
def zAb a0 := (zLt a0).val
def zIp (a0 : El zO) : Prop := ∀ d ∈ a0.1, ∀ r ∈ d.2, SzR r
@[reducible] def zUb : FnD := ⟨[va zO], [vd .bool], true, fun a => some (zIp a.1), fun a => zAb a.1⟩
theorem ze8 (a0 : El zO) (_ : xG zUb.args (a0, ())) (hp : zIp a0) : (zLt a0).ok := by
 unfold zIp at hp
 unfold zLt
 refine zp (fun _ => trivial) (fun h1 => ?_)
 replace h1 : ¬ ((a0.1.length : Int) > (8 : Int)) := of_decide_eq_false h1
 refine zp (fun _ => trivial) (fun h2 => ?_)
 replace h2 : ¬ ((a0.2.1.length : Int) > (10 : Int)) := of_decide_eq_false h2
 refine zp (fun _ => trivial) (fun h3 => ?_)
 refine zp (fun _ => trivial) (fun h4 => ?_)
 replace h4 := vQ h4
 replace h4 := zAN h4
 refine zI ?_ ?_
 ·exact zWs _ ⟨by (dsimp only <;> first | omega | assumption | (simp <;> omega)), by (dsimp only <;> first | omega | assumption | (simp <;> omega)), by (dsimp only <;> first | omega | assumption | (simp <;> omega))⟩
 ·refine zWL (zOJ a0 a0.1) ?_ trivial
  try dsimp only
  refine zI ?_ ?_
  ·exact zVW _ ⟨by (dsimp only <;> first | omega | assumption | (simp <;> omega)), by (dsimp only <;> first | omega | assumption | (simp <;> omega)), by (dsimp only <;> first | omega | assumption | (simp <;> omega))⟩
  ·simp
def zUY : Con Tryz.prog := yD mo g0 [zYO, zZk, zFG, zfJ, zeY, vu, zO3] [zC7, zC9] 21 zUb (fn := Tryz.f21) ⟨lk, lk, trivial⟩ (fun a hw h => yT (by kernel_rfl) (ze8 a.1 hw h) rfl)
theorem zOz (a0 : El zO) : zAb a0 = bif (decide ((a0.1.length : Int) > (8 : Int))) then (false, ()) else (bif (decide ((a0.2.1.length : Int) > (10 : Int))) then (false, ()) else (bif (!(zFN a0.2.2.1).1) then (false, ()) else (bif (!(z3 a0.2.2.2 (0 : Int) (a0.2.1.length : Int)).1) then (false, ()) else (bif zd (fun i x => bif (!(zDQ x).1) then false else (bif ((x6 a0 x.1).1 != (i : Int)) then false else true)) 0 a0.1 then (bif zd (fun i x => bif (!(xi x.1).1) then false else (bif ((zFP a0 x.1).1 != (i : Int)) then false else (bif (decide ((x6 a0 x.2.1).1 < (0 : Int))) then false else (bif (decide (x.2.2.2.2.2.2.2.2 > a0.2.2.1)) then false else (bif (!(zBG (zB zN a0.1 (x6 a0 x.2.1).1) x.2.2).1) then false else true))))) 0 a0.2.1 then (true, ()) else (false, ())) else (false, ()))))) := by
 simp only [zAb, zLt, zR, zi, zx, zQ]
 rw [zOJ, z7, zWh, z7] <;> rfl
theorem zLT {b : El zO} (h : (zAb b).1 = true) {i : Int} (hi : 0 ≤ i ∧ i < (b.2.1.length : Int)) : 0 ≤ (x6 b (zB ze b.2.1 i).2.1).1 ∧ (zBG (zB zN b.1 (x6 b (zB ze b.2.1 i).2.1).1) (zB ze b.2.1 i).2.2).1 = true := by
 rw [zOz] at h
 simp only [z6, zAY, zIT] at h
 obtain ⟨h1, h2, h3, h4, h5, h6, _⟩ := h
 rw [zr] at h6
 have := h6 i.toNat _ (zY4 hi)
 simp only [zAY] at this
 obtain ⟨g1, g2, g3, g4, g5, _⟩ := this
 have g3 := of_decide_eq_false g3
 exact ⟨by omega, vQ g5⟩
theorem zUO {b : El zO} (h : (zAb b).1 = true) : @LE.le Int _ 0 b.2.2.2 ∧ @LE.le Int _ b.2.2.2 (b.2.1.length : Int) ∧ (b.2.1.length : Int) ≤ 10 := by
 rw [zOz] at h
 simp only [z6, zAY, zIT] at h
 obtain ⟨h1, h2, h3, h4, h5, h6, _⟩ := h
 have h2 := of_decide_eq_false h2
 have h4 := zAN (vQ h4)
 omega
def zHR (a0 : El zO) (a1 : Int) : Tr (Bool × Unit) := bif decide (a1 < (0 : Int)) then (.v (false, ())) else (bif decide (a1 ≥ (a0.2.1.length : Int)) then (.v (false, ())) else (.ck (zIp a0) (bif (!(zAb a0).1) then (.v (false, ())) else (.ck (zFE a0 a1) (.v ((zA3 a0 a1).2.1, ()))))))
def vv a0 a1 := (zHR a0 a1).val
def zJk (a0 : El zO) (_a1 : Int) : Prop := ∀ d ∈ a0.1, ∀ r ∈ d.2, SzR r
@[reducible] def zR8 : FnD := ⟨[va zO, vd .int], [vd .bool], true, fun a => some (zJk a.1 a.2.1), fun a => vv a.1 a.2.1⟩
theorem zcY (a0 : El zO) (a1 : Int) (_ : xG zR8.args (a0, a1, ())) (hp : zJk a0 a1) : (zHR a0 a1).ok := by
 unfold zJk at hp
 unfold zHR
 refine zp (fun _ => trivial) (fun h1 => ?_)
 replace h1 : ¬ (a1 < (0 : Int)) := of_decide_eq_false h1
 refine zp (fun _ => trivial) (fun h2 => ?_)
 replace h2 : ¬ (a1 ≥ (a0.2.1.length : Int)) := of_decide_eq_false h2
 refine zI ?_ ?_
 ·exact hp
 ·refine zp (fun _ => trivial) (fun h3 => ?_)
  have hB := (vQ h3)
  refine zI ?_ ?_
  ·exact ⟨⟨⟨by omega, by omega⟩, (zLT hB ⟨by omega, by omega⟩).1⟩, zUJ (zLT hB ⟨by omega, by omega⟩).2⟩
  ·trivial
def zcq : Con Tryz.prog := yD mo g0 [zQg, zUY] [] 9 zR8 (fn := Tryz.f9) trivial (fun a hw h => yT (by kernel_rfl) (zcY a.1 a.2.1 hw h) rfl)
theorem zim {b : El zO} (h : (zAb b).1 = true) {i : Int} (hi : 0 ≤ i ∧ i < (b.2.1.length : Int)) : zFE b i := ⟨⟨hi, (zLT h hi).1⟩, zUJ (zLT h hi).2⟩
def zFv (a0 : El zK) : El zK × Unit := (a0, ())
@[reducible] def zj6 : FnD := ⟨[va zK], [va zK], true, fun _ => none, fun a => zFv a.1⟩
def zNx : Con Tryz.prog := yD mo g0 [] [] 230 zj6 (fn := Tryz.f230) trivial (fun _ _ _ => okv (by kernel_rfl))
def zDv (a0 : El zo) : El zo × Unit := ((a0.1, (a0.2.1, (zFv a0.2.2).1)), ())
@[reducible] def zjQ : FnD := ⟨[va zo], [va zo], true, fun _ => none, fun a => zDv a.1⟩
def zQF : Con Tryz.prog := yD mo g0 [zNx] [] 260 zjQ (fn := Tryz.f260) trivial (fun _ _ _ => okv (by kernel_rfl))
@[reducible] def zCm : LB := ⟨[], ⟨23, [], [(0, vd (.lst zo)), (3, vo zo), (4, vd .int)]⟩, ⟨23, [], []⟩, 0, fun x => (fun (l0 : List (El zo)) (l3 : List (El zo)) (n4 : Int) => (bif decide (n4 < (l0.length : Int)) then (.ix n4 l0 (.ix n4 l3 (.ik (n4 + (1 : Int)) (.v (.go (l0, (List.set l3 (Int.toNat n4) (zDv (zB zo l0 n4)).1), (n4 + (1 : Int)), ())))))) else (.v (.brk (l0, l3, n4, ()))) : Tr (St _ _))) x.1 x.2.1 x.2.2.1⟩
theorem zNw (l0 : List (El zo)) (l3 : List (El zo)) : LB.run zCm (l0, l3, (0 : Int), ()) = .brk (l0, (zg (fun i x (s : (List (El zo))) => (List.set s (Int.toNat (i : Int)) (zDv x).1)) 0 l0 l3), (l0.length : Int), ()) := LB.run_fold (l := zCm) (fun i s => (l0, s, (i : Int), ())) (fun i x s h => by
  simp only [LB.b, zCm, zQ, zR, cond_true, yM h, zG h]
  rfl) (fun s => by simp only [LB.b, zCm, xl]; rfl)
theorem zWt : SF zCm fun x : List (El zo) × List (El zo) × Int × Unit => (0 ≤ x.2.2.1 ∧ (x.1.length : Int) ≤ (x.2.1.length : Int), (x.1.length : Int) - x.2.2.1) := xz (by
 rintro ⟨(l0 : List (El zo)), (l3 : List (El zo)), (n4 : Int), ⟨⟩⟩ hI hw
 have _ : (l0.length : Int) ≤ 16777216 := zE (hw.1.1)
 simp [zCm] at hI ⊢
 repeat' first | intro _ | apply And.intro
 all_goals omega)
def zMN (a0 : List (El zo)) : Tr (List (El zo) × Unit) := .ck (0 ≤ (a0.length : Int) ∧ (a0.length : Int) ≤ (a0.length : Int) ∧ (a0.length : Int) ≤ 16777216) (.lp zCm (a0, (List.replicate (a0.length : Int).toNat ((0 : Int), ((⟨#[]⟩ : ByteArray), ((0 : Int), ((0 : Int), (⟨#[]⟩ : ByteArray)))))), (0 : Int), ()) (fun _ => .bad) (fun t2 => .v (t2.2.1, ())))
def zIr a0 := (zMN a0).val
@[reducible] def zUH : FnD := ⟨[vd (.lst zo)], [vo zo], true, fun _ => none, fun a => zIr a.1⟩
theorem zfp (a0 : List (El zo)) (hw : xG zUH.args (a0, ())) : (zMN a0).ok := by
 unfold zMN
 refine zI ?_ ?_
 ·have _ : (a0.length : Int) ≤ 16777216 := zE (hw.1.1); have _ : (a0.length : Int) ≤ 16777216 := zE (hw.1.1); have _ : (a0.length : Int) ≤ 16777216 := zE (hw.1.1); have _ : (a0.length : Int) ≤ 16777216 := zE (hw.1.1); first | omega | (simp <;> omega)
 ·refine zI ?_ ?_
  ·exact zWt _ ⟨by simp, by simp⟩
  ·refine vP (zNw a0 (List.replicate (a0.length : Int).toNat ((0 : Int), ((⟨#[]⟩ : ByteArray), ((0 : Int), ((0 : Int), (⟨#[]⟩ : ByteArray))))))) ?_
   try dsimp only
   trivial
def zeJ : Con Tryz.prog := yD mo g0 [zQF] [zCm] 259 zUH (fn := Tryz.f259) ⟨lk, trivial⟩ (fun a hw _ => yT (by kernel_rfl) (zfp a.1 hw) rfl)
theorem zfF (a0 : List (El zo)) : zIr a0 = ((zg (fun i x (s : (List (El zo))) => (List.set s (Int.toNat (i : Int)) (zDv x).1)) 0 a0 (List.replicate (a0.length : Int).toNat ((0 : Int), ((⟨#[]⟩ : ByteArray), ((0 : Int), ((0 : Int), (⟨#[]⟩ : ByteArray))))))), ()) := by
 simp only [zIr, zMN, zR, zx, zQ]
 rw [zNw, xf] <;> rfl
def zJA (a0 : El zJ) : El zJ × Unit := ((a0.1, ((zIr a0.2.1).1, a0.2.2)), ())
@[reducible] def zjk : FnD := ⟨[va zJ], [.val true (.pr (.d .str) (.pr (.o (.d zo)) (.d .bool)))], true, fun _ => none, fun a => zJA a.1⟩
def zi1 : Con Tryz.prog := yD mo g0 [zeJ] [] 223 zjk (fn := Tryz.f223) trivial (fun _ _ _ => okv (by kernel_rfl))
@[reducible] def zCl : LB := ⟨[], ⟨23, [], [(0, vd (.lst zJ)), (3, vo zJ), (4, vd .int)]⟩, ⟨23, [], []⟩, 0, fun x => (fun (l0 : List (El zJ)) (l3 : List (El zJ)) (n4 : Int) => (bif decide (n4 < (l0.length : Int)) then (.ix n4 l0 (.ix n4 l3 (.ik (n4 + (1 : Int)) (.v (.go (l0, (List.set l3 (Int.toNat n4) (zJA (zB zJ l0 n4)).1), (n4 + (1 : Int)), ())))))) else (.v (.brk (l0, l3, n4, ()))) : Tr (St _ _))) x.1 x.2.1 x.2.2.1⟩
theorem zN2 (l0 : List (El zJ)) (l3 : List (El zJ)) : LB.run zCl (l0, l3, (0 : Int), ()) = .brk (l0, (zg (fun i x (s : (List (El zJ))) => (List.set s (Int.toNat (i : Int)) (zJA x).1)) 0 l0 l3), (l0.length : Int), ()) := LB.run_fold (l := zCl) (fun i s => (l0, s, (i : Int), ())) (fun i x s h => by
  simp only [LB.b, zCl, zQ, zR, cond_true, yM h, zG h]
  rfl) (fun s => by simp only [LB.b, zCl, xl]; rfl)
theorem zVP : SF zCl fun x : List (El zJ) × List (El zJ) × Int × Unit => (0 ≤ x.2.2.1 ∧ (x.1.length : Int) ≤ (x.2.1.length : Int), (x.1.length : Int) - x.2.2.1) := xz (by
 rintro ⟨(l0 : List (El zJ)), (l3 : List (El zJ)), (n4 : Int), ⟨⟩⟩ hI hw
 have _ : (l0.length : Int) ≤ 16777216 := zE (hw.1.1)
 simp [zCl] at hI ⊢
 repeat' first | intro _ | apply And.intro
 all_goals omega)
def zLY (a0 : List (El zJ)) : Tr (List (El zJ) × Unit) := .ck (0 ≤ (a0.length : Int) ∧ (a0.length : Int) ≤ (a0.length : Int) ∧ (a0.length : Int) ≤ 16777216) (.lp zCl (a0, (List.replicate (a0.length : Int).toNat ((⟨#[]⟩ : ByteArray), (([] : List (El zo)), false))), (0 : Int), ()) (fun _ => .bad) (fun t2 => .v (t2.2.1, ())))
def zIc a0 := (zLY a0).val
@[reducible] def zUe : FnD := ⟨[vd (.lst zJ)], [vo zJ], false, fun _ => none, fun a => zIc a.1⟩
theorem zeZ (a0 : List (El zJ)) (hw : xG zUe.args (a0, ())) : (zLY a0).ok := by
 unfold zLY
 refine zI ?_ ?_
 ·have _ : (a0.length : Int) ≤ 16777216 := zE (hw.1.1); have _ : (a0.length : Int) ≤ 16777216 := zE (hw.1.1); have _ : (a0.length : Int) ≤ 16777216 := zE (hw.1.1); have _ : (a0.length : Int) ≤ 16777216 := zE (hw.1.1); first | omega | (simp <;> omega)
 ·refine zI ?_ ?_
  ·exact zVP _ ⟨by simp, by simp⟩
  ·refine vP (zN2 a0 (List.replicate (a0.length : Int).toNat ((⟨#[]⟩ : ByteArray), (([] : List (El zo)), false)))) ?_
   try dsimp only
   trivial
def zgb : Con Tryz.prog := yD mo g0 [zi1] [zCl] 172 zUe (fn := Tryz.f172) ⟨lk, trivial⟩ (fun a hw _ => yT (by kernel_rfl) (zeZ a.1 hw) rfl)
theorem zey (a0 : List (El zJ)) : zIc a0 = ((zg (fun i x (s : (List (El zJ))) => (List.set s (Int.toNat (i : Int)) (zJA x).1)) 0 a0 (List.replicate (a0.length : Int).toNat ((⟨#[]⟩ : ByteArray), (([] : List (El zo)), false)))), ()) := by
 simp only [zIc, zLY, zR, zx, zQ]
 rw [zN2, xf] <;> rfl
def zGj (a0 : El zS) : El zS × Unit := ((a0.1, ((zDv a0.2.1).1, (zDv a0.2.2).1)), ())
@[reducible] def zfa : FnD := ⟨[va zS], [va zS], true, fun _ => none, fun a => zGj a.1⟩
def zgn : Con Tryz.prog := yD mo g0 [zQF] [] 224 zfa (fn := Tryz.f224) trivial (fun _ _ _ => okv (by kernel_rfl))
@[reducible] def zBb : LB := ⟨[], ⟨23, [], [(0, vd (.lst zS)), (3, vo zS), (4, vd .int)]⟩, ⟨23, [], []⟩, 0, fun x => (fun (l0 : List (El zS)) (l3 : List (El zS)) (n4 : Int) => (bif decide (n4 < (l0.length : Int)) then (.ix n4 l0 (.ix n4 l3 (.ik (n4 + (1 : Int)) (.v (.go (l0, (List.set l3 (Int.toNat n4) (zGj (zB zS l0 n4)).1), (n4 + (1 : Int)), ())))))) else (.v (.brk (l0, l3, n4, ()))) : Tr (St _ _))) x.1 x.2.1 x.2.2.1⟩
theorem zMg (l0 : List (El zS)) (l3 : List (El zS)) : LB.run zBb (l0, l3, (0 : Int), ()) = .brk (l0, (zg (fun i x (s : (List (El zS))) => (List.set s (Int.toNat (i : Int)) (zGj x).1)) 0 l0 l3), (l0.length : Int), ()) := LB.run_fold (l := zBb) (fun i s => (l0, s, (i : Int), ())) (fun i x s h => by
  simp only [LB.b, zBb, zQ, zR, cond_true, yM h, zG h]
  rfl) (fun s => by simp only [LB.b, zBb, xl]; rfl)
theorem zTo : SF zBb fun x : List (El zS) × List (El zS) × Int × Unit => (0 ≤ x.2.2.1 ∧ (x.1.length : Int) ≤ (x.2.1.length : Int), (x.1.length : Int) - x.2.2.1) := xz (by
 rintro ⟨(l0 : List (El zS)), (l3 : List (El zS)), (n4 : Int), ⟨⟩⟩ hI hw
 have _ : (l0.length : Int) ≤ 16777216 := zE (hw.1.1)
 simp [zBb] at hI ⊢
 repeat' first | intro _ | apply And.intro
 all_goals omega)
def zJI (a0 : List (El zS)) : Tr (List (El zS) × Unit) := .ck (0 ≤ (a0.length : Int) ∧ (a0.length : Int) ≤ (a0.length : Int) ∧ (a0.length : Int) ≤ 16777216) (.lp zBb (a0, (List.replicate (a0.length : Int).toNat ((0 : Int), (((0 : Int), ((⟨#[]⟩ : ByteArray), ((0 : Int), ((0 : Int), (⟨#[]⟩ : ByteArray))))), ((0 : Int), ((⟨#[]⟩ : ByteArray), ((0 : Int), ((0 : Int), (⟨#[]⟩ : ByteArray)))))))), (0 : Int), ()) (fun _ => .bad) (fun t2 => .v (t2.2.1, ())))
def zHH a0 := (zJI a0).val
@[reducible] def zSL : FnD := ⟨[vd (.lst zS)], [vo zS], true, fun _ => none, fun a => zHH a.1⟩
theorem za5 (a0 : List (El zS)) (hw : xG zSL.args (a0, ())) : (zJI a0).ok := by
 unfold zJI
 refine zI ?_ ?_
 ·have _ : (a0.length : Int) ≤ 16777216 := zE (hw.1.1); have _ : (a0.length : Int) ≤ 16777216 := zE (hw.1.1); have _ : (a0.length : Int) ≤ 16777216 := zE (hw.1.1); have _ : (a0.length : Int) ≤ 16777216 := zE (hw.1.1); first | omega | (simp <;> omega)
 ·refine zI ?_ ?_
  ·exact zTo _ ⟨by simp, by simp⟩
  ·refine vP (zMg a0 (List.replicate (a0.length : Int).toNat ((0 : Int), (((0 : Int), ((⟨#[]⟩ : ByteArray), ((0 : Int), ((0 : Int), (⟨#[]⟩ : ByteArray))))), ((0 : Int), ((⟨#[]⟩ : ByteArray), ((0 : Int), ((0 : Int), (⟨#[]⟩ : ByteArray))))))))) ?_
   try dsimp only
   trivial
def zaa : Con Tryz.prog := yD mo g0 [zgn] [zBb] 173 zSL (fn := Tryz.f173) ⟨lk, trivial⟩ (fun a hw _ => yT (by kernel_rfl) (za5 a.1 hw) rfl)
theorem zas (a0 : List (El zS)) : zHH a0 = ((zg (fun i x (s : (List (El zS))) => (List.set s (Int.toNat (i : Int)) (zGj x).1)) 0 a0 (List.replicate (a0.length : Int).toNat ((0 : Int), (((0 : Int), ((⟨#[]⟩ : ByteArray), ((0 : Int), ((0 : Int), (⟨#[]⟩ : ByteArray))))), ((0 : Int), ((⟨#[]⟩ : ByteArray), ((0 : Int), ((0 : Int), (⟨#[]⟩ : ByteArray))))))))), ()) := by
 simp only [zHH, zJI, zR, zx, zQ]
 rw [zMg, xf] <;> rfl
def zGn (a0 : El zq) : El zq × Unit := ((a0.1, ((zDv a0.2.1).1, (zDv a0.2.2).1)), ())
@[reducible] def zgw : FnD := ⟨[va zq], [va zq], true, fun _ => none, fun a => zGn a.1⟩
def zgI : Con Tryz.prog := yD mo g0 [zQF] [] 278 zgw (fn := Tryz.f278) trivial (fun _ _ _ => okv (by kernel_rfl))
@[reducible] def zBZ : LB := ⟨[], ⟨23, [], [(0, vd (.lst zq)), (3, vo zq), (4, vd .int)]⟩, ⟨23, [], []⟩, 0, fun x => (fun (l0 : List (El zq)) (l3 : List (El zq)) (n4 : Int) => (bif decide (n4 < (l0.length : Int)) then (.ix n4 l0 (.ix n4 l3 (.ik (n4 + (1 : Int)) (.v (.go (l0, (List.set l3 (Int.toNat n4) (zGn (zB zq l0 n4)).1), (n4 + (1 : Int)), ())))))) else (.v (.brk (l0, l3, n4, ()))) : Tr (St _ _))) x.1 x.2.1 x.2.2.1⟩
theorem zMt (l0 : List (El zq)) (l3 : List (El zq)) : LB.run zBZ (l0, l3, (0 : Int), ()) = .brk (l0, (zg (fun i x (s : (List (El zq))) => (List.set s (Int.toNat (i : Int)) (zGn x).1)) 0 l0 l3), (l0.length : Int), ()) := LB.run_fold (l := zBZ) (fun i s => (l0, s, (i : Int), ())) (fun i x s h => by
  simp only [LB.b, zBZ, zQ, zR, cond_true, yM h, zG h]
  rfl) (fun s => by simp only [LB.b, zBZ, xl]; rfl)
theorem zSe : SF zBZ fun x : List (El zq) × List (El zq) × Int × Unit => (0 ≤ x.2.2.1 ∧ (x.1.length : Int) ≤ (x.2.1.length : Int), (x.1.length : Int) - x.2.2.1) := xz (by
 rintro ⟨(l0 : List (El zq)), (l3 : List (El zq)), (n4 : Int), ⟨⟩⟩ hI hw
 have _ : (l0.length : Int) ≤ 16777216 := zE (hw.1.1)
 simp [zBZ] at hI ⊢
 repeat' first | intro _ | apply And.intro
 all_goals omega)
def zKM (a0 : List (El zq)) : Tr (List (El zq) × Unit) := .ck (0 ≤ (a0.length : Int) ∧ (a0.length : Int) ≤ (a0.length : Int) ∧ (a0.length : Int) ≤ 16777216) (.lp zBZ (a0, (List.replicate (a0.length : Int).toNat ((⟨#[]⟩ : ByteArray), (((0 : Int), ((⟨#[]⟩ : ByteArray), ((0 : Int), ((0 : Int), (⟨#[]⟩ : ByteArray))))), ((0 : Int), ((⟨#[]⟩ : ByteArray), ((0 : Int), ((0 : Int), (⟨#[]⟩ : ByteArray)))))))), (0 : Int), ()) (fun _ => .bad) (fun t2 => .v (t2.2.1, ())))
def zG0 a0 := (zKM a0).val
@[reducible] def zRk : FnD := ⟨[vd (.lst zq)], [vo zq], true, fun _ => none, fun a => zG0 a.1⟩
theorem zaN (a0 : List (El zq)) (hw : xG zRk.args (a0, ())) : (zKM a0).ok := by
 unfold zKM
 refine zI ?_ ?_
 ·have _ : (a0.length : Int) ≤ 16777216 := zE (hw.1.1); have _ : (a0.length : Int) ≤ 16777216 := zE (hw.1.1); have _ : (a0.length : Int) ≤ 16777216 := zE (hw.1.1); have _ : (a0.length : Int) ≤ 16777216 := zE (hw.1.1); first | omega | (simp <;> omega)
 ·refine zI ?_ ?_
  ·exact zSe _ ⟨by simp, by simp⟩
  ·refine vP (zMt a0 (List.replicate (a0.length : Int).toNat ((⟨#[]⟩ : ByteArray), (((0 : Int), ((⟨#[]⟩ : ByteArray), ((0 : Int), ((0 : Int), (⟨#[]⟩ : ByteArray))))), ((0 : Int), ((⟨#[]⟩ : ByteArray), ((0 : Int), ((0 : Int), (⟨#[]⟩ : ByteArray))))))))) ?_
   try dsimp only
   trivial
def zbX : Con Tryz.prog := yD mo g0 [zgI] [zBZ] 261 zRk (fn := Tryz.f261) ⟨lk, trivial⟩ (fun a hw _ => yT (by kernel_rfl) (zaN a.1 hw) rfl)
theorem zc8 (a0 : List (El zq)) : zG0 a0 = ((zg (fun i x (s : (List (El zq))) => (List.set s (Int.toNat (i : Int)) (zGn x).1)) 0 a0 (List.replicate (a0.length : Int).toNat ((⟨#[]⟩ : ByteArray), (((0 : Int), ((⟨#[]⟩ : ByteArray), ((0 : Int), ((0 : Int), (⟨#[]⟩ : ByteArray))))), ((0 : Int), ((⟨#[]⟩ : ByteArray), ((0 : Int), ((0 : Int), (⟨#[]⟩ : ByteArray))))))))), ()) := by
 simp only [zG0, zKM, zR, zx, zQ]
 rw [zMt, xf] <;> rfl
def zIa (a0 : El z5) : El z5 × Unit := ((a0.1, (a0.2.1, ((zG0 a0.2.2.1).1, a0.2.2.2))), ())
@[reducible] def zif : FnD := ⟨[va z5], [.val true (.pr (.d .int) (.pr (.d .str) (.pr (.o (.d zq)) (.d (.pr .int .str)))))], true, fun _ => none, fun a => zIa a.1⟩
def zj7 : Con Tryz.prog := yD mo g0 [zbX] [] 225 zif (fn := Tryz.f225) trivial (fun _ _ _ => okv (by kernel_rfl))
@[reducible] def zDJ : LB := ⟨[], ⟨23, [], [(0, vd (.lst z5)), (3, vo z5), (4, vd .int)]⟩, ⟨23, [], []⟩, 0, fun x => (fun (l0 : List (El z5)) (l3 : List (El z5)) (n4 : Int) => (bif decide (n4 < (l0.length : Int)) then (.ix n4 l0 (.ix n4 l3 (.ik (n4 + (1 : Int)) (.v (.go (l0, (List.set l3 (Int.toNat n4) (zIa (zB z5 l0 n4)).1), (n4 + (1 : Int)), ())))))) else (.v (.brk (l0, l3, n4, ()))) : Tr (St _ _))) x.1 x.2.1 x.2.2.1⟩
theorem zNT (l0 : List (El z5)) (l3 : List (El z5)) : LB.run zDJ (l0, l3, (0 : Int), ()) = .brk (l0, (zg (fun i x (s : (List (El z5))) => (List.set s (Int.toNat (i : Int)) (zIa x).1)) 0 l0 l3), (l0.length : Int), ()) := LB.run_fold (l := zDJ) (fun i s => (l0, s, (i : Int), ())) (fun i x s h => by
  simp only [LB.b, zDJ, zQ, zR, cond_true, yM h, zG h]
  rfl) (fun s => by simp only [LB.b, zDJ, xl]; rfl)
theorem zXR : SF zDJ fun x : List (El z5) × List (El z5) × Int × Unit => (0 ≤ x.2.2.1 ∧ (x.1.length : Int) ≤ (x.2.1.length : Int), (x.1.length : Int) - x.2.2.1) := xz (by
 rintro ⟨(l0 : List (El z5)), (l3 : List (El z5)), (n4 : Int), ⟨⟩⟩ hI hw
 have _ : (l0.length : Int) ≤ 16777216 := zE (hw.1.1)
 simp [zDJ] at hI ⊢
 repeat' first | intro _ | apply And.intro
 all_goals omega)
def zMB (a0 : List (El z5)) : Tr (List (El z5) × Unit) := .ck (0 ≤ (a0.length : Int) ∧ (a0.length : Int) ≤ (a0.length : Int) ∧ (a0.length : Int) ≤ 16777216) (.lp zDJ (a0, (List.replicate (a0.length : Int).toNat ((0 : Int), ((⟨#[]⟩ : ByteArray), (([] : List (El zq)), ((0 : Int), (⟨#[]⟩ : ByteArray)))))), (0 : Int), ()) (fun _ => .bad) (fun t2 => .v (t2.2.1, ())))
def zIY a0 := (zMB a0).val
@[reducible] def zUh : FnD := ⟨[vd (.lst z5)], [vo z5], false, fun _ => none, fun a => zIY a.1⟩
theorem zfb (a0 : List (El z5)) (hw : xG zUh.args (a0, ())) : (zMB a0).ok := by
 unfold zMB
 refine zI ?_ ?_
 ·have _ : (a0.length : Int) ≤ 16777216 := zE (hw.1.1); have _ : (a0.length : Int) ≤ 16777216 := zE (hw.1.1); have _ : (a0.length : Int) ≤ 16777216 := zE (hw.1.1); have _ : (a0.length : Int) ≤ 16777216 := zE (hw.1.1); first | omega | (simp <;> omega)
 ·refine zI ?_ ?_
  ·exact zXR _ ⟨by simp, by simp⟩
  ·refine vP (zNT a0 (List.replicate (a0.length : Int).toNat ((0 : Int), ((⟨#[]⟩ : ByteArray), (([] : List (El zq)), ((0 : Int), (⟨#[]⟩ : ByteArray))))))) ?_
   try dsimp only
   trivial
def zg6 : Con Tryz.prog := yD mo g0 [zj7] [zDJ] 174 zUh (fn := Tryz.f174) ⟨lk, trivial⟩ (fun a hw _ => yT (by kernel_rfl) (zfb a.1 hw) rfl)
theorem zfk (a0 : List (El z5)) : zIY a0 = ((zg (fun i x (s : (List (El z5))) => (List.set s (Int.toNat (i : Int)) (zIa x).1)) 0 a0 (List.replicate (a0.length : Int).toNat ((0 : Int), ((⟨#[]⟩ : ByteArray), (([] : List (El zq)), ((0 : Int), (⟨#[]⟩ : ByteArray))))))), ()) := by
 simp only [zIY, zMB, zR, zx, zQ]
 rw [zNT, xf] <;> rfl
def zGm (a0 : El zC) : El zC × Unit := ((a0.1, (a0.2.1, ((zIc a0.2.2.1).1, ((zHH a0.2.2.2.1).1, (zIY a0.2.2.2.2).1)))), ())
@[reducible] def zgD : FnD := ⟨[va zC], [.val true (.pr (.d .str) (.pr (.d .int) (.pr (.o (.d zJ)) (.pr (.o (.d zS)) (.o (.d z5))))))], false, fun _ => none, fun a => zGm a.1⟩
def zhY : Con Tryz.prog := yD mo g0 [zgb, zaa, zg6] [] 112 zgD (fn := Tryz.f112) trivial (fun _ _ _ => okv (by kernel_rfl))
@[reducible] def zBT : LB := ⟨[], ⟨23, [], [(0, vd (.lst zC)), (3, vo zC), (4, vd .int)]⟩, ⟨23, [], []⟩, 0, fun x => (fun (l0 : List (El zC)) (l3 : List (El zC)) (n4 : Int) => (bif decide (n4 < (l0.length : Int)) then (.ix n4 l0 (.ix n4 l3 (.ik (n4 + (1 : Int)) (.v (.go (l0, (List.set l3 (Int.toNat n4) (zGm (zB zC l0 n4)).1), (n4 + (1 : Int)), ())))))) else (.v (.brk (l0, l3, n4, ()))) : Tr (St _ _))) x.1 x.2.1 x.2.2.1⟩
theorem zMk (l0 : List (El zC)) (l3 : List (El zC)) : LB.run zBT (l0, l3, (0 : Int), ()) = .brk (l0, (zg (fun i x (s : (List (El zC))) => (List.set s (Int.toNat (i : Int)) (zGm x).1)) 0 l0 l3), (l0.length : Int), ()) := LB.run_fold (l := zBT) (fun i s => (l0, s, (i : Int), ())) (fun i x s h => by
  simp only [LB.b, zBT, zQ, zR, cond_true, yM h, zG h]
  rfl) (fun s => by simp only [LB.b, zBT, xl]; rfl)
theorem zT0 : SF zBT fun x : List (El zC) × List (El zC) × Int × Unit => (0 ≤ x.2.2.1 ∧ (x.1.length : Int) ≤ (x.2.1.length : Int), (x.1.length : Int) - x.2.2.1) := xz (by
 rintro ⟨(l0 : List (El zC)), (l3 : List (El zC)), (n4 : Int), ⟨⟩⟩ hI hw
 have _ : (l0.length : Int) ≤ 16777216 := zE (hw.1.1)
 simp [zBT] at hI ⊢
 repeat' first | intro _ | apply And.intro
 all_goals omega)
def zKP (a0 : List (El zC)) : Tr (List (El zC) × Unit) := .ck (0 ≤ (a0.length : Int) ∧ (a0.length : Int) ≤ (a0.length : Int) ∧ (a0.length : Int) ≤ 16777216) (.lp zBT (a0, (List.replicate (a0.length : Int).toNat ((⟨#[]⟩ : ByteArray), ((0 : Int), (([] : List (El zJ)), (([] : List (El zS)), ([] : List (El z5))))))), (0 : Int), ()) (fun _ => .bad) (fun t2 => .v (t2.2.1, ())))
def zG6 a0 := (zKP a0).val
@[reducible] def zQp : FnD := ⟨[vd (.lst zC)], [vo zC], false, fun _ => none, fun a => zG6 a.1⟩
theorem zcl (a0 : List (El zC)) (hw : xG zQp.args (a0, ())) : (zKP a0).ok := by
 unfold zKP
 refine zI ?_ ?_
 ·have _ : (a0.length : Int) ≤ 16777216 := zE (hw.1.1); have _ : (a0.length : Int) ≤ 16777216 := zE (hw.1.1); have _ : (a0.length : Int) ≤ 16777216 := zE (hw.1.1); have _ : (a0.length : Int) ≤ 16777216 := zE (hw.1.1); first | omega | (simp <;> omega)
 ·refine zI ?_ ?_
  ·exact zT0 _ ⟨by simp, by simp⟩
  ·refine vP (zMk a0 (List.replicate (a0.length : Int).toNat ((⟨#[]⟩ : ByteArray), ((0 : Int), (([] : List (El zJ)), (([] : List (El zS)), ([] : List (El z5)))))))) ?_
   try dsimp only
   trivial
def zch : Con Tryz.prog := yD mo g0 [zhY] [zBT] 65 zQp (fn := Tryz.f65) ⟨lk, trivial⟩ (fun a hw _ => yT (by kernel_rfl) (zcl a.1 hw) rfl)
theorem zdH (a0 : List (El zC)) : zG6 a0 = ((zg (fun i x (s : (List (El zC))) => (List.set s (Int.toNat (i : Int)) (zGm x).1)) 0 a0 (List.replicate (a0.length : Int).toNat ((⟨#[]⟩ : ByteArray), ((0 : Int), (([] : List (El zJ)), (([] : List (El zS)), ([] : List (El z5)))))))), ()) := by
 simp only [zG6, zKP, zR, zx, zQ]
 rw [zMk, xf] <;> rfl
def zJC (a0 : El zN) : El zN × Unit := ((a0.1, (zG6 a0.2).1), ())
@[reducible] def zjF : FnD := ⟨[va zN], [.val true (.pr (.d .str) (.o (.d zC)))], false, fun _ => none, fun a => zJC a.1⟩
def zj1 : Con Tryz.prog := yD mo g0 [zch] [] 36 zjF (fn := Tryz.f36) trivial (fun _ _ _ => okv (by kernel_rfl))
@[reducible] def zDH : LB := ⟨[], ⟨23, [], [(0, vd (.lst zN)), (3, vo zN), (4, vd .int)]⟩, ⟨23, [], []⟩, 0, fun x => (fun (l0 : List (El zN)) (l3 : List (El zN)) (n4 : Int) => (bif decide (n4 < (l0.length : Int)) then (.ix n4 l0 (.ix n4 l3 (.ik (n4 + (1 : Int)) (.v (.go (l0, (List.set l3 (Int.toNat n4) (zJC (zB zN l0 n4)).1), (n4 + (1 : Int)), ())))))) else (.v (.brk (l0, l3, n4, ()))) : Tr (St _ _))) x.1 x.2.1 x.2.2.1⟩
theorem zNZ (l0 : List (El zN)) (l3 : List (El zN)) : LB.run zDH (l0, l3, (0 : Int), ()) = .brk (l0, (zg (fun i x (s : (List (El zN))) => (List.set s (Int.toNat (i : Int)) (zJC x).1)) 0 l0 l3), (l0.length : Int), ()) := LB.run_fold (l := zDH) (fun i s => (l0, s, (i : Int), ())) (fun i x s h => by
  simp only [LB.b, zDH, zQ, zR, cond_true, yM h, zG h]
  rfl) (fun s => by simp only [LB.b, zDH, xl]; rfl)
theorem zWg : SF zDH fun x : List (El zN) × List (El zN) × Int × Unit => (0 ≤ x.2.2.1 ∧ (x.1.length : Int) ≤ (x.2.1.length : Int), (x.1.length : Int) - x.2.2.1) := xz (by
 rintro ⟨(l0 : List (El zN)), (l3 : List (El zN)), (n4 : Int), ⟨⟩⟩ hI hw
 have _ : (l0.length : Int) ≤ 16777216 := zE (hw.1.1)
 simp [zDH] at hI ⊢
 repeat' first | intro _ | apply And.intro
 all_goals omega)
def zLp (a0 : List (El zN)) : Tr (List (El zN) × Unit) := .ck (0 ≤ (a0.length : Int) ∧ (a0.length : Int) ≤ (a0.length : Int) ∧ (a0.length : Int) ≤ 16777216) (.lp zDH (a0, (List.replicate (a0.length : Int).toNat ((⟨#[]⟩ : ByteArray), ([] : List (El zC)))), (0 : Int), ()) (fun _ => .bad) (fun t2 => .v (t2.2.1, ())))
def zIn a0 := (zLp a0).val
@[reducible] def zT4 : FnD := ⟨[vd (.lst zN)], [vo zN], false, fun _ => none, fun a => zIn a.1⟩
theorem zgi (a0 : List (El zN)) (hw : xG zT4.args (a0, ())) : (zLp a0).ok := by
 unfold zLp
 refine zI ?_ ?_
 ·have _ : (a0.length : Int) ≤ 16777216 := zE (hw.1.1); have _ : (a0.length : Int) ≤ 16777216 := zE (hw.1.1); have _ : (a0.length : Int) ≤ 16777216 := zE (hw.1.1); have _ : (a0.length : Int) ≤ 16777216 := zE (hw.1.1); first | omega | (simp <;> omega)
 ·refine zI ?_ ?_
  ·exact zWg _ ⟨by simp, by simp⟩
  ·refine vP (zNZ a0 (List.replicate (a0.length : Int).toNat ((⟨#[]⟩ : ByteArray), ([] : List (El zC))))) ?_
   try dsimp only
   trivial
def zgQ : Con Tryz.prog := yD mo g0 [zj1] [zDH] 19 zT4 (fn := Tryz.f19) ⟨lk, trivial⟩ (fun a hw _ => yT (by kernel_rfl) (zgi a.1 hw) rfl)
theorem zgJ (a0 : List (El zN)) : zIn a0 = ((zg (fun i x (s : (List (El zN))) => (List.set s (Int.toNat (i : Int)) (zJC x).1)) 0 a0 (List.replicate (a0.length : Int).toNat ((⟨#[]⟩ : ByteArray), ([] : List (El zC))))), ()) := by
 simp only [zIn, zLp, zR, zx, zQ]
 rw [zNZ, xf] <;> rfl
@[reducible] def zDN : LB := ⟨[], ⟨23, [], [(0, vd (.lst zK)), (3, vo zK), (4, vd .int)]⟩, ⟨23, [], []⟩, 0, fun x => (fun (l0 : List (El zK)) (l3 : List (El zK)) (n4 : Int) => (bif decide (n4 < (l0.length : Int)) then (.ix n4 l0 (.ix n4 l3 (.ik (n4 + (1 : Int)) (.v (.go (l0, (List.set l3 (Int.toNat n4) (zFv (zB zK l0 n4)).1), (n4 + (1 : Int)), ())))))) else (.v (.brk (l0, l3, n4, ()))) : Tr (St _ _))) x.1 x.2.1 x.2.2.1⟩
theorem zOD (l0 : List (El zK)) (l3 : List (El zK)) : LB.run zDN (l0, l3, (0 : Int), ()) = .brk (l0, (zg (fun i x (s : (List (El zK))) => (List.set s (Int.toNat (i : Int)) (zFv x).1)) 0 l0 l3), (l0.length : Int), ()) := LB.run_fold (l := zDN) (fun i s => (l0, s, (i : Int), ())) (fun i x s h => by
  simp only [LB.b, zDN, zQ, zR, cond_true, yM h, zG h]
  rfl) (fun s => by simp only [LB.b, zDN, xl]; rfl)
theorem zWU : SF zDN fun x : List (El zK) × List (El zK) × Int × Unit => (0 ≤ x.2.2.1 ∧ (x.1.length : Int) ≤ (x.2.1.length : Int), (x.1.length : Int) - x.2.2.1) := xz (by
 rintro ⟨(l0 : List (El zK)), (l3 : List (El zK)), (n4 : Int), ⟨⟩⟩ hI hw
 have _ : (l0.length : Int) ≤ 16777216 := zE (hw.1.1)
 simp [zDN] at hI ⊢
 repeat' first | intro _ | apply And.intro
 all_goals omega)
def zMT (a0 : List (El zK)) : Tr (List (El zK) × Unit) := .ck (0 ≤ (a0.length : Int) ∧ (a0.length : Int) ≤ (a0.length : Int) ∧ (a0.length : Int) ≤ 16777216) (.lp zDN (a0, (List.replicate (a0.length : Int).toNat ((0 : Int), ((0 : Int), (⟨#[]⟩ : ByteArray)))), (0 : Int), ()) (fun _ => .bad) (fun t2 => .v (t2.2.1, ())))
def zIX a0 := (zMT a0).val
@[reducible] def zT9 : FnD := ⟨[vd (.lst zK)], [vo zK], true, fun _ => none, fun a => zIX a.1⟩
theorem zgh (a0 : List (El zK)) (hw : xG zT9.args (a0, ())) : (zMT a0).ok := by
 unfold zMT
 refine zI ?_ ?_
 ·have _ : (a0.length : Int) ≤ 16777216 := zE (hw.1.1); have _ : (a0.length : Int) ≤ 16777216 := zE (hw.1.1); have _ : (a0.length : Int) ≤ 16777216 := zE (hw.1.1); have _ : (a0.length : Int) ≤ 16777216 := zE (hw.1.1); first | omega | (simp <;> omega)
 ·refine zI ?_ ?_
  ·exact zWU _ ⟨by simp, by simp⟩
  ·refine vP (zOD a0 (List.replicate (a0.length : Int).toNat ((0 : Int), ((0 : Int), (⟨#[]⟩ : ByteArray))))) ?_
   try dsimp only
   trivial
def zeD : Con Tryz.prog := yD mo g0 [zNx] [zDN] 263 zT9 (fn := Tryz.f263) ⟨lk, trivial⟩ (fun a hw _ => yT (by kernel_rfl) (zgh a.1 hw) rfl)
theorem ze1 (a0 : List (El zK)) : zIX a0 = ((zg (fun i x (s : (List (El zK))) => (List.set s (Int.toNat (i : Int)) (zFv x).1)) 0 a0 (List.replicate (a0.length : Int).toNat ((0 : Int), ((0 : Int), (⟨#[]⟩ : ByteArray))))), ()) := by
 simp only [zIX, zMT, zR, zx, zQ]
 rw [zOD, xf] <;> rfl
def zFI (a0 : El zt) : El zt × Unit := ((a0.1, (zIX a0.2).1), ())
@[reducible] def zge : FnD := ⟨[va zt], [.val true (.pr (.d .str) (.o (.d zK)))], true, fun _ => none, fun a => zFI a.1⟩
def zML : Con Tryz.prog := yD mo g0 [zeD] [] 229 zge (fn := Tryz.f229) trivial (fun _ _ _ => okv (by kernel_rfl))
def zGt (a0 : El zD) : El zD × Unit := ((a0.1, (zFI a0.2).1), ())
@[reducible] def zex : FnD := ⟨[va zD], [.val true (.pr (.d .int) (.pr (.d .str) (.o (.d zK))))], true, fun _ => none, fun a => zGt a.1⟩
def zhU : Con Tryz.prog := yD mo g0 [zML] [] 226 zex (fn := Tryz.f226) trivial (fun _ _ _ => okv (by kernel_rfl))
@[reducible] def zBh : LB := ⟨[], ⟨23, [], [(0, vd (.lst zD)), (3, vo zD), (4, vd .int)]⟩, ⟨23, [], []⟩, 0, fun x => (fun (l0 : List (El zD)) (l3 : List (El zD)) (n4 : Int) => (bif decide (n4 < (l0.length : Int)) then (.ix n4 l0 (.ix n4 l3 (.ik (n4 + (1 : Int)) (.v (.go (l0, (List.set l3 (Int.toNat n4) (zGt (zB zD l0 n4)).1), (n4 + (1 : Int)), ())))))) else (.v (.brk (l0, l3, n4, ()))) : Tr (St _ _))) x.1 x.2.1 x.2.2.1⟩
theorem zMp (l0 : List (El zD)) (l3 : List (El zD)) : LB.run zBh (l0, l3, (0 : Int), ()) = .brk (l0, (zg (fun i x (s : (List (El zD))) => (List.set s (Int.toNat (i : Int)) (zGt x).1)) 0 l0 l3), (l0.length : Int), ()) := LB.run_fold (l := zBh) (fun i s => (l0, s, (i : Int), ())) (fun i x s h => by
  simp only [LB.b, zBh, zQ, zR, cond_true, yM h, zG h]
  rfl) (fun s => by simp only [LB.b, zBh, xl]; rfl)
theorem zT1 : SF zBh fun x : List (El zD) × List (El zD) × Int × Unit => (0 ≤ x.2.2.1 ∧ (x.1.length : Int) ≤ (x.2.1.length : Int), (x.1.length : Int) - x.2.2.1) := xz (by
 rintro ⟨(l0 : List (El zD)), (l3 : List (El zD)), (n4 : Int), ⟨⟩⟩ hI hw
 have _ : (l0.length : Int) ≤ 16777216 := zE (hw.1.1)
 simp [zBh] at hI ⊢
 repeat' first | intro _ | apply And.intro
 all_goals omega)
def zKL (a0 : List (El zD)) : Tr (List (El zD) × Unit) := .ck (0 ≤ (a0.length : Int) ∧ (a0.length : Int) ≤ (a0.length : Int) ∧ (a0.length : Int) ≤ 16777216) (.lp zBh (a0, (List.replicate (a0.length : Int).toNat ((0 : Int), ((⟨#[]⟩ : ByteArray), ([] : List (El zK))))), (0 : Int), ()) (fun _ => .bad) (fun t2 => .v (t2.2.1, ())))
def zGy a0 := (zKL a0).val
@[reducible] def zRO : FnD := ⟨[vd (.lst zD)], [vo zD], false, fun _ => none, fun a => zGy a.1⟩
theorem zbr (a0 : List (El zD)) (hw : xG zRO.args (a0, ())) : (zKL a0).ok := by
 unfold zKL
 refine zI ?_ ?_
 ·have _ : (a0.length : Int) ≤ 16777216 := zE (hw.1.1); have _ : (a0.length : Int) ≤ 16777216 := zE (hw.1.1); have _ : (a0.length : Int) ≤ 16777216 := zE (hw.1.1); have _ : (a0.length : Int) ≤ 16777216 := zE (hw.1.1); first | omega | (simp <;> omega)
 ·refine zI ?_ ?_
  ·exact zT1 _ ⟨by simp, by simp⟩
  ·refine vP (zMp a0 (List.replicate (a0.length : Int).toNat ((0 : Int), ((⟨#[]⟩ : ByteArray), ([] : List (El zK)))))) ?_
   try dsimp only
   trivial
def zbo : Con Tryz.prog := yD mo g0 [zhU] [zBh] 175 zRO (fn := Tryz.f175) ⟨lk, trivial⟩ (fun a hw _ => yT (by kernel_rfl) (zbr a.1 hw) rfl)
theorem zcO (a0 : List (El zD)) : zGy a0 = ((zg (fun i x (s : (List (El zD))) => (List.set s (Int.toNat (i : Int)) (zGt x).1)) 0 a0 (List.replicate (a0.length : Int).toNat ((0 : Int), ((⟨#[]⟩ : ByteArray), ([] : List (El zK)))))), ()) := by
 simp only [zGy, zKL, zR, zx, zQ]
 rw [zMp, xf] <;> rfl
def zJY (a0 : El zH) : El zH × Unit := (((zGy a0.1).1, a0.2), ())
@[reducible] def zbW : FnD := ⟨[va zH], [.val true (.pr (.o (.d zD)) (.d .int))], false, fun _ => none, fun a => zJY a.1⟩
def zai : Con Tryz.prog := yD mo g0 [zbo] [] 113 zbW (fn := Tryz.f113) trivial (fun _ _ _ => okv (by kernel_rfl))
@[reducible] def zCk : LB := ⟨[], ⟨22, [], [(0, vd (.lst .int)), (3, vo .int), (4, vd .int)]⟩, ⟨22, [], []⟩, 0, fun x => (fun (l0 : List (El .int)) (l3 : List (El .int)) (n4 : Int) => (bif decide (n4 < (l0.length : Int)) then (.ix n4 l0 (.ix n4 l3 (.ik (n4 + (1 : Int)) (.v (.go (l0, (List.set l3 (Int.toNat n4) (zB .int l0 n4)), (n4 + (1 : Int)), ())))))) else (.v (.brk (l0, l3, n4, ()))) : Tr (St _ _))) x.1 x.2.1 x.2.2.1⟩
theorem zNL (l0 : List (El .int)) (l3 : List (El .int)) : LB.run zCk (l0, l3, (0 : Int), ()) = .brk (l0, (zg (fun i x (s : (List (El .int))) => (List.set s (Int.toNat (i : Int)) x)) 0 l0 l3), (l0.length : Int), ()) := LB.run_fold (l := zCk) (fun i s => (l0, s, (i : Int), ())) (fun i x s h => by
  simp only [LB.b, zCk, zQ, zR, cond_true, yM h, zG h]
  rfl) (fun s => by simp only [LB.b, zCk, xl]; rfl)
theorem zVU : SF zCk fun x : List (El .int) × List (El .int) × Int × Unit => (0 ≤ x.2.2.1 ∧ (x.1.length : Int) ≤ (x.2.1.length : Int), (x.1.length : Int) - x.2.2.1) := xz (by
 rintro ⟨(l0 : List (El .int)), (l3 : List (El .int)), (n4 : Int), ⟨⟩⟩ hI hw
 have _ : (l0.length : Int) ≤ 16777216 := zE (hw.1.1)
 simp [zCk] at hI ⊢
 repeat' first | intro _ | apply And.intro
 all_goals omega)
def zLI (a0 : List (El .int)) : Tr (List (El .int) × Unit) := .ck (0 ≤ (a0.length : Int) ∧ (a0.length : Int) ≤ (a0.length : Int) ∧ (a0.length : Int) ≤ 16777216) (.lp zCk (a0, (List.replicate (a0.length : Int).toNat (0 : Int)), (0 : Int), ()) (fun _ => .bad) (fun t1 => .v (t1.2.1, ())))
def zIm a0 := (zLI a0).val
@[reducible] def zUy : FnD := ⟨[vd (.lst .int)], [vo .int], true, fun _ => none, fun a => zIm a.1⟩
theorem zfP (a0 : List (El .int)) (hw : xG zUy.args (a0, ())) : (zLI a0).ok := by
 unfold zLI
 refine zI ?_ ?_
 ·have _ : (a0.length : Int) ≤ 16777216 := zE (hw.1.1); have _ : (a0.length : Int) ≤ 16777216 := zE (hw.1.1); have _ : (a0.length : Int) ≤ 16777216 := zE (hw.1.1); have _ : (a0.length : Int) ≤ 16777216 := zE (hw.1.1); first | omega | (simp <;> omega)
 ·refine zI ?_ ?_
  ·exact zVU _ ⟨by simp, by simp⟩
  ·refine vP (zNL a0 (List.replicate (a0.length : Int).toNat (0 : Int))) ?_
   try dsimp only
   trivial
def ze6 : Con Tryz.prog := yD mo g0 [] [zCk] 227 zUy (fn := Tryz.f227) ⟨lk, trivial⟩ (fun a hw _ => yT (by kernel_rfl) (zfP a.1 hw) rfl)
theorem zez (a0 : List (El .int)) : zIm a0 = ((zg (fun i x (s : (List (El .int))) => (List.set s (Int.toNat (i : Int)) x)) 0 a0 (List.replicate (a0.length : Int).toNat (0 : Int))), ()) := by
 simp only [zIm, zLI, zR, zx, zQ]
 rw [zNL, xf] <;> rfl
def zGr (a0 : El zF) : El zF × Unit := ((a0.1, (zFv a0.2).1), ())
@[reducible] def zeA : FnD := ⟨[va zF], [va zF], true, fun _ => none, fun a => zGr a.1⟩
def zfA : Con Tryz.prog := yD mo g0 [zNx] [] 262 zeA (fn := Tryz.f262) trivial (fun _ _ _ => okv (by kernel_rfl))
@[reducible] def zBR : LB := ⟨[], ⟨23, [], [(0, vd (.lst zF)), (3, vo zF), (4, vd .int)]⟩, ⟨23, [], []⟩, 0, fun x => (fun (l0 : List (El zF)) (l3 : List (El zF)) (n4 : Int) => (bif decide (n4 < (l0.length : Int)) then (.ix n4 l0 (.ix n4 l3 (.ik (n4 + (1 : Int)) (.v (.go (l0, (List.set l3 (Int.toNat n4) (zGr (zB zF l0 n4)).1), (n4 + (1 : Int)), ())))))) else (.v (.brk (l0, l3, n4, ()))) : Tr (St _ _))) x.1 x.2.1 x.2.2.1⟩
theorem zMb (l0 : List (El zF)) (l3 : List (El zF)) : LB.run zBR (l0, l3, (0 : Int), ()) = .brk (l0, (zg (fun i x (s : (List (El zF))) => (List.set s (Int.toNat (i : Int)) (zGr x).1)) 0 l0 l3), (l0.length : Int), ()) := LB.run_fold (l := zBR) (fun i s => (l0, s, (i : Int), ())) (fun i x s h => by
  simp only [LB.b, zBR, zQ, zR, cond_true, yM h, zG h]
  rfl) (fun s => by simp only [LB.b, zBR, xl]; rfl)
theorem zTN : SF zBR fun x : List (El zF) × List (El zF) × Int × Unit => (0 ≤ x.2.2.1 ∧ (x.1.length : Int) ≤ (x.2.1.length : Int), (x.1.length : Int) - x.2.2.1) := xz (by
 rintro ⟨(l0 : List (El zF)), (l3 : List (El zF)), (n4 : Int), ⟨⟩⟩ hI hw
 have _ : (l0.length : Int) ≤ 16777216 := zE (hw.1.1)
 simp [zBR] at hI ⊢
 repeat' first | intro _ | apply And.intro
 all_goals omega)
def zKC (a0 : List (El zF)) : Tr (List (El zF) × Unit) := .ck (0 ≤ (a0.length : Int) ∧ (a0.length : Int) ≤ (a0.length : Int) ∧ (a0.length : Int) ≤ 16777216) (.lp zBR (a0, (List.replicate (a0.length : Int).toNat ((⟨#[]⟩ : ByteArray), ((0 : Int), ((0 : Int), (⟨#[]⟩ : ByteArray))))), (0 : Int), ()) (fun _ => .bad) (fun t2 => .v (t2.2.1, ())))
def zHG a0 := (zKC a0).val
@[reducible] def zQc : FnD := ⟨[vd (.lst zF)], [vo zF], true, fun _ => none, fun a => zHG a.1⟩
theorem za1 (a0 : List (El zF)) (hw : xG zQc.args (a0, ())) : (zKC a0).ok := by
 unfold zKC
 refine zI ?_ ?_
 ·have _ : (a0.length : Int) ≤ 16777216 := zE (hw.1.1); have _ : (a0.length : Int) ≤ 16777216 := zE (hw.1.1); have _ : (a0.length : Int) ≤ 16777216 := zE (hw.1.1); have _ : (a0.length : Int) ≤ 16777216 := zE (hw.1.1); first | omega | (simp <;> omega)
 ·refine zI ?_ ?_
  ·exact zTN _ ⟨by simp, by simp⟩
  ·refine vP (zMb a0 (List.replicate (a0.length : Int).toNat ((⟨#[]⟩ : ByteArray), ((0 : Int), ((0 : Int), (⟨#[]⟩ : ByteArray)))))) ?_
   try dsimp only
   trivial
def zaO : Con Tryz.prog := yD mo g0 [zfA] [zBR] 228 zQc (fn := Tryz.f228) ⟨lk, trivial⟩ (fun a hw _ => yT (by kernel_rfl) (za1 a.1 hw) rfl)
theorem zcV (a0 : List (El zF)) : zHG a0 = ((zg (fun i x (s : (List (El zF))) => (List.set s (Int.toNat (i : Int)) (zGr x).1)) 0 a0 (List.replicate (a0.length : Int).toNat ((⟨#[]⟩ : ByteArray), ((0 : Int), ((0 : Int), (⟨#[]⟩ : ByteArray)))))), ()) := by
 simp only [zHG, zKC, zR, zx, zQ]
 rw [zMb, xf] <;> rfl
def zFM (a0 : El zA) : El zA × Unit := ((a0.1, ((zIm a0.2.1).1, (zHG a0.2.2).1)), ())
@[reducible] def zbA : FnD := ⟨[va zA], [.val true (.pr (.d .int) (.pr (.o (.d .int)) (.o (.d zF))))], true, fun _ => none, fun a => zFM a.1⟩
def zbD : Con Tryz.prog := yD mo g0 [ze6, zaO] [] 176 zbA (fn := Tryz.f176) trivial (fun _ _ _ => okv (by kernel_rfl))
@[reducible] def zAe : LB := ⟨[], ⟨23, [], [(0, vd (.lst zA)), (3, vo zA), (4, vd .int)]⟩, ⟨23, [], []⟩, 0, fun x => (fun (l0 : List (El zA)) (l3 : List (El zA)) (n4 : Int) => (bif decide (n4 < (l0.length : Int)) then (.ix n4 l0 (.ix n4 l3 (.ik (n4 + (1 : Int)) (.v (.go (l0, (List.set l3 (Int.toNat n4) (zFM (zB zA l0 n4)).1), (n4 + (1 : Int)), ())))))) else (.v (.brk (l0, l3, n4, ()))) : Tr (St _ _))) x.1 x.2.1 x.2.2.1⟩
theorem zKs (l0 : List (El zA)) (l3 : List (El zA)) : LB.run zAe (l0, l3, (0 : Int), ()) = .brk (l0, (zg (fun i x (s : (List (El zA))) => (List.set s (Int.toNat (i : Int)) (zFM x).1)) 0 l0 l3), (l0.length : Int), ()) := LB.run_fold (l := zAe) (fun i s => (l0, s, (i : Int), ())) (fun i x s h => by
  simp only [LB.b, zAe, zQ, zR, cond_true, yM h, zG h]
  rfl) (fun s => by simp only [LB.b, zAe, xl]; rfl)
theorem zQQ : SF zAe fun x : List (El zA) × List (El zA) × Int × Unit => (0 ≤ x.2.2.1 ∧ (x.1.length : Int) ≤ (x.2.1.length : Int), (x.1.length : Int) - x.2.2.1) := xz (by
 rintro ⟨(l0 : List (El zA)), (l3 : List (El zA)), (n4 : Int), ⟨⟩⟩ hI hw
 have _ : (l0.length : Int) ≤ 16777216 := zE (hw.1.1)
 simp [zAe] at hI ⊢
 repeat' first | intro _ | apply And.intro
 all_goals omega)
def zHx (a0 : List (El zA)) : Tr (List (El zA) × Unit) := .ck (0 ≤ (a0.length : Int) ∧ (a0.length : Int) ≤ (a0.length : Int) ∧ (a0.length : Int) ≤ 16777216) (.lp zAe (a0, (List.replicate (a0.length : Int).toNat ((0 : Int), (([] : List (El .int)), ([] : List (El zF))))), (0 : Int), ()) (fun _ => .bad) (fun t2 => .v (t2.2.1, ())))
def zFw a0 := (zHx a0).val
@[reducible] def zPO : FnD := ⟨[vd (.lst zA)], [vo zA], false, fun _ => none, fun a => zFw a.1⟩
theorem zZe (a0 : List (El zA)) (hw : xG zPO.args (a0, ())) : (zHx a0).ok := by
 unfold zHx
 refine zI ?_ ?_
 ·have _ : (a0.length : Int) ≤ 16777216 := zE (hw.1.1); have _ : (a0.length : Int) ≤ 16777216 := zE (hw.1.1); have _ : (a0.length : Int) ≤ 16777216 := zE (hw.1.1); have _ : (a0.length : Int) ≤ 16777216 := zE (hw.1.1); first | omega | (simp <;> omega)
 ·refine zI ?_ ?_
  ·exact zQQ _ ⟨by simp, by simp⟩
  ·refine vP (zKs a0 (List.replicate (a0.length : Int).toNat ((0 : Int), (([] : List (El .int)), ([] : List (El zF)))))) ?_
   try dsimp only
   trivial
def zXq : Con Tryz.prog := yD mo g0 [zbD] [zAe] 114 zPO (fn := Tryz.f114) ⟨lk, trivial⟩ (fun a hw _ => yT (by kernel_rfl) (zZe a.1 hw) rfl)
theorem zZx (a0 : List (El zA)) : zFw a0 = ((zg (fun i x (s : (List (El zA))) => (List.set s (Int.toNat (i : Int)) (zFM x).1)) 0 a0 (List.replicate (a0.length : Int).toNat ((0 : Int), (([] : List (El .int)), ([] : List (El zF)))))), ()) := by
 simp only [zFw, zHx, zR, zx, zQ]
 rw [zKs, xf] <;> rfl
def zGp (a0 : El zP) : El zP × Unit := (((zFI a0.1).1, (a0.2.1, (a0.2.2.1, (a0.2.2.2.1, (a0.2.2.2.2.1, (zFv a0.2.2.2.2.2).1))))), ())
@[reducible] def zhf : FnD := ⟨[va zP], [.val true (.pr (.pr (.d .str) (.o (.d zK))) (.d (.pr .str (.pr .int (.pr .int (.pr .int zK))))))], true, fun _ => none, fun a => zGp a.1⟩
def zhX : Con Tryz.prog := yD mo g0 [zML, zNx] [] 177 zhf (fn := Tryz.f177) trivial (fun _ _ _ => okv (by kernel_rfl))
@[reducible] def zBi : LB := ⟨[], ⟨23, [], [(0, vd (.lst zP)), (3, vo zP), (4, vd .int)]⟩, ⟨23, [], []⟩, 0, fun x => (fun (l0 : List (El zP)) (l3 : List (El zP)) (n4 : Int) => (bif decide (n4 < (l0.length : Int)) then (.ix n4 l0 (.ix n4 l3 (.ik (n4 + (1 : Int)) (.v (.go (l0, (List.set l3 (Int.toNat n4) (zGp (zB zP l0 n4)).1), (n4 + (1 : Int)), ())))))) else (.v (.brk (l0, l3, n4, ()))) : Tr (St _ _))) x.1 x.2.1 x.2.2.1⟩
theorem zMv (l0 : List (El zP)) (l3 : List (El zP)) : LB.run zBi (l0, l3, (0 : Int), ()) = .brk (l0, (zg (fun i x (s : (List (El zP))) => (List.set s (Int.toNat (i : Int)) (zGp x).1)) 0 l0 l3), (l0.length : Int), ()) := LB.run_fold (l := zBi) (fun i s => (l0, s, (i : Int), ())) (fun i x s h => by
  simp only [LB.b, zBi, zQ, zR, cond_true, yM h, zG h]
  rfl) (fun s => by simp only [LB.b, zBi, xl]; rfl)
theorem zTm : SF zBi fun x : List (El zP) × List (El zP) × Int × Unit => (0 ≤ x.2.2.1 ∧ (x.1.length : Int) ≤ (x.2.1.length : Int), (x.1.length : Int) - x.2.2.1) := xz (by
 rintro ⟨(l0 : List (El zP)), (l3 : List (El zP)), (n4 : Int), ⟨⟩⟩ hI hw
 have _ : (l0.length : Int) ≤ 16777216 := zE (hw.1.1)
 simp [zBi] at hI ⊢
 repeat' first | intro _ | apply And.intro
 all_goals omega)
def zJ7 (a0 : List (El zP)) : Tr (List (El zP) × Unit) := .ck (0 ≤ (a0.length : Int) ∧ (a0.length : Int) ≤ (a0.length : Int) ∧ (a0.length : Int) ≤ 16777216) (.lp zBi (a0, (List.replicate (a0.length : Int).toNat (((⟨#[]⟩ : ByteArray), ([] : List (El zK))), ((⟨#[]⟩ : ByteArray), ((0 : Int), ((0 : Int), ((0 : Int), ((0 : Int), ((0 : Int), (⟨#[]⟩ : ByteArray))))))))), (0 : Int), ()) (fun _ => .bad) (fun t2 => .v (t2.2.1, ())))
def zHg a0 := (zJ7 a0).val
@[reducible] def zRC : FnD := ⟨[vd (.lst zP)], [vo zP], false, fun _ => none, fun a => zHg a.1⟩
theorem zaw (a0 : List (El zP)) (hw : xG zRC.args (a0, ())) : (zJ7 a0).ok := by
 unfold zJ7
 refine zI ?_ ?_
 ·have _ : (a0.length : Int) ≤ 16777216 := zE (hw.1.1); have _ : (a0.length : Int) ≤ 16777216 := zE (hw.1.1); have _ : (a0.length : Int) ≤ 16777216 := zE (hw.1.1); have _ : (a0.length : Int) ≤ 16777216 := zE (hw.1.1); first | omega | (simp <;> omega)
 ·refine zI ?_ ?_
  ·exact zTm _ ⟨by simp, by simp⟩
  ·refine vP (zMv a0 (List.replicate (a0.length : Int).toNat (((⟨#[]⟩ : ByteArray), ([] : List (El zK))), ((⟨#[]⟩ : ByteArray), ((0 : Int), ((0 : Int), ((0 : Int), ((0 : Int), ((0 : Int), (⟨#[]⟩ : ByteArray)))))))))) ?_
   try dsimp only
   trivial
def zbk : Con Tryz.prog := yD mo g0 [zhX] [zBi] 115 zRC (fn := Tryz.f115) ⟨lk, trivial⟩ (fun a hw _ => yT (by kernel_rfl) (zaw a.1 hw) rfl)
theorem zcx (a0 : List (El zP)) : zHg a0 = ((zg (fun i x (s : (List (El zP))) => (List.set s (Int.toNat (i : Int)) (zGp x).1)) 0 a0 (List.replicate (a0.length : Int).toNat (((⟨#[]⟩ : ByteArray), ([] : List (El zK))), ((⟨#[]⟩ : ByteArray), ((0 : Int), ((0 : Int), ((0 : Int), ((0 : Int), ((0 : Int), (⟨#[]⟩ : ByteArray)))))))))), ()) := by
 simp only [zHg, zJ7, zR, zx, zQ]
 rw [zMv, xf] <;> rfl
def zFa (a0 : El zD) : El zD × Unit := ((a0.1, (zFI a0.2).1), ())
@[reducible] def zb5 : FnD := ⟨[va zD], [.val true (.pr (.d .int) (.pr (.d .str) (.o (.d zK))))], true, fun _ => none, fun a => zFa a.1⟩
def zaT : Con Tryz.prog := yD mo g0 [zML] [] 178 zb5 (fn := Tryz.f178) trivial (fun _ _ _ => okv (by kernel_rfl))
@[reducible] def zAl : LB := ⟨[], ⟨23, [], [(0, vd (.lst zD)), (3, vo zD), (4, vd .int)]⟩, ⟨23, [], []⟩, 0, fun x => (fun (l0 : List (El zD)) (l3 : List (El zD)) (n4 : Int) => (bif decide (n4 < (l0.length : Int)) then (.ix n4 l0 (.ix n4 l3 (.ik (n4 + (1 : Int)) (.v (.go (l0, (List.set l3 (Int.toNat n4) (zFa (zB zD l0 n4)).1), (n4 + (1 : Int)), ())))))) else (.v (.brk (l0, l3, n4, ()))) : Tr (St _ _))) x.1 x.2.1 x.2.2.1⟩
theorem zK3 (l0 : List (El zD)) (l3 : List (El zD)) : LB.run zAl (l0, l3, (0 : Int), ()) = .brk (l0, (zg (fun i x (s : (List (El zD))) => (List.set s (Int.toNat (i : Int)) (zFa x).1)) 0 l0 l3), (l0.length : Int), ()) := LB.run_fold (l := zAl) (fun i s => (l0, s, (i : Int), ())) (fun i x s h => by
  simp only [LB.b, zAl, zQ, zR, cond_true, yM h, zG h]
  rfl) (fun s => by simp only [LB.b, zAl, xl]; rfl)
theorem zRK : SF zAl fun x : List (El zD) × List (El zD) × Int × Unit => (0 ≤ x.2.2.1 ∧ (x.1.length : Int) ≤ (x.2.1.length : Int), (x.1.length : Int) - x.2.2.1) := xz (by
 rintro ⟨(l0 : List (El zD)), (l3 : List (El zD)), (n4 : Int), ⟨⟩⟩ hI hw
 have _ : (l0.length : Int) ≤ 16777216 := zE (hw.1.1)
 simp [zAl] at hI ⊢
 repeat' first | intro _ | apply And.intro
 all_goals omega)
def zIG (a0 : List (El zD)) : Tr (List (El zD) × Unit) := .ck (0 ≤ (a0.length : Int) ∧ (a0.length : Int) ≤ (a0.length : Int) ∧ (a0.length : Int) ≤ 16777216) (.lp zAl (a0, (List.replicate (a0.length : Int).toNat ((0 : Int), ((⟨#[]⟩ : ByteArray), ([] : List (El zK))))), (0 : Int), ()) (fun _ => .bad) (fun t2 => .v (t2.2.1, ())))
def zGD a0 := (zIG a0).val
@[reducible] def zPL : FnD := ⟨[vd (.lst zD)], [vo zD], false, fun _ => none, fun a => zGD a.1⟩
theorem zZD (a0 : List (El zD)) (hw : xG zPL.args (a0, ())) : (zIG a0).ok := by
 unfold zIG
 refine zI ?_ ?_
 ·have _ : (a0.length : Int) ≤ 16777216 := zE (hw.1.1); have _ : (a0.length : Int) ≤ 16777216 := zE (hw.1.1); have _ : (a0.length : Int) ≤ 16777216 := zE (hw.1.1); have _ : (a0.length : Int) ≤ 16777216 := zE (hw.1.1); first | omega | (simp <;> omega)
 ·refine zI ?_ ?_
  ·exact zRK _ ⟨by simp, by simp⟩
  ·refine vP (zK3 a0 (List.replicate (a0.length : Int).toNat ((0 : Int), ((⟨#[]⟩ : ByteArray), ([] : List (El zK)))))) ?_
   try dsimp only
   trivial
def zZu : Con Tryz.prog := yD mo g0 [zaT] [zAl] 116 zPL (fn := Tryz.f116) ⟨lk, trivial⟩ (fun a hw _ => yT (by kernel_rfl) (zZD a.1 hw) rfl)
theorem zYj (a0 : List (El zD)) : zGD a0 = ((zg (fun i x (s : (List (El zD))) => (List.set s (Int.toNat (i : Int)) (zFa x).1)) 0 a0 (List.replicate (a0.length : Int).toNat ((0 : Int), ((⟨#[]⟩ : ByteArray), ([] : List (El zK)))))), ()) := by
 simp only [zGD, zIG, zR, zx, zQ]
 rw [zK3, xf] <;> rfl
def zGq (a0 : El zV) : El zV × Unit := ((a0.1, (zFI a0.2).1), ())
@[reducible] def zg5 : FnD := ⟨[va zV], [.val true (.pr (.d .str) (.pr (.d .str) (.o (.d zK))))], true, fun _ => none, fun a => zGq a.1⟩
def zd6 : Con Tryz.prog := yD mo g0 [zML] [] 179 zg5 (fn := Tryz.f179) trivial (fun _ _ _ => okv (by kernel_rfl))
@[reducible] def zBe : LB := ⟨[], ⟨23, [], [(0, vd (.lst zV)), (3, vo zV), (4, vd .int)]⟩, ⟨23, [], []⟩, 0, fun x => (fun (l0 : List (El zV)) (l3 : List (El zV)) (n4 : Int) => (bif decide (n4 < (l0.length : Int)) then (.ix n4 l0 (.ix n4 l3 (.ik (n4 + (1 : Int)) (.v (.go (l0, (List.set l3 (Int.toNat n4) (zGq (zB zV l0 n4)).1), (n4 + (1 : Int)), ())))))) else (.v (.brk (l0, l3, n4, ()))) : Tr (St _ _))) x.1 x.2.1 x.2.2.1⟩
theorem zMh (l0 : List (El zV)) (l3 : List (El zV)) : LB.run zBe (l0, l3, (0 : Int), ()) = .brk (l0, (zg (fun i x (s : (List (El zV))) => (List.set s (Int.toNat (i : Int)) (zGq x).1)) 0 l0 l3), (l0.length : Int), ()) := LB.run_fold (l := zBe) (fun i s => (l0, s, (i : Int), ())) (fun i x s h => by
  simp only [LB.b, zBe, zQ, zR, cond_true, yM h, zG h]
  rfl) (fun s => by simp only [LB.b, zBe, xl]; rfl)
theorem zSw : SF zBe fun x : List (El zV) × List (El zV) × Int × Unit => (0 ≤ x.2.2.1 ∧ (x.1.length : Int) ≤ (x.2.1.length : Int), (x.1.length : Int) - x.2.2.1) := xz (by
 rintro ⟨(l0 : List (El zV)), (l3 : List (El zV)), (n4 : Int), ⟨⟩⟩ hI hw
 have _ : (l0.length : Int) ≤ 16777216 := zE (hw.1.1)
 simp [zBe] at hI ⊢
 repeat' first | intro _ | apply And.intro
 all_goals omega)
def zJ4 (a0 : List (El zV)) : Tr (List (El zV) × Unit) := .ck (0 ≤ (a0.length : Int) ∧ (a0.length : Int) ≤ (a0.length : Int) ∧ (a0.length : Int) ≤ 16777216) (.lp zBe (a0, (List.replicate (a0.length : Int).toNat ((⟨#[]⟩ : ByteArray), ((⟨#[]⟩ : ByteArray), ([] : List (El zK))))), (0 : Int), ()) (fun _ => .bad) (fun t2 => .v (t2.2.1, ())))
def zHf a0 := (zJ4 a0).val
@[reducible] def zQS : FnD := ⟨[vd (.lst zV)], [vo zV], false, fun _ => none, fun a => zHf a.1⟩
theorem zaE (a0 : List (El zV)) (hw : xG zQS.args (a0, ())) : (zJ4 a0).ok := by
 unfold zJ4
 refine zI ?_ ?_
 ·have _ : (a0.length : Int) ≤ 16777216 := zE (hw.1.1); have _ : (a0.length : Int) ≤ 16777216 := zE (hw.1.1); have _ : (a0.length : Int) ≤ 16777216 := zE (hw.1.1); have _ : (a0.length : Int) ≤ 16777216 := zE (hw.1.1); first | omega | (simp <;> omega)
 ·refine zI ?_ ?_
  ·exact zSw _ ⟨by simp, by simp⟩
  ·refine vP (zMh a0 (List.replicate (a0.length : Int).toNat ((⟨#[]⟩ : ByteArray), ((⟨#[]⟩ : ByteArray), ([] : List (El zK)))))) ?_
   try dsimp only
   trivial
def zaR : Con Tryz.prog := yD mo g0 [zd6] [zBe] 117 zQS (fn := Tryz.f117) ⟨lk, trivial⟩ (fun a hw _ => yT (by kernel_rfl) (zaE a.1 hw) rfl)
theorem zdC (a0 : List (El zV)) : zHf a0 = ((zg (fun i x (s : (List (El zV))) => (List.set s (Int.toNat (i : Int)) (zGq x).1)) 0 a0 (List.replicate (a0.length : Int).toNat ((⟨#[]⟩ : ByteArray), ((⟨#[]⟩ : ByteArray), ([] : List (El zK)))))), ()) := by
 simp only [zHf, zJ4, zR, zx, zQ]
 rw [zMh, xf] <;> rfl
def zLj (a0 : El yf) : El yf × Unit := (((zJY a0.1).1, ((zFw a0.2.1).1, ((zHg a0.2.2.1).1, ((zGD a0.2.2.2.1).1, ((zHf a0.2.2.2.2.1).1, a0.2.2.2.2.2))))), ())
@[reducible] def zgB : FnD := ⟨[va yf], [.val true (.pr (.pr (.o (.d zD)) (.d .int)) (.pr (.o (.d zA)) (.pr (.o (.d zP)) (.pr (.o (.d zD)) (.pr (.o (.d zV)) (.d (.pr .int .int)))))))], false, fun _ => none, fun a => zLj a.1⟩
def zhC : Con Tryz.prog := yD mo g0 [zai, zXq, zbk, zZu, zaR] [] 66 zgB (fn := Tryz.f66) trivial (fun _ _ _ => okv (by kernel_rfl))
def zGk (a0 : El ze) : El ze × Unit := ((a0.1, (a0.2.1, (zLj a0.2.2).1)), ())
@[reducible] def zeO : FnD := ⟨[va ze], [.val true (.pr (.d .str) (.pr (.d .str) (.pr (.pr (.o (.d zD)) (.d .int)) (.pr (.o (.d zA)) (.pr (.o (.d zP)) (.pr (.o (.d zD)) (.pr (.o (.d zV)) (.d (.pr .int .int)))))))))], false, fun _ => none, fun a => zGk a.1⟩
def zhW : Con Tryz.prog := yD mo g0 [zhC] [] 37 zeO (fn := Tryz.f37) trivial (fun _ _ _ => okv (by kernel_rfl))
@[reducible] def zBj : LB := ⟨[], ⟨23, [], [(0, vd (.lst ze)), (3, vo ze), (4, vd .int)]⟩, ⟨23, [], []⟩, 0, fun x => (fun (l0 : List (El ze)) (l3 : List (El ze)) (n4 : Int) => (bif decide (n4 < (l0.length : Int)) then (.ix n4 l0 (.ix n4 l3 (.ik (n4 + (1 : Int)) (.v (.go (l0, (List.set l3 (Int.toNat n4) (zGk (zB ze l0 n4)).1), (n4 + (1 : Int)), ())))))) else (.v (.brk (l0, l3, n4, ()))) : Tr (St _ _))) x.1 x.2.1 x.2.2.1⟩
theorem zMc (l0 : List (El ze)) (l3 : List (El ze)) : LB.run zBj (l0, l3, (0 : Int), ()) = .brk (l0, (zg (fun i x (s : (List (El ze))) => (List.set s (Int.toNat (i : Int)) (zGk x).1)) 0 l0 l3), (l0.length : Int), ()) := LB.run_fold (l := zBj) (fun i s => (l0, s, (i : Int), ())) (fun i x s h => by
  simp only [LB.b, zBj, zQ, zR, cond_true, yM h, zG h]
  rfl) (fun s => by simp only [LB.b, zBj, xl]; rfl)
theorem zTI : SF zBj fun x : List (El ze) × List (El ze) × Int × Unit => (0 ≤ x.2.2.1 ∧ (x.1.length : Int) ≤ (x.2.1.length : Int), (x.1.length : Int) - x.2.2.1) := xz (by
 rintro ⟨(l0 : List (El ze)), (l3 : List (El ze)), (n4 : Int), ⟨⟩⟩ hI hw
 have _ : (l0.length : Int) ≤ 16777216 := zE (hw.1.1)
 simp [zBj] at hI ⊢
 repeat' first | intro _ | apply And.intro
 all_goals omega)
def zJy (a0 : List (El ze)) : Tr (List (El ze) × Unit) := .ck (0 ≤ (a0.length : Int) ∧ (a0.length : Int) ≤ (a0.length : Int) ∧ (a0.length : Int) ≤ 16777216) (.lp zBj (a0, (List.replicate (a0.length : Int).toNat ((⟨#[]⟩ : ByteArray), ((⟨#[]⟩ : ByteArray), ((([] : List (El zD)), (0 : Int)), (([] : List (El zA)), (([] : List (El zP)), (([] : List (El zD)), (([] : List (El zV)), ((0 : Int), (0 : Int)))))))))), (0 : Int), ()) (fun _ => .bad) (fun t2 => .v (t2.2.1, ())))
def zHk a0 := (zJy a0).val
@[reducible] def zRu : FnD := ⟨[vd (.lst ze)], [vo ze], false, fun _ => none, fun a => zHk a.1⟩
theorem zcg (a0 : List (El ze)) (hw : xG zRu.args (a0, ())) : (zJy a0).ok := by
 unfold zJy
 refine zI ?_ ?_
 ·have _ : (a0.length : Int) ≤ 16777216 := zE (hw.1.1); have _ : (a0.length : Int) ≤ 16777216 := zE (hw.1.1); have _ : (a0.length : Int) ≤ 16777216 := zE (hw.1.1); have _ : (a0.length : Int) ≤ 16777216 := zE (hw.1.1); first | omega | (simp <;> omega)
 ·refine zI ?_ ?_
  ·exact zTI _ ⟨by simp, by simp⟩
  ·refine vP (zMc a0 (List.replicate (a0.length : Int).toNat ((⟨#[]⟩ : ByteArray), ((⟨#[]⟩ : ByteArray), ((([] : List (El zD)), (0 : Int)), (([] : List (El zA)), (([] : List (El zP)), (([] : List (El zD)), (([] : List (El zV)), ((0 : Int), (0 : Int))))))))))) ?_
   try dsimp only
   trivial
def zbV : Con Tryz.prog := yD mo g0 [zhW] [zBj] 20 zRu (fn := Tryz.f20) ⟨lk, trivial⟩ (fun a hw _ => yT (by kernel_rfl) (zcg a.1 hw) rfl)
theorem zbf (a0 : List (El ze)) : zHk a0 = ((zg (fun i x (s : (List (El ze))) => (List.set s (Int.toNat (i : Int)) (zGk x).1)) 0 a0 (List.replicate (a0.length : Int).toNat ((⟨#[]⟩ : ByteArray), ((⟨#[]⟩ : ByteArray), ((([] : List (El zD)), (0 : Int)), (([] : List (El zA)), (([] : List (El zP)), (([] : List (El zD)), (([] : List (El zV)), ((0 : Int), (0 : Int))))))))))), ()) := by
 simp only [zHk, zJy, zR, zx, zQ]
 rw [zMc, xf] <;> rfl
def zOt (a0 : El zO) : El zO × Unit := (((zIn a0.1).1, ((zHk a0.2.1).1, a0.2.2)), ())
@[reducible] def zOm : FnD := ⟨[va zO], [.val true (.pr (.o (.d zN)) (.pr (.o (.d ze)) (.d (.pr .int .int))))], false, fun _ => none, fun a => zOt a.1⟩
def zfs : Con Tryz.prog := yD mo g0 [zgQ, zbV] [] 8 zOm (fn := Tryz.f8) trivial (fun _ _ _ => okv (by kernel_rfl))
def zOU (a0 : El zK) (a1 : El zK) : Tr (Bool × Unit) := bif (a0.1 != a1.1) then (.v (false, ())) else (bif (a0.2.1 != a1.2.1) then (.v (false, ())) else (bif (!(a0.2.2.toList == a1.2.2.toList)) then (.v (false, ())) else (.v (true, ()))))
def zDf a0 a1 := (zOU a0 a1).val
@[reducible] def zh6 : FnD := ⟨[va zK, va zK], [vd .bool], true, fun _ => none, fun a => zDf a.1 a.2.1⟩
def zN6 : Con Tryz.prog := yD mo g0 [] [] 249 zh6 (fn := Tryz.f249) trivial (fun a _ _ => yT (t' := zOU a.1 a.2.1) (by kernel_rfl) (by simp [zOU]) rfl)
def zNO (a0 : El zo) (a1 : El zo) : Tr (Bool × Unit) := bif (a0.1 != a1.1) then (.v (false, ())) else (bif (!(a0.2.1.toList == a1.2.1.toList)) then (.v (false, ())) else (bif (!(zDf a0.2.2 a1.2.2).1) then (.v (false, ())) else (.v (true, ()))))
def zCN a0 a1 := (zNO a0 a1).val
@[reducible] def zh3 : FnD := ⟨[va zo, va zo], [vd .bool], true, fun _ => none, fun a => zCN a.1 a.2.1⟩
def zSV : Con Tryz.prog := yD mo g0 [zN6] [] 269 zh3 (fn := Tryz.f269) trivial (fun a _ _ => yT (t' := zNO a.1 a.2.1) (by kernel_rfl) (by simp [zNO]) rfl)
@[reducible] def zCn : LB := ⟨[], ⟨27, [], [(0, vd (.lst zo)), (1, vd (.lst zo)), (5, vd .int)]⟩, ⟨27, [], [(4, vd .bool)]⟩, 0, fun x => (fun (l0 : List (El zo)) (l1 : List (El zo)) (n5 : Int) => (bif decide (n5 < (l0.length : Int)) then (.ix n5 l0 (.ix n5 l1 (bif (!(zCN (zB zo l0 n5) (zB zo l1 n5)).1) then (.v (.ret (false, ()))) else (.ik (n5 + (1 : Int)) (.v (.go (l0, l1, (n5 + (1 : Int)), ()))))))) else (.v (.brk (l0, l1, n5, ()))) : Tr (St _ _))) x.1 x.2.1 x.2.2.1⟩
theorem zXM (l0 : List (El zo)) (l1 : List (El zo)) : LB.run zCn (l0, l1, (0 : Int), ()) = bif zd (fun i x => bif (!(zCN x (zB zo l1 (i : Int))).1) then false else true) 0 l0 then .brk (l0, l1, (l0.length : Int), ()) else .ret (false, ()) := LB.run_all (l := zCn) (fun i => (l0, l1, (i : Int), ())) (fun i x h => by
  simp only [LB.b, zCn, zi, zQ, zR, cond_true, yM h, zG h]
  cases (!(zCN x (zB zo l1 (i : Int))).1) <;> rfl) (by simp only [LB.b, zCn, xl]; rfl)
theorem zVm : SF zCn fun x : List (El zo) × List (El zo) × Int × Unit => (0 ≤ x.2.2.1 ∧ (x.1.length : Int) ≤ (x.2.1.length : Int), (x.1.length : Int) - x.2.2.1) := xz (by
 rintro ⟨(l0 : List (El zo)), (l1 : List (El zo)), (n5 : Int), ⟨⟩⟩ hI hw
 have _ : (l0.length : Int) ≤ 16777216 := zE (hw.1.1)
 simp [zCn] at hI ⊢
 repeat' first | intro _ | apply And.intro
 all_goals omega)
def zL8 (a0 : List (El zo)) (a1 : List (El zo)) : Tr (Bool × Unit) := bif ((a0.length : Int) != (a1.length : Int)) then (.v (false, ())) else (.lp zCn (a0, a1, (0 : Int), ()) (fun r2 => .v (r2.1, ())) (fun _ => .v (true, ())))
def zIZ a0 a1 := (zL8 a0 a1).val
@[reducible] def zUn : FnD := ⟨[vd (.lst zo), vd (.lst zo)], [vd .bool], true, fun _ => none, fun a => zIZ a.1 a.2.1⟩
theorem zfv (a0 : List (El zo)) (a1 : List (El zo)) (_ : xG zUn.args (a0, a1, ())) : (zL8 a0 a1).ok := by
 unfold zL8
 refine zp (fun _ => trivial) (fun h1 => ?_)
 replace h1 := zAp h1
 refine zI ?_ ?_
 ·exact zVm _ ⟨by (dsimp only <;> omega), by (dsimp only <;> omega)⟩
 ·simp
def zha : Con Tryz.prog := yD mo g0 [zSV] [zCn] 268 zUn (fn := Tryz.f268) ⟨lk, trivial⟩ (fun a hw _ => yT (by kernel_rfl) (zfv a.1 a.2.1 hw) rfl)
theorem zei (a0 : List (El zo)) (a1 : List (El zo)) : zIZ a0 a1 = bif ((a0.length : Int) != (a1.length : Int)) then (false, ()) else (bif zd (fun i x => bif (!(zCN x (zB zo a1 (i : Int))).1) then false else true) 0 a0 then (true, ()) else (false, ())) := by
 simp only [zIZ, zL8, zR, zi, zx, zQ]
 rw [zXM, z7] <;> rfl
def zNb (a0 : El zJ) (a1 : El zJ) : Tr (Bool × Unit) := bif (!(a0.1.toList == a1.1.toList)) then (.v (false, ())) else (bif (!(zIZ a0.2.1 a1.2.1).1) then (.v (false, ())) else (bif (!(a0.2.2 == a1.2.2)) then (.v (false, ())) else (.v (true, ()))))
def zGA a0 a1 := (zNb a0 a1).val
@[reducible] def zjp : FnD := ⟨[va zJ, va zJ], [vd .bool], true, fun _ => none, fun a => zGA a.1 a.2.1⟩
def zho : Con Tryz.prog := yD mo g0 [zha] [] 242 zjp (fn := Tryz.f242) trivial (fun a _ _ => yT (t' := zNb a.1 a.2.1) (by kernel_rfl) (by simp [zNb]) rfl)
@[reducible] def zCy : LB := ⟨[], ⟨27, [], [(0, vd (.lst zJ)), (1, vd (.lst zJ)), (5, vd .int)]⟩, ⟨27, [], [(4, vd .bool)]⟩, 0, fun x => (fun (l0 : List (El zJ)) (l1 : List (El zJ)) (n5 : Int) => (bif decide (n5 < (l0.length : Int)) then (.ix n5 l0 (.ix n5 l1 (bif (!(zGA (zB zJ l0 n5) (zB zJ l1 n5)).1) then (.v (.ret (false, ()))) else (.ik (n5 + (1 : Int)) (.v (.go (l0, l1, (n5 + (1 : Int)), ()))))))) else (.v (.brk (l0, l1, n5, ()))) : Tr (St _ _))) x.1 x.2.1 x.2.2.1⟩
theorem zWW (l0 : List (El zJ)) (l1 : List (El zJ)) : LB.run zCy (l0, l1, (0 : Int), ()) = bif zd (fun i x => bif (!(zGA x (zB zJ l1 (i : Int))).1) then false else true) 0 l0 then .brk (l0, l1, (l0.length : Int), ()) else .ret (false, ()) := LB.run_all (l := zCy) (fun i => (l0, l1, (i : Int), ())) (fun i x h => by
  simp only [LB.b, zCy, zi, zQ, zR, cond_true, yM h, zG h]
  cases (!(zGA x (zB zJ l1 (i : Int))).1) <;> rfl) (by simp only [LB.b, zCy, xl]; rfl)
theorem zWF : SF zCy fun x : List (El zJ) × List (El zJ) × Int × Unit => (0 ≤ x.2.2.1 ∧ (x.1.length : Int) ≤ (x.2.1.length : Int), (x.1.length : Int) - x.2.2.1) := xz (by
 rintro ⟨(l0 : List (El zJ)), (l1 : List (El zJ)), (n5 : Int), ⟨⟩⟩ hI hw
 have _ : (l0.length : Int) ≤ 16777216 := zE (hw.1.1)
 simp [zCy] at hI ⊢
 repeat' first | intro _ | apply And.intro
 all_goals omega)
def zMC (a0 : List (El zJ)) (a1 : List (El zJ)) : Tr (Bool × Unit) := bif ((a0.length : Int) != (a1.length : Int)) then (.v (false, ())) else (.lp zCy (a0, a1, (0 : Int), ()) (fun r2 => .v (r2.1, ())) (fun _ => .v (true, ())))
def zIt a0 a1 := (zMC a0 a1).val
@[reducible] def zUx : FnD := ⟨[vd (.lst zJ), vd (.lst zJ)], [vd .bool], true, fun _ => none, fun a => zIt a.1 a.2.1⟩
theorem zgP (a0 : List (El zJ)) (a1 : List (El zJ)) (_ : xG zUx.args (a0, a1, ())) : (zMC a0 a1).ok := by
 unfold zMC
 refine zp (fun _ => trivial) (fun h1 => ?_)
 replace h1 := zAp h1
 refine zI ?_ ?_
 ·exact zWF _ ⟨by (dsimp only <;> omega), by (dsimp only <;> omega)⟩
 ·simp
def zfK : Con Tryz.prog := yD mo g0 [zho] [zCy] 200 zUx (fn := Tryz.f200) ⟨lk, trivial⟩ (fun a hw _ => yT (by kernel_rfl) (zgP a.1 a.2.1 hw) rfl)
theorem zfT (a0 : List (El zJ)) (a1 : List (El zJ)) : zIt a0 a1 = bif ((a0.length : Int) != (a1.length : Int)) then (false, ()) else (bif zd (fun i x => bif (!(zGA x (zB zJ a1 (i : Int))).1) then false else true) 0 a0 then (true, ()) else (false, ())) := by
 simp only [zIt, zMC, zR, zi, zx, zQ]
 rw [zWW, z7] <;> rfl
def zMY (a0 : El zS) (a1 : El zS) : Tr (Bool × Unit) := bif (a0.1 != a1.1) then (.v (false, ())) else (bif (!(zCN a0.2.1 a1.2.1).1) then (.v (false, ())) else (bif (!(zCN a0.2.2 a1.2.2).1) then (.v (false, ())) else (.v (true, ()))))
def zED a0 a1 := (zMY a0 a1).val
@[reducible] def zea : FnD := ⟨[va zS, va zS], [vd .bool], true, fun _ => none, fun a => zED a.1 a.2.1⟩
def zfE : Con Tryz.prog := yD mo g0 [zSV] [] 243 zea (fn := Tryz.f243) trivial (fun a _ _ => yT (t' := zMY a.1 a.2.1) (by kernel_rfl) (by simp [zMY]) rfl)
@[reducible] def zBS : LB := ⟨[], ⟨27, [], [(0, vd (.lst zS)), (1, vd (.lst zS)), (5, vd .int)]⟩, ⟨27, [], [(4, vd .bool)]⟩, 0, fun x => (fun (l0 : List (El zS)) (l1 : List (El zS)) (n5 : Int) => (bif decide (n5 < (l0.length : Int)) then (.ix n5 l0 (.ix n5 l1 (bif (!(zED (zB zS l0 n5) (zB zS l1 n5)).1) then (.v (.ret (false, ()))) else (.ik (n5 + (1 : Int)) (.v (.go (l0, l1, (n5 + (1 : Int)), ()))))))) else (.v (.brk (l0, l1, n5, ()))) : Tr (St _ _))) x.1 x.2.1 x.2.2.1⟩
theorem zTG (l0 : List (El zS)) (l1 : List (El zS)) : LB.run zBS (l0, l1, (0 : Int), ()) = bif zd (fun i x => bif (!(zED x (zB zS l1 (i : Int))).1) then false else true) 0 l0 then .brk (l0, l1, (l0.length : Int), ()) else .ret (false, ()) := LB.run_all (l := zBS) (fun i => (l0, l1, (i : Int), ())) (fun i x h => by
  simp only [LB.b, zBS, zi, zQ, zR, cond_true, yM h, zG h]
  cases (!(zED x (zB zS l1 (i : Int))).1) <;> rfl) (by simp only [LB.b, zBS, xl]; rfl)
theorem zSz : SF zBS fun x : List (El zS) × List (El zS) × Int × Unit => (0 ≤ x.2.2.1 ∧ (x.1.length : Int) ≤ (x.2.1.length : Int), (x.1.length : Int) - x.2.2.1) := xz (by
 rintro ⟨(l0 : List (El zS)), (l1 : List (El zS)), (n5 : Int), ⟨⟩⟩ hI hw
 have _ : (l0.length : Int) ≤ 16777216 := zE (hw.1.1)
 simp [zBS] at hI ⊢
 repeat' first | intro _ | apply And.intro
 all_goals omega)
def zJH (a0 : List (El zS)) (a1 : List (El zS)) : Tr (Bool × Unit) := bif ((a0.length : Int) != (a1.length : Int)) then (.v (false, ())) else (.lp zBS (a0, a1, (0 : Int), ()) (fun r2 => .v (r2.1, ())) (fun _ => .v (true, ())))
def zG1 a0 a1 := (zJH a0 a1).val
@[reducible] def zQ7 : FnD := ⟨[vd (.lst zS), vd (.lst zS)], [vd .bool], true, fun _ => none, fun a => zG1 a.1 a.2.1⟩
theorem zax (a0 : List (El zS)) (a1 : List (El zS)) (_ : xG zQ7.args (a0, a1, ())) : (zJH a0 a1).ok := by
 unfold zJH
 refine zp (fun _ => trivial) (fun h1 => ?_)
 replace h1 := zAp h1
 refine zI ?_ ?_
 ·exact zSz _ ⟨by (dsimp only <;> omega), by (dsimp only <;> omega)⟩
 ·simp
def zca : Con Tryz.prog := yD mo g0 [zfE] [zBS] 201 zQ7 (fn := Tryz.f201) ⟨lk, trivial⟩ (fun a hw _ => yT (by kernel_rfl) (zax a.1 a.2.1 hw) rfl)
theorem zb6 (a0 : List (El zS)) (a1 : List (El zS)) : zG1 a0 a1 = bif ((a0.length : Int) != (a1.length : Int)) then (false, ()) else (bif zd (fun i x => bif (!(zED x (zB zS a1 (i : Int))).1) then false else true) 0 a0 then (true, ()) else (false, ())) := by
 simp only [zG1, zJH, zR, zi, zx, zQ]
 rw [zTG, z7] <;> rfl
def zLR (a0 : El zq) (a1 : El zq) : Tr (Bool × Unit) := bif (!(a0.1.toList == a1.1.toList)) then (.v (false, ())) else (bif (!(zCN a0.2.1 a1.2.1).1) then (.v (false, ())) else (bif (!(zCN a0.2.2 a1.2.2).1) then (.v (false, ())) else (.v (true, ()))))
def zEH a0 a1 := (zLR a0 a1).val
@[reducible] def zfG : FnD := ⟨[va zq, va zq], [vd .bool], true, fun _ => none, fun a => zEH a.1 a.2.1⟩
def zf6 : Con Tryz.prog := yD mo g0 [zSV] [] 281 zfG (fn := Tryz.f281) trivial (fun a _ _ => yT (t' := zLR a.1 a.2.1) (by kernel_rfl) (by simp [zLR]) rfl)
@[reducible] def zBm : LB := ⟨[], ⟨27, [], [(0, vd (.lst zq)), (1, vd (.lst zq)), (5, vd .int)]⟩, ⟨27, [], [(4, vd .bool)]⟩, 0, fun x => (fun (l0 : List (El zq)) (l1 : List (El zq)) (n5 : Int) => (bif decide (n5 < (l0.length : Int)) then (.ix n5 l0 (.ix n5 l1 (bif (!(zEH (zB zq l0 n5) (zB zq l1 n5)).1) then (.v (.ret (false, ()))) else (.ik (n5 + (1 : Int)) (.v (.go (l0, l1, (n5 + (1 : Int)), ()))))))) else (.v (.brk (l0, l1, n5, ()))) : Tr (St _ _))) x.1 x.2.1 x.2.2.1⟩
theorem zTP (l0 : List (El zq)) (l1 : List (El zq)) : LB.run zBm (l0, l1, (0 : Int), ()) = bif zd (fun i x => bif (!(zEH x (zB zq l1 (i : Int))).1) then false else true) 0 l0 then .brk (l0, l1, (l0.length : Int), ()) else .ret (false, ()) := LB.run_all (l := zBm) (fun i => (l0, l1, (i : Int), ())) (fun i x h => by
  simp only [LB.b, zBm, zi, zQ, zR, cond_true, yM h, zG h]
  cases (!(zEH x (zB zq l1 (i : Int))).1) <;> rfl) (by simp only [LB.b, zBm, xl]; rfl)
theorem zSx : SF zBm fun x : List (El zq) × List (El zq) × Int × Unit => (0 ≤ x.2.2.1 ∧ (x.1.length : Int) ≤ (x.2.1.length : Int), (x.1.length : Int) - x.2.2.1) := xz (by
 rintro ⟨(l0 : List (El zq)), (l1 : List (El zq)), (n5 : Int), ⟨⟩⟩ hI hw
 have _ : (l0.length : Int) ≤ 16777216 := zE (hw.1.1)
 simp [zBm] at hI ⊢
 repeat' first | intro _ | apply And.intro
 all_goals omega)
def zJ2 (a0 : List (El zq)) (a1 : List (El zq)) : Tr (Bool × Unit) := bif ((a0.length : Int) != (a1.length : Int)) then (.v (false, ())) else (.lp zBm (a0, a1, (0 : Int), ()) (fun r2 => .v (r2.1, ())) (fun _ => .v (true, ())))
def zG8 a0 a1 := (zJ2 a0 a1).val
@[reducible] def zQd : FnD := ⟨[vd (.lst zq), vd (.lst zq)], [vd .bool], true, fun _ => none, fun a => zG8 a.1 a.2.1⟩
theorem zcP (a0 : List (El zq)) (a1 : List (El zq)) (_ : xG zQd.args (a0, a1, ())) : (zJ2 a0 a1).ok := by
 unfold zJ2
 refine zp (fun _ => trivial) (fun h1 => ?_)
 replace h1 := zAp h1
 refine zI ?_ ?_
 ·exact zSx _ ⟨by (dsimp only <;> omega), by (dsimp only <;> omega)⟩
 ·simp
def zdE : Con Tryz.prog := yD mo g0 [zf6] [zBm] 270 zQd (fn := Tryz.f270) ⟨lk, trivial⟩ (fun a hw _ => yT (by kernel_rfl) (zcP a.1 a.2.1 hw) rfl)
theorem zaS (a0 : List (El zq)) (a1 : List (El zq)) : zG8 a0 a1 = bif ((a0.length : Int) != (a1.length : Int)) then (false, ()) else (bif zd (fun i x => bif (!(zEH x (zB zq a1 (i : Int))).1) then false else true) 0 a0 then (true, ()) else (false, ())) := by
 simp only [zG8, zJ2, zR, zi, zx, zQ]
 rw [zTP, z7] <;> rfl
def zNN (a0 : El z5) (a1 : El z5) : Tr (Bool × Unit) := bif (a0.1 != a1.1) then (.v (false, ())) else (bif (!(a0.2.1.toList == a1.2.1.toList)) then (.v (false, ())) else (bif (!(zG8 a0.2.2.1 a1.2.2.1).1) then (.v (false, ())) else (bif (a0.2.2.2.1 != a1.2.2.2.1) then (.v (false, ())) else (bif (!(a0.2.2.2.2.toList == a1.2.2.2.2.toList)) then (.v (false, ())) else (.v (true, ()))))))
def zF1 a0 a1 := (zNN a0 a1).val
@[reducible] def zkK : FnD := ⟨[va z5, va z5], [vd .bool], true, fun _ => none, fun a => zF1 a.1 a.2.1⟩
def zhp : Con Tryz.prog := yD mo g0 [zdE] [] 244 zkK (fn := Tryz.f244) trivial (fun a _ _ => yT (t' := zNN a.1 a.2.1) (by kernel_rfl) (by simp [zNN]) rfl)
@[reducible] def zCq : LB := ⟨[], ⟨27, [], [(0, vd (.lst z5)), (1, vd (.lst z5)), (5, vd .int)]⟩, ⟨27, [], [(4, vd .bool)]⟩, 0, fun x => (fun (l0 : List (El z5)) (l1 : List (El z5)) (n5 : Int) => (bif decide (n5 < (l0.length : Int)) then (.ix n5 l0 (.ix n5 l1 (bif (!(zF1 (zB z5 l0 n5) (zB z5 l1 n5)).1) then (.v (.ret (false, ()))) else (.ik (n5 + (1 : Int)) (.v (.go (l0, l1, (n5 + (1 : Int)), ()))))))) else (.v (.brk (l0, l1, n5, ()))) : Tr (St _ _))) x.1 x.2.1 x.2.2.1⟩
theorem zW3 (l0 : List (El z5)) (l1 : List (El z5)) : LB.run zCq (l0, l1, (0 : Int), ()) = bif zd (fun i x => bif (!(zF1 x (zB z5 l1 (i : Int))).1) then false else true) 0 l0 then .brk (l0, l1, (l0.length : Int), ()) else .ret (false, ()) := LB.run_all (l := zCq) (fun i => (l0, l1, (i : Int), ())) (fun i x h => by
  simp only [LB.b, zCq, zi, zQ, zR, cond_true, yM h, zG h]
  cases (!(zF1 x (zB z5 l1 (i : Int))).1) <;> rfl) (by simp only [LB.b, zCq, xl]; rfl)
theorem zWa : SF zCq fun x : List (El z5) × List (El z5) × Int × Unit => (0 ≤ x.2.2.1 ∧ (x.1.length : Int) ≤ (x.2.1.length : Int), (x.1.length : Int) - x.2.2.1) := xz (by
 rintro ⟨(l0 : List (El z5)), (l1 : List (El z5)), (n5 : Int), ⟨⟩⟩ hI hw
 have _ : (l0.length : Int) ≤ 16777216 := zE (hw.1.1)
 simp [zCq] at hI ⊢
 repeat' first | intro _ | apply And.intro
 all_goals omega)
def zL3 (a0 : List (El z5)) (a1 : List (El z5)) : Tr (Bool × Unit) := bif ((a0.length : Int) != (a1.length : Int)) then (.v (false, ())) else (.lp zCq (a0, a1, (0 : Int), ()) (fun r2 => .v (r2.1, ())) (fun _ => .v (true, ())))
def zIi a0 a1 := (zL3 a0 a1).val
@[reducible] def zU5 : FnD := ⟨[vd (.lst z5), vd (.lst z5)], [vd .bool], true, fun _ => none, fun a => zIi a.1 a.2.1⟩
theorem zfz (a0 : List (El z5)) (a1 : List (El z5)) (_ : xG zU5.args (a0, a1, ())) : (zL3 a0 a1).ok := by
 unfold zL3
 refine zp (fun _ => trivial) (fun h1 => ?_)
 replace h1 := zAp h1
 refine zI ?_ ?_
 ·exact zWa _ ⟨by (dsimp only <;> omega), by (dsimp only <;> omega)⟩
 ·simp
def zew : Con Tryz.prog := yD mo g0 [zhp] [zCq] 202 zU5 (fn := Tryz.f202) ⟨lk, trivial⟩ (fun a hw _ => yT (by kernel_rfl) (zfz a.1 a.2.1 hw) rfl)
theorem zeu (a0 : List (El z5)) (a1 : List (El z5)) : zIi a0 a1 = bif ((a0.length : Int) != (a1.length : Int)) then (false, ()) else (bif zd (fun i x => bif (!(zF1 x (zB z5 a1 (i : Int))).1) then false else true) 0 a0 then (true, ()) else (false, ())) := by
 simp only [zIi, zL3, zR, zi, zx, zQ]
 rw [zW3, z7] <;> rfl
def zL7 (a0 : El zC) (a1 : El zC) : Tr (Bool × Unit) := bif (!(a0.1.toList == a1.1.toList)) then (.v (false, ())) else (bif (a0.2.1 != a1.2.1) then (.v (false, ())) else (bif (!(zIt a0.2.2.1 a1.2.2.1).1) then (.v (false, ())) else (bif (!(zG1 a0.2.2.2.1 a1.2.2.2.1).1) then (.v (false, ())) else (bif (!(zIi a0.2.2.2.2 a1.2.2.2.2).1) then (.v (false, ())) else (.v (true, ()))))))
def zEX a0 a1 := (zL7 a0 a1).val
@[reducible] def zgR : FnD := ⟨[va zC, va zC], [vd .bool], true, fun _ => none, fun a => zEX a.1 a.2.1⟩
def zgp : Con Tryz.prog := yD mo g0 [zfK, zca, zew] [] 144 zgR (fn := Tryz.f144) trivial (fun a _ _ => yT (t' := zL7 a.1 a.2.1) (by kernel_rfl) (by simp [zL7]) rfl)
@[reducible] def zBY : LB := ⟨[], ⟨27, [], [(0, vd (.lst zC)), (1, vd (.lst zC)), (5, vd .int)]⟩, ⟨27, [], [(4, vd .bool)]⟩, 0, fun x => (fun (l0 : List (El zC)) (l1 : List (El zC)) (n5 : Int) => (bif decide (n5 < (l0.length : Int)) then (.ix n5 l0 (.ix n5 l1 (bif (!(zEX (zB zC l0 n5) (zB zC l1 n5)).1) then (.v (.ret (false, ()))) else (.ik (n5 + (1 : Int)) (.v (.go (l0, l1, (n5 + (1 : Int)), ()))))))) else (.v (.brk (l0, l1, n5, ()))) : Tr (St _ _))) x.1 x.2.1 x.2.2.1⟩
theorem zTe (l0 : List (El zC)) (l1 : List (El zC)) : LB.run zBY (l0, l1, (0 : Int), ()) = bif zd (fun i x => bif (!(zEX x (zB zC l1 (i : Int))).1) then false else true) 0 l0 then .brk (l0, l1, (l0.length : Int), ()) else .ret (false, ()) := LB.run_all (l := zBY) (fun i => (l0, l1, (i : Int), ())) (fun i x h => by
  simp only [LB.b, zBY, zi, zQ, zR, cond_true, yM h, zG h]
  cases (!(zEX x (zB zC l1 (i : Int))).1) <;> rfl) (by simp only [LB.b, zBY, xl]; rfl)
theorem zTc : SF zBY fun x : List (El zC) × List (El zC) × Int × Unit => (0 ≤ x.2.2.1 ∧ (x.1.length : Int) ≤ (x.2.1.length : Int), (x.1.length : Int) - x.2.2.1) := xz (by
 rintro ⟨(l0 : List (El zC)), (l1 : List (El zC)), (n5 : Int), ⟨⟩⟩ hI hw
 have _ : (l0.length : Int) ≤ 16777216 := zE (hw.1.1)
 simp [zBY] at hI ⊢
 repeat' first | intro _ | apply And.intro
 all_goals omega)
def zKO (a0 : List (El zC)) (a1 : List (El zC)) : Tr (Bool × Unit) := bif ((a0.length : Int) != (a1.length : Int)) then (.v (false, ())) else (.lp zBY (a0, a1, (0 : Int), ()) (fun r2 => .v (r2.1, ())) (fun _ => .v (true, ())))
def zHY a0 a1 := (zKO a0 a1).val
@[reducible] def zQU : FnD := ⟨[vd (.lst zC), vd (.lst zC)], [vd .bool], true, fun _ => none, fun a => zHY a.1 a.2.1⟩
theorem zbz (a0 : List (El zC)) (a1 : List (El zC)) (_ : xG zQU.args (a0, a1, ())) : (zKO a0 a1).ok := by
 unfold zKO
 refine zp (fun _ => trivial) (fun h1 => ?_)
 replace h1 := zAp h1
 refine zI ?_ ?_
 ·exact zTc _ ⟨by (dsimp only <;> omega), by (dsimp only <;> omega)⟩
 ·simp
def zce : Con Tryz.prog := yD mo g0 [zgp] [zBY] 88 zQU (fn := Tryz.f88) ⟨lk, trivial⟩ (fun a hw _ => yT (by kernel_rfl) (zbz a.1 a.2.1 hw) rfl)
theorem zab (a0 : List (El zC)) (a1 : List (El zC)) : zHY a0 a1 = bif ((a0.length : Int) != (a1.length : Int)) then (false, ()) else (bif zd (fun i x => bif (!(zEX x (zB zC a1 (i : Int))).1) then false else true) 0 a0 then (true, ()) else (false, ())) := by
 simp only [zHY, zKO, zR, zi, zx, zQ]
 rw [zTe, z7] <;> rfl
def zNc (a0 : El zN) (a1 : El zN) : Tr (Bool × Unit) := bif (!(a0.1.toList == a1.1.toList)) then (.v (false, ())) else (bif (!(zHY a0.2 a1.2).1) then (.v (false, ())) else (.v (true, ())))
def zFo a0 a1 := (zNc a0 a1).val
@[reducible] def zjo : FnD := ⟨[va zN, va zN], [vd .bool], true, fun _ => none, fun a => zFo a.1 a.2.1⟩
def zkB : Con Tryz.prog := yD mo g0 [zce] [] 48 zjo (fn := Tryz.f48) trivial (fun a _ _ => yT (t' := zNc a.1 a.2.1) (by kernel_rfl) (by simp [zNc]) rfl)
@[reducible] def zDM : LB := ⟨[], ⟨27, [], [(0, vd (.lst zN)), (1, vd (.lst zN)), (5, vd .int)]⟩, ⟨27, [], [(4, vd .bool)]⟩, 0, fun x => (fun (l0 : List (El zN)) (l1 : List (El zN)) (n5 : Int) => (bif decide (n5 < (l0.length : Int)) then (.ix n5 l0 (.ix n5 l1 (bif (!(zFo (zB zN l0 n5) (zB zN l1 n5)).1) then (.v (.ret (false, ()))) else (.ik (n5 + (1 : Int)) (.v (.go (l0, l1, (n5 + (1 : Int)), ()))))))) else (.v (.brk (l0, l1, n5, ()))) : Tr (St _ _))) x.1 x.2.1 x.2.2.1⟩
theorem zWo (l0 : List (El zN)) (l1 : List (El zN)) : LB.run zDM (l0, l1, (0 : Int), ()) = bif zd (fun i x => bif (!(zFo x (zB zN l1 (i : Int))).1) then false else true) 0 l0 then .brk (l0, l1, (l0.length : Int), ()) else .ret (false, ()) := LB.run_all (l := zDM) (fun i => (l0, l1, (i : Int), ())) (fun i x h => by
  simp only [LB.b, zDM, zi, zQ, zR, cond_true, yM h, zG h]
  cases (!(zFo x (zB zN l1 (i : Int))).1) <;> rfl) (by simp only [LB.b, zDM, xl]; rfl)
theorem zXZ : SF zDM fun x : List (El zN) × List (El zN) × Int × Unit => (0 ≤ x.2.2.1 ∧ (x.1.length : Int) ≤ (x.2.1.length : Int), (x.1.length : Int) - x.2.2.1) := xz (by
 rintro ⟨(l0 : List (El zN)), (l1 : List (El zN)), (n5 : Int), ⟨⟩⟩ hI hw
 have _ : (l0.length : Int) ≤ 16777216 := zE (hw.1.1)
 simp [zDM] at hI ⊢
 repeat' first | intro _ | apply And.intro
 all_goals omega)
def zLG (a0 : List (El zN)) (a1 : List (El zN)) : Tr (Bool × Unit) := bif ((a0.length : Int) != (a1.length : Int)) then (.v (false, ())) else (.lp zDM (a0, a1, (0 : Int), ()) (fun r2 => .v (r2.1, ())) (fun _ => .v (true, ())))
def zJB a0 a1 := (zLG a0 a1).val
@[reducible] def zT7 : FnD := ⟨[vd (.lst zN), vd (.lst zN)], [vd .bool], true, fun _ => none, fun a => zJB a.1 a.2.1⟩
theorem zhi (a0 : List (El zN)) (a1 : List (El zN)) (_ : xG zT7.args (a0, a1, ())) : (zLG a0 a1).ok := by
 unfold zLG
 refine zp (fun _ => trivial) (fun h1 => ?_)
 replace h1 := zAp h1
 refine zI ?_ ?_
 ·exact zXZ _ ⟨by (dsimp only <;> omega), by (dsimp only <;> omega)⟩
 ·simp
def ze4 : Con Tryz.prog := yD mo g0 [zkB] [zDM] 23 zT7 (fn := Tryz.f23) ⟨lk, trivial⟩ (fun a hw _ => yT (by kernel_rfl) (zhi a.1 a.2.1 hw) rfl)
theorem zfj (a0 : List (El zN)) (a1 : List (El zN)) : zJB a0 a1 = bif ((a0.length : Int) != (a1.length : Int)) then (false, ()) else (bif zd (fun i x => bif (!(zFo x (zB zN a1 (i : Int))).1) then false else true) 0 a0 then (true, ()) else (false, ())) := by
 simp only [zJB, zLG, zR, zi, zx, zQ]
 rw [zWo, z7] <;> rfl
@[reducible] def zDK : LB := ⟨[], ⟨27, [], [(0, vd (.lst zK)), (1, vd (.lst zK)), (5, vd .int)]⟩, ⟨27, [], [(4, vd .bool)]⟩, 0, fun x => (fun (l0 : List (El zK)) (l1 : List (El zK)) (n5 : Int) => (bif decide (n5 < (l0.length : Int)) then (.ix n5 l0 (.ix n5 l1 (bif (!(zDf (zB zK l0 n5) (zB zK l1 n5)).1) then (.v (.ret (false, ()))) else (.ik (n5 + (1 : Int)) (.v (.go (l0, l1, (n5 + (1 : Int)), ()))))))) else (.v (.brk (l0, l1, n5, ()))) : Tr (St _ _))) x.1 x.2.1 x.2.2.1⟩
theorem zXS (l0 : List (El zK)) (l1 : List (El zK)) : LB.run zDK (l0, l1, (0 : Int), ()) = bif zd (fun i x => bif (!(zDf x (zB zK l1 (i : Int))).1) then false else true) 0 l0 then .brk (l0, l1, (l0.length : Int), ()) else .ret (false, ()) := LB.run_all (l := zDK) (fun i => (l0, l1, (i : Int), ())) (fun i x h => by
  simp only [LB.b, zDK, zi, zQ, zR, cond_true, yM h, zG h]
  cases (!(zDf x (zB zK l1 (i : Int))).1) <;> rfl) (by simp only [LB.b, zDK, xl]; rfl)
theorem zXK : SF zDK fun x : List (El zK) × List (El zK) × Int × Unit => (0 ≤ x.2.2.1 ∧ (x.1.length : Int) ≤ (x.2.1.length : Int), (x.1.length : Int) - x.2.2.1) := xz (by
 rintro ⟨(l0 : List (El zK)), (l1 : List (El zK)), (n5 : Int), ⟨⟩⟩ hI hw
 have _ : (l0.length : Int) ≤ 16777216 := zE (hw.1.1)
 simp [zDK] at hI ⊢
 repeat' first | intro _ | apply And.intro
 all_goals omega)
def zLq (a0 : List (El zK)) (a1 : List (El zK)) : Tr (Bool × Unit) := bif ((a0.length : Int) != (a1.length : Int)) then (.v (false, ())) else (.lp zDK (a0, a1, (0 : Int), ()) (fun r2 => .v (r2.1, ())) (fun _ => .v (true, ())))
def zIf a0 a1 := (zLq a0 a1).val
@[reducible] def zVD : FnD := ⟨[vd (.lst zK), vd (.lst zK)], [vd .bool], true, fun _ => none, fun a => zIf a.1 a.2.1⟩
theorem zfV (a0 : List (El zK)) (a1 : List (El zK)) (_ : xG zVD.args (a0, a1, ())) : (zLq a0 a1).ok := by
 unfold zLq
 refine zp (fun _ => trivial) (fun h1 => ?_)
 replace h1 := zAp h1
 refine zI ?_ ?_
 ·exact zXK _ ⟨by (dsimp only <;> omega), by (dsimp only <;> omega)⟩
 ·simp
def zgj : Con Tryz.prog := yD mo g0 [zN6] [zDK] 272 zVD (fn := Tryz.f272) ⟨lk, trivial⟩ (fun a hw _ => yT (by kernel_rfl) (zfV a.1 a.2.1 hw) rfl)
theorem zgW (a0 : List (El zK)) (a1 : List (El zK)) : zIf a0 a1 = bif ((a0.length : Int) != (a1.length : Int)) then (false, ()) else (bif zd (fun i x => bif (!(zDf x (zB zK a1 (i : Int))).1) then false else true) 0 a0 then (true, ()) else (false, ())) := by
 simp only [zIf, zLq, zR, zi, zx, zQ]
 rw [zXS, z7] <;> rfl
def zL5 (a0 : El zt) (a1 : El zt) : Tr (Bool × Unit) := bif (!(a0.1.toList == a1.1.toList)) then (.v (false, ())) else (bif (!(zIf a0.2 a1.2).1) then (.v (false, ())) else (.v (true, ())))
def zFR a0 a1 := (zL5 a0 a1).val
@[reducible] def zfe : FnD := ⟨[va zt, va zt], [vd .bool], true, fun _ => none, fun a => zFR a.1 a.2.1⟩
def zL4 : Con Tryz.prog := yD mo g0 [zgj] [] 248 zfe (fn := Tryz.f248) trivial (fun a _ _ => yT (t' := zL5 a.1 a.2.1) (by kernel_rfl) (by simp [zL5]) rfl)
def zLX (a0 : El zD) (a1 : El zD) : Tr (Bool × Unit) := bif (a0.1 != a1.1) then (.v (false, ())) else (bif (!(zFR a0.2 a1.2).1) then (.v (false, ())) else (.v (true, ())))
def zES a0 a1 := (zLX a0 a1).val
@[reducible] def ze2 : FnD := ⟨[va zD, va zD], [vd .bool], true, fun _ => none, fun a => zES a.1 a.2.1⟩
def zeU : Con Tryz.prog := yD mo g0 [zL4] [] 245 ze2 (fn := Tryz.f245) trivial (fun a _ _ => yT (t' := zLX a.1 a.2.1) (by kernel_rfl) (by simp [zLX]) rfl)
@[reducible] def zBV : LB := ⟨[], ⟨27, [], [(0, vd (.lst zD)), (1, vd (.lst zD)), (5, vd .int)]⟩, ⟨27, [], [(4, vd .bool)]⟩, 0, fun x => (fun (l0 : List (El zD)) (l1 : List (El zD)) (n5 : Int) => (bif decide (n5 < (l0.length : Int)) then (.ix n5 l0 (.ix n5 l1 (bif (!(zES (zB zD l0 n5) (zB zD l1 n5)).1) then (.v (.ret (false, ()))) else (.ik (n5 + (1 : Int)) (.v (.go (l0, l1, (n5 + (1 : Int)), ()))))))) else (.v (.brk (l0, l1, n5, ()))) : Tr (St _ _))) x.1 x.2.1 x.2.2.1⟩
theorem zSY (l0 : List (El zD)) (l1 : List (El zD)) : LB.run zBV (l0, l1, (0 : Int), ()) = bif zd (fun i x => bif (!(zES x (zB zD l1 (i : Int))).1) then false else true) 0 l0 then .brk (l0, l1, (l0.length : Int), ()) else .ret (false, ()) := LB.run_all (l := zBV) (fun i => (l0, l1, (i : Int), ())) (fun i x h => by
  simp only [LB.b, zBV, zi, zQ, zR, cond_true, yM h, zG h]
  cases (!(zES x (zB zD l1 (i : Int))).1) <;> rfl) (by simp only [LB.b, zBV, xl]; rfl)
theorem zTJ : SF zBV fun x : List (El zD) × List (El zD) × Int × Unit => (0 ≤ x.2.2.1 ∧ (x.1.length : Int) ≤ (x.2.1.length : Int), (x.1.length : Int) - x.2.2.1) := xz (by
 rintro ⟨(l0 : List (El zD)), (l1 : List (El zD)), (n5 : Int), ⟨⟩⟩ hI hw
 have _ : (l0.length : Int) ≤ 16777216 := zE (hw.1.1)
 simp [zBV] at hI ⊢
 repeat' first | intro _ | apply And.intro
 all_goals omega)
def zKX (a0 : List (El zD)) (a1 : List (El zD)) : Tr (Bool × Unit) := bif ((a0.length : Int) != (a1.length : Int)) then (.v (false, ())) else (.lp zBV (a0, a1, (0 : Int), ()) (fun r2 => .v (r2.1, ())) (fun _ => .v (true, ())))
def zHc a0 a1 := (zKX a0 a1).val
@[reducible] def zRM : FnD := ⟨[vd (.lst zD), vd (.lst zD)], [vd .bool], true, fun _ => none, fun a => zHc a.1 a.2.1⟩
theorem zc6 (a0 : List (El zD)) (a1 : List (El zD)) (_ : xG zRM.args (a0, a1, ())) : (zKX a0 a1).ok := by
 unfold zKX
 refine zp (fun _ => trivial) (fun h1 => ?_)
 replace h1 := zAp h1
 refine zI ?_ ?_
 ·exact zTJ _ ⟨by (dsimp only <;> omega), by (dsimp only <;> omega)⟩
 ·simp
def zbj : Con Tryz.prog := yD mo g0 [zeU] [zBV] 203 zRM (fn := Tryz.f203) ⟨lk, trivial⟩ (fun a hw _ => yT (by kernel_rfl) (zc6 a.1 a.2.1 hw) rfl)
theorem zao (a0 : List (El zD)) (a1 : List (El zD)) : zHc a0 a1 = bif ((a0.length : Int) != (a1.length : Int)) then (false, ()) else (bif zd (fun i x => bif (!(zES x (zB zD a1 (i : Int))).1) then false else true) 0 a0 then (true, ()) else (false, ())) := by
 simp only [zHc, zKX, zR, zi, zx, zQ]
 rw [zSY, z7] <;> rfl
def zJi (a0 : El zH) (a1 : El zH) : Tr (Bool × Unit) := bif (!(zHc a0.1 a1.1).1) then (.v (false, ())) else (bif (a0.2 != a1.2) then (.v (false, ())) else (.v (true, ())))
def zJR a0 a1 := (zJi a0 a1).val
@[reducible] def za4 : FnD := ⟨[va zH, va zH], [vd .bool], true, fun _ => none, fun a => zJR a.1 a.2.1⟩
def za7 : Con Tryz.prog := yD mo g0 [zbj] [] 145 za4 (fn := Tryz.f145) trivial (fun a _ _ => yT (t' := zJi a.1 a.2.1) (by kernel_rfl) (by simp [zJi]) rfl)
end
end Go.Proofs.YtipbfgknaihifaaGreat
