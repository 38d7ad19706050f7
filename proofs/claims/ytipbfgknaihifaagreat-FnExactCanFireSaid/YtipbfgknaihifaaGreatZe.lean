/- Parts of a proof. -/
import Derived.Test.YtipbfgknaihifaaGreatZd
namespace Go.Proofs.YtipbfgknaihifaaGreat
open Go.RowKit
noncomputable section
@[reducible] def vB : LB := ⟨[], ⟨35, [.d zH], [(3, .pt 0 0), (5, vo zA), (6, vd .int), (11, vd (.lst zC)), (12, vd .int), (13, vd .int), (20, vo zA), (21, vd .int), (22, vd .int)]⟩, ⟨35, [], []⟩, 2, fun x => (fun (w0 : El zH) (l5 : List (El zA)) (n6 : Int) (l11 : List (El zC)) (n12 : Int) (n13 : Int) (l20 : List (El zA)) (n21 : Int) (n22 : Int) => (bif decide (n22 < n21) then (.ix n22 l20 (.ck (((l5.length + [(n6, (zB zA l20 n22).2)].length : Nat) : Int) ≤ 16777216) (.ik (n22 + (1 : Int)) (.v (.go (w0, (), (l5 ++ [(n6, (zB zA l20 n22).2)]), n6, l11, n12, n13, l20, n21, (n22 + (1 : Int)), ())))))) else (.v (.brk (w0, (), l5, n6, l11, n12, n13, l20, n21, n22, ()))) : Tr (St _ _))) x.1 x.2.2.1 x.2.2.2.1 x.2.2.2.2.1 x.2.2.2.2.2.1 x.2.2.2.2.2.2.1 x.2.2.2.2.2.2.2.1 x.2.2.2.2.2.2.2.2.1 x.2.2.2.2.2.2.2.2.2.1⟩
theorem zY9 (w0 : El zH) (n6 : Int) (l11 : List (El zC)) (n12 : Int) (n13 : Int) (l20 : List (El zA)) (l5 : List (El zA)) : LB.run vB (w0, (), l5, n6, l11, n12, n13, l20, (l20.length : Int), (0 : Int), ()) = .brk (w0, (), (zc (fun _ x (s : (List (El zA))) => (s ++ [(n6, x.2)])) 0 l20 l5), n6, l11, n12, n13, l20, (l20.length : Int), (l20.length : Int), ()) := LB.run_fold (l := vB) (fun i s => (w0, (), s, n6, l11, n12, n13, l20, (l20.length : Int), (i : Int), ())) (fun i x s h => by
  simp only [LB.b, vB, zQ, zR, cond_true, yQ h, zG h]
  rfl) (fun s => by simp only [LB.b, vB, xo]; rfl)
theorem zYf (w00 : El zH) (l50 : List (El zA)) (n60 : Int) (l110 : List (El zC)) (n120 : Int) (n130 : Int) (l200 : List (El zA)) (n210 : Int) (n220 : Int)  : (LB.run vB (w00, (), l50, n60, l110, n120, n130, l200, n210, n220, ())).all (fun _ => False) (fun (w0, _, _, n6, l11, n12, n13, l20, n21, _) => w00 = w0 ∧ n60 = n6 ∧ l110 = l11 ∧ n120 = n12 ∧ n130 = n13 ∧ l200 = l20 ∧ n210 = n21) (fun (w0, _, _, n6, l11, n12, n13, l20, n21, _) => w00 = w0 ∧ n60 = n6 ∧ l110 = l11 ∧ n120 = n12 ∧ n130 = n13 ∧ l200 = l20 ∧ n210 = n21) := by
 have H : ∀ (w0 : El zH) (l5 : List (El zA)) (n6 : Int) (l11 : List (El zC)) (n12 : Int) (n13 : Int) (l20 : List (El zA)) (n21 : Int) (n22 : Int), (w00 = w0 ∧ n60 = n6 ∧ l110 = l11 ∧ n120 = n12 ∧ n130 = n13 ∧ l200 = l20 ∧ n210 = n21) → St.all (fun _ => False) (fun (w0, _, _, n6, l11, n12, n13, l20, n21, _) => w00 = w0 ∧ n60 = n6 ∧ l110 = l11 ∧ n120 = n12 ∧ n130 = n13 ∧ l200 = l20 ∧ n210 = n21) (fun (w0, _, _, n6, l11, n12, n13, l20, n21, _) => w00 = w0 ∧ n60 = n6 ∧ l110 = l11 ∧ n120 = n12 ∧ n130 = n13 ∧ l200 = l20 ∧ n210 = n21) (vB.b (w0, (), l5, n6, l11, n12, n13, l20, n21, n22, ())) := by
  intro w0 l5 n6 l11 n12 n13 l20 n21 n22 hI
  obtain ⟨eq0, eq1, eq2, eq3, eq4, eq5, eq6⟩ := hI
  simp only [LB.b, vB, zi, zQ, zR]
  refine zd (fun h1 => ?_) (fun h1 => ?_)
  ·replace h1 : n22 < n21 := of_decide_eq_true h1
   exact ⟨eq0, eq1, eq2, eq3, eq4, eq5, eq6⟩
  ·replace h1 : ¬ (n22 < n21) := of_decide_eq_false h1
   exact ⟨eq0, eq1, eq2, eq3, eq4, eq5, eq6⟩
 exact LB.post (l := vB) (A := fun _ => False) (fun (w0, _, _, n6, l11, n12, n13, l20, n21, _) => w00 = w0 ∧ n60 = n6 ∧ l110 = l11 ∧ n120 = n12 ∧ n130 = n13 ∧ l200 = l20 ∧ n210 = n21) (fun ⟨w0, ⟨⟩, l5, n6, l11, n12, n13, l20, n21, n22, ⟨⟩⟩ hx => H w0 l5 n6 l11 n12 n13 l20 n21 n22 hx) ⟨rfl, rfl, rfl, rfl, rfl, rfl, rfl⟩
theorem zZO (w00 : El zH) (l50 : List (El zA)) (n60 : Int) (l110 : List (El zC)) (n120 : Int) (n130 : Int) (l200 : List (El zA)) (n210 : Int) (n220 : Int) (p0 : (l50.length : Int) ≤ 64000 * n130 + n220 ∧ n220 ≤ n210 ∧ n210 = (l200.length : Int)) : (LB.run vB (w00, (), l50, n60, l110, n120, n130, l200, n210, n220, ())).all (fun _ => False) (fun (w0, _, l5, n6, l11, n12, n13, l20, n21, n22, _) => w00 = w0 ∧ n60 = n6 ∧ l110 = l11 ∧ n120 = n12 ∧ n130 = n13 ∧ l200 = l20 ∧ n210 = n21 ∧ ((l5.length : Int) ≤ 64000 * n13 + n22 ∧ n22 ≤ n21 ∧ n21 = (l20.length : Int))) (fun (w0, _, l5, n6, l11, n12, n13, l20, n21, n22, _) => w00 = w0 ∧ n60 = n6 ∧ l110 = l11 ∧ n120 = n12 ∧ n130 = n13 ∧ l200 = l20 ∧ n210 = n21 ∧ ((l5.length : Int) ≤ 64000 * n13 + n22 ∧ n22 ≤ n21 ∧ n21 = (l20.length : Int))) := by
 have H : ∀ (w0 : El zH) (l5 : List (El zA)) (n6 : Int) (l11 : List (El zC)) (n12 : Int) (n13 : Int) (l20 : List (El zA)) (n21 : Int) (n22 : Int), (w00 = w0 ∧ n60 = n6 ∧ l110 = l11 ∧ n120 = n12 ∧ n130 = n13 ∧ l200 = l20 ∧ n210 = n21 ∧ ((l5.length : Int) ≤ 64000 * n13 + n22 ∧ n22 ≤ n21 ∧ n21 = (l20.length : Int))) → St.all (fun _ => False) (fun (w0, _, l5, n6, l11, n12, n13, l20, n21, n22, _) => w00 = w0 ∧ n60 = n6 ∧ l110 = l11 ∧ n120 = n12 ∧ n130 = n13 ∧ l200 = l20 ∧ n210 = n21 ∧ ((l5.length : Int) ≤ 64000 * n13 + n22 ∧ n22 ≤ n21 ∧ n21 = (l20.length : Int))) (fun (w0, _, l5, n6, l11, n12, n13, l20, n21, n22, _) => w00 = w0 ∧ n60 = n6 ∧ l110 = l11 ∧ n120 = n12 ∧ n130 = n13 ∧ l200 = l20 ∧ n210 = n21 ∧ ((l5.length : Int) ≤ 64000 * n13 + n22 ∧ n22 ≤ n21 ∧ n21 = (l20.length : Int))) (vB.b (w0, (), l5, n6, l11, n12, n13, l20, n21, n22, ())) := by
  intro w0 l5 n6 l11 n12 n13 l20 n21 n22 hI
  obtain ⟨eq0, eq1, eq2, eq3, eq4, eq5, eq6, eq7⟩ := hI
  simp only [LB.b, vB, zi, zQ, zR]
  refine zd (fun h2 => ?_) (fun h2 => ?_)
  ·replace h2 : n22 < n21 := of_decide_eq_true h2
   exact yf (show w00 = w0 ∧ n60 = n6 ∧ l110 = l11 ∧ n120 = n12 ∧ n130 = n13 ∧ l200 = l20 ∧ n210 = n21 ∧ (((l5 ++ [(n6, (zB zA l20 n22).2)]).length : Int) ≤ 64000 * n13 + (n22 + (1 : Int)) ∧ (n22 + (1 : Int)) ≤ n21 ∧ n21 = (l20.length : Int)) from ⟨eq0, eq1, eq2, eq3, eq4, eq5, eq6, by first | omega | rfl | assumption | (simp <;> omega)⟩)
  ·replace h2 : ¬ (n22 < n21) := of_decide_eq_false h2
   exact zCP (show w00 = w0 ∧ n60 = n6 ∧ l110 = l11 ∧ n120 = n12 ∧ n130 = n13 ∧ l200 = l20 ∧ n210 = n21 ∧ ((l5.length : Int) ≤ 64000 * n13 + n22 ∧ n22 ≤ n21 ∧ n21 = (l20.length : Int)) from ⟨eq0, eq1, eq2, eq3, eq4, eq5, eq6, by first | omega | rfl | assumption | (simp <;> omega)⟩)
 exact LB.post (l := vB) (A := fun _ => False) (fun (w0, _, l5, n6, l11, n12, n13, l20, n21, n22, _) => w00 = w0 ∧ n60 = n6 ∧ l110 = l11 ∧ n120 = n12 ∧ n130 = n13 ∧ l200 = l20 ∧ n210 = n21 ∧ ((l5.length : Int) ≤ 64000 * n13 + n22 ∧ n22 ≤ n21 ∧ n21 = (l20.length : Int))) (fun ⟨w0, ⟨⟩, l5, n6, l11, n12, n13, l20, n21, n22, ⟨⟩⟩ hx => H w0 l5 n6 l11 n12 n13 l20 n21 n22 hx) ⟨rfl, rfl, rfl, rfl, rfl, rfl, rfl, p0⟩
theorem zX0 : SF vB fun x : El zH × Unit × List (El zA) × Int × List (El zC) × Int × Int × List (El zA) × Int × Int × Unit => (0 ≤ x.2.2.2.2.2.2.2.2.2.1 ∧ x.2.2.2.2.2.2.2.2.1 = (x.2.2.2.2.2.2.2.1.length : Int) ∧ (x.2.2.1.length : Int) ≤ 64000 * x.2.2.2.2.2.2.1 + x.2.2.2.2.2.2.2.2.2.1 ∧ (x.2.2.2.2.2.2.2.1.length : Int) ≤ 64000 ∧ (0 ≤ x.2.2.2.2.2.2.1 ∧ x.2.2.2.2.2.2.1 < 12), x.2.2.2.2.2.2.2.2.1 - x.2.2.2.2.2.2.2.2.2.1) := x5 (by
 rintro ⟨(w0 : El zH), ⟨⟩, (l5 : List (El zA)), (n6 : Int), (l11 : List (El zC)), (n12 : Int), (n13 : Int), (l20 : List (El zA)), (n21 : Int), (n22 : Int), ⟨⟩⟩ hI hw
 obtain ⟨i0, i1, k0, k1, k2⟩ := hI
 dsimp only at i0 i1 k0 k1 k2
 have _ : -9223372036854775808 ≤ n6 ∧ n6 ≤ 9223372036854775807 := z0 hw.2.2.2.1
 have _ : -9223372036854775808 ≤ n12 ∧ n12 ≤ 9223372036854775807 := z0 hw.2.2.2.2.2.1
 have _ : -9223372036854775808 ≤ n13 ∧ n13 ≤ 9223372036854775807 := z0 hw.2.2.2.2.2.2.1
 have _ : -9223372036854775808 ≤ n21 ∧ n21 ≤ 9223372036854775807 := z0 hw.2.2.2.2.2.2.2.2.1
 have _ : (l20.length : Int) ≤ 16777216 := zE (hw.2.2.2.2.2.2.2.1.1)
 have _ : (l5.length : Int) ≤ 16777216 := zE (hw.2.2.1.1)
 simp [vB]
 repeat' first | intro _ | apply And.intro
 all_goals omega)
@[reducible] def zA2 : LB := ⟨[1], ⟨35, [.d zH], [(3, .pt 0 0), (5, vo zA), (11, vd (.lst zC)), (12, vd .int), (13, vd .int)]⟩, ⟨35, [], []⟩, 0, fun x => (fun (w0 : El zH) (l5 : List (El zA)) (l11 : List (El zC)) (n12 : Int) (n13 : Int) => (bif decide (n13 < n12) then (.ix n13 l11 (.ck (zGP (zB zC l11 n13) w0) (let y1 := (yv (zB zC l11 n13) w0); .lp vB (w0, (), l5, n13, l11, n12, n13, y1.1, (y1.1.length : Int), (0 : Int), ()) (fun _ => .v (.ret ())) (fun t2 => .ik (t2.2.2.2.2.2.2.1 + (1 : Int)) (.v (.go (t2.1, (), t2.2.2.1, t2.2.2.2.2.1, t2.2.2.2.2.2.1, (t2.2.2.2.2.2.2.1 + (1 : Int)), ()))))))) else (.v (.brk (w0, (), l5, l11, n12, n13, ()))) : Tr (St _ _))) x.1 x.2.2.1 x.2.2.2.1 x.2.2.2.2.1 x.2.2.2.2.2.1⟩
theorem zZF (w00 : El zH) (l50 : List (El zA)) (l110 : List (El zC)) (n120 : Int) (n130 : Int)  : (LB.run zA2 (w00, (), l50, l110, n120, n130, ())).all (fun _ => False) (fun (w0, _, _, l11, n12, _) => w00 = w0 ∧ l110 = l11 ∧ n120 = n12) (fun (w0, _, _, l11, n12, _) => w00 = w0 ∧ l110 = l11 ∧ n120 = n12) := by
 have H : ∀ (w0 : El zH) (l5 : List (El zA)) (l11 : List (El zC)) (n12 : Int) (n13 : Int), (w00 = w0 ∧ l110 = l11 ∧ n120 = n12) → St.all (fun _ => False) (fun (w0, _, _, l11, n12, _) => w00 = w0 ∧ l110 = l11 ∧ n120 = n12) (fun (w0, _, _, l11, n12, _) => w00 = w0 ∧ l110 = l11 ∧ n120 = n12) (zA2.b (w0, (), l5, l11, n12, n13, ())) := by
  intro w0 l5 l11 n12 n13 hI
  obtain ⟨eq0, eq1, eq2⟩ := hI
  simp only [LB.b, zA2, zi, zQ, zR, zy]
  refine zd (fun h3 => ?_) (fun h3 => ?_)
  ·replace h3 : n13 < n12 := of_decide_eq_true h3
   refine zPc (A' := fun _ => False) (B' := fun (t2w0, _, t2l5, t2n6, t2l11, t2n12, t2n13, t2l20, t2n21, t2n22, _) => w0 = t2w0 ∧ n13 = t2n6 ∧ l11 = t2l11 ∧ n12 = t2n12 ∧ n13 = t2n13 ∧ (yv (zB zC l11 n13) w0).1 = t2l20 ∧ ((yv (zB zC l11 n13) w0).1.length : Int) = t2n21) (zYf w0 l5 n13 l11 n12 n13 (yv (zB zC l11 n13) w0).1 ((yv (zB zC l11 n13) w0).1.length : Int) (0 : Int)) (fun _ h => h.elim) (fun t ht => ?_)
   obtain ⟨t2w0, ⟨⟩, t2l5, t2n6, t2l11, t2n12, t2n13, t2l20, t2n21, t2n22, ⟨⟩⟩ := t
   dsimp only
   obtain ⟨rfl, rfl, rfl, rfl, rfl, rfl, rfl⟩ := ht
   obtain ⟨t2n22, rfl⟩ : ∃ y : Int, y = t2n22 := ⟨_, rfl⟩
   exact ⟨eq0, eq1, eq2⟩
  ·replace h3 : ¬ (n13 < n12) := of_decide_eq_false h3
   exact ⟨eq0, eq1, eq2⟩
 exact LB.post (l := zA2) (A := fun _ => False) (fun (w0, _, _, l11, n12, _) => w00 = w0 ∧ l110 = l11 ∧ n120 = n12) (fun ⟨w0, ⟨⟩, l5, l11, n12, n13, ⟨⟩⟩ hx => H w0 l5 l11 n12 n13 hx) ⟨rfl, rfl, rfl⟩
theorem zX1 : SF zA2 fun x : El zH × Unit × List (El zA) × List (El zC) × Int × Int × Unit => (0 ≤ x.2.2.2.2.2.1 ∧ x.2.2.2.2.1 = (x.2.2.2.1.length : Int) ∧ (x.2.2.1.length : Int) ≤ 64000 * x.2.2.2.2.2.1 ∧ x.1.1.length ≤ 40 ∧ x.2.2.2.1.length ≤ 12 ∧ (∀ r ∈ x.2.2.2.1, (∀ p ∈ r.2.2.1, p.2.1.length ≤ 5) ∧ (yU r false).1.length ≤ 3), x.2.2.2.2.1 - x.2.2.2.2.2.1) := x5 (by
 rintro ⟨(w0 : El zH), ⟨⟩, (l5 : List (El zA)), (l11 : List (El zC)), (n12 : Int), (n13 : Int), ⟨⟩⟩ hI hw
 dsimp only at hI ⊢
 obtain ⟨i0, i1, k0, k1, k2, k3⟩ := hI
 have _ : -9223372036854775808 ≤ n12 ∧ n12 ≤ 9223372036854775807 := z0 hw.2.2.2.2.1
 have hb : (l11.length : Int) ≤ 16777216 := zE (hw.2.2.2.1.1)
 refine ⟨by omega, ?_⟩
 refine x4 (fun h4 => ?_) (fun h4 => ?_)
 ·replace h4 : n13 < n12 := of_decide_eq_true h4
  refine yt ?_ ?_
  ·first | omega | (simp <;> omega)
  ·refine yt ?_ ?_
   ·exact ⟨k1, (k3 _ (z4 (by omega))).1, (k3 _ (z4 (by omega))).2⟩
   ·refine yt ?_ ?_
    ·exact zX0 _ ⟨by (have _ := xh (r := zB zC l11 n13) (s := w0) k1 (k3 _ (z4 (by omega))).1 (k3 _ (z4 (by omega))).2; dsimp only <;> first | omega | assumption | (simp <;> omega)), by (have _ := xh (r := zB zC l11 n13) (s := w0) k1 (k3 _ (z4 (by omega))).1 (k3 _ (z4 (by omega))).2; dsimp only <;> first | omega | assumption | (simp <;> omega)), by (have _ := xh (r := zB zC l11 n13) (s := w0) k1 (k3 _ (z4 (by omega))).1 (k3 _ (z4 (by omega))).2; dsimp only <;> first | omega | assumption | (simp <;> omega)), by (have _ := xh (r := zB zC l11 n13) (s := w0) k1 (k3 _ (z4 (by omega))).1 (k3 _ (z4 (by omega))).2; dsimp only <;> first | omega | assumption | (simp <;> omega)), by (have _ := xh (r := zB zC l11 n13) (s := w0) k1 (k3 _ (z4 (by omega))).1 (k3 _ (z4 (by omega))).2; dsimp only <;> first | omega | assumption | (simp <;> omega))⟩
    ·refine zMd (A' := fun _ => False) (B' := fun (t2w0, _, t2l5, t2n6, t2l11, t2n12, t2n13, t2l20, t2n21, t2n22, _) => w0 = t2w0 ∧ n13 = t2n6 ∧ l11 = t2l11 ∧ n12 = t2n12 ∧ n13 = t2n13 ∧ (yv (zB zC l11 n13) w0).1 = t2l20 ∧ ((yv (zB zC l11 n13) w0).1.length : Int) = t2n21 ∧ ((t2l5.length : Int) ≤ 64000 * t2n13 + t2n22 ∧ t2n22 ≤ t2n21 ∧ t2n21 = (t2l20.length : Int))) (zZO w0 l5 n13 l11 n12 n13 (yv (zB zC l11 n13) w0).1 ((yv (zB zC l11 n13) w0).1.length : Int) (0 : Int) (by (have _ := xh (r := zB zC l11 n13) (s := w0) k1 (k3 _ (z4 (by omega))).1 (k3 _ (z4 (by omega))).2; first | omega | rfl | assumption | (simp <;> omega) | (refine ⟨?_, ?_, ?_⟩ <;> first | omega | rfl | (simp <;> omega)) | (refine ⟨?_, ?_⟩ <;> first | omega | rfl | (simp <;> omega))))) (fun _ h => h.elim) (fun t ht => ?_)
     obtain ⟨t2w0, ⟨⟩, t2l5, t2n6, t2l11, t2n12, t2n13, t2l20, t2n21, t2n22, ⟨⟩⟩ := t
     dsimp only
     obtain ⟨rfl, rfl, rfl, rfl, rfl, rfl, rfl, hth5⟩ := ht
     obtain ⟨t2n22, rfl⟩ : ∃ y : Int, y = t2n22 := ⟨_, rfl⟩
     replace hth5 : (t2l5.length : Int) ≤ 64000 * n13 + t2n22 ∧ t2n22 ≤ ((yv (zB zC l11 n13) w0).1.length : Int) ∧ ((yv (zB zC l11 n13) w0).1.length : Int) = ((yv (zB zC l11 n13) w0).1.length : Int) := hth5
     refine yt ?_ ?_
     ·exact ink (by omega) (by omega)
     ·exact show (0 ≤ (n13 + (1 : Int)) ∧ n12 = (l11.length : Int) ∧ (t2l5.length : Int) ≤ 64000 * (n13 + (1 : Int)) ∧ w0.1.length ≤ 40 ∧ l11.length ≤ 12 ∧ (∀ r ∈ l11, (∀ p ∈ r.2.2.1, p.2.1.length ≤ 5) ∧ (yU r false).1.length ≤ 3)) ∧ n12 - (n13 + (1 : Int)) < n12 - n13 ∧ 0 < n12 - n13 from ⟨⟨by (have _ := xh (r := zB zC l11 n13) (s := w0) k1 (k3 _ (z4 (by omega))).1 (k3 _ (z4 (by omega))).2; first | omega | rfl | assumption | (simp <;> omega)), by (have _ := xh (r := zB zC l11 n13) (s := w0) k1 (k3 _ (z4 (by omega))).1 (k3 _ (z4 (by omega))).2; first | omega | rfl | assumption | (simp <;> omega)), by (have _ := xh (r := zB zC l11 n13) (s := w0) k1 (k3 _ (z4 (by omega))).1 (k3 _ (z4 (by omega))).2; first | omega | rfl | assumption | (simp <;> omega)), by (have _ := xh (r := zB zC l11 n13) (s := w0) k1 (k3 _ (z4 (by omega))).1 (k3 _ (z4 (by omega))).2; first | omega | rfl | assumption | (simp <;> omega)), by (have _ := xh (r := zB zC l11 n13) (s := w0) k1 (k3 _ (z4 (by omega))).1 (k3 _ (z4 (by omega))).2; first | omega | rfl | assumption | (simp <;> omega)), by (have _ := xh (r := zB zC l11 n13) (s := w0) k1 (k3 _ (z4 (by omega))).1 (k3 _ (z4 (by omega))).2; first | omega | rfl | assumption | (simp <;> omega))⟩, by (first | omega | (simp only [List.length_set]; omega)), by (first | omega | (simp only [List.length_set]; omega))⟩
 ·replace h4 : ¬ (n13 < n12) := of_decide_eq_false h4
  exact trivial)
def zNt (a0 : El zN) (a1 : El zH) : Tr (List (El zA) × Unit) := .lp zA2 (a1, (), ([] : List (El zA)), a0.2, (a0.2.length : Int), (0 : Int), ()) (fun _ => .bad) (fun t3 => .v (t3.2.2.1, ()))
def zNP a0 a1 := (zNt a0 a1).val
def zNG (a0 : El zN) (a1 : El zH) : Prop := zlv a0 a1
@[reducible] def zYd : FnD := ⟨[va zN, va zH], [vo zA], false, fun a => some (zNG a.1 a.2.1), fun a => zNP a.1 a.2.1⟩
theorem ziJ (a0 : El zN) (a1 : El zH) (_ : xH zYd.args (a0, a1, ())) (hp : zNG a0 a1) : (zNt a0 a1).ok := by
 unfold zNG at hp
 obtain ⟨hp1, hp2, hp3⟩ := hp
 unfold zNt
 refine zJ ?_ ?_
 ·exact zX1 _ ⟨by (dsimp only <;> first | omega | rfl | assumption | (simp <;> omega)), by (dsimp only <;> first | omega | rfl | assumption | (simp <;> omega)), by (dsimp only <;> first | omega | rfl | assumption | (simp <;> omega)), by (dsimp only <;> first | omega | rfl | assumption | (simp <;> omega)), by (dsimp only <;> first | omega | rfl | assumption | (simp <;> omega)), by (dsimp only <;> first | omega | rfl | assumption | (simp <;> omega))⟩
 ·refine zID (A' := fun _ => False) (B' := fun (t3w0, _, t3l5, t3l11, t3n12, t3n13, _) => a1 = t3w0 ∧ a0.2 = t3l11 ∧ (a0.2.length : Int) = t3n12) (zZF a1 ([] : List (El zA)) a0.2 (a0.2.length : Int) (0 : Int)) (fun _ h => h.elim) (fun t ht => ?_)
  obtain ⟨t3w0, ⟨⟩, t3l5, t3l11, t3n12, t3n13, ⟨⟩⟩ := t
  dsimp only
  obtain ⟨rfl, rfl, rfl⟩ := ht
  obtain ⟨t3n13, rfl⟩ : ∃ y : Int, y = t3n13 := ⟨_, rfl⟩
  trivial
def zje : Con Tryz.prog := yE mo g0 [zU5] [zA2, vB] 47 zYd (fn := Tryz.f47) ⟨lk, lk, trivial⟩ (fun a hw h => yX (by kernel_rfl) (ziJ a.1 a.2.1 hw h) rfl)
def zIz (a0 : El zN) (a1 : El zA) : Tr (Bool × Unit) := bif decide (a1.1 ≥ (0 : Int)) then (.v (decide (a1.1 < (a0.2.length : Int)), ())) else (.v (false, ()))
def xA a0 a1 := (zIz a0 a1).val
@[reducible] def zaX : FnD := ⟨[va zN, va zA], [vd .bool], true, fun _ => none, fun a => xA a.1 a.2.1⟩
def zMn : Con Tryz.prog := yE mo g0 [] [] 83 zaX (fn := Tryz.f83) trivial (fun a _ _ => yX (t' := zIz a.1 a.2.1) (by kernel_rfl) (by simp [zIz]) rfl)
theorem zJY {d : El zN} {m : El zA} (h : (xA d m).1 = true) : 0 ≤ m.1 ∧ m.1 < (d.2.length : Int) := by
 simp only [xA, zIz, zi, zR] at h
 cases e : decide (m.1 ≥ (0 : Int)) with
 | false => rw [e] at h; cases h
 | true =>
  rw [e] at h
  exact ⟨of_decide_eq_true e, of_decide_eq_true h⟩
@[reducible] def yG : LB := ⟨[], ⟨36, [], [(0, vd (.lst .int)), (1, vd (.lst .int)), (9, vd (.lst .int)), (10, vd .int), (11, vd .int)]⟩, ⟨36, [], [(4, vd .int)]⟩, 0, fun x => (fun (l0 : List (El .int)) (l1 : List (El .int)) (l9 : List (El .int)) (n10 : Int) (n11 : Int) => (bif decide (n11 < n10) then (.ix n11 l9 (bif decide (n11 ≥ (l1.length : Int)) then (.v (.ret ((1 : Int), ()))) else (.ix n11 l1 (let y1 := (zx (zB .int l9 n11) (zB .int l1 n11)); bif (y1.1 != (0 : Int)) then (.v (.ret (y1.1, ()))) else (.ik (n11 + (1 : Int)) (.v (.go (l0, l1, l9, n10, (n11 + (1 : Int)), ())))))))) else (.v (.brk (l0, l1, l9, n10, n11, ()))) : Tr (St _ _))) x.1 x.2.1 x.2.2.1 x.2.2.2.1 x.2.2.2.2.1⟩
theorem zGC (l0 : List (El .int)) (l1 : List (El .int)) (l9 : List (El .int)) : LB.run yG (l0, l1, l9, (l0.length : Int), (0 : Int), ()) = zDg (xB (fun i _ => bif (decide ((i : Int) ≥ (l1.length : Int))) then (some ((1 : Int), ())) else (bif ((zx (zB .int l9 (i : Int)) (zB .int l1 (i : Int))).1 != (0 : Int)) then (some ((zx (zB .int l9 (i : Int)) (zB .int l1 (i : Int))).1, ())) else none)) 0 l0) (l0, l1, l9, (l0.length : Int), (l0.length : Int), ()) := LB.run_scan (l := yG) (fun i => (l0, l1, l9, (l0.length : Int), (i : Int), ())) (fun i x h => by
  simp only [LB.b, yG, zi, zQ, zR, cond_true, yQ h]
  cases (decide ((i : Int) ≥ (l1.length : Int)))
  ·cases ((zx (zB .int l9 (i : Int)) (zB .int l1 (i : Int))).1 != (0 : Int)) <;> rfl
  ·rfl) (by simp only [LB.b, yG, xo]; rfl)
theorem zGS : SF yG fun x : List (El .int) × List (El .int) × List (El .int) × Int × Int × Unit => (0 ≤ x.2.2.2.2.1 ∧ x.2.2.2.1 = (x.1.length : Int) ∧ x.2.2.2.1 ≤ (x.2.2.1.length : Int), x.2.2.2.1 - x.2.2.2.2.1) := x5 (by
 rintro ⟨(l0 : List (El .int)), (l1 : List (El .int)), (l9 : List (El .int)), (n10 : Int), (n11 : Int), ⟨⟩⟩ hI hw
 have _ : -9223372036854775808 ≤ n10 ∧ n10 ≤ 9223372036854775807 := z0 hw.2.2.2.1
 have _ : (l0.length : Int) ≤ 16777216 := zE (hw.1.1)
 simp [yG] at hI ⊢
 repeat' first | intro _ | apply And.intro
 all_goals omega)
def vV (a0 : List (El .int)) (a1 : List (El .int)) : Tr (Int × Unit) := .lp yG (a0, a1, a0, (a0.length : Int), (0 : Int), ()) (fun r2 => .v (r2.1, ())) (fun t2 => bif decide ((t2.1.length : Int) < (t2.2.1.length : Int)) then (.v ((-1 : Int), ())) else (.v ((0 : Int), ())))
def vU a0 a1 := (vV a0 a1).val
@[reducible] def zDm : FnD := ⟨[vd (.lst .int), vd (.lst .int)], [vd .int], true, fun _ => none, fun a => vU a.1 a.2.1⟩
theorem zH8 (a0 : List (El .int)) (a1 : List (El .int)) (_ : xH zDm.args (a0, a1, ())) : (vV a0 a1).ok := by
 unfold vV
 refine zJ ?_ ?_
 ·exact zGS _ ⟨by (dsimp only <;> omega), by (dsimp only <;> omega), by (dsimp only <;> omega)⟩
 ·simp
def zH5 : Con Tryz.prog := yE mo g0 [zEd] [yG] 238 zDm (fn := Tryz.f238) ⟨lk, trivial⟩ (fun a hw _ => yX (by kernel_rfl) (zH8 a.1 a.2.1 hw) rfl)
theorem zH7 (a0 : List (El .int)) (a1 : List (El .int)) : vU a0 a1 = zE1 (xB (fun i _ => bif (decide ((i : Int) ≥ (a1.length : Int))) then (some ((1 : Int), ())) else (bif ((zx (zB .int a0 (i : Int)) (zB .int a1 (i : Int))).1 != (0 : Int)) then (some ((zx (zB .int a0 (i : Int)) (zB .int a1 (i : Int))).1, ())) else none)) 0 a0) (fun (r1 : yG.r.T) => (r1.1, ())) (bif (decide ((a0.length : Int) < (a1.length : Int))) then ((-1 : Int), ()) else ((0 : Int), ())) := by
 simp only [vU, vV, zR, zi, zy, zQ]
 rw [zGC, xw] <;> rfl
def zCQ (a0 : El zA) (a1 : El zA) : Tr (Int × Unit) := let y3 := (vu [(zx a0.1 a1.1).1, (zx (a0.2.1.length : Int) (a1.2.1.length : Int)).1]); bif (y3.1 == (0 : Int)) then (.v ((vU a0.2.1 a1.2.1).1, ())) else (.v (y3.1, ()))
def zEn a0 a1 := (zCQ a0 a1).val
@[reducible] def zNO : FnD := ⟨[va zA, va zA], [vd .int], true, fun _ => none, fun a => zEn a.1 a.2.1⟩
def zNx : Con Tryz.prog := yE mo g0 [zEd, zN1, zH5] [] 195 zNO (fn := Tryz.f195) trivial (fun a _ _ => yX (t' := zCQ a.1 a.2.1) (by kernel_rfl) (by simp [zCQ]) rfl)
def zGI (a0 : El zA) (a1 : El zA) : Bool × Unit := (decide ((zEn a0 a1).1 < (0 : Int)), ())
@[reducible] def zWG : FnD := ⟨[va zA, va zA], [vd .bool], true, fun _ => none, fun a => zGI a.1 a.2.1⟩
def zUv : Con Tryz.prog := yE mo g0 [zNx] [] 140 zWG (fn := Tryz.f140) trivial (fun _ _ _ => okv (by kernel_rfl))
def zKw (a0 : El zN) (a1 : El zA) (a2 : El zA) : Tr (Bool × Unit) := bif (!(xA a0 a1).1) then (.v (false, ())) else (bif (!(xA a0 a2).1) then (.v (false, ())) else (.ix a1.1 a0.2 (.ix a2.1 a0.2 (bif decide ((zB zC a0.2 a1.1).2.1 > (zB zC a0.2 a2.1).2.1) then (.v (true, ())) else (bif ((zB zC a0.2 a1.1).2.1 == (zB zC a0.2 a2.1).2.1) then (.v ((zGI a1 a2).1, ())) else (.v (false, ())))))))
def zCJ a0 a1 a2 := (zKw a0 a1 a2).val
@[reducible] def zTf : FnD := ⟨[va zN, va zA, va zA], [vd .bool], true, fun _ => none, fun a => zCJ a.1 a.2.1 a.2.2.1⟩
theorem zfS (a0 : El zN) (a1 : El zA) (a2 : El zA) (_ : xH zTf.args (a0, a1, a2, ())) : (zKw a0 a1 a2).ok := by
 unfold zKw
 refine zo (fun _ => trivial) (fun h1 => ?_)
 replace h1 := vj h1
 replace h1 := zJY h1
 refine zo (fun _ => trivial) (fun h2 => ?_)
 replace h2 := vj h2
 replace h2 := zJY h2
 refine zJ ?_ ?_
 ·first | omega | (simp <;> omega)
 ·refine zJ ?_ ?_
  ·first | omega | (simp <;> omega)
  ·simp
def zdr : Con Tryz.prog := yE mo g0 [zMn, zUv] [] 85 zTf (fn := Tryz.f85) trivial (fun a hw _ => yX (by kernel_rfl) (zfS a.1 a.2.1 a.2.2.1 hw) rfl)
@[reducible] def yc : LB := ⟨[], ⟨26, [], [(0, vd (.lst .int)), (1, vd (.lst .int)), (12, vd .int), (13, vd .int)]⟩, ⟨26, [], [(4, vd .bool)]⟩, 0, fun x => (fun (l0 : List (El .int)) (l1 : List (El .int)) (n12 : Int) (n13 : Int) => (bif decide (n13 < n12) then (.ix n13 l0 (.ix n13 l1 (bif ((zB .int l0 n13) != (zB .int l1 n13)) then (.v (.ret (false, ()))) else (.ik (n13 + (1 : Int)) (.v (.go (l0, l1, n12, (n13 + (1 : Int)), ()))))))) else (.v (.brk (l0, l1, n12, n13, ()))) : Tr (St _ _))) x.1 x.2.1 x.2.2.1 x.2.2.2.1⟩
theorem zHZ (l0 : List (El .int)) (l1 : List (El .int)) : LB.run yc (l0, l1, (l0.length : Int), (0 : Int), ()) = bif ze (fun i x => bif (x != (zB .int l1 (i : Int))) then false else true) 0 l0 then .brk (l0, l1, (l0.length : Int), (l0.length : Int), ()) else .ret (false, ()) := LB.run_all (l := yc) (fun i => (l0, l1, (l0.length : Int), (i : Int), ())) (fun i x h => by
  simp only [LB.b, yc, zi, zQ, zR, cond_true, yQ h, zG h]
  cases (x != (zB .int l1 (i : Int))) <;> rfl) (by simp only [LB.b, yc, xo]; rfl)
theorem zHa : SF yc fun x : List (El .int) × List (El .int) × Int × Int × Unit => (0 ≤ x.2.2.2.1 ∧ x.2.2.1 = (x.1.length : Int) ∧ x.2.2.1 ≤ (x.2.1.length : Int), x.2.2.1 - x.2.2.2.1) := x5 (by
 rintro ⟨(l0 : List (El .int)), (l1 : List (El .int)), (n12 : Int), (n13 : Int), ⟨⟩⟩ hI hw
 have _ : -9223372036854775808 ≤ n12 ∧ n12 ≤ 9223372036854775807 := z0 hw.2.2.1
 have _ : (l0.length : Int) ≤ 16777216 := zE (hw.1.1)
 simp [yc] at hI ⊢
 repeat' first | intro _ | apply And.intro
 all_goals omega)
def vy (a0 : List (El .int)) (a1 : List (El .int)) : Tr (Bool × Unit) := bif ((a0.length : Int) != (a1.length : Int)) then (.v (false, ())) else (.lp yc (a0, a1, (a0.length : Int), (0 : Int), ()) (fun r1 => .v (r1.1, ())) (fun _ => .v (true, ())))
def vv a0 a1 := (vy a0 a1).val
@[reducible] def zEg : FnD := ⟨[vd (.lst .int), vd (.lst .int)], [vd .bool], true, fun _ => none, fun a => vv a.1 a.2.1⟩
theorem zJb (a0 : List (El .int)) (a1 : List (El .int)) (_ : xH zEg.args (a0, a1, ())) : (vy a0 a1).ok := by
 unfold vy
 refine zo (fun _ => trivial) (fun h1 => ?_)
 replace h1 := zAg h1
 refine zJ ?_ ?_
 ·exact zHa _ ⟨by (dsimp only <;> omega), by (dsimp only <;> omega), by (dsimp only <;> omega)⟩
 ·simp
def zJf : Con Tryz.prog := yE mo g0 [] [yc] 194 zEg (fn := Tryz.f194) ⟨lk, trivial⟩ (fun a hw _ => yX (by kernel_rfl) (zJb a.1 a.2.1 hw) rfl)
theorem zJc (a0 : List (El .int)) (a1 : List (El .int)) : vv a0 a1 = bif ((a0.length : Int) != (a1.length : Int)) then (false, ()) else (bif ze (fun i x => bif (x != (zB .int a1 (i : Int))) then false else true) 0 a0 then (true, ()) else (false, ())) := by
 simp only [vv, vy, zR, zi, zy, zQ]
 rw [zHZ, z6] <;> rfl
def zGE (a0 : El zA) (a1 : El zA) : Tr (Bool × Unit) := bif (a0.1 == a1.1) then (.v ((vv a0.2.1 a1.2.1).1, ())) else (.v (false, ()))
def zGN a0 a1 := (zGE a0 a1).val
@[reducible] def zWU : FnD := ⟨[va zA, va zA], [vd .bool], true, fun _ => none, fun a => zGN a.1 a.2.1⟩
def zV4 : Con Tryz.prog := yE mo g0 [zJf] [] 139 zWU (fn := Tryz.f139) trivial (fun a _ _ => yX (t' := zGE a.1 a.2.1) (by kernel_rfl) (by simp [zGE]) rfl)
def zCI (a0 : El zA) (a1 : El zA) : Bool × Unit := ((zGN a0 a1).1, ())
@[reducible] def zTV : FnD := ⟨[va zA, .bx zA 0], [vd .bool], true, fun _ => none, fun a => zCI a.1 a.2.1⟩
def zSI : Con Tryz.prog := yE mo g0 [zV4] [] 138 zTV (fn := Tryz.f138) trivial (fun _ _ _ => okv (by kernel_rfl))
@[reducible] def zT : LB := ⟨[], ⟨19, [], [(0, vd (.lst zA)), (1, .fn 138 [zA]), (7, vd .int), (8, vd .int)]⟩, ⟨19, [], [(4, vd .int)]⟩, 0, fun x => (fun (l0 : List (El zA)) (f1 : TyL [zA]) (n7 : Int) (n8 : Int) => (bif decide (n8 < n7) then (.ix n8 l0 (bif (zCI (zB zA l0 n8) f1.1).1 then (.v (.ret (n8, ()))) else (.ik (n8 + (1 : Int)) (.v (.go (l0, (f1.1, ()), n7, (n8 + (1 : Int)), ())))))) else (.v (.brk (l0, (f1.1, ()), n7, n8, ()))) : Tr (St _ _))) x.1 x.2.1 x.2.2.1 x.2.2.2.1⟩
theorem zBG (l0 : List (El zA)) (f1 : TyL [zA]) : LB.run zT (l0, f1, (l0.length : Int), (0 : Int), ()) = zDg (xB (fun i x => bif (zCI x f1.1).1 then (some ((i : Int), ())) else none) 0 l0) (l0, f1, (l0.length : Int), (l0.length : Int), ()) := LB.run_scan (l := zT) (fun i => (l0, f1, (l0.length : Int), (i : Int), ())) (fun i x h => by
  simp only [LB.b, zT, zi, zQ, zR, cond_true, yQ h, zG h]
  cases (zCI x f1.1).1 <;> rfl) (by simp only [LB.b, zT, xo]; rfl)
theorem zBF : SF zT fun x : List (El zA) × TyL [zA] × Int × Int × Unit => (0 ≤ x.2.2.2.1 ∧ x.2.2.1 = (x.1.length : Int), x.2.2.1 - x.2.2.2.1) := x5 (by
 rintro ⟨(l0 : List (El zA)), (f1 : TyL [zA]), (n7 : Int), (n8 : Int), ⟨⟩⟩ hI hw
 have _ : -9223372036854775808 ≤ n7 ∧ n7 ≤ 9223372036854775807 := z0 hw.2.2.1
 have _ : (l0.length : Int) ≤ 16777216 := zE (hw.1.1)
 simp [zT] at hI ⊢
 repeat' first | intro _ | apply And.intro
 all_goals omega)
def yZ (a0 : List (El zA)) (a1 : TyL [zA]) : Tr (Int × Unit) := .lp zT (a0, (a1.1, ()), (a0.length : Int), (0 : Int), ()) (fun r2 => .v (r2.1, ())) (fun _ => .v ((-1 : Int), ()))
def ya a0 a1 := (yZ a0 a1).val
@[reducible] def vL : FnD := ⟨[vd (.lst zA), .fn 138 [zA]], [vd .int], true, fun _ => none, fun a => ya a.1 a.2.1⟩
theorem zCN (a0 : List (El zA)) (a1 : TyL [zA]) (_ : xH vL.args (a0, a1, ())) : (yZ a0 a1).ok := by
 unfold yZ
 refine zJ ?_ ?_
 ·exact zBF _ ⟨by (dsimp only <;> omega), by (dsimp only <;> omega)⟩
 ·simp
def zCM : Con Tryz.prog := yE mo g0 [zSI] [zT] 193 vL (fn := Tryz.f193) ⟨lk, trivial⟩ (fun a hw _ => yX (by kernel_rfl) (zCN a.1 a.2.1 hw) rfl)
theorem zCL (a0 : List (El zA)) (a1 : TyL [zA]) : ya a0 a1 = zE1 (xB (fun i x => bif (zCI x (a1.1, ()).1).1 then (some ((i : Int), ())) else none) 0 a0) (fun (r1 : zT.r.T) => (r1.1, ())) ((-1 : Int), ()) := by
 simp only [ya, yZ, zR, zy, zQ]
 rw [zBG, xw] <;> rfl
def yw (a0 : List (El zA)) (a1 : TyL [zA]) : Bool × Unit := (decide ((ya a0 (a1.1, ())).1 ≥ (0 : Int)), ())
@[reducible] def zBC : FnD := ⟨[vd (.lst zA), .fn 138 [zA]], [vd .bool], true, fun _ => none, fun a => yw a.1 a.2.1⟩
def zBE : Con Tryz.prog := yE mo g0 [zCM] [] 137 zBC (fn := Tryz.f137) trivial (fun _ _ _ => okv (by kernel_rfl))
def zAA (a0 : List (El zA)) (a1 : El zA) : Bool × Unit := ((yw a0 (a1, ())).1, ())
@[reducible] def zXx : FnD := ⟨[vd (.lst zA), va zA], [vd .bool], true, fun _ => none, fun a => zAA a.1 a.2.1⟩
def zYb : Con Tryz.prog := yE mo g0 [zBE] [] 84 zXx (fn := Tryz.f84) trivial (fun _ _ _ => okv (by kernel_rfl))
def zGJ (a0 : El zA) : El zA × Unit := (a0, ())
@[reducible] def zWp : FnD := ⟨[va zA], [.val true (.pr (.d .int) (.pr (.o (.d .int)) (.o (.d zF))))], true, fun _ => none, fun a => zGJ a.1⟩
def zVv : Con Tryz.prog := yE mo g0 [zEb, xq] [] 86 zWp (fn := Tryz.f86) trivial (fun _ _ _ => okv (by kernel_rfl))
@[reducible] def v9 : LB := ⟨[1, 0, 2], ⟨40, [.pr (.d .int) (.pr (.o (.d .int)) (.o (.d zF))), .d zN, .d zA], [(2, vd (.lst zA)), (3, .pt 1 0), (6, .pt 0 0), (8, .pt 2 0), (9, vd .bool), (12, vd (.lst zA)), (13, vd .int), (14, vd .int)]⟩, ⟨40, [], []⟩, 0, fun x => (fun (w0 : El zA) (w1 : El zN) (w2 : El zA) (l2 : List (El zA)) (b9 : Bool) (l12 : List (El zA)) (n13 : Int) (n14 : Int) => (bif decide (n14 < n13) then (.ix n14 l12 (bif (!(xA w1 (zB zA l12 n14)).1) then (.ik (n14 + (1 : Int)) (.v (.go (w0, w1, w2, l2, (), (), (), b9, l12, n13, (n14 + (1 : Int)), ())))) else (bif (zAA l2 (zB zA l12 n14)).1 then (.ik (n14 + (1 : Int)) (.v (.go (w0, w1, w2, l2, (), (), (), b9, l12, n13, (n14 + (1 : Int)), ())))) else (bif (!b9) then (.ik (n14 + (1 : Int)) (.v (.go (w0, w1, (zB zA l12 n14), l2, (), (), (), true, l12, n13, (n14 + (1 : Int)), ())))) else (bif (zCJ w1 (zB zA l12 n14) w2).1 then (.ik (n14 + (1 : Int)) (.v (.go (w0, w1, (zB zA l12 n14), l2, (), (), (), true, l12, n13, (n14 + (1 : Int)), ())))) else (.ik (n14 + (1 : Int)) (.v (.go (w0, w1, w2, l2, (), (), (), b9, l12, n13, (n14 + (1 : Int)), ()))))))))) else (.v (.brk (w0, w1, w2, l2, (), (), (), b9, l12, n13, n14, ()))) : Tr (St _ _))) x.1 x.2.1 x.2.2.1 x.2.2.2.1 x.2.2.2.2.2.2.2.1 x.2.2.2.2.2.2.2.2.1 x.2.2.2.2.2.2.2.2.2.1 x.2.2.2.2.2.2.2.2.2.2.1⟩
theorem zKF (w0 : El zA) (w1 : El zN) (l2 : List (El zA)) (l12 : List (El zA)) (w2 : El zA) (b9 : Bool) : LB.run v9 (w0, w1, w2, l2, (), (), (), b9, l12, (l12.length : Int), (0 : Int), ()) = .brk (w0, w1, (zc (fun _ x (s : (El zA) × Bool) => bif (!(xA w1 x).1) then (s.1, s.2) else (bif (zAA l2 x).1 then (s.1, s.2) else (bif (!s.2) then (x, true) else (bif (zCJ w1 x s.1).1 then (x, true) else (s.1, s.2))))) 0 l12 (w2, b9)).1, l2, (), (), (), (zc (fun _ x (s : (El zA) × Bool) => bif (!(xA w1 x).1) then (s.1, s.2) else (bif (zAA l2 x).1 then (s.1, s.2) else (bif (!s.2) then (x, true) else (bif (zCJ w1 x s.1).1 then (x, true) else (s.1, s.2))))) 0 l12 (w2, b9)).2, l12, (l12.length : Int), (l12.length : Int), ()) := LB.run_fold (l := v9) (fun i s => (w0, w1, s.1, l2, (), (), (), s.2, l12, (l12.length : Int), (i : Int), ())) (f := fun i x s => bif (!(xA w1 x).1) then (s.1, s.2) else (bif (zAA l2 x).1 then (s.1, s.2) else (bif (!s.2) then (x, true) else (bif (zCJ w1 x s.1).1 then (x, true) else (s.1, s.2))))) (s := (w2, b9)) (fun i x s h => by
  simp only [LB.b, v9, zi, zQ, zR, cond_true, yQ h, zG h]
  cases (!(xA w1 x).1)
  ·cases (zAA l2 x).1
   ·cases (!s.2)
    ·cases (zCJ w1 x s.1).1 <;> rfl
    ·rfl
   ·rfl
  ·rfl) (fun s => by simp only [LB.b, v9, xo]; rfl)
theorem zPO : SF v9 fun x : El zA × El zN × El zA × List (El zA) × Unit × Unit × Unit × Bool × List (El zA) × Int × Int × Unit => (0 ≤ x.2.2.2.2.2.2.2.2.2.2.1 ∧ x.2.2.2.2.2.2.2.2.2.1 = (x.2.2.2.2.2.2.2.2.1.length : Int), x.2.2.2.2.2.2.2.2.2.1 - x.2.2.2.2.2.2.2.2.2.2.1) := x5 (by
 rintro ⟨(w0 : El zA), (w1 : El zN), (w2 : El zA), (l2 : List (El zA)), ⟨⟩, ⟨⟩, ⟨⟩, (b9 : Bool), (l12 : List (El zA)), (n13 : Int), (n14 : Int), ⟨⟩⟩ hI hw
 have _ : -9223372036854775808 ≤ n13 ∧ n13 ≤ 9223372036854775807 := z0 hw.2.2.2.2.2.2.2.2.2.1
 have _ : (l12.length : Int) ≤ 16777216 := zE (hw.2.2.2.2.2.2.2.2.1.1)
 have _ := fun h : (xA w1 (zB zA l12 n14)).1 = true => zJY h
 simp [v9] at hI ⊢
 repeat' first | intro _ | apply And.intro
 all_goals omega)
def zGO (a0 : El zN) (a1 : List (El zA)) (a2 : List (El zA)) : Tr (El zA × Bool × Unit) := .lp v9 (((0 : Int), (([] : List (El .int)), ([] : List (El zF)))), a0, ((0 : Int), (([] : List (El .int)), ([] : List (El zF)))), a2, (), (), (), false, a1, (a1.length : Int), (0 : Int), ()) (fun _ => .bad) (fun t7 => .v ((zGJ t7.2.2.1).1, t7.2.2.2.2.2.2.2.1, ()))
def zEZ a0 a1 a2 := (zGO a0 a1 a2).val
@[reducible] def zNp : FnD := ⟨[va zN, vd (.lst zA), vd (.lst zA)], [.val true (.pr (.d .int) (.pr (.o (.d .int)) (.o (.d zF)))), vd .bool], true, fun _ => none, fun a => zEZ a.1 a.2.1 a.2.2.1⟩
theorem zVL (a0 : El zN) (a1 : List (El zA)) (a2 : List (El zA)) (_ : xH zNp.args (a0, a1, a2, ())) : (zGO a0 a1 a2).ok := by
 unfold zGO
 refine zJ ?_ ?_
 ·exact zPO _ ⟨by simp, by simp⟩
 ·refine vJ (zKF ((0 : Int), (([] : List (El .int)), ([] : List (El zF)))) a0 a2 a1 ((0 : Int), (([] : List (El .int)), ([] : List (El zF)))) false) ?_
  try dsimp only
  trivial
def zWs : Con Tryz.prog := yE mo g0 [zMn, zdr, zYb, zVv] [v9] 46 zNp (fn := Tryz.f46) ⟨lk, trivial⟩ (fun a hw _ => yX (by kernel_rfl) (zVL a.1 a.2.1 a.2.2.1 hw) rfl)
theorem zWc (a0 : El zN) (a1 : List (El zA)) (a2 : List (El zA)) : zEZ a0 a1 a2 = ((zGJ (zc (fun _ x (s : (El zA) × Bool) => bif (!(xA a0 x).1) then (s.1, s.2) else (bif (zAA a2 x).1 then (s.1, s.2) else (bif (!s.2) then (x, true) else (bif (zCJ a0 x s.1).1 then (x, true) else (s.1, s.2))))) 0 a1 (((0 : Int), (([] : List (El .int)), ([] : List (El zF)))), false)).1).1, (zc (fun _ x (s : (El zA) × Bool) => bif (!(xA a0 x).1) then (s.1, s.2) else (bif (zAA a2 x).1 then (s.1, s.2) else (bif (!s.2) then (x, true) else (bif (zCJ a0 x s.1).1 then (x, true) else (s.1, s.2))))) 0 a1 (((0 : Int), (([] : List (El .int)), ([] : List (El zF)))), false)).2, ()) := by
 simp only [zEZ, zGO, zR, zy, zQ]
 rw [zKF, xa] <;> rfl
def zJv (a0 : El zp) (a1 : Int) : Tr (El zA × Bool × Unit) := .ix a1 a0.2.1 (bif ((zB zg a0.2.1 a1).2.2.2.2.2.2.2.1 != (1 : Int)) then (.v (((0 : Int), (([] : List (El .int)), ([] : List (El zF)))), false, ())) else (.ck (zDZ a0 a1) (.ck (zNG (vS a0 a1).1 (zB zg a0.2.1 a1).2.2.1) (let y2 := (zEZ (vS a0 a1).1 (zNP (vS a0 a1).1 (zB zg a0.2.1 a1).2.2.1).1 (zB zg a0.2.1 a1).2.2.2.1); .v (y2.1, y2.2.1, ())))))
def zMc a0 a1 := (zJv a0 a1).val
def zJC (a0 : El zp) (a1 : Int) : Prop := ((0 ≤ a1 ∧ a1 < (a0.2.1.length : Int)) ∧ 0 ≤ (xy a0 (zB zg a0.2.1 a1).2.1).1) ∧ zlv (vS a0 a1).1 (zB zg a0.2.1 a1).2.2.1
@[reducible] def zRK : FnD := ⟨[.bx zp 0, vd .int], [.val true (.pr (.d .int) (.pr (.o (.d .int)) (.o (.d zF)))), vd .bool], true, fun a => some (zJC a.1 a.2.1), fun a => zMc a.1 a.2.1⟩
theorem zag (a0 : El zp) (a1 : Int) (_ : xH zRK.args (a0, a1, ())) (hp : zJC a0 a1) : (zJv a0 a1).ok := by
 unfold zJC at hp
 unfold zJv
 refine zJ ?_ ?_
 ·exact hp.1.1
 ·refine zo (fun _ => trivial) (fun h1 => ?_)
  replace h1 := zAg h1
  refine zJ ?_ ?_
  ·exact hp.1
  ·refine zJ ?_ ?_
   ·exact hp.2
   ·simp
def zZn : Con Tryz.prog := yE mo g0 [zOh, zje, zWs] [] 22 zRK (fn := Tryz.f22) trivial (fun a hw h => yX (by kernel_rfl) (zag a.1 a.2.1 hw h) rfl)
def zJy (a0 : Int) : Tr (Bool × Unit) := bif decide (a0 ≥ (97 : Int)) then (.v (decide (a0 ≤ (122 : Int)), ())) else (.v (false, ()))
def zG2 a0 := (zJy a0).val
@[reducible] def zbU : FnD := ⟨[vd .u8], [vd .bool], true, fun _ => none, fun a => zG2 a.1⟩
def zRU : Con Tryz.prog := yE mo g0 [] [] 71 zbU (fn := Tryz.f71) trivial (fun a _ _ => yX (t' := zJy a.1) (by kernel_rfl) (by simp [zJy]) rfl)
def zI1 (a0 : Int) : Tr (Bool × Unit) := bif decide (a0 ≥ (48 : Int)) then (.v (decide (a0 ≤ (57 : Int)), ())) else (.v (false, ()))
def zMa a0 := (zI1 a0).val
@[reducible] def zZV : FnD := ⟨[vd .u8], [vd .bool], true, fun _ => none, fun a => zMa a.1⟩
def zbm : Con Tryz.prog := yE mo g0 [] [] 186 zZV (fn := Tryz.f186) trivial (fun a _ _ => yX (t' := zI1 a.1) (by kernel_rfl) (by simp [zI1]) rfl)
def zFb (a0 : Int) : Tr (Bool × Unit) := bif (zG2 a0).1 then (.v (true, ())) else (bif (zMa a0).1 then (.v (true, ())) else (.v ((a0 == (95 : Int)), ())))
def xg a0 := (zFb a0).val
@[reducible] def zTP : FnD := ⟨[vd .u8], [vd .bool], true, fun _ => none, fun a => xg a.1⟩
def zMP : Con Tryz.prog := yE mo g0 [zRU, zbm] [] 127 zTP (fn := Tryz.f127) trivial (fun a _ _ => yX (t' := zFb a.1) (by kernel_rfl) (by simp [zFb]) rfl)
@[reducible] def zBm : LB := ⟨[], ⟨21, [], [(0, vd .str), (5, vd .int)]⟩, ⟨21, [], [(4, vd .bool)]⟩, 0, fun x => (fun (s0 : ByteArray) (n5 : Int) => (bif decide (n5 < (s0.size : Int)) then (.is n5 s0 (bif (!(xg ((bt s0 n5).toNat : Int)).1) then (.v (.ret (false, ()))) else (.ik (n5 + (1 : Int)) (.v (.go (s0, (n5 + (1 : Int)), ())))))) else (.v (.brk (s0, n5, ()))) : Tr (St _ _))) x.1 x.2.1⟩
theorem zVf (s0 : ByteArray) : LB.run zBm (s0, (0 : Int), ()) = bif ze (fun _ x => bif (!(xg (x.toNat : Int)).1) then false else true) 0 s0.data.toList then .brk (s0, (s0.size : Int), ()) else .ret (false, ()) := LB.run_all (l := zBm) (fun i => (s0, (i : Int), ())) (fun i x h => by
  simp only [LB.b, zBm, zi, zQ, zR, cond_true, zjC h, zUZ h]
  cases (!(xg (x.toNat : Int)).1) <;> rfl) (by show LB.b zBm (s0, (s0.size : Int), ()) = _; simp only [LB.b, zBm, xo]; rfl)
theorem zUu : SF zBm fun x : ByteArray × Int × Unit => (0 ≤ x.2.1, (x.1.size : Int) - x.2.1) := x5 (by
 rintro ⟨(s0 : ByteArray), (n5 : Int), ⟨⟩⟩ hI hw
 have _ : (s0.size : Int) ≤ 9223372036854775807 := zNd (hw.1)
 simp [zBm] at hI ⊢
 repeat' first | intro _ | apply And.intro
 all_goals omega)
def zKq (a0 : ByteArray) (a1 : Int) : Tr (Bool × Unit) := bif decide ((a0.size : Int) > a1) then (.v (false, ())) else (.lp zBm (a0, (0 : Int), ()) (fun r2 => .v (r2.1, ())) (fun _ => .v (true, ())))
def zFC a0 a1 := (zKq a0 a1).val
@[reducible] def zT3 : FnD := ⟨[vd .str, vd .int], [vd .bool], true, fun _ => none, fun a => zFC a.1 a.2.1⟩
theorem zfl (a0 : ByteArray) (a1 : Int) (_ : xH zT3.args (a0, a1, ())) : (zKq a0 a1).ok := by
 unfold zKq
 refine zo (fun _ => trivial) (fun h1 => ?_)
 replace h1 : ¬ ((a0.size : Int) > a1) := of_decide_eq_false h1
 refine zJ ?_ ?_
 ·exact zUu _ (by (dsimp only <;> omega))
 ·simp
def zTy : Con Tryz.prog := yE mo g0 [zMP] [zBm] 72 zT3 (fn := Tryz.f72) ⟨lk, trivial⟩ (fun a hw _ => yX (by kernel_rfl) (zfl a.1 a.2.1 hw) rfl)
theorem zfd (a0 : ByteArray) (a1 : Int) : zFC a0 a1 = bif (decide ((a0.size : Int) > a1)) then (false, ()) else (bif ze (fun _ x => bif (!(xg (x.toNat : Int)).1) then false else true) 0 a0.data.toList then (true, ()) else (false, ())) := by
 simp only [zFC, zKq, zR, zi, zy, zQ]
 rw [zVf, z6] <;> rfl
def zK9 (a0 : ByteArray) : Tr (Bool × Unit) := bif decide ((a0.size : Int) > (0 : Int)) then (.is (0 : Int) a0 (bif (zG2 ((bt a0 (0 : Int)).toNat : Int)).1 then (.v ((zFC a0 (12 : Int)).1, ())) else (.v (false, ())))) else (.v (false, ()))
def xd a0 := (zK9 a0).val
@[reducible] def zTb : FnD := ⟨[vd .str], [vd .bool], true, fun _ => none, fun a => xd a.1⟩
theorem zdi (a0 : ByteArray) (_ : xH zTb.args (a0, ())) : (zK9 a0).ok := by
 unfold zK9
 refine zo (fun h1 => ?_) (fun _ => trivial)
 replace h1 : (a0.size : Int) > (0 : Int) := of_decide_eq_true h1
 refine zJ ?_ ?_
 ·first | omega | (simp <;> omega)
 ·simp
def zFJ : Con Tryz.prog := yE mo g0 [zRU, zTy] [] 42 zTb (fn := Tryz.f42) trivial (fun a hw _ => yX (by kernel_rfl) (zdi a.1 hw) rfl)
def zJG (a0 : Int) (a1 : Int) (a2 : Int) : Tr (Bool × Unit) := bif decide (a0 ≥ a1) then (.v (decide (a0 ≤ a2), ())) else (.v (false, ()))
def z3 a0 a1 a2 := (zJG a0 a1 a2).val
@[reducible] def zaF : FnD := ⟨[vd .int, vd .int, vd .int], [vd .bool], true, fun _ => none, fun a => z3 a.1 a.2.1 a.2.2.1⟩
def vn : Con Tryz.prog := yE mo g0 [] [] 39 zaF (fn := Tryz.f39) trivial (fun a _ _ => yX (t' := zJG a.1 a.2.1 a.2.2.1) (by kernel_rfl) (by simp [zJG]) rfl)
theorem zAt {x a b : Int} (h : (z3 x a b).1 = true) : a ≤ x ∧ x ≤ b := by
 simp only [z3, zJG, zi, zR] at h
 cases e : decide (x ≥ a) with
 | false => rw [e] at h; cases h
 | true =>
  rw [e] at h
  exact ⟨of_decide_eq_true e, of_decide_eq_true h⟩
def zI3 (a0 : Int) : Tr (Bool × Unit) := bif decide (a0 ≥ (65 : Int)) then (.v (decide (a0 ≤ (90 : Int)), ())) else (.v (false, ()))
def zBk a0 := (zI3 a0).val
@[reducible] def zaN : FnD := ⟨[vd .u8], [vd .bool], true, fun _ => none, fun a => zBk a.1⟩
def za5 : Con Tryz.prog := yE mo g0 [] [] 279 zaN (fn := Tryz.f279) trivial (fun a _ _ => yX (t' := zI3 a.1) (by kernel_rfl) (by simp [zI3]) rfl)
@[reducible] def zDa : LB := ⟨[], ⟨36, [], [(0, vd .str), (3, vd .int)]⟩, ⟨36, [], [(2, vd .bool)]⟩, 0, fun x => (fun (s0 : ByteArray) (n3 : Int) => (bif decide (n3 < (s0.size : Int)) then (.is n3 s0 (bif (!(xg ((bt s0 n3).toNat : Int)).1) then (.is n3 s0 (bif (!(zBk ((bt s0 n3).toNat : Int)).1) then (.v (.ret (false, ()))) else (.ik (n3 + (1 : Int)) (.v (.go (s0, (n3 + (1 : Int)), ())))))) else (.ik (n3 + (1 : Int)) (.v (.go (s0, (n3 + (1 : Int)), ())))))) else (.v (.brk (s0, n3, ()))) : Tr (St _ _))) x.1 x.2.1⟩
theorem zXe (s0 : ByteArray) : LB.run zDa (s0, (0 : Int), ()) = bif ze (fun _ x => bif (!(xg (x.toNat : Int)).1) then (bif (!(zBk (x.toNat : Int)).1) then false else true) else true) 0 s0.data.toList then .brk (s0, (s0.size : Int), ()) else .ret (false, ()) := LB.run_all (l := zDa) (fun i => (s0, (i : Int), ())) (fun i x h => by
  simp only [LB.b, zDa, zi, zQ, zR, cond_true, zjC h, zUZ h]
  cases (!(xg (x.toNat : Int)).1)
  ·rfl
  ·cases (!(zBk (x.toNat : Int)).1) <;> rfl) (by show LB.b zDa (s0, (s0.size : Int), ()) = _; simp only [LB.b, zDa, xo]; rfl)
theorem zXt : SF zDa fun x : ByteArray × Int × Unit => (0 ≤ x.2.1, (x.1.size : Int) - x.2.1) := x5 (by
 rintro ⟨(s0 : ByteArray), (n3 : Int), ⟨⟩⟩ hI hw
 have _ : (s0.size : Int) ≤ 9223372036854775807 := zNd (hw.1)
 simp [zDa] at hI ⊢
 repeat' first | intro _ | apply And.intro
 all_goals omega)
def zNJ (a0 : ByteArray) : Tr (Bool × Unit) := bif decide ((a0.size : Int) < (1 : Int)) then (.v (false, ())) else (bif decide ((a0.size : Int) > (12 : Int)) then (.v (false, ())) else (.is (0 : Int) a0 (bif (!(zBk ((bt a0 (0 : Int)).toNat : Int)).1) then (.v (false, ())) else (.lp zDa (a0, (0 : Int), ()) (fun r8 => .v (r8.1, ())) (fun _ => .v (true, ()))))))
def zKa a0 := (zNJ a0).val
@[reducible] def zYT : FnD := ⟨[vd .str], [vd .bool], true, fun _ => none, fun a => zKa a.1⟩
theorem zi7 (a0 : ByteArray) (_ : xH zYT.args (a0, ())) : (zNJ a0).ok := by
 unfold zNJ
 refine zo (fun _ => trivial) (fun h1 => ?_)
 replace h1 : ¬ ((a0.size : Int) < (1 : Int)) := of_decide_eq_false h1
 refine zo (fun _ => trivial) (fun h2 => ?_)
 replace h2 : ¬ ((a0.size : Int) > (12 : Int)) := of_decide_eq_false h2
 refine zJ ?_ ?_
 ·first | omega | (simp <;> omega)
 ·refine zo (fun _ => trivial) (fun h3 => ?_)
  refine zJ ?_ ?_
  ·exact zXt _ (by (dsimp only <;> omega))
  ·simp
def zhF : Con Tryz.prog := yE mo g0 [zMP, za5] [zDa] 264 zYT (fn := Tryz.f264) ⟨lk, trivial⟩ (fun a hw _ => yX (by kernel_rfl) (zi7 a.1 hw) rfl)
theorem zhd (a0 : ByteArray) : zKa a0 = bif (decide ((a0.size : Int) < (1 : Int))) then (false, ()) else (bif (decide ((a0.size : Int) > (12 : Int))) then (false, ()) else (bif (!(zBk ((bt a0 (0 : Int)).toNat : Int)).1) then (false, ()) else (bif ze (fun _ x => bif (!(xg (x.toNat : Int)).1) then (bif (!(zBk (x.toNat : Int)).1) then false else true) else true) 0 a0.data.toList then (true, ()) else (false, ())))) := by
 simp only [zKa, zNJ, zR, zi, zy, zQ]
 rw [zXe, z6] <;> rfl
def zNM (a0 : El zK) : Tr (Bool × Unit) := bif (a0.1 == (1 : Int)) then (bif (z3 a0.2.1 (-1000000000 : Int) (1000000000 : Int)).1 then (.v ((a0.2.2.toList == (⟨#[]⟩ : ByteArray).toList), ())) else (.v (false, ()))) else (bif (a0.1 == (2 : Int)) then (bif (a0.2.1 == (0 : Int)) then (.v ((zFC a0.2.2 (20 : Int)).1, ())) else (.v (false, ()))) else (.v (false, ())))
def zB3 a0 := (zNM a0).val
@[reducible] def zhy : FnD := ⟨[va zK], [vd .bool], true, fun _ => none, fun a => zB3 a.1⟩
def zPy : Con Tryz.prog := yE mo g0 [vn, zTy] [] 187 zhy (fn := Tryz.f187) trivial (fun a _ _ => yX (t' := zNM a.1) (by kernel_rfl) (by simp [zNM]) rfl)
def zNm (a0 : El zj) : Tr (Bool × Unit) := bif (a0.1 == (1 : Int)) then (bif (zKa a0.2.1).1 then (.v (((a0.2.2.1 == (0 : Int)) && ((a0.2.2.2.1 == (0 : Int)) && ((a0.2.2.2.2.toList == (⟨#[]⟩ : ByteArray).toList) && true))), ())) else (.v (false, ()))) else (bif (a0.1 == (2 : Int)) then (bif (a0.2.1.toList == (⟨#[]⟩ : ByteArray).toList) then (.v ((zB3 a0.2.2).1, ())) else (.v (false, ()))) else (bif (a0.1 == (3 : Int)) then (bif (a0.2.1.toList == (⟨#[]⟩ : ByteArray).toList) then (.v (((a0.2.2.1 == (0 : Int)) && ((a0.2.2.2.1 == (0 : Int)) && ((a0.2.2.2.2.toList == (⟨#[]⟩ : ByteArray).toList) && true))), ())) else (.v (false, ()))) else (.v (false, ()))))
def zFk a0 := (zNm a0).val
@[reducible] def zh8 : FnD := ⟨[va zj], [vd .bool], true, fun _ => none, fun a => zFk a.1⟩
def zYl : Con Tryz.prog := yE mo g0 [zhF, zPy] [] 231 zh8 (fn := Tryz.f231) trivial (fun a _ _ => yX (t' := zNm a.1) (by kernel_rfl) (by simp [zNm]) rfl)
def zL5 (a0 : El zj) : Tr (Bool × Unit) := bif (a0.1 != (3 : Int)) then (.v ((zFk a0).1, ())) else (.v (false, ()))
def zCK a0 := (zL5 a0).val
@[reducible] def ze4 : FnD := ⟨[va zj], [vd .bool], true, fun _ => none, fun a => zCK a.1⟩
def zUR : Con Tryz.prog := yE mo g0 [zYl] [] 181 ze4 (fn := Tryz.f181) trivial (fun a _ _ => yX (t' := zL5 a.1) (by kernel_rfl) (by simp [zL5]) rfl)
def zMC (a0 : El zP) : Tr (Bool × Unit) := bif (z3 a0.1 (1 : Int) (3 : Int)).1 then (bif (zCK a0.2.1).1 then (.v ((zCK a0.2.2).1, ())) else (.v (false, ()))) else (.v (false, ()))
def zFV a0 := (zMC a0).val
@[reducible] def zfu : FnD := ⟨[va zP], [vd .bool], true, fun _ => none, fun a => zFV a.1⟩
def zdf : Con Tryz.prog := yE mo g0 [vn, zUR] [] 119 zfu (fn := Tryz.f119) trivial (fun a _ _ => yX (t' := zMC a.1) (by kernel_rfl) (by simp [zMC]) rfl)
def zLj (a0 : El zq) : Tr (Bool × Unit) := bif (a0.1.toList == (⟨#[]⟩ : ByteArray).toList) then (bif (zCK a0.2.1).1 then (.v (((a0.2.2.1 == (0 : Int)) && ((a0.2.2.2.1.toList == (⟨#[]⟩ : ByteArray).toList) && (((a0.2.2.2.2.1 == (0 : Int)) && ((a0.2.2.2.2.2.1 == (0 : Int)) && ((a0.2.2.2.2.2.2.toList == (⟨#[]⟩ : ByteArray).toList) && true))) && true))), ())) else (.v (false, ()))) else (bif (a0.1.toList == (⟨#[43]⟩ : ByteArray).toList) then (bif (a0.1.toList == (⟨#[43]⟩ : ByteArray).toList) then (bif (zCK a0.2.1).1 then (.v ((zCK a0.2.2).1, ())) else (.v (false, ()))) else (.v (false, ()))) else (bif (a0.1.toList == (⟨#[45]⟩ : ByteArray).toList) then (bif (zCK a0.2.1).1 then (.v ((zCK a0.2.2).1, ())) else (.v (false, ()))) else (.v (false, ()))))
def zE9 a0 := (zLj a0).val
@[reducible] def zfo : FnD := ⟨[va zq], [vd .bool], true, fun _ => none, fun a => zE9 a.1⟩
def zeM : Con Tryz.prog := yE mo g0 [zUR] [] 232 zfo (fn := Tryz.f232) trivial (fun a _ _ => yX (t' := zLj a.1) (by kernel_rfl) (by simp [zLj]) rfl)
@[reducible] def zDU : LB := ⟨[], ⟨26, [], [(16, vd (.lst zq)), (17, vd .int), (18, vd .int)]⟩, ⟨26, [], [(2, vd .bool)]⟩, 0, fun x => (fun (l16 : List (El zq)) (n17 : Int) (n18 : Int) => (bif decide (n18 < n17) then (.ix n18 l16 (bif (!(zE9 (zB zq l16 n18)).1) then (.v (.ret (false, ()))) else (.ik (n18 + (1 : Int)) (.v (.go (l16, n17, (n18 + (1 : Int)), ())))))) else (.v (.brk (l16, n17, n18, ()))) : Tr (St _ _))) x.1 x.2.1 x.2.2.1⟩
theorem zWZ (l16 : List (El zq)) : LB.run zDU (l16, (l16.length : Int), (0 : Int), ()) = bif ze (fun _ x => bif (!(zE9 x).1) then false else true) 0 l16 then .brk (l16, (l16.length : Int), (l16.length : Int), ()) else .ret (false, ()) := LB.run_all (l := zDU) (fun i => (l16, (l16.length : Int), (i : Int), ())) (fun i x h => by
  simp only [LB.b, zDU, zi, zQ, zR, cond_true, yQ h, zG h]
  cases (!(zE9 x).1) <;> rfl) (by simp only [LB.b, zDU, xo]; rfl)
theorem zVm : SF zDU fun x : List (El zq) × Int × Int × Unit => (0 ≤ x.2.2.1 ∧ x.2.1 = (x.1.length : Int), x.2.1 - x.2.2.1) := x5 (by
 rintro ⟨(l16 : List (El zq)), (n17 : Int), (n18 : Int), ⟨⟩⟩ hI hw
 have _ : -9223372036854775808 ≤ n17 ∧ n17 ≤ 9223372036854775807 := z0 hw.2.1
 have _ : (l16.length : Int) ≤ 16777216 := zE (hw.1.1)
 simp [zDU] at hI ⊢
 repeat' first | intro _ | apply And.intro
 all_goals omega)
def zLS (a0 : El z5) : Tr (Bool × Unit) := bif (!(xd a0.2.1).1) then (.v (false, ())) else (bif decide ((a0.2.2.1.length : Int) > (5 : Int)) then (.v (false, ())) else (.lp zDU (a0.2.2.1, (a0.2.2.1.length : Int), (0 : Int), ()) (fun r3 => .v (r3.1, ())) (fun _ => .v (true, ()))))
def zCH a0 := (zLS a0).val
@[reducible] def zTg : FnD := ⟨[va z5], [vd .bool], true, fun _ => none, fun a => zCH a.1⟩
theorem zfn (a0 : El z5) (_ : xH zTg.args (a0, ())) : (zLS a0).ok := by
 unfold zLS
 refine zo (fun _ => trivial) (fun h1 => ?_)
 refine zo (fun _ => trivial) (fun h2 => ?_)
 replace h2 : ¬ ((a0.2.2.1.length : Int) > (5 : Int)) := of_decide_eq_false h2
 refine zJ ?_ ?_
 ·exact zVm _ ⟨by (dsimp only <;> omega), by (dsimp only <;> omega)⟩
 ·simp
def zeu : Con Tryz.prog := yE mo g0 [zFJ, zeM] [zDU] 182 zTg (fn := Tryz.f182) ⟨lk, trivial⟩ (fun a hw _ => yX (by kernel_rfl) (zfn a.1 hw) rfl)
theorem zgj (a0 : El z5) : zCH a0 = bif (!(xd a0.2.1).1) then (false, ()) else (bif (decide ((a0.2.2.1.length : Int) > (5 : Int))) then (false, ()) else (bif ze (fun _ x => bif (!(zE9 x).1) then false else true) 0 a0.2.2.1 then (true, ()) else (false, ()))) := by
 simp only [zCH, zLS, zR, zi, zy, zQ]
 rw [zWZ, z6] <;> rfl
def zLL (a0 : ByteArray) : Tr (Bool × Unit) := bif (a0.toList == (⟨#[]⟩ : ByteArray).toList) then (.v (true, ())) else (.v ((xd a0).1, ()))
def zGV a0 := (zLL a0).val
@[reducible] def zdh : FnD := ⟨[vd .str], [vd .bool], true, fun _ => none, fun a => zGV a.1⟩
def zUS : Con Tryz.prog := yE mo g0 [zFJ] [] 183 zdh (fn := Tryz.f183) trivial (fun a _ _ => yX (t' := zLL a.1) (by kernel_rfl) (by simp [zLL]) rfl)
def zNu (a0 : El z5) : Tr (Bool × Unit) := bif (a0.2.1.toList == (⟨#[]⟩ : ByteArray).toList) then (bif (a0.1 == (1 : Int)) then (bif (zCH a0).1 then (bif (a0.2.2.2.1 == (0 : Int)) then (.v ((a0.2.2.2.2.toList == (⟨#[]⟩ : ByteArray).toList), ())) else (.v (false, ()))) else (.v (false, ()))) else (bif (a0.1 == (2 : Int)) then (bif ((a0.2.2.1.length : Int) == (0 : Int)) then (bif (z3 a0.2.2.2.1 (0 : Int) (7 : Int)).1 then (.v ((a0.2.2.2.2.toList == (⟨#[]⟩ : ByteArray).toList), ())) else (.v (false, ()))) else (.v (false, ()))) else (bif (a0.1 == (3 : Int)) then (bif (zCH a0).1 then (bif (a0.2.2.2.1 == (0 : Int)) then (.v ((zGV a0.2.2.2.2).1, ())) else (.v (false, ()))) else (.v (false, ()))) else (bif (a0.1 == (4 : Int)) then (bif (zCH a0).1 then (bif (z3 a0.2.2.2.1 (0 : Int) (100000 : Int)).1 then (.v ((a0.2.2.2.2.toList == (⟨#[]⟩ : ByteArray).toList), ())) else (.v (false, ()))) else (.v (false, ()))) else (bif (a0.1 == (5 : Int)) then (bif (a0.1 == (5 : Int)) then (bif ((a0.2.2.1.length : Int) == (0 : Int)) then (bif (a0.2.2.2.1 == (0 : Int)) then (.v ((a0.2.2.2.2.toList == (⟨#[]⟩ : ByteArray).toList), ())) else (.v (false, ()))) else (.v (false, ()))) else (.v (false, ()))) else (bif (a0.1 == (6 : Int)) then (bif ((a0.2.2.1.length : Int) == (0 : Int)) then (bif (a0.2.2.2.1 == (0 : Int)) then (.v ((a0.2.2.2.2.toList == (⟨#[]⟩ : ByteArray).toList), ())) else (.v (false, ()))) else (.v (false, ()))) else (.v (false, ())))))))) else (bif (a0.1 == (1 : Int)) then (bif (zCH a0).1 then (bif (a0.2.2.2.1 == (0 : Int)) then (.v ((a0.2.2.2.2.toList == (⟨#[]⟩ : ByteArray).toList), ())) else (.v (false, ()))) else (.v (false, ()))) else (bif (a0.1 == (2 : Int)) then (.v (false, ())) else (bif (a0.1 == (3 : Int)) then (bif (zCH a0).1 then (bif (a0.2.2.2.1 == (0 : Int)) then (.v ((zGV a0.2.2.2.2).1, ())) else (.v (false, ()))) else (.v (false, ()))) else (bif (a0.1 == (4 : Int)) then (bif (zCH a0).1 then (bif (z3 a0.2.2.2.1 (0 : Int) (100000 : Int)).1 then (.v ((a0.2.2.2.2.toList == (⟨#[]⟩ : ByteArray).toList), ())) else (.v (false, ()))) else (.v (false, ()))) else (bif (a0.1 == (5 : Int)) then (bif (a0.1 == (5 : Int)) then (.v (false, ())) else (.v (false, ()))) else (bif (a0.1 == (6 : Int)) then (.v (false, ())) else (.v (false, ()))))))))
def zG6 a0 := (zNu a0).val
@[reducible] def ziX : FnD := ⟨[va z5], [vd .bool], true, fun _ => none, fun a => zG6 a.1⟩
def zis : Con Tryz.prog := yE mo g0 [zeu, vn, zUS] [] 120 ziX (fn := Tryz.f120) trivial (fun a _ _ => yX (t' := zNu a.1) (by kernel_rfl) (by simp [zNu]) rfl)
@[reducible] def zAh : LB := ⟨[], ⟨20, [], [(3, vd .int), (7, vd (.lst zI)), (8, vd .int), (9, vd .int)]⟩, ⟨20, [], []⟩, 0, fun x => (fun (n3 : Int) (l7 : List (El zI)) (n8 : Int) (n9 : Int) => (bif decide (n9 < n8) then (.ix n9 l7 (bif (!(zB zI l7 n9).2.2) then (.ik (n3 + (1 : Int)) (.ik (n9 + (1 : Int)) (.v (.go ((n3 + (1 : Int)), l7, n8, (n9 + (1 : Int)), ()))))) else (.ik (n9 + (1 : Int)) (.v (.go (n3, l7, n8, (n9 + (1 : Int)), ())))))) else (.v (.brk (n3, l7, n8, n9, ()))) : Tr (St _ _))) x.1 x.2.1 x.2.2.1 x.2.2.2.1⟩
theorem zHK (l7 : List (El zI)) (n3 : Int) : LB.run zAh (n3, l7, (l7.length : Int), (0 : Int), ()) = .brk ((zc (fun _ x (s : Int) => bif (!x.2.2) then (s + (1 : Int)) else s) 0 l7 n3), l7, (l7.length : Int), (l7.length : Int), ()) := LB.run_fold (l := zAh) (fun i s => (s, l7, (l7.length : Int), (i : Int), ())) (fun i x s h => by
  simp only [LB.b, zAh, zi, zQ, zR, cond_true, yQ h, zG h]
  cases (!x.2.2) <;> rfl) (fun s => by simp only [LB.b, zAh, xo]; rfl)
theorem zQX : SF zAh fun x : Int × List (El zI) × Int × Int × Unit => (0 ≤ x.2.2.2.1 ∧ x.2.2.1 = (x.2.1.length : Int) ∧ (0 ≤ x.1 ∧ x.1 ≤ x.2.2.2.1), x.2.2.1 - x.2.2.2.1) := x5 (by
 rintro ⟨(n3 : Int), (l7 : List (El zI)), (n8 : Int), (n9 : Int), ⟨⟩⟩ hI hw
 have _ : -9223372036854775808 ≤ n3 ∧ n3 ≤ 9223372036854775807 := z0 hw.1
 have _ : -9223372036854775808 ≤ n8 ∧ n8 ≤ 9223372036854775807 := z0 hw.2.2.1
 have _ : (l7.length : Int) ≤ 16777216 := zE (hw.2.1.1)
 simp [zAh] at hI ⊢
 repeat' first | intro _ | apply And.intro
 all_goals omega)
def zF4 (a0 : El zC) : Tr (Int × Unit) := .lp zAh ((0 : Int), a0.2.2.1, (a0.2.2.1.length : Int), (0 : Int), ()) (fun _ => .bad) (fun t1 => .v (t1.1, ()))
def yb a0 := (zF4 a0).val
@[reducible] def zO9 : FnD := ⟨[va zC], [vd .int], true, fun _ => none, fun a => yb a.1⟩
theorem zYB (a0 : El zC) (_ : xH zO9.args (a0, ())) : (zF4 a0).ok := by
 unfold zF4
 refine zJ ?_ ?_
 ·exact zQX _ ⟨by (dsimp only <;> omega), by (dsimp only <;> omega), by (dsimp only <;> omega)⟩
 ·refine vJ (zHK a0.2.2.1 (0 : Int)) ?_
  try dsimp only
  trivial
def zKW : Con Tryz.prog := yE mo g0 [] [zAh] 121 zO9 (fn := Tryz.f121) ⟨lk, trivial⟩ (fun a hw _ => yX (by kernel_rfl) (zYB a.1 hw) rfl)
theorem zXp (a0 : El zC) : yb a0 = ((zc (fun _ x (s : Int) => bif (!x.2.2) then (s + (1 : Int)) else s) 0 a0.2.2.1 (0 : Int)), ()) := by
 simp only [yb, zF4, zR, zy, zQ]
 rw [zHK, xa] <;> rfl
theorem zTL (r : El zC) : (yb r).1 = ((r.2.2.1.filter (fun p => !p.2.2)).length : Int) := by
 simp only [yb, zF4, zQ, zR, zy]
 rw [zHK]
 show zc (fun i x (s : Int) => bif (!x.2.2) then (s + (1 : Int)) else s) 0 r.2.2.1 (0 : Int) = _
 rw [zH1]; simp
@[reducible] def z9 : LB := ⟨[], ⟨19, [], [(0, vd (.lst .str)), (1, vd .str), (7, vd .int), (8, vd .int)]⟩, ⟨19, [], [(4, vd .int)]⟩, 0, fun x => (fun (l0 : List (El .str)) (s1 : ByteArray) (n7 : Int) (n8 : Int) => (bif decide (n8 < n7) then (.ix n8 l0 (bif (s1.toList == (zB .str l0 n8).toList) then (.v (.ret (n8, ()))) else (.ik (n8 + (1 : Int)) (.v (.go (l0, s1, n7, (n8 + (1 : Int)), ())))))) else (.v (.brk (l0, s1, n7, n8, ()))) : Tr (St _ _))) x.1 x.2.1 x.2.2.1 x.2.2.2.1⟩
theorem zEx (l0 : List (El .str)) (s1 : ByteArray) : LB.run z9 (l0, s1, (l0.length : Int), (0 : Int), ()) = zDg (xB (fun i x => bif (s1.toList == x.toList) then (some ((i : Int), ())) else none) 0 l0) (l0, s1, (l0.length : Int), (l0.length : Int), ()) := LB.run_scan (l := z9) (fun i => (l0, s1, (l0.length : Int), (i : Int), ())) (fun i x h => by
  simp only [LB.b, z9, zi, zQ, zR, cond_true, yQ h, zG h]
  cases (s1.toList == x.toList) <;> rfl) (by simp only [LB.b, z9, xo]; rfl)
theorem zE0 : SF z9 fun x : List (El .str) × ByteArray × Int × Int × Unit => (0 ≤ x.2.2.2.1 ∧ x.2.2.1 = (x.1.length : Int), x.2.2.1 - x.2.2.2.1) := x5 (by
 rintro ⟨(l0 : List (El .str)), (s1 : ByteArray), (n7 : Int), (n8 : Int), ⟨⟩⟩ hI hw
 have _ : -9223372036854775808 ≤ n7 ∧ n7 ≤ 9223372036854775807 := z0 hw.2.2.1
 have _ : (l0.length : Int) ≤ 16777216 := zE (hw.1.1)
 simp [z9] at hI ⊢
 repeat' first | intro _ | apply And.intro
 all_goals omega)
def xk (a0 : List (El .str)) (a1 : ByteArray) : Tr (Int × Unit) := .lp z9 (a0, a1, (a0.length : Int), (0 : Int), ()) (fun r1 => .v (r1.1, ())) (fun _ => .v ((-1 : Int), ()))
def xl a0 a1 := (xk a0 a1).val
@[reducible] def zCE : FnD := ⟨[vd (.lst .str), vd .str], [vd .int], true, fun _ => none, fun a => xl a.1 a.2.1⟩
theorem zF8 (a0 : List (El .str)) (a1 : ByteArray) (_ : xH zCE.args (a0, a1, ())) : (xk a0 a1).ok := by
 unfold xk
 refine zJ ?_ ?_
 ·exact zE0 _ ⟨by (dsimp only <;> omega), by (dsimp only <;> omega)⟩
 ·simp
def zGB : Con Tryz.prog := yE mo g0 [] [z9] 185 zCE (fn := Tryz.f185) ⟨lk, trivial⟩ (fun a hw _ => yX (by kernel_rfl) (zF8 a.1 a.2.1 hw) rfl)
theorem zF7 (a0 : List (El .str)) (a1 : ByteArray) : xl a0 a1 = zE1 (xB (fun i x => bif (a1.toList == x.toList) then (some ((i : Int), ())) else none) 0 a0) (fun (r1 : z9.r.T) => (r1.1, ())) ((-1 : Int), ()) := by
 simp only [xl, xk, zR, zy, zQ]
 rw [zEx, xw] <;> rfl
def zt (a0 : List (El .str)) (a1 : ByteArray) : Bool × Unit := (decide ((xl a0 a1).1 ≥ (0 : Int)), ())
@[reducible] def zEz : FnD := ⟨[vd (.lst .str), vd .str], [vd .bool], true, fun _ => none, fun a => zt a.1 a.2.1⟩
def zAw : Con Tryz.prog := yE mo g0 [zGB] [] 124 zEz (fn := Tryz.f124) trivial (fun _ _ _ => okv (by kernel_rfl))
def zHL (a0 : List (El .str)) (a1 : ByteArray) : Tr (List (El .str) × Unit) := bif (zt a0 a1).1 then (.v (a0, ())) else (.ck (((a0.length + [a1].length : Nat) : Int) ≤ 16777216) (.v ((a0 ++ [a1]), ())))
def zAM a0 a1 := (zHL a0 a1).val
def zG7 (a0 : List (El .str)) (_a1 : ByteArray) : Prop := (a0.length : Int) < 16777216
@[reducible] def zRH : FnD := ⟨[vo .str, vd .str], [vo .str], true, fun a => some (zG7 a.1 a.2.1), fun a => zAM a.1 a.2.1⟩
theorem zae (a0 : List (El .str)) (a1 : ByteArray) (hw : xH zRH.args (a0, a1, ())) (hp : zG7 a0 a1) : (zHL a0 a1).ok := by
 unfold zG7 at hp
 unfold zHL
 refine zo (fun _ => trivial) (fun h1 => ?_)
 refine zJ ?_ ?_
 ·have _ : (a0.length : Int) ≤ 16777216 := zE (hw.1.1); first | omega | (simp <;> omega)
 ·trivial
def zbp : Con Tryz.prog := yE mo g0 [zAw] [] 233 zRH (fn := Tryz.f233) trivial (fun a hw h => yX (by kernel_rfl) (zae a.1 a.2.1 hw h) rfl)
theorem zR3 (l : List (El .str)) (s : ByteArray) : ((zAM l s).1.length : Int) ≤ (l.length : Int) + 1 := by
 simp only [zAM, zHL, zi, zQ, zR]
 cases (zt l s).1 with
 | true => show (l.length : Int) ≤ _; omega
 | false => show ((l ++ [s]).length : Int) ≤ _; simp
@[reducible] def xv : LB := ⟨[], ⟨22, [], [(0, vo .str), (7, vd (.lst zj)), (8, vd .int), (9, vd .int)]⟩, ⟨22, [], []⟩, 0, fun x => (fun (l0 : List (El .str)) (l7 : List (El zj)) (n8 : Int) (n9 : Int) => (bif decide (n9 < n8) then (.ix n9 l7 (bif ((zB zj l7 n9).1 == (1 : Int)) then (.ck (zG7 l0 (zB zj l7 n9).2.1) (.ik (n9 + (1 : Int)) (.v (.go ((zAM l0 (zB zj l7 n9).2.1).1, l7, n8, (n9 + (1 : Int)), ()))))) else (.ik (n9 + (1 : Int)) (.v (.go (l0, l7, n8, (n9 + (1 : Int)), ())))))) else (.v (.brk (l0, l7, n8, n9, ()))) : Tr (St _ _))) x.1 x.2.1 x.2.2.1 x.2.2.2.1⟩
theorem zS9 (l7 : List (El zj)) (l0 : List (El .str)) : LB.run xv (l0, l7, (l7.length : Int), (0 : Int), ()) = .brk ((zc (fun _ x (s : (List (El .str))) => bif (x.1 == (1 : Int)) then (zAM s x.2.1).1 else s) 0 l7 l0), l7, (l7.length : Int), (l7.length : Int), ()) := LB.run_fold (l := xv) (fun i s => (s, l7, (l7.length : Int), (i : Int), ())) (fun i x s h => by
  simp only [LB.b, xv, zi, zQ, zR, cond_true, yQ h, zG h]
  cases (x.1 == (1 : Int)) <;> rfl) (fun s => by simp only [LB.b, xv, xo]; rfl)
theorem zMX (l00 : List (El .str)) (l70 : List (El zj)) (n80 : Int) (n90 : Int) (p0 : (l00.length : Int) ≤ (l00.length : Int) + n90 ∧ n90 ≤ n80 ∧ n80 = (l70.length : Int)) : (LB.run xv (l00, l70, n80, n90, ())).all (fun _ => False) (fun (l0, l7, n8, n9, _) => l70 = l7 ∧ n80 = n8 ∧ ((l0.length : Int) ≤ (l00.length : Int) + n9 ∧ n9 ≤ n8 ∧ n8 = (l7.length : Int))) (fun (l0, l7, n8, n9, _) => l70 = l7 ∧ n80 = n8 ∧ ((l0.length : Int) ≤ (l00.length : Int) + n9 ∧ n9 ≤ n8 ∧ n8 = (l7.length : Int))) := by
 have H : ∀ (l0 : List (El .str)) (l7 : List (El zj)) (n8 : Int) (n9 : Int), (l70 = l7 ∧ n80 = n8 ∧ ((l0.length : Int) ≤ (l00.length : Int) + n9 ∧ n9 ≤ n8 ∧ n8 = (l7.length : Int))) → St.all (fun _ => False) (fun (l0, l7, n8, n9, _) => l70 = l7 ∧ n80 = n8 ∧ ((l0.length : Int) ≤ (l00.length : Int) + n9 ∧ n9 ≤ n8 ∧ n8 = (l7.length : Int))) (fun (l0, l7, n8, n9, _) => l70 = l7 ∧ n80 = n8 ∧ ((l0.length : Int) ≤ (l00.length : Int) + n9 ∧ n9 ≤ n8 ∧ n8 = (l7.length : Int))) (xv.b (l0, l7, n8, n9, ())) := by
  intro l0 l7 n8 n9 hI
  obtain ⟨eq0, eq1, eq2⟩ := hI
  simp only [LB.b, xv, zi, zQ, zR]
  refine zd (fun h3 => ?_) (fun h3 => ?_)
  ·replace h3 : n9 < n8 := of_decide_eq_true h3
   refine zd (fun h4 => ?_) (fun h4 => ?_)
   ·replace h4 := zIZ h4
    exact yf (show l70 = l7 ∧ n80 = n8 ∧ (((zAM l0 (zB zj l7 n9).2.1).1.length : Int) ≤ (l00.length : Int) + (n9 + (1 : Int)) ∧ (n9 + (1 : Int)) ≤ n8 ∧ n8 = (l7.length : Int)) from ⟨eq0, eq1, by have _ := zR3 l0 (zB zj l7 n9).2.1; first | omega | rfl | assumption | (simp <;> omega)⟩)
   ·replace h4 := zIp h4
    exact yf (show l70 = l7 ∧ n80 = n8 ∧ ((l0.length : Int) ≤ (l00.length : Int) + (n9 + (1 : Int)) ∧ (n9 + (1 : Int)) ≤ n8 ∧ n8 = (l7.length : Int)) from ⟨eq0, eq1, by first | omega | rfl | assumption | (simp <;> omega)⟩)
  ·replace h3 : ¬ (n9 < n8) := of_decide_eq_false h3
   exact zCP (show l70 = l7 ∧ n80 = n8 ∧ ((l0.length : Int) ≤ (l00.length : Int) + n9 ∧ n9 ≤ n8 ∧ n8 = (l7.length : Int)) from ⟨eq0, eq1, by first | omega | rfl | assumption | (simp <;> omega)⟩)
 exact LB.post (l := xv) (A := fun _ => False) (fun (l0, l7, n8, n9, _) => l70 = l7 ∧ n80 = n8 ∧ ((l0.length : Int) ≤ (l00.length : Int) + n9 ∧ n9 ≤ n8 ∧ n8 = (l7.length : Int))) (fun ⟨l0, l7, n8, n9, ⟨⟩⟩ hx => H l0 l7 n8 n9 hx) ⟨rfl, rfl, p0⟩
theorem zSs : SF xv fun x : List (El .str) × List (El zj) × Int × Int × Unit => (0 ≤ x.2.2.2.1 ∧ x.2.2.1 = (x.2.1.length : Int) ∧ (x.1.length : Int) + (x.2.1.length : Int) - x.2.2.2.1 ≤ 16777216, x.2.2.1 - x.2.2.2.1) := x5 (by
 rintro ⟨(l0 : List (El .str)), (l7 : List (El zj)), (n8 : Int), (n9 : Int), ⟨⟩⟩ hI hw
 obtain ⟨i0, i1, k0⟩ := hI
 dsimp only at i0 i1 k0
 have _ : -9223372036854775808 ≤ n8 ∧ n8 ≤ 9223372036854775807 := z0 hw.2.2.1
 have _ : (l7.length : Int) ≤ 16777216 := zE (hw.2.1.1)
 have _ := zR3 l0 (zB zj l7 n9).2.1
 simp [xv]
 repeat' first | (simp [zG7]; omega) | assumption | intro _ | apply And.intro
 all_goals omega)
def zGx (a0 : List (El .str)) (a1 : List (El zj)) : Tr (List (El .str) × Unit) := .lp xv (a0, a1, (a1.length : Int), (0 : Int), ()) (fun _ => .bad) (fun t2 => .v (t2.1, ()))
def yJ a0 a1 := (zGx a0 a1).val
def zFQ (a0 : List (El .str)) (a1 : List (El zj)) : Prop := (a0.length : Int) + (a1.length : Int) ≤ 16777216
@[reducible] def zQg : FnD := ⟨[vo .str, vd (.lst zj)], [vo .str], true, fun a => some (zFQ a.1 a.2.1), fun a => yJ a.1 a.2.1⟩
theorem zZX (a0 : List (El .str)) (a1 : List (El zj)) (_ : xH zQg.args (a0, a1, ())) (hp : zFQ a0 a1) : (zGx a0 a1).ok := by
 unfold zFQ at hp
 unfold zGx
 refine zJ ?_ ?_
 ·exact zSs _ ⟨by (dsimp only <;> first | omega | assumption | (simp <;> omega)), by (dsimp only <;> first | omega | assumption | (simp <;> omega)), by (dsimp only <;> first | omega | assumption | (simp <;> omega))⟩
 ·refine zID (A' := fun _ => False) (B' := fun (t2l0, t2l7, t2n8, t2n9, _) => a1 = t2l7 ∧ (a1.length : Int) = t2n8 ∧ ((t2l0.length : Int) ≤ (a0.length : Int) + t2n9 ∧ t2n9 ≤ t2n8 ∧ t2n8 = (t2l7.length : Int))) (zMX a0 a1 (a1.length : Int) (0 : Int) (by (first | omega | rfl | assumption | (simp <;> omega) | (refine ⟨?_, ?_, ?_⟩ <;> first | omega | rfl | (simp <;> omega)) | (refine ⟨?_, ?_⟩ <;> first | omega | rfl | (simp <;> omega))))) (fun _ h => h.elim) (fun t ht => ?_)
  obtain ⟨t2l0, t2l7, t2n8, t2n9, ⟨⟩⟩ := t
  dsimp only
  obtain ⟨rfl, rfl, hth5⟩ := ht
  obtain ⟨t2n9, rfl⟩ : ∃ y : Int, y = t2n9 := ⟨_, rfl⟩
  replace hth5 : (t2l0.length : Int) ≤ (a0.length : Int) + t2n9 ∧ t2n9 ≤ (a1.length : Int) ∧ (a1.length : Int) = (a1.length : Int) := hth5
  trivial
def zQq : Con Tryz.prog := yE mo g0 [zbp] [xv] 184 zQg (fn := Tryz.f184) ⟨lk, trivial⟩ (fun a hw h => yX (by kernel_rfl) (zZX a.1 a.2.1 hw h) rfl)
theorem zR0 (a0 : List (El .str)) (a1 : List (El zj)) : yJ a0 a1 = ((zc (fun _ x (s : (List (El .str))) => bif (x.1 == (1 : Int)) then (zAM s x.2.1).1 else s) 0 a1 a0), ()) := by
 simp only [yJ, zGx, zR, zy, zQ]
 rw [zS9, xa] <;> rfl
theorem zAN (l : List (El .str)) (a : List (El zj)) : ((yJ l a).1.length : Int) ≤ (l.length : Int) + (a.length : Int) := by
 simp only [yJ, zGx, zQ, zR, zy]
 have := zMX l a (a.length : Int) (0 : Int) (by refine ⟨?_, ?_, ?_⟩ <;> omega)
 revert this
 cases (LB.run xv (l, a, (a.length : Int), (0 : Int), ())) with
 | ret r => intro h; exact h.elim
 | brk t => obtain ⟨t0, t1, t2, t3, ⟨⟩⟩ := t; rintro ⟨rfl, rfl, h1, h2, h3⟩; obtain ⟨t3, rfl⟩ : ∃ y : Int, y = t3 := ⟨_, rfl⟩; replace h1 : (t0.length : Int) ≤ (l.length : Int) + t3 := h1; replace h2 : t3 ≤ (a.length : Int) := h2; show (t0.length : Int) ≤ _; omega
 | go t => obtain ⟨t0, t1, t2, t3, ⟨⟩⟩ := t; rintro ⟨rfl, rfl, h1, h2, h3⟩; obtain ⟨t3, rfl⟩ : ∃ y : Int, y = t3 := ⟨_, rfl⟩; replace h1 : (t0.length : Int) ≤ (l.length : Int) + t3 := h1; replace h2 : t3 ≤ (a.length : Int) := h2; show (t0.length : Int) ≤ _; omega
@[reducible] def zC2 : LB := ⟨[], ⟨22, [], [(3, vo .str), (7, vd (.lst zI)), (8, vd .int), (9, vd .int)]⟩, ⟨22, [], []⟩, 0, fun x => (fun (l3 : List (El .str)) (l7 : List (El zI)) (n8 : Int) (n9 : Int) => (bif decide (n9 < n8) then (.ix n9 l7 (bif (!(zB zI l7 n9).2.2) then (.ck (zFQ l3 (zB zI l7 n9).2.1) (.ik (n9 + (1 : Int)) (.v (.go ((yJ l3 (zB zI l7 n9).2.1).1, l7, n8, (n9 + (1 : Int)), ()))))) else (.ik (n9 + (1 : Int)) (.v (.go (l3, l7, n8, (n9 + (1 : Int)), ())))))) else (.v (.brk (l3, l7, n8, n9, ()))) : Tr (St _ _))) x.1 x.2.1 x.2.2.1 x.2.2.2.1⟩
theorem zME (l7 : List (El zI)) (l3 : List (El .str)) : LB.run zC2 (l3, l7, (l7.length : Int), (0 : Int), ()) = .brk ((zc (fun _ x (s : (List (El .str))) => bif (!x.2.2) then (yJ s x.2.1).1 else s) 0 l7 l3), l7, (l7.length : Int), (l7.length : Int), ()) := LB.run_fold (l := zC2) (fun i s => (s, l7, (l7.length : Int), (i : Int), ())) (fun i x s h => by
  simp only [LB.b, zC2, zi, zQ, zR, cond_true, yQ h, zG h]
  cases (!x.2.2) <;> rfl) (fun s => by simp only [LB.b, zC2, xo]; rfl)
theorem zSm : SF zC2 fun x : List (El .str) × List (El zI) × Int × Int × Unit => (0 ≤ x.2.2.2.1 ∧ x.2.2.1 = (x.2.1.length : Int) ∧ (x.1.length : Int) + zAZ x.2.1 x.2.2.2.1 ≤ 16777216, x.2.2.1 - x.2.2.2.1) := x5 (by
 rintro ⟨(l3 : List (El .str)), (l7 : List (El zI)), (n8 : Int), (n9 : Int), ⟨⟩⟩ hI hw
 dsimp only at hI ⊢
 obtain ⟨i0, i1, k0⟩ := hI
 have _ : -9223372036854775808 ≤ n8 ∧ n8 ≤ 9223372036854775807 := z0 hw.2.2.1
 have hb : (l7.length : Int) ≤ 16777216 := zE (hw.2.1.1)
 refine ⟨by omega, ?_⟩
 refine x4 (fun h1 => ?_) (fun h1 => ?_)
 ·replace h1 : n9 < n8 := of_decide_eq_true h1
  refine yt ?_ ?_
  ·first | omega | (simp <;> omega)
  ·refine x4 (fun h2 => ?_) (fun h2 => ?_)
   ·refine yt ?_ ?_
    ·have _ := zAJ l7 n9 (by omega); show (l3.length : Int) + ((zB zI l7 n9).2.1.length : Int) ≤ 16777216; omega
    ·refine yt ?_ ?_
     ·exact ink (by omega) (by omega)
     ·exact show (0 ≤ (n9 + (1 : Int)) ∧ n8 = (l7.length : Int) ∧ ((yJ l3 (zB zI l7 n9).2.1).1.length : Int) + zAZ l7 (n9 + (1 : Int)) ≤ 16777216) ∧ n8 - (n9 + (1 : Int)) < n8 - n9 ∧ 0 < n8 - n9 from ⟨⟨by (have _ := zAN l3 (zB zI l7 n9).2.1; have _ := zAJ l7 n9 (by omega); first | omega | rfl | assumption | (simp <;> omega)), by (have _ := zAN l3 (zB zI l7 n9).2.1; have _ := zAJ l7 n9 (by omega); first | omega | rfl | assumption | (simp <;> omega)), by (have _ := zAN l3 (zB zI l7 n9).2.1; have _ := zAJ l7 n9 (by omega); first | omega | rfl | assumption | (simp <;> omega))⟩, by (first | omega | (simp only [List.length_set]; omega)), by (first | omega | (simp only [List.length_set]; omega))⟩
   ·refine yt ?_ ?_
    ·exact ink (by omega) (by omega)
    ·exact show (0 ≤ (n9 + (1 : Int)) ∧ n8 = (l7.length : Int) ∧ (l3.length : Int) + zAZ l7 (n9 + (1 : Int)) ≤ 16777216) ∧ n8 - (n9 + (1 : Int)) < n8 - n9 ∧ 0 < n8 - n9 from ⟨⟨by (have _ := zAJ l7 n9 (by omega); first | omega | rfl | assumption | (simp <;> omega)), by (have _ := zAJ l7 n9 (by omega); first | omega | rfl | assumption | (simp <;> omega)), by (have _ := zAJ l7 n9 (by omega); first | omega | rfl | assumption | (simp <;> omega))⟩, by (first | omega | (simp only [List.length_set]; omega)), by (first | omega | (simp only [List.length_set]; omega))⟩
 ·replace h1 : ¬ (n9 < n8) := of_decide_eq_false h1
  exact trivial)
def zI2 (a0 : El zC) : Tr (List (El .str) × Unit) := .lp zC2 (([] : List (El .str)), a0.2.2.1, (a0.2.2.1.length : Int), (0 : Int), ()) (fun _ => .bad) (fun t2 => .v (t2.1, ()))
def zDI a0 := (zI2 a0).val
def zJ9 (a0 : El zC) : Prop := SzR a0
@[reducible] def zRa : FnD := ⟨[va zC], [vo .str], true, fun a => some (zJ9 a.1), fun a => zDI a.1⟩
theorem zbO (a0 : El zC) (_ : xH zRa.args (a0, ())) (hp : zJ9 a0) : (zI2 a0).ok := by
 unfold zJ9 at hp
 unfold zI2
 refine zJ ?_ ?_
 ·exact zSm _ ⟨by (have _ := hp.1; dsimp only <;> first | omega | rfl | assumption | (simp <;> omega)), by (have _ := hp.1; dsimp only <;> first | omega | rfl | assumption | (simp <;> omega)), by (have _ := hp.1; dsimp only <;> first | omega | rfl | assumption | (simp <;> omega))⟩
 ·refine vJ (zME a0.2.2.1 ([] : List (El .str))) ?_
  try dsimp only
  trivial
def zb4 : Con Tryz.prog := yE mo g0 [zQq] [zC2] 122 zRa (fn := Tryz.f122) ⟨lk, trivial⟩ (fun a hw h => yX (by kernel_rfl) (zbO a.1 hw h) rfl)
theorem zaY (a0 : El zC) : zDI a0 = ((zc (fun _ x (s : (List (El .str))) => bif (!x.2.2) then (yJ s x.2.1).1 else s) 0 a0.2.2.1 ([] : List (El .str))), ()) := by
 simp only [zDI, zI2, zR, zy, zQ]
 rw [zME, xa] <;> rfl
@[reducible] def x8 : LB := ⟨[], ⟨49, [.d zC], [(1, .pt 0 0), (3, vo .str), (11, vd (.lst zP)), (12, vd .int), (13, vd .int)]⟩, ⟨49, [], []⟩, 0, fun x => (fun (w0 : El zC) (l3 : List (El .str)) (l11 : List (El zP)) (n12 : Int) (n13 : Int) => (bif decide (n13 < n12) then (.ix n13 l11 (.ck (zFQ l3 [(zB zP l11 n13).2.1, (zB zP l11 n13).2.2]) (.ik (n13 + (1 : Int)) (.v (.go (w0, (), (yJ l3 [(zB zP l11 n13).2.1, (zB zP l11 n13).2.2]).1, l11, n12, (n13 + (1 : Int)), ())))))) else (.v (.brk (w0, (), l3, l11, n12, n13, ()))) : Tr (St _ _))) x.1 x.2.2.1 x.2.2.2.1 x.2.2.2.2.1 x.2.2.2.2.2.1⟩
theorem zQm (w0 : El zC) (l11 : List (El zP)) (l3 : List (El .str)) : LB.run x8 (w0, (), l3, l11, (l11.length : Int), (0 : Int), ()) = .brk (w0, (), (zc (fun _ x (s : (List (El .str))) => (yJ s [x.2.1, x.2.2]).1) 0 l11 l3), l11, (l11.length : Int), (l11.length : Int), ()) := LB.run_fold (l := x8) (fun i s => (w0, (), s, l11, (l11.length : Int), (i : Int), ())) (fun i x s h => by
  simp only [LB.b, x8, zQ, zR, cond_true, yQ h, zG h]
  rfl) (fun s => by simp only [LB.b, x8, xo]; rfl)
theorem zRo (w00 : El zC) (l30 : List (El .str)) (l110 : List (El zP)) (n120 : Int) (n130 : Int) (p0 : (l30.length : Int) + 2 * ((l110.length : Int) - n130) + 2 * vT w00.2.2.2.2 0 ≤ 16777216 ∧ n120 = (l110.length : Int) ∧ n130 ≤ n120) : (LB.run x8 (w00, (), l30, l110, n120, n130, ())).all (fun _ => False) (fun (w0, _, l3, l11, n12, n13, _) => w00 = w0 ∧ l110 = l11 ∧ n120 = n12 ∧ ((l3.length : Int) + 2 * ((l11.length : Int) - n13) + 2 * vT w0.2.2.2.2 0 ≤ 16777216 ∧ n12 = (l11.length : Int) ∧ n13 ≤ n12)) (fun (w0, _, l3, l11, n12, n13, _) => w00 = w0 ∧ l110 = l11 ∧ n120 = n12 ∧ ((l3.length : Int) + 2 * ((l11.length : Int) - n13) + 2 * vT w0.2.2.2.2 0 ≤ 16777216 ∧ n12 = (l11.length : Int) ∧ n13 ≤ n12)) := by
 have H : ∀ (w0 : El zC) (l3 : List (El .str)) (l11 : List (El zP)) (n12 : Int) (n13 : Int), (w00 = w0 ∧ l110 = l11 ∧ n120 = n12 ∧ ((l3.length : Int) + 2 * ((l11.length : Int) - n13) + 2 * vT w0.2.2.2.2 0 ≤ 16777216 ∧ n12 = (l11.length : Int) ∧ n13 ≤ n12)) → St.all (fun _ => False) (fun (w0, _, l3, l11, n12, n13, _) => w00 = w0 ∧ l110 = l11 ∧ n120 = n12 ∧ ((l3.length : Int) + 2 * ((l11.length : Int) - n13) + 2 * vT w0.2.2.2.2 0 ≤ 16777216 ∧ n12 = (l11.length : Int) ∧ n13 ≤ n12)) (fun (w0, _, l3, l11, n12, n13, _) => w00 = w0 ∧ l110 = l11 ∧ n120 = n12 ∧ ((l3.length : Int) + 2 * ((l11.length : Int) - n13) + 2 * vT w0.2.2.2.2 0 ≤ 16777216 ∧ n12 = (l11.length : Int) ∧ n13 ≤ n12)) (x8.b (w0, (), l3, l11, n12, n13, ())) := by
  intro w0 l3 l11 n12 n13 hI
  obtain ⟨eq0, eq1, eq2, eq3⟩ := hI
  simp only [LB.b, x8, zi, zQ, zR]
  refine zd (fun h2 => ?_) (fun h2 => ?_)
  ·replace h2 : n13 < n12 := of_decide_eq_true h2
   exact yf (show w00 = w0 ∧ l110 = l11 ∧ n120 = n12 ∧ (((yJ l3 [(zB zP l11 n13).2.1, (zB zP l11 n13).2.2]).1.length : Int) + 2 * ((l11.length : Int) - (n13 + (1 : Int))) + 2 * vT w0.2.2.2.2 0 ≤ 16777216 ∧ n12 = (l11.length : Int) ∧ (n13 + (1 : Int)) ≤ n12) from ⟨eq0, eq1, eq2, by have _ := zAN l3 [(zB zP l11 n13).2.1, (zB zP l11 n13).2.2]; simp only [List.length_cons, List.length_nil] at *; first | omega | rfl | assumption | (simp <;> omega)⟩)
  ·replace h2 : ¬ (n13 < n12) := of_decide_eq_false h2
   exact zCP (show w00 = w0 ∧ l110 = l11 ∧ n120 = n12 ∧ ((l3.length : Int) + 2 * ((l11.length : Int) - n13) + 2 * vT w0.2.2.2.2 0 ≤ 16777216 ∧ n12 = (l11.length : Int) ∧ n13 ≤ n12) from ⟨eq0, eq1, eq2, by first | omega | rfl | assumption | (simp <;> omega)⟩)
 exact LB.post (l := x8) (A := fun _ => False) (fun (w0, _, l3, l11, n12, n13, _) => w00 = w0 ∧ l110 = l11 ∧ n120 = n12 ∧ ((l3.length : Int) + 2 * ((l11.length : Int) - n13) + 2 * vT w0.2.2.2.2 0 ≤ 16777216 ∧ n12 = (l11.length : Int) ∧ n13 ≤ n12)) (fun ⟨w0, ⟨⟩, l3, l11, n12, n13, ⟨⟩⟩ hx => H w0 l3 l11 n12 n13 hx) ⟨rfl, rfl, rfl, p0⟩
theorem zRQ : SF x8 fun x : El zC × Unit × List (El .str) × List (El zP) × Int × Int × Unit => (0 ≤ x.2.2.2.2.2.1 ∧ x.2.2.2.2.1 = (x.2.2.2.1.length : Int) ∧ (x.2.2.1.length : Int) + 2 * ((x.2.2.2.1.length : Int) - x.2.2.2.2.2.1) + 2 * vT x.1.2.2.2.2 0 ≤ 16777216, x.2.2.2.2.1 - x.2.2.2.2.2.1) := x5 (by
 rintro ⟨(w0 : El zC), ⟨⟩, (l3 : List (El .str)), (l11 : List (El zP)), (n12 : Int), (n13 : Int), ⟨⟩⟩ hI hw
 dsimp only at hI ⊢
 obtain ⟨i0, i1, k0⟩ := hI
 have _ : -9223372036854775808 ≤ n12 ∧ n12 ≤ 9223372036854775807 := z0 hw.2.2.2.2.1
 have hb : (l11.length : Int) ≤ 16777216 := zE (hw.2.2.2.1.1)
 refine ⟨by omega, ?_⟩
 refine x4 (fun h3 => ?_) (fun h3 => ?_)
 ·replace h3 : n13 < n12 := of_decide_eq_true h3
  refine yt ?_ ?_
  ·first | omega | (simp <;> omega)
  ·refine yt ?_ ?_
   ·have _ := zZE w0.2.2.2.2 0; show (l3.length : Int) + ([(zB zP l11 n13).2.1, (zB zP l11 n13).2.2].length : Int) ≤ 16777216; simp only [List.length_cons, List.length_nil]; omega
   ·refine yt ?_ ?_
    ·exact ink (by omega) (by omega)
    ·exact show (0 ≤ (n13 + (1 : Int)) ∧ n12 = (l11.length : Int) ∧ ((yJ l3 [(zB zP l11 n13).2.1, (zB zP l11 n13).2.2]).1.length : Int) + 2 * ((l11.length : Int) - (n13 + (1 : Int))) + 2 * vT w0.2.2.2.2 0 ≤ 16777216) ∧ n12 - (n13 + (1 : Int)) < n12 - n13 ∧ 0 < n12 - n13 from ⟨⟨by (have _ := zAN l3 [(zB zP l11 n13).2.1, (zB zP l11 n13).2.2]; simp only [List.length_cons, List.length_nil] at *; first | omega | rfl | assumption | (simp <;> omega)), by (have _ := zAN l3 [(zB zP l11 n13).2.1, (zB zP l11 n13).2.2]; simp only [List.length_cons, List.length_nil] at *; first | omega | rfl | assumption | (simp <;> omega)), by (have _ := zAN l3 [(zB zP l11 n13).2.1, (zB zP l11 n13).2.2]; simp only [List.length_cons, List.length_nil] at *; first | omega | rfl | assumption | (simp <;> omega))⟩, by (first | omega | (simp only [List.length_set]; omega)), by (first | omega | (simp only [List.length_set]; omega))⟩
 ·replace h3 : ¬ (n13 < n12) := of_decide_eq_false h3
  exact trivial)
@[reducible] def y5 : LB := ⟨[], ⟨49, [], [(3, vo .str), (26, vd (.lst z5)), (27, vd .int), (28, vd .int), (33, vd (.lst zq)), (34, vd .int), (35, vd .int)]⟩, ⟨49, [], []⟩, 4, fun x => (fun (l3 : List (El .str)) (l26 : List (El z5)) (n27 : Int) (n28 : Int) (l33 : List (El zq)) (n34 : Int) (n35 : Int) => (bif decide (n35 < n34) then (.ix n35 l33 (.ck (zFQ l3 [(zB zq l33 n35).2.1, (zB zq l33 n35).2.2]) (.ik (n35 + (1 : Int)) (.v (.go ((yJ l3 [(zB zq l33 n35).2.1, (zB zq l33 n35).2.2]).1, l26, n27, n28, l33, n34, (n35 + (1 : Int)), ())))))) else (.v (.brk (l3, l26, n27, n28, l33, n34, n35, ()))) : Tr (St _ _))) x.1 x.2.1 x.2.2.1 x.2.2.2.1 x.2.2.2.2.1 x.2.2.2.2.2.1 x.2.2.2.2.2.2.1⟩
theorem zRC (l26 : List (El z5)) (n27 : Int) (n28 : Int) (l33 : List (El zq)) (l3 : List (El .str)) : LB.run y5 (l3, l26, n27, n28, l33, (l33.length : Int), (0 : Int), ()) = .brk ((zc (fun _ x (s : (List (El .str))) => (yJ s [x.2.1, x.2.2]).1) 0 l33 l3), l26, n27, n28, l33, (l33.length : Int), (l33.length : Int), ()) := LB.run_fold (l := y5) (fun i s => (s, l26, n27, n28, l33, (l33.length : Int), (i : Int), ())) (fun i x s h => by
  simp only [LB.b, y5, zQ, zR, cond_true, yQ h, zG h]
  rfl) (fun s => by simp only [LB.b, y5, xo]; rfl)
theorem zQ2 (l30 : List (El .str)) (l260 : List (El z5)) (n270 : Int) (n280 : Int) (l330 : List (El zq)) (n340 : Int) (n350 : Int)  : (LB.run y5 (l30, l260, n270, n280, l330, n340, n350, ())).all (fun _ => False) (fun (_, l26, n27, n28, l33, n34, _) => l260 = l26 ∧ n270 = n27 ∧ n280 = n28 ∧ l330 = l33 ∧ n340 = n34) (fun (_, l26, n27, n28, l33, n34, _) => l260 = l26 ∧ n270 = n27 ∧ n280 = n28 ∧ l330 = l33 ∧ n340 = n34) := by
 have H : ∀ (l3 : List (El .str)) (l26 : List (El z5)) (n27 : Int) (n28 : Int) (l33 : List (El zq)) (n34 : Int) (n35 : Int), (l260 = l26 ∧ n270 = n27 ∧ n280 = n28 ∧ l330 = l33 ∧ n340 = n34) → St.all (fun _ => False) (fun (_, l26, n27, n28, l33, n34, _) => l260 = l26 ∧ n270 = n27 ∧ n280 = n28 ∧ l330 = l33 ∧ n340 = n34) (fun (_, l26, n27, n28, l33, n34, _) => l260 = l26 ∧ n270 = n27 ∧ n280 = n28 ∧ l330 = l33 ∧ n340 = n34) (y5.b (l3, l26, n27, n28, l33, n34, n35, ())) := by
  intro l3 l26 n27 n28 l33 n34 n35 hI
  obtain ⟨eq0, eq1, eq2, eq3, eq4⟩ := hI
  simp only [LB.b, y5, zi, zQ, zR]
  refine zd (fun h4 => ?_) (fun h4 => ?_)
  ·replace h4 : n35 < n34 := of_decide_eq_true h4
   exact ⟨eq0, eq1, eq2, eq3, eq4⟩
  ·replace h4 : ¬ (n35 < n34) := of_decide_eq_false h4
   exact ⟨eq0, eq1, eq2, eq3, eq4⟩
 exact LB.post (l := y5) (A := fun _ => False) (fun (_, l26, n27, n28, l33, n34, _) => l260 = l26 ∧ n270 = n27 ∧ n280 = n28 ∧ l330 = l33 ∧ n340 = n34) (fun ⟨l3, l26, n27, n28, l33, n34, n35, ⟨⟩⟩ hx => H l3 l26 n27 n28 l33 n34 n35 hx) ⟨rfl, rfl, rfl, rfl, rfl⟩
theorem zQL (l30 : List (El .str)) (l260 : List (El z5)) (n270 : Int) (n280 : Int) (l330 : List (El zq)) (n340 : Int) (n350 : Int) (p0 : (l30.length : Int) + 2 * ((l330.length : Int) - n350) + 2 * vT l260 (n280 + 1) ≤ 16777216 ∧ n340 = (l330.length : Int) ∧ n350 ≤ n340) : (LB.run y5 (l30, l260, n270, n280, l330, n340, n350, ())).all (fun _ => False) (fun (l3, l26, n27, n28, l33, n34, n35, _) => l260 = l26 ∧ n270 = n27 ∧ n280 = n28 ∧ l330 = l33 ∧ n340 = n34 ∧ ((l3.length : Int) + 2 * ((l33.length : Int) - n35) + 2 * vT l26 (n28 + 1) ≤ 16777216 ∧ n34 = (l33.length : Int) ∧ n35 ≤ n34)) (fun (l3, l26, n27, n28, l33, n34, n35, _) => l260 = l26 ∧ n270 = n27 ∧ n280 = n28 ∧ l330 = l33 ∧ n340 = n34 ∧ ((l3.length : Int) + 2 * ((l33.length : Int) - n35) + 2 * vT l26 (n28 + 1) ≤ 16777216 ∧ n34 = (l33.length : Int) ∧ n35 ≤ n34)) := by
 have H : ∀ (l3 : List (El .str)) (l26 : List (El z5)) (n27 : Int) (n28 : Int) (l33 : List (El zq)) (n34 : Int) (n35 : Int), (l260 = l26 ∧ n270 = n27 ∧ n280 = n28 ∧ l330 = l33 ∧ n340 = n34 ∧ ((l3.length : Int) + 2 * ((l33.length : Int) - n35) + 2 * vT l26 (n28 + 1) ≤ 16777216 ∧ n34 = (l33.length : Int) ∧ n35 ≤ n34)) → St.all (fun _ => False) (fun (l3, l26, n27, n28, l33, n34, n35, _) => l260 = l26 ∧ n270 = n27 ∧ n280 = n28 ∧ l330 = l33 ∧ n340 = n34 ∧ ((l3.length : Int) + 2 * ((l33.length : Int) - n35) + 2 * vT l26 (n28 + 1) ≤ 16777216 ∧ n34 = (l33.length : Int) ∧ n35 ≤ n34)) (fun (l3, l26, n27, n28, l33, n34, n35, _) => l260 = l26 ∧ n270 = n27 ∧ n280 = n28 ∧ l330 = l33 ∧ n340 = n34 ∧ ((l3.length : Int) + 2 * ((l33.length : Int) - n35) + 2 * vT l26 (n28 + 1) ≤ 16777216 ∧ n34 = (l33.length : Int) ∧ n35 ≤ n34)) (y5.b (l3, l26, n27, n28, l33, n34, n35, ())) := by
  intro l3 l26 n27 n28 l33 n34 n35 hI
  obtain ⟨eq0, eq1, eq2, eq3, eq4, eq5⟩ := hI
  simp only [LB.b, y5, zi, zQ, zR]
  refine zd (fun h5 => ?_) (fun h5 => ?_)
  ·replace h5 : n35 < n34 := of_decide_eq_true h5
   exact yf (show l260 = l26 ∧ n270 = n27 ∧ n280 = n28 ∧ l330 = l33 ∧ n340 = n34 ∧ (((yJ l3 [(zB zq l33 n35).2.1, (zB zq l33 n35).2.2]).1.length : Int) + 2 * ((l33.length : Int) - (n35 + (1 : Int))) + 2 * vT l26 (n28 + 1) ≤ 16777216 ∧ n34 = (l33.length : Int) ∧ (n35 + (1 : Int)) ≤ n34) from ⟨eq0, eq1, eq2, eq3, eq4, by have _ := zAN l3 [(zB zq l33 n35).2.1, (zB zq l33 n35).2.2]; simp only [List.length_cons, List.length_nil] at *; first | omega | rfl | assumption | (simp <;> omega)⟩)
  ·replace h5 : ¬ (n35 < n34) := of_decide_eq_false h5
   exact zCP (show l260 = l26 ∧ n270 = n27 ∧ n280 = n28 ∧ l330 = l33 ∧ n340 = n34 ∧ ((l3.length : Int) + 2 * ((l33.length : Int) - n35) + 2 * vT l26 (n28 + 1) ≤ 16777216 ∧ n34 = (l33.length : Int) ∧ n35 ≤ n34) from ⟨eq0, eq1, eq2, eq3, eq4, by first | omega | rfl | assumption | (simp <;> omega)⟩)
 exact LB.post (l := y5) (A := fun _ => False) (fun (l3, l26, n27, n28, l33, n34, n35, _) => l260 = l26 ∧ n270 = n27 ∧ n280 = n28 ∧ l330 = l33 ∧ n340 = n34 ∧ ((l3.length : Int) + 2 * ((l33.length : Int) - n35) + 2 * vT l26 (n28 + 1) ≤ 16777216 ∧ n34 = (l33.length : Int) ∧ n35 ≤ n34)) (fun ⟨l3, l26, n27, n28, l33, n34, n35, ⟨⟩⟩ hx => H l3 l26 n27 n28 l33 n34 n35 hx) ⟨rfl, rfl, rfl, rfl, rfl, p0⟩
theorem zQD : SF y5 fun x : List (El .str) × List (El z5) × Int × Int × List (El zq) × Int × Int × Unit => (0 ≤ x.2.2.2.2.2.2.1 ∧ x.2.2.2.2.2.1 = (x.2.2.2.2.1.length : Int) ∧ (x.1.length : Int) + 2 * ((x.2.2.2.2.1.length : Int) - x.2.2.2.2.2.2.1) + 2 * vT x.2.1 (x.2.2.2.1 + 1) ≤ 16777216, x.2.2.2.2.2.1 - x.2.2.2.2.2.2.1) := x5 (by
 rintro ⟨(l3 : List (El .str)), (l26 : List (El z5)), (n27 : Int), (n28 : Int), (l33 : List (El zq)), (n34 : Int), (n35 : Int), ⟨⟩⟩ hI hw
 dsimp only at hI ⊢
 obtain ⟨i0, i1, k0⟩ := hI
 have _ : -9223372036854775808 ≤ n27 ∧ n27 ≤ 9223372036854775807 := z0 hw.2.2.1
 have _ : -9223372036854775808 ≤ n28 ∧ n28 ≤ 9223372036854775807 := z0 hw.2.2.2.1
 have _ : -9223372036854775808 ≤ n34 ∧ n34 ≤ 9223372036854775807 := z0 hw.2.2.2.2.2.1
 have hb : (l33.length : Int) ≤ 16777216 := zE (hw.2.2.2.2.1.1)
 refine ⟨by omega, ?_⟩
 refine x4 (fun h6 => ?_) (fun h6 => ?_)
 ·replace h6 : n35 < n34 := of_decide_eq_true h6
  refine yt ?_ ?_
  ·first | omega | (simp <;> omega)
  ·refine yt ?_ ?_
   ·have _ := zZE l26 (n28 + 1); show (l3.length : Int) + ([(zB zq l33 n35).2.1, (zB zq l33 n35).2.2].length : Int) ≤ 16777216; simp only [List.length_cons, List.length_nil]; omega
   ·refine yt ?_ ?_
    ·exact ink (by omega) (by omega)
    ·exact show (0 ≤ (n35 + (1 : Int)) ∧ n34 = (l33.length : Int) ∧ ((yJ l3 [(zB zq l33 n35).2.1, (zB zq l33 n35).2.2]).1.length : Int) + 2 * ((l33.length : Int) - (n35 + (1 : Int))) + 2 * vT l26 (n28 + 1) ≤ 16777216) ∧ n34 - (n35 + (1 : Int)) < n34 - n35 ∧ 0 < n34 - n35 from ⟨⟨by (have _ := zAN l3 [(zB zq l33 n35).2.1, (zB zq l33 n35).2.2]; simp only [List.length_cons, List.length_nil] at *; first | omega | rfl | assumption | (simp <;> omega)), by (have _ := zAN l3 [(zB zq l33 n35).2.1, (zB zq l33 n35).2.2]; simp only [List.length_cons, List.length_nil] at *; first | omega | rfl | assumption | (simp <;> omega)), by (have _ := zAN l3 [(zB zq l33 n35).2.1, (zB zq l33 n35).2.2]; simp only [List.length_cons, List.length_nil] at *; first | omega | rfl | assumption | (simp <;> omega))⟩, by (first | omega | (simp only [List.length_set]; omega)), by (first | omega | (simp only [List.length_set]; omega))⟩
 ·replace h6 : ¬ (n35 < n34) := of_decide_eq_false h6
  exact trivial)
@[reducible] def xm : LB := ⟨[], ⟨49, [], [(3, vo .str), (26, vd (.lst z5)), (27, vd .int), (28, vd .int)]⟩, ⟨49, [], []⟩, 2, fun x => (fun (l3 : List (El .str)) (l26 : List (El z5)) (n27 : Int) (n28 : Int) => (bif decide (n28 < n27) then (.ix n28 l26 (.lp y5 (l3, l26, n27, n28, (zB z5 l26 n28).2.2.1, ((zB z5 l26 n28).2.2.1.length : Int), (0 : Int), ()) (fun _ => .v (.ret ())) (fun t4 => .ik (t4.2.2.2.1 + (1 : Int)) (.v (.go (t4.1, t4.2.1, t4.2.2.1, (t4.2.2.2.1 + (1 : Int)), ())))))) else (.v (.brk (l3, l26, n27, n28, ()))) : Tr (St _ _))) x.1 x.2.1 x.2.2.1 x.2.2.2.1⟩
theorem zQc (l30 : List (El .str)) (l260 : List (El z5)) (n270 : Int) (n280 : Int)  : (LB.run xm (l30, l260, n270, n280, ())).all (fun _ => False) (fun (_, l26, n27, _) => l260 = l26 ∧ n270 = n27) (fun (_, l26, n27, _) => l260 = l26 ∧ n270 = n27) := by
 have H : ∀ (l3 : List (El .str)) (l26 : List (El z5)) (n27 : Int) (n28 : Int), (l260 = l26 ∧ n270 = n27) → St.all (fun _ => False) (fun (_, l26, n27, _) => l260 = l26 ∧ n270 = n27) (fun (_, l26, n27, _) => l260 = l26 ∧ n270 = n27) (xm.b (l3, l26, n27, n28, ())) := by
  intro l3 l26 n27 n28 hI
  obtain ⟨eq0, eq1⟩ := hI
  simp only [LB.b, xm, zi, zQ, zR, zy]
  refine zd (fun h7 => ?_) (fun h7 => ?_)
  ·replace h7 : n28 < n27 := of_decide_eq_true h7
   refine zPc (A' := fun _ => False) (B' := fun (t4l3, t4l26, t4n27, t4n28, t4l33, t4n34, t4n35, _) => l26 = t4l26 ∧ n27 = t4n27 ∧ n28 = t4n28 ∧ (zB z5 l26 n28).2.2.1 = t4l33 ∧ ((zB z5 l26 n28).2.2.1.length : Int) = t4n34) (zQ2 l3 l26 n27 n28 (zB z5 l26 n28).2.2.1 ((zB z5 l26 n28).2.2.1.length : Int) (0 : Int)) (fun _ h => h.elim) (fun t ht => ?_)
   obtain ⟨t4l3, t4l26, t4n27, t4n28, t4l33, t4n34, t4n35, ⟨⟩⟩ := t
   dsimp only
   obtain ⟨rfl, rfl, rfl, rfl, rfl⟩ := ht
   obtain ⟨t4n35, rfl⟩ : ∃ y : Int, y = t4n35 := ⟨_, rfl⟩
   exact ⟨eq0, eq1⟩
  ·replace h7 : ¬ (n28 < n27) := of_decide_eq_false h7
   exact ⟨eq0, eq1⟩
 exact LB.post (l := xm) (A := fun _ => False) (fun (_, l26, n27, _) => l260 = l26 ∧ n270 = n27) (fun ⟨l3, l26, n27, n28, ⟨⟩⟩ hx => H l3 l26 n27 n28 hx) ⟨rfl, rfl⟩
theorem zPq : SF xm fun x : List (El .str) × List (El z5) × Int × Int × Unit => (0 ≤ x.2.2.2.1 ∧ x.2.2.1 = (x.2.1.length : Int) ∧ (x.1.length : Int) + 2 * vT x.2.1 x.2.2.2.1 ≤ 16777216, x.2.2.1 - x.2.2.2.1) := x5 (by
 rintro ⟨(l3 : List (El .str)), (l26 : List (El z5)), (n27 : Int), (n28 : Int), ⟨⟩⟩ hI hw
 dsimp only at hI ⊢
 obtain ⟨i0, i1, k0⟩ := hI
 have _ : -9223372036854775808 ≤ n27 ∧ n27 ≤ 9223372036854775807 := z0 hw.2.2.1
 have hb : (l26.length : Int) ≤ 16777216 := zE (hw.2.1.1)
 refine ⟨by omega, ?_⟩
 refine x4 (fun h8 => ?_) (fun h8 => ?_)
 ·replace h8 : n28 < n27 := of_decide_eq_true h8
  refine yt ?_ ?_
  ·first | omega | (simp <;> omega)
  ·refine yt ?_ ?_
   ·exact zQD _ ⟨by (have _ := zJZ l26 n28 (by omega); dsimp only <;> first | omega | rfl | assumption | (simp <;> omega)), by (have _ := zJZ l26 n28 (by omega); dsimp only <;> first | omega | rfl | assumption | (simp <;> omega)), by (have _ := zJZ l26 n28 (by omega); dsimp only <;> first | omega | rfl | assumption | (simp <;> omega))⟩
   ·refine zMd (A' := fun _ => False) (B' := fun (t4l3, t4l26, t4n27, t4n28, t4l33, t4n34, t4n35, _) => l26 = t4l26 ∧ n27 = t4n27 ∧ n28 = t4n28 ∧ (zB z5 l26 n28).2.2.1 = t4l33 ∧ ((zB z5 l26 n28).2.2.1.length : Int) = t4n34 ∧ ((t4l3.length : Int) + 2 * ((t4l33.length : Int) - t4n35) + 2 * vT t4l26 (t4n28 + 1) ≤ 16777216 ∧ t4n34 = (t4l33.length : Int) ∧ t4n35 ≤ t4n34)) (zQL l3 l26 n27 n28 (zB z5 l26 n28).2.2.1 ((zB z5 l26 n28).2.2.1.length : Int) (0 : Int) (by (have _ := zJZ l26 n28 (by omega); first | omega | rfl | assumption | (simp <;> omega) | (refine ⟨?_, ?_, ?_⟩ <;> first | omega | rfl | (simp <;> omega)) | (refine ⟨?_, ?_⟩ <;> first | omega | rfl | (simp <;> omega))))) (fun _ h => h.elim) (fun t ht => ?_)
    obtain ⟨t4l3, t4l26, t4n27, t4n28, t4l33, t4n34, t4n35, ⟨⟩⟩ := t
    dsimp only
    obtain ⟨rfl, rfl, rfl, rfl, rfl, hth9⟩ := ht
    obtain ⟨t4n35, rfl⟩ : ∃ y : Int, y = t4n35 := ⟨_, rfl⟩
    replace hth9 : (t4l3.length : Int) + 2 * (((zB z5 l26 n28).2.2.1.length : Int) - t4n35) + 2 * vT l26 (n28 + 1) ≤ 16777216 ∧ ((zB z5 l26 n28).2.2.1.length : Int) = ((zB z5 l26 n28).2.2.1.length : Int) ∧ t4n35 ≤ ((zB z5 l26 n28).2.2.1.length : Int) := hth9
    refine yt ?_ ?_
    ·exact ink (by omega) (by omega)
    ·exact show (0 ≤ (n28 + (1 : Int)) ∧ n27 = (l26.length : Int) ∧ (t4l3.length : Int) + 2 * vT l26 (n28 + (1 : Int)) ≤ 16777216) ∧ n27 - (n28 + (1 : Int)) < n27 - n28 ∧ 0 < n27 - n28 from ⟨⟨by (first | omega | rfl | assumption | (simp <;> omega)), by (first | omega | rfl | assumption | (simp <;> omega)), by (first | omega | rfl | assumption | (simp <;> omega))⟩, by (first | omega | (simp only [List.length_set]; omega)), by (first | omega | (simp only [List.length_set]; omega))⟩
 ·replace h8 : ¬ (n28 < n27) := of_decide_eq_false h8
  exact trivial)
def zHv (a0 : El zC) : Tr (List (El .str) × Unit) := .lp x8 (a0, (), ([] : List (El .str)), a0.2.2.2.1, (a0.2.2.2.1.length : Int), (0 : Int), ()) (fun _ => .bad) (fun t2 => .lp xm (t2.2.2.1, t2.1.2.2.2.2, (t2.1.2.2.2.2.length : Int), (0 : Int), ()) (fun _ => .bad) (fun t5 => .v (t5.1, ())))
def v8 a0 := (zHv a0).val
def zHh (a0 : El zC) : Prop := SzR a0
@[reducible] def zPB : FnD := ⟨[va zC], [vo .str], true, fun a => some (zHh a.1), fun a => v8 a.1⟩
theorem zXZ (a0 : El zC) (_ : xH zPB.args (a0, ())) (hp : zHh a0) : (zHv a0).ok := by
 unfold zHh at hp
 unfold zHv
 refine zJ ?_ ?_
 ·exact zRQ _ ⟨by (have _ := hp.2; dsimp only <;> first | omega | rfl | assumption | (simp <;> omega)), by (have _ := hp.2; dsimp only <;> first | omega | rfl | assumption | (simp <;> omega)), by (have _ := hp.2; dsimp only <;> first | omega | rfl | assumption | (simp <;> omega))⟩
 ·refine zID (A' := fun _ => False) (B' := fun (t2w0, _, t2l3, t2l11, t2n12, t2n13, _) => a0 = t2w0 ∧ a0.2.2.2.1 = t2l11 ∧ (a0.2.2.2.1.length : Int) = t2n12 ∧ ((t2l3.length : Int) + 2 * ((t2l11.length : Int) - t2n13) + 2 * vT t2w0.2.2.2.2 0 ≤ 16777216 ∧ t2n12 = (t2l11.length : Int) ∧ t2n13 ≤ t2n12)) (zRo a0 ([] : List (El .str)) a0.2.2.2.1 (a0.2.2.2.1.length : Int) (0 : Int) (by (have _ := hp.2; first | omega | rfl | assumption | (simp <;> omega) | (refine ⟨?_, ?_, ?_⟩ <;> first | omega | rfl | (simp <;> omega)) | (refine ⟨?_, ?_⟩ <;> first | omega | rfl | (simp <;> omega))))) (fun _ h => h.elim) (fun t ht => ?_)
  obtain ⟨t2w0, ⟨⟩, t2l3, t2l11, t2n12, t2n13, ⟨⟩⟩ := t
  dsimp only
  obtain ⟨rfl, rfl, rfl, hth10⟩ := ht
  obtain ⟨t2n13, rfl⟩ : ∃ y : Int, y = t2n13 := ⟨_, rfl⟩
  replace hth10 : (t2l3.length : Int) + 2 * ((a0.2.2.2.1.length : Int) - t2n13) + 2 * vT a0.2.2.2.2 0 ≤ 16777216 ∧ (a0.2.2.2.1.length : Int) = (a0.2.2.2.1.length : Int) ∧ t2n13 ≤ (a0.2.2.2.1.length : Int) := hth10
  refine zJ ?_ ?_
  ·exact zPq _ ⟨by (dsimp only <;> first | omega | rfl | assumption | (simp <;> omega)), by (dsimp only <;> first | omega | rfl | assumption | (simp <;> omega)), by (dsimp only <;> first | omega | rfl | assumption | (simp <;> omega))⟩
  ·refine zID (A' := fun _ => False) (B' := fun (t5l3, t5l26, t5n27, t5n28, _) => a0.2.2.2.2 = t5l26 ∧ (a0.2.2.2.2.length : Int) = t5n27) (zQc t2l3 a0.2.2.2.2 (a0.2.2.2.2.length : Int) (0 : Int)) (fun _ h => h.elim) (fun t ht => ?_)
   obtain ⟨t5l3, t5l26, t5n27, t5n28, ⟨⟩⟩ := t
   dsimp only
   obtain ⟨rfl, rfl⟩ := ht
   obtain ⟨t5n28, rfl⟩ : ∃ y : Int, y = t5n28 := ⟨_, rfl⟩
   trivial
def zZB : Con Tryz.prog := yE mo g0 [zQq] [x8, xm, y5] 123 zPB (fn := Tryz.f123) ⟨lk, lk, lk, trivial⟩ (fun a hw h => yX (by kernel_rfl) (zXZ a.1 hw h) rfl)
@[reducible] def zD6 : LB := ⟨[], ⟨26, [], [(16, vd (.lst zj)), (17, vd .int), (18, vd .int)]⟩, ⟨26, [], [(2, vd .bool)]⟩, 0, fun x => (fun (l16 : List (El zj)) (n17 : Int) (n18 : Int) => (bif decide (n18 < n17) then (.ix n18 l16 (bif (!(zFk (zB zj l16 n18)).1) then (.v (.ret (false, ()))) else (.ik (n18 + (1 : Int)) (.v (.go (l16, n17, (n18 + (1 : Int)), ())))))) else (.v (.brk (l16, n17, n18, ()))) : Tr (St _ _))) x.1 x.2.1 x.2.2.1⟩
theorem zXK (l16 : List (El zj)) : LB.run zD6 (l16, (l16.length : Int), (0 : Int), ()) = bif ze (fun _ x => bif (!(zFk x).1) then false else true) 0 l16 then .brk (l16, (l16.length : Int), (l16.length : Int), ()) else .ret (false, ()) := LB.run_all (l := zD6) (fun i => (l16, (l16.length : Int), (i : Int), ())) (fun i x h => by
  simp only [LB.b, zD6, zi, zQ, zR, cond_true, yQ h, zG h]
  cases (!(zFk x).1) <;> rfl) (by simp only [LB.b, zD6, xo]; rfl)
theorem zXY : SF zD6 fun x : List (El zj) × Int × Int × Unit => (0 ≤ x.2.2.1 ∧ x.2.1 = (x.1.length : Int), x.2.1 - x.2.2.1) := x5 (by
 rintro ⟨(l16 : List (El zj)), (n17 : Int), (n18 : Int), ⟨⟩⟩ hI hw
 have _ : -9223372036854775808 ≤ n17 ∧ n17 ≤ 9223372036854775807 := z0 hw.2.1
 have _ : (l16.length : Int) ≤ 16777216 := zE (hw.1.1)
 simp [zD6] at hI ⊢
 repeat' first | intro _ | apply And.intro
 all_goals omega)
def zKM (a0 : El zI) : Tr (Bool × Unit) := bif (!(xd a0.1).1) then (.v (false, ())) else (bif decide ((a0.2.1.length : Int) > (5 : Int)) then (.v (false, ())) else (.lp zD6 (a0.2.1, (a0.2.1.length : Int), (0 : Int), ()) (fun r3 => .v (r3.1, ())) (fun _ => .v (true, ()))))
def zDn a0 := (zKM a0).val
@[reducible] def zXN : FnD := ⟨[va zI], [vd .bool], true, fun _ => none, fun a => zDn a.1⟩
theorem ziU (a0 : El zI) (_ : xH zXN.args (a0, ())) : (zKM a0).ok := by
 unfold zKM
 refine zo (fun _ => trivial) (fun h1 => ?_)
 refine zo (fun _ => trivial) (fun h2 => ?_)
 replace h2 : ¬ ((a0.2.1.length : Int) > (5 : Int)) := of_decide_eq_false h2
 refine zJ ?_ ?_
 ·exact zXY _ ⟨by (dsimp only <;> omega), by (dsimp only <;> omega)⟩
 ·simp
def zjc : Con Tryz.prog := yE mo g0 [zFJ, zYl] [zD6] 180 zXN (fn := Tryz.f180) ⟨lk, trivial⟩ (fun a hw _ => yX (by kernel_rfl) (ziU a.1 hw) rfl)
theorem zhv (a0 : El zI) : zDn a0 = bif (!(xd a0.1).1) then (false, ()) else (bif (decide ((a0.2.1.length : Int) > (5 : Int))) then (false, ()) else (bif ze (fun _ x => bif (!(zFk x).1) then false else true) 0 a0.2.1 then (true, ()) else (false, ()))) := by
 simp only [zDn, zKM, zR, zi, zy, zQ]
 rw [zXK, z6] <;> rfl
theorem zg6 {p : El zI} (h : (zDn p).1 = true) : p.2.1.length ≤ 5 := by
 simp only [zDn, zKM, zi, zQ, zR, zy, z8, zA1] at h
 have := of_decide_eq_false h.2.1
 omega
@[reducible] def zCk : LB := ⟨[], ⟨37, [.d zC], [(1, .pt 0 0), (17, vd (.lst zI)), (18, vd .int), (19, vd .int)]⟩, ⟨37, [], [(2, vd .bool)]⟩, 0, fun x => (fun (w0 : El zC) (l17 : List (El zI)) (n18 : Int) (n19 : Int) => (bif decide (n19 < n18) then (.ix n19 l17 (bif (!(zDn (zB zI l17 n19)).1) then (.v (.ret (false, ()))) else (bif (!((zB zI l17 n19).2.2 == decide (n19 ≥ (yb w0).1))) then (.v (.ret (false, ()))) else (.ik (n19 + (1 : Int)) (.v (.go (w0, (), l17, n18, (n19 + (1 : Int)), ()))))))) else (.v (.brk (w0, (), l17, n18, n19, ()))) : Tr (St _ _))) x.1 x.2.2.1 x.2.2.2.1 x.2.2.2.2.1⟩
theorem zWv (w0 : El zC) (l17 : List (El zI)) : LB.run zCk (w0, (), l17, (l17.length : Int), (0 : Int), ()) = bif ze (fun i x => bif (!(zDn x).1) then false else (bif (!(x.2.2 == decide ((i : Int) ≥ (yb w0).1))) then false else true)) 0 l17 then .brk (w0, (), l17, (l17.length : Int), (l17.length : Int), ()) else .ret (false, ()) := LB.run_all (l := zCk) (fun i => (w0, (), l17, (l17.length : Int), (i : Int), ())) (fun i x h => by
  simp only [LB.b, zCk, zi, zQ, zR, cond_true, yQ h, zG h]
  cases (!(zDn x).1)
  ·cases (!(x.2.2 == decide ((i : Int) ≥ (yb w0).1))) <;> rfl
  ·rfl) (by simp only [LB.b, zCk, xo]; rfl)
theorem zV1 : SF zCk fun x : El zC × Unit × List (El zI) × Int × Int × Unit => (0 ≤ x.2.2.2.2.1 ∧ x.2.2.2.1 = (x.2.2.1.length : Int), x.2.2.2.1 - x.2.2.2.2.1) := x5 (by
 rintro ⟨(w0 : El zC), ⟨⟩, (l17 : List (El zI)), (n18 : Int), (n19 : Int), ⟨⟩⟩ hI hw
 have _ : -9223372036854775808 ≤ n18 ∧ n18 ≤ 9223372036854775807 := z0 hw.2.2.2.1
 have _ : (l17.length : Int) ≤ 16777216 := zE (hw.2.2.1.1)
 simp [zCk] at hI ⊢
 repeat' first | intro _ | apply And.intro
 all_goals omega)
def zLR (a0 : El zC) : Tr (Bool × Unit) := bif (!(z3 (a0.2.2.1.length : Int) (1 : Int) (6 : Int)).1) then (.v (false, ())) else (bif (!(z3 (yb a0).1 (1 : Int) (3 : Int)).1) then (.v (false, ())) else (.lp zCk (a0, (), a0.2.2.1, (a0.2.2.1.length : Int), (0 : Int), ()) (fun r5 => .v (r5.1, ())) (fun _ => .v (true, ()))))
def zFL a0 := (zLR a0).val
@[reducible] def zTu : FnD := ⟨[va zC], [vd .bool], true, fun _ => none, fun a => zFL a.1⟩
theorem zdY (a0 : El zC) (_ : xH zTu.args (a0, ())) : (zLR a0).ok := by
 unfold zLR
 refine zo (fun _ => trivial) (fun h1 => ?_)
 replace h1 := vj h1
 replace h1 := zAt h1
 refine zo (fun _ => trivial) (fun h2 => ?_)
 replace h2 := vj h2
 replace h2 := zAt h2
 refine zJ ?_ ?_
 ·exact zV1 _ ⟨by (dsimp only <;> omega), by (dsimp only <;> omega)⟩
 ·simp
def zeg : Con Tryz.prog := yE mo g0 [vn, zjc, zKW] [zCk] 118 zTu (fn := Tryz.f118) ⟨lk, trivial⟩ (fun a hw _ => yX (by kernel_rfl) (zdY a.1 hw) rfl)
theorem zUl (a0 : El zC) : zFL a0 = bif (!(z3 (a0.2.2.1.length : Int) (1 : Int) (6 : Int)).1) then (false, ()) else (bif (!(z3 (yb a0).1 (1 : Int) (3 : Int)).1) then (false, ()) else (bif ze (fun i x => bif (!(zDn x).1) then false else (bif (!(x.2.2 == decide ((i : Int) ≥ (yb a0).1))) then false else true)) 0 a0.2.2.1 then (true, ()) else (false, ()))) := by
 simp only [zFL, zLR, zR, zi, zy, zQ]
 rw [zWv, z6] <;> rfl
theorem zev {r : El zC} (h : (zFL r).1 = true) : (∀ p ∈ r.2.2.1, p.2.1.length ≤ 5) ∧ (yU r false).1.length ≤ 3 := by
 rw [zUl] at h
 simp only [z8, zA1, zKH] at h
 obtain ⟨h1, h2, h3, _⟩ := h
 rw [zw] at h3
 constructor
 ·intro p hp
  obtain ⟨i, hi⟩ := List.mem_iff_getElem?.1 hp
  have := h3 i p hi
  simp only [zA1] at this
  exact zg6 (vj this.1)
 ·have := zAt (vj h2)
  rw [zTL] at this
  rw [zN2]
  have e : (fun (p : El zI) => p.2.2 == false) = fun p => !p.2.2 := by funext p; cases p.2.2 <;> rfl
  rw [e]; omega
@[reducible] def zDQ : LB := ⟨[], ⟨84, [.d zC], [(1, .pt 0 0), (37, vd (.lst zP)), (38, vd .int), (39, vd .int)]⟩, ⟨84, [], [(2, vd .bool)]⟩, 0, fun x => (fun (w0 : El zC) (l37 : List (El zP)) (n38 : Int) (n39 : Int) => (bif decide (n39 < n38) then (.ix n39 l37 (bif (!(zFV (zB zP l37 n39)).1) then (.v (.ret (false, ()))) else (.ik (n39 + (1 : Int)) (.v (.go (w0, (), l37, n38, (n39 + (1 : Int)), ())))))) else (.v (.brk (w0, (), l37, n38, n39, ()))) : Tr (St _ _))) x.1 x.2.2.1 x.2.2.2.1 x.2.2.2.2.1⟩
theorem zNy (w0 : El zC) (l37 : List (El zP)) : LB.run zDQ (w0, (), l37, (l37.length : Int), (0 : Int), ()) = bif ze (fun _ x => bif (!(zFV x).1) then false else true) 0 l37 then .brk (w0, (), l37, (l37.length : Int), (l37.length : Int), ()) else .ret (false, ()) := LB.run_all (l := zDQ) (fun i => (w0, (), l37, (l37.length : Int), (i : Int), ())) (fun i x h => by
  simp only [LB.b, zDQ, zi, zQ, zR, cond_true, yQ h, zG h]
  cases (!(zFV x).1) <;> rfl) (by simp only [LB.b, zDQ, xo]; rfl)
theorem zVG : SF zDQ fun x : El zC × Unit × List (El zP) × Int × Int × Unit => (0 ≤ x.2.2.2.2.1 ∧ x.2.2.2.1 = (x.2.2.1.length : Int), x.2.2.2.1 - x.2.2.2.2.1) := x5 (by
 rintro ⟨(w0 : El zC), ⟨⟩, (l37 : List (El zP)), (n38 : Int), (n39 : Int), ⟨⟩⟩ hI hw
 obtain ⟨i0, i1⟩ := hI
 dsimp only at i0 i1
 have _ : -9223372036854775808 ≤ n38 ∧ n38 ≤ 9223372036854775807 := z0 hw.2.2.2.1
 have _ : (l37.length : Int) ≤ 16777216 := zE (hw.2.2.1.1)
 simp [zDQ]
 repeat' first | exact hp | assumption | intro _ | apply And.intro
 all_goals omega)
@[reducible] def zC1 : LB := ⟨[], ⟨84, [.d zC], [(1, .pt 0 0), (48, vd (.lst z5)), (49, vd .int), (50, vd .int)]⟩, ⟨84, [], [(2, vd .bool)]⟩, 2, fun x => (fun (w0 : El zC) (l48 : List (El z5)) (n49 : Int) (n50 : Int) => (bif decide (n50 < n49) then (.ix n50 l48 (bif (!(zG6 (zB z5 l48 n50)).1) then (.v (.ret (false, ()))) else (bif ((zB z5 l48 n50).1 == (2 : Int)) then (bif decide ((zB z5 l48 n50).2.2.2.1 ≥ (yb w0).1) then (.v (.ret (false, ()))) else (.ik (n50 + (1 : Int)) (.v (.go (w0, (), l48, n49, (n50 + (1 : Int)), ()))))) else (.ik (n50 + (1 : Int)) (.v (.go (w0, (), l48, n49, (n50 + (1 : Int)), ()))))))) else (.v (.brk (w0, (), l48, n49, n50, ()))) : Tr (St _ _))) x.1 x.2.2.1 x.2.2.2.1 x.2.2.2.2.1⟩
theorem zOA (w0 : El zC) (l48 : List (El z5)) : LB.run zC1 (w0, (), l48, (l48.length : Int), (0 : Int), ()) = bif ze (fun _ x => bif (!(zG6 x).1) then false else (bif (x.1 == (2 : Int)) then (bif (decide (x.2.2.2.1 ≥ (yb w0).1)) then false else true) else true)) 0 l48 then .brk (w0, (), l48, (l48.length : Int), (l48.length : Int), ()) else .ret (false, ()) := LB.run_all (l := zC1) (fun i => (w0, (), l48, (l48.length : Int), (i : Int), ())) (fun i x h => by
  simp only [LB.b, zC1, zi, zQ, zR, cond_true, yQ h, zG h]
  cases (!(zG6 x).1)
  ·cases (x.1 == (2 : Int))
   ·rfl
   ·cases (decide (x.2.2.2.1 ≥ (yb w0).1)) <;> rfl
  ·rfl) (by simp only [LB.b, zC1, xo]; rfl)
theorem zWT : SF zC1 fun x : El zC × Unit × List (El z5) × Int × Int × Unit => (0 ≤ x.2.2.2.2.1 ∧ x.2.2.2.1 = (x.2.2.1.length : Int), x.2.2.2.1 - x.2.2.2.2.1) := x5 (by
 rintro ⟨(w0 : El zC), ⟨⟩, (l48 : List (El z5)), (n49 : Int), (n50 : Int), ⟨⟩⟩ hI hw
 obtain ⟨i0, i1⟩ := hI
 dsimp only at i0 i1
 have _ : -9223372036854775808 ≤ n49 ∧ n49 ≤ 9223372036854775807 := z0 hw.2.2.2.1
 have _ : (l48.length : Int) ≤ 16777216 := zE (hw.2.2.1.1)
 simp [zC1]
 repeat' first | exact hp | assumption | intro _ | apply And.intro
 all_goals omega)
@[reducible] def zC8 : LB := ⟨[], ⟨84, [], [(7, vo .str), (73, vo .str), (74, vd .int), (75, vd .int)]⟩, ⟨84, [], [(2, vd .bool)]⟩, 4, fun x => (fun (l7 : List (El .str)) (l73 : List (El .str)) (n74 : Int) (n75 : Int) => (bif decide (n75 < n74) then (.ix n75 l73 (bif (!(zt l7 (zB .str l73 n75)).1) then (.v (.ret (false, ()))) else (.ik (n75 + (1 : Int)) (.v (.go (l7, l73, n74, (n75 + (1 : Int)), ())))))) else (.v (.brk (l7, l73, n74, n75, ()))) : Tr (St _ _))) x.1 x.2.1 x.2.2.1 x.2.2.2.1⟩
theorem zVI (l7 : List (El .str)) (l73 : List (El .str)) : LB.run zC8 (l7, l73, (l73.length : Int), (0 : Int), ()) = bif ze (fun _ x => bif (!(zt l7 x).1) then false else true) 0 l73 then .brk (l7, l73, (l73.length : Int), (l73.length : Int), ()) else .ret (false, ()) := LB.run_all (l := zC8) (fun i => (l7, l73, (l73.length : Int), (i : Int), ())) (fun i x h => by
  simp only [LB.b, zC8, zi, zQ, zR, cond_true, yQ h, zG h]
  cases (!(zt l7 x).1) <;> rfl) (by simp only [LB.b, zC8, xo]; rfl)
theorem zVi : SF zC8 fun x : List (El .str) × List (El .str) × Int × Int × Unit => (0 ≤ x.2.2.2.1 ∧ x.2.2.1 = (x.2.1.length : Int), x.2.2.1 - x.2.2.2.1) := x5 (by
 rintro ⟨(l7 : List (El .str)), (l73 : List (El .str)), (n74 : Int), (n75 : Int), ⟨⟩⟩ hI hw
 obtain ⟨i0, i1⟩ := hI
 dsimp only at i0 i1
 have _ : -9223372036854775808 ≤ n74 ∧ n74 ≤ 9223372036854775807 := z0 hw.2.2.1
 have _ : (l73.length : Int) ≤ 16777216 := zE (hw.2.1.1)
 simp [zC8]
 repeat' first | exact hp | assumption | intro _ | apply And.intro
 all_goals omega)
def zIF (a0 : El zC) : Tr (Bool × Unit) := bif (!(xd a0.1).1) then (.v (false, ())) else (bif (!(z3 a0.2.1 (-100 : Int) (100 : Int)).1) then (.v (false, ())) else (bif (!(zFL a0).1) then (.v (false, ())) else (bif decide ((a0.2.2.2.1.length : Int) > (6 : Int)) then (.v (false, ())) else (bif (!(z3 (a0.2.2.2.2.length : Int) (1 : Int) (6 : Int)).1) then (.v (false, ())) else (.lp zDQ (a0, (), a0.2.2.2.1, (a0.2.2.2.1.length : Int), (0 : Int), ()) (fun r30 => .v (r30.1, ())) (fun t30 => .lp zC1 (t30.1, (), t30.1.2.2.2.2, (t30.1.2.2.2.2.length : Int), (0 : Int), ()) (fun r31 => .v (r31.1, ())) (fun t31 => .ck (zJ9 t31.1) (.ck (zHh t31.1) (.lp zC8 ((zDI t31.1).1, (v8 t31.1).1, ((v8 t31.1).1.length : Int), (0 : Int), ()) (fun r32 => .v (r32.1, ())) (fun _ => .v (true, ())))))))))))
def zA4 a0 := (zIF a0).val
def zLA (a0 : El zC) : Prop := SzR a0
@[reducible] def zTe : FnD := ⟨[va zC], [vd .bool], true, fun a => some (zLA a.1), fun a => zA4 a.1⟩
theorem zdl (a0 : El zC) (_ : xH zTe.args (a0, ())) (hp : zLA a0) : (zIF a0).ok := by
 unfold zLA at hp
 unfold zIF
 refine zo (fun _ => trivial) (fun h1 => ?_)
 refine zo (fun _ => trivial) (fun h2 => ?_)
 replace h2 := vj h2
 replace h2 := zAt h2
 refine zo (fun _ => trivial) (fun h3 => ?_)
 refine zo (fun _ => trivial) (fun h4 => ?_)
 replace h4 : ¬ ((a0.2.2.2.1.length : Int) > (6 : Int)) := of_decide_eq_false h4
 refine zo (fun _ => trivial) (fun h5 => ?_)
 replace h5 := vj h5
 replace h5 := zAt h5
 refine zJ ?_ ?_
 ·exact zVG _ ⟨by (dsimp only <;> omega), by (dsimp only <;> omega)⟩
 ·refine zVn (zNy a0 a0.2.2.2.1) ?_ trivial
  try dsimp only
  refine zJ ?_ ?_
  ·exact zWT _ ⟨by (dsimp only <;> omega), by (dsimp only <;> omega)⟩
  ·refine zVn (zOA a0 a0.2.2.2.2) ?_ trivial
   try dsimp only
   refine zJ ?_ ?_
   ·exact hp
   ·refine zJ ?_ ?_
    ·exact hp
    ·refine zJ ?_ ?_
     ·exact zVi _ ⟨by (dsimp only <;> omega), by (dsimp only <;> omega)⟩
     ·simp
def zed : Con Tryz.prog := yE mo g0 [zFJ, zdf, zis, zKW, zb4, zZB, zAw, vn, zeg] [zDQ, zC1, zC8] 67 zTe (fn := Tryz.f67) ⟨lk, lk, lk, trivial⟩ (fun a hw h => yX (by kernel_rfl) (zdl a.1 hw h) rfl)
theorem zdI (a0 : El zC) : zA4 a0 = bif (!(xd a0.1).1) then (false, ()) else (bif (!(z3 a0.2.1 (-100 : Int) (100 : Int)).1) then (false, ()) else (bif (!(zFL a0).1) then (false, ()) else (bif (decide ((a0.2.2.2.1.length : Int) > (6 : Int))) then (false, ()) else (bif (!(z3 (a0.2.2.2.2.length : Int) (1 : Int) (6 : Int)).1) then (false, ()) else (bif ze (fun _ x => bif (!(zFV x).1) then false else true) 0 a0.2.2.2.1 then (bif ze (fun _ x => bif (!(zG6 x).1) then false else (bif (x.1 == (2 : Int)) then (bif (decide (x.2.2.2.1 ≥ (yb a0).1)) then false else true) else true)) 0 a0.2.2.2.2 then (bif ze (fun _ x => bif (!(zt (zDI a0).1 x).1) then false else true) 0 (v8 a0).1 then (true, ()) else (false, ())) else (false, ())) else (false, ())))))) := by
 simp only [zA4, zIF, zR, zi, zy, zQ]
 rw [zNy, z6, zOA, z6, zVI, z6] <;> rfl
theorem zfJ {r : El zC} (h : (zA4 r).1 = true) : (∀ p ∈ r.2.2.1, p.2.1.length ≤ 5) ∧ (yU r false).1.length ≤ 3 := by
 simp only [zA4, zIF, zi, zQ, zR, zy, z8, zA1] at h
 exact zev (vj h.2.2.1)
def zFg (a0 : El zC) (a1 : ByteArray) : Bool × Unit := ((a0.1.toList == a1.toList), ())
@[reducible] def zY3 : FnD := ⟨[va zC, .bx .str 0], [vd .bool], true, fun _ => none, fun a => zFg a.1 a.2.1⟩
def zW9 : Con Tryz.prog := yE mo g0 [] [] 126 zY3 (fn := Tryz.f126) trivial (fun _ _ _ => okv (by kernel_rfl))
@[reducible] def zX : LB := ⟨[], ⟨19, [], [(0, vd (.lst zC)), (1, .fn 126 [.str]), (7, vd .int), (8, vd .int)]⟩, ⟨19, [], [(4, vd .int)]⟩, 0, fun x => (fun (l0 : List (El zC)) (f1 : TyL [.str]) (n7 : Int) (n8 : Int) => (bif decide (n8 < n7) then (.ix n8 l0 (bif (zFg (zB zC l0 n8) f1.1).1 then (.v (.ret (n8, ()))) else (.ik (n8 + (1 : Int)) (.v (.go (l0, (f1.1, ()), n7, (n8 + (1 : Int)), ())))))) else (.v (.brk (l0, (f1.1, ()), n7, n8, ()))) : Tr (St _ _))) x.1 x.2.1 x.2.2.1 x.2.2.2.1⟩
theorem zB4 (l0 : List (El zC)) (f1 : TyL [.str]) : LB.run zX (l0, f1, (l0.length : Int), (0 : Int), ()) = zDg (xB (fun i x => bif (zFg x f1.1).1 then (some ((i : Int), ())) else none) 0 l0) (l0, f1, (l0.length : Int), (l0.length : Int), ()) := LB.run_scan (l := zX) (fun i => (l0, f1, (l0.length : Int), (i : Int), ())) (fun i x h => by
  simp only [LB.b, zX, zi, zQ, zR, cond_true, yQ h, zG h]
  cases (zFg x f1.1).1 <;> rfl) (by simp only [LB.b, zX, xo]; rfl)
theorem zB7 : SF zX fun x : List (El zC) × TyL [.str] × Int × Int × Unit => (0 ≤ x.2.2.2.1 ∧ x.2.2.1 = (x.1.length : Int), x.2.2.1 - x.2.2.2.1) := x5 (by
 rintro ⟨(l0 : List (El zC)), (f1 : TyL [.str]), (n7 : Int), (n8 : Int), ⟨⟩⟩ hI hw
 have _ : -9223372036854775808 ≤ n7 ∧ n7 ≤ 9223372036854775807 := z0 hw.2.2.1
 have _ : (l0.length : Int) ≤ 16777216 := zE (hw.1.1)
 simp [zX] at hI ⊢
 repeat' first | intro _ | apply And.intro
 all_goals omega)
def yh (a0 : List (El zC)) (a1 : TyL [.str]) : Tr (Int × Unit) := .lp zX (a0, (a1.1, ()), (a0.length : Int), (0 : Int), ()) (fun r2 => .v (r2.1, ())) (fun _ => .v ((-1 : Int), ()))
def yk a0 a1 := (yh a0 a1).val
@[reducible] def vc : FnD := ⟨[vd (.lst zC), .fn 126 [.str]], [vd .int], true, fun _ => none, fun a => yk a.1 a.2.1⟩
theorem zCb (a0 : List (El zC)) (a1 : TyL [.str]) (_ : xH vc.args (a0, a1, ())) : (yh a0 a1).ok := by
 unfold yh
 refine zJ ?_ ?_
 ·exact zB7 _ ⟨by (dsimp only <;> omega), by (dsimp only <;> omega)⟩
 ·simp
def zDN : Con Tryz.prog := yE mo g0 [zW9] [zX] 125 vc (fn := Tryz.f125) ⟨lk, trivial⟩ (fun a hw _ => yX (by kernel_rfl) (zCb a.1 a.2.1 hw) rfl)
theorem zCc (a0 : List (El zC)) (a1 : TyL [.str]) : yk a0 a1 = zE1 (xB (fun i x => bif (zFg x (a1.1, ()).1).1 then (some ((i : Int), ())) else none) 0 a0) (fun (r1 : zX.r.T) => (r1.1, ())) ((-1 : Int), ()) := by
 simp only [yk, yh, zR, zy, zQ]
 rw [zB4, xw] <;> rfl
def zFS (a0 : El zN) (a1 : ByteArray) : Int × Unit := ((yk a0.2 (a1, ())).1, ())
@[reducible] def zdU : FnD := ⟨[va zN, vd .str], [vd .int], true, fun _ => none, fun a => zFS a.1 a.2.1⟩
def zgL : Con Tryz.prog := yE mo g0 [zDN] [] 68 zdU (fn := Tryz.f68) trivial (fun _ _ _ => okv (by kernel_rfl))
@[reducible] def zD8 : LB := ⟨[], ⟨36, [.d zN], [(1, .pt 0 0), (17, vd (.lst zC)), (18, vd .int), (19, vd .int)]⟩, ⟨36, [], [(2, vd .bool)]⟩, 0, fun x => (fun (w0 : El zN) (l17 : List (El zC)) (n18 : Int) (n19 : Int) => (bif decide (n19 < n18) then (.ix n19 l17 (.ck (zLA (zB zC l17 n19)) (bif (!(zA4 (zB zC l17 n19)).1) then (.v (.ret (false, ()))) else (bif ((zFS w0 (zB zC l17 n19).1).1 != n19) then (.v (.ret (false, ()))) else (.ik (n19 + (1 : Int)) (.v (.go (w0, (), l17, n18, (n19 + (1 : Int)), ())))))))) else (.v (.brk (w0, (), l17, n18, n19, ()))) : Tr (St _ _))) x.1 x.2.2.1 x.2.2.2.1 x.2.2.2.2.1⟩
theorem zYN (w0 : El zN) (l17 : List (El zC)) : LB.run zD8 (w0, (), l17, (l17.length : Int), (0 : Int), ()) = bif ze (fun i x => bif (!(zA4 x).1) then false else (bif ((zFS w0 x.1).1 != (i : Int)) then false else true)) 0 l17 then .brk (w0, (), l17, (l17.length : Int), (l17.length : Int), ()) else .ret (false, ()) := LB.run_all (l := zD8) (fun i => (w0, (), l17, (l17.length : Int), (i : Int), ())) (fun i x h => by
  simp only [LB.b, zD8, zi, zQ, zR, cond_true, yQ h, zG h]
  cases (!(zA4 x).1)
  ·cases ((zFS w0 x.1).1 != (i : Int)) <;> rfl
  ·rfl) (by simp only [LB.b, zD8, xo]; rfl)
theorem zYw : SF zD8 fun x : El zN × Unit × List (El zC) × Int × Int × Unit => (0 ≤ x.2.2.2.2.1 ∧ x.2.2.2.1 = (x.2.2.1.length : Int) ∧ ∀ r ∈ x.2.2.1, SzR r, x.2.2.2.1 - x.2.2.2.2.1) := x5 (by
 rintro ⟨(w0 : El zN), ⟨⟩, (l17 : List (El zC)), (n18 : Int), (n19 : Int), ⟨⟩⟩ hI hw
 obtain ⟨i0, i1, k0⟩ := hI
 dsimp only at i0 i1 k0
 have _ : -9223372036854775808 ≤ n18 ∧ n18 ≤ 9223372036854775807 := z0 hw.2.2.2.1
 have _ : (l17.length : Int) ≤ 16777216 := zE (hw.2.2.1.1)
 simp [zD8, -Prod.forall]
 repeat' first | exact k0 _ (z4 (by omega)) | assumption | intro _ | apply And.intro
 all_goals omega)
def zNZ (a0 : El zN) : Tr (Bool × Unit) := bif (!(xd a0.1).1) then (.v (false, ())) else (bif (!(z3 (a0.2.length : Int) (1 : Int) (12 : Int)).1) then (.v (false, ())) else (.lp zD8 (a0, (), a0.2, (a0.2.length : Int), (0 : Int), ()) (fun r5 => .v (r5.1, ())) (fun _ => .v (true, ()))))
def zCn a0 := (zNZ a0).val
def zKV (a0 : El zN) : Prop := ∀ r ∈ a0.2, SzR r
@[reducible] def zXj : FnD := ⟨[va zN], [vd .bool], true, fun a => some (zKV a.1), fun a => zCn a.1⟩
theorem zjB (a0 : El zN) (_ : xH zXj.args (a0, ())) (hp : zKV a0) : (zNZ a0).ok := by
 unfold zKV at hp
 unfold zNZ
 refine zo (fun _ => trivial) (fun h1 => ?_)
 refine zo (fun _ => trivial) (fun h2 => ?_)
 replace h2 := vj h2
 replace h2 := zAt h2
 refine zJ ?_ ?_
 ·exact zYw _ ⟨by (dsimp only <;> first | omega | assumption | (simp <;> omega)), by (dsimp only <;> first | omega | assumption | (simp <;> omega)), by (dsimp only <;> first | omega | assumption | (simp <;> omega))⟩
 ·simp
def zYk : Con Tryz.prog := yE mo g0 [zFJ, zed, zgL, vn] [zD8] 40 zXj (fn := Tryz.f40) ⟨lk, trivial⟩ (fun a hw h => yX (by kernel_rfl) (zjB a.1 hw h) rfl)
theorem zYm (a0 : El zN) : zCn a0 = bif (!(xd a0.1).1) then (false, ()) else (bif (!(z3 (a0.2.length : Int) (1 : Int) (12 : Int)).1) then (false, ()) else (bif ze (fun i x => bif (!(zA4 x).1) then false else (bif ((zFS a0 x.1).1 != (i : Int)) then false else true)) 0 a0.2 then (true, ()) else (false, ()))) := by
 simp only [zCn, zNZ, zR, zi, zy, zQ]
 rw [zYN, z6] <;> rfl
theorem zif {d : El zN} (h : (zCn d).1 = true) : d.2.length ≤ 12 ∧ ∀ r ∈ d.2, (zA4 r).1 = true := by
 rw [zYm] at h
 simp only [z8, zA1, zKH] at h
 obtain ⟨h1, h2, h3, _⟩ := h
 have := zAt (vj h2)
 rw [zw] at h3
 refine ⟨by omega, fun r hr => ?_⟩
 obtain ⟨i, hi⟩ := List.mem_iff_getElem?.1 hr
 have := h3 i r hi
 simp only [zA1] at this
 exact vj this.1
def zNE (a0 : El ye) : Tr (Bool × Unit) := bif (a0.2.2.2.2.2.1 == (2 : Int)) then (.v (true, ())) else (bif (a0.2.2.2.2.2.1 == (4 : Int)) then (.v (true, ())) else (.v ((a0.2.2.2.2.2.1 == (6 : Int)), ())))
def zQt a0 := (zNE a0).val
@[reducible] def zih : FnD := ⟨[va ye], [vd .bool], true, fun _ => none, fun a => zQt a.1⟩
def ziF : Con Tryz.prog := yE mo g0 [] [] 80 zih (fn := Tryz.f80) trivial (fun a _ _ => yX (t' := zNE a.1) (by kernel_rfl) (by simp [zNE]) rfl)
def zLO (a0 : El zO) : Tr (Bool × Unit) := bif (a0.2.2.1 == (1 : Int)) then (.v (true, ())) else (.v ((a0.2.2.1 == (2 : Int)), ()))
def zEJ a0 := (zLO a0).val
@[reducible] def zfa : FnD := ⟨[va zO], [vd .bool], true, fun _ => none, fun a => zEJ a.1⟩
def zd5 : Con Tryz.prog := yE mo g0 [] [] 82 zfa (fn := Tryz.f82) trivial (fun a _ _ => yX (t' := zLO a.1) (by kernel_rfl) (by simp [zLO]) rfl)
@[reducible] def zW : LB := ⟨[], ⟨19, [], [(0, vd (.lst zO)), (1, .fn 82 []), (7, vd .int), (8, vd .int)]⟩, ⟨19, [], [(4, vd .int)]⟩, 0, fun x => (fun (l0 : List (El zO)) (_f1 : TyL []) (n7 : Int) (n8 : Int) => (bif decide (n8 < n7) then (.ix n8 l0 (bif (zEJ (zB zO l0 n8)).1 then (.v (.ret (n8, ()))) else (.ik (n8 + (1 : Int)) (.v (.go (l0, (), n7, (n8 + (1 : Int)), ())))))) else (.v (.brk (l0, (), n7, n8, ()))) : Tr (St _ _))) x.1 x.2.1 x.2.2.1 x.2.2.2.1⟩
theorem zB8 (l0 : List (El zO)) (f1 : TyL []) : LB.run zW (l0, f1, (l0.length : Int), (0 : Int), ()) = zDg (xB (fun i x => bif (zEJ x).1 then (some ((i : Int), ())) else none) 0 l0) (l0, f1, (l0.length : Int), (l0.length : Int), ()) := LB.run_scan (l := zW) (fun i => (l0, f1, (l0.length : Int), (i : Int), ())) (fun i x h => by
  simp only [LB.b, zW, zi, zQ, zR, cond_true, yQ h, zG h]
  cases (zEJ x).1 <;> rfl) (by simp only [LB.b, zW, xo]; rfl)
theorem zCC : SF zW fun x : List (El zO) × TyL [] × Int × Int × Unit => (0 ≤ x.2.2.2.1 ∧ x.2.2.1 = (x.1.length : Int), x.2.2.1 - x.2.2.2.1) := x5 (by
 rintro ⟨(l0 : List (El zO)), (f1 : TyL []), (n7 : Int), (n8 : Int), ⟨⟩⟩ hI hw
 have _ : -9223372036854775808 ≤ n7 ∧ n7 ≤ 9223372036854775807 := z0 hw.2.2.1
 have _ : (l0.length : Int) ≤ 16777216 := zE (hw.1.1)
 simp [zW] at hI ⊢
 repeat' first | intro _ | apply And.intro
 all_goals omega)
def yp (a0 : List (El zO)) (_a1 : TyL []) : Tr (Int × Unit) := .lp zW (a0, (), (a0.length : Int), (0 : Int), ()) (fun r2 => .v (r2.1, ())) (fun _ => .v ((-1 : Int), ()))
def yg a0 a1 := (yp a0 a1).val
@[reducible] def vY : FnD := ⟨[vd (.lst zO), .fn 82 []], [vd .int], true, fun _ => none, fun a => yg a.1 a.2.1⟩
theorem zCr (a0 : List (El zO)) (a1 : TyL []) (_ : xH vY.args (a0, a1, ())) : (yp a0 a1).ok := by
 unfold yp
 refine zJ ?_ ?_
 ·exact zCC _ ⟨by (dsimp only <;> omega), by (dsimp only <;> omega)⟩
 ·simp
def zDG : Con Tryz.prog := yE mo g0 [zd5] [zW] 136 vY (fn := Tryz.f136) ⟨lk, trivial⟩ (fun a hw _ => yX (by kernel_rfl) (zCr a.1 a.2.1 hw) rfl)
theorem zCW (a0 : List (El zO)) (a1 : TyL []) : yg a0 a1 = zE1 (xB (fun i x => bif (zEJ x).1 then (some ((i : Int), ())) else none) 0 a0) (fun (r1 : zW.r.T) => (r1.1, ())) ((-1 : Int), ()) := by
 simp only [yg, yp, zR, zy, zQ]
 rw [zB8, xw] <;> rfl
def yT (a0 : List (El zO)) (_a1 : TyL []) : Bool × Unit := (decide ((yg a0 ()).1 ≥ (0 : Int)), ())
@[reducible] def zBz : FnD := ⟨[vd (.lst zO), .fn 82 []], [vd .bool], true, fun _ => none, fun a => yT a.1 a.2.1⟩
def zBw : Con Tryz.prog := yE mo g0 [zDG] [] 81 zBz (fn := Tryz.f81) trivial (fun _ _ _ => okv (by kernel_rfl))
def zEu : Con Tryz.prog := ⟨235, zHO zK false, zQS mo (fn := Tryz.f235) (t := 121) (u := 4) (e := 125) (p0 := "slices.go:355") (p1 := "slices.go:357") (p2 := "slices.go:358") (p3 := "slices.go:362") (by kernel_rfl) (by kernel_rfl) (by kernel_rfl) (by kernel_rfl) (by kernel_rfl) zK false (by kernel_rfl) (fun l => by kernel_rfl) (.inr rfl)⟩
def zHn (a0 : El zr) : El zr × Unit := (a0, ())
@[reducible] def zYu : FnD := ⟨[va zr], [.val true (.pr (.d .str) (.o (.d zK)))], true, fun _ => none, fun a => zHn a.1⟩
def zYg : Con Tryz.prog := yE mo g0 [zEu] [] 192 zYu (fn := Tryz.f192) trivial (fun _ _ _ => okv (by kernel_rfl))
@[reducible] def zBt : LB := ⟨[1], ⟨24, [.pr (.d .str) (.o (.d zK))], [(1, vd .int), (4, .pt 0 0), (9, vd (.lst zD)), (10, vd .int), (11, vd .int)]⟩, ⟨24, [.pr (.d .str) (.o (.d zK))], [(4, .pt 0 0), (5, vd .bool)]⟩, 0, fun x => (fun (w0 : El zr) (n1 : Int) (l9 : List (El zD)) (n10 : Int) (n11 : Int) => (bif decide (n11 < n10) then (.ix n11 l9 (bif ((zB zD l9 n11).1 == n1) then (.v (.ret ((zHn (zB zD l9 n11).2).1, (), true, ()))) else (.ik (n11 + (1 : Int)) (.v (.go (w0, n1, (), l9, n10, (n11 + (1 : Int)), ())))))) else (.v (.brk (w0, n1, (), l9, n10, n11, ()))) : Tr (St _ _))) x.1 x.2.1 x.2.2.2.1 x.2.2.2.2.1 x.2.2.2.2.2.1⟩
theorem zWM (w0 : El zr) (n1 : Int) (l9 : List (El zD)) : LB.run zBt (w0, n1, (), l9, (l9.length : Int), (0 : Int), ()) = zDg (xB (fun _ x => bif (x.1 == n1) then (some ((zHn x.2).1, (), true, ())) else none) 0 l9) (w0, n1, (), l9, (l9.length : Int), (l9.length : Int), ()) := LB.run_scan (l := zBt) (fun i => (w0, n1, (), l9, (l9.length : Int), (i : Int), ())) (fun i x h => by
  simp only [LB.b, zBt, zi, zQ, zR, cond_true, yQ h, zG h]
  cases (x.1 == n1) <;> rfl) (by simp only [LB.b, zBt, xo]; rfl)
theorem zVC : SF zBt fun x : El zr × Int × Unit × List (El zD) × Int × Int × Unit => (0 ≤ x.2.2.2.2.2.1 ∧ x.2.2.2.2.1 = (x.2.2.2.1.length : Int), x.2.2.2.2.1 - x.2.2.2.2.2.1) := x5 (by
 rintro ⟨(w0 : El zr), (n1 : Int), ⟨⟩, (l9 : List (El zD)), (n10 : Int), (n11 : Int), ⟨⟩⟩ hI hw
 have _ : -9223372036854775808 ≤ n1 ∧ n1 ≤ 9223372036854775807 := z0 hw.2.1
 have _ : -9223372036854775808 ≤ n10 ∧ n10 ≤ 9223372036854775807 := z0 hw.2.2.2.2.1
 have _ : (l9.length : Int) ≤ 16777216 := zE (hw.2.2.2.1.1)
 simp [zBt] at hI ⊢
 repeat' first | intro _ | apply And.intro
 all_goals omega)
def zLZ (a0 : El zH) (a1 : Int) : Tr (El zr × Bool × Unit) := .lp zBt (((⟨#[]⟩ : ByteArray), ([] : List (El zK))), a1, (), a0.1, (a0.1.length : Int), (0 : Int), ()) (fun r2 => .v (r2.1, r2.2.2.1, ())) (fun _ => .v (((⟨#[]⟩ : ByteArray), ([] : List (El zK))), false, ()))
def zAS a0 a1 := (zLZ a0 a1).val
@[reducible] def zTx : FnD := ⟨[va zH, vd .int], [.val true (.pr (.d .str) (.o (.d zK))), vd .bool], true, fun _ => none, fun a => zAS a.1 a.2.1⟩
theorem zd6 (a0 : El zH) (a1 : Int) (_ : xH zTx.args (a0, a1, ())) : (zLZ a0 a1).ok := by
 unfold zLZ
 refine zJ ?_ ?_
 ·exact zVC _ ⟨by simp, by simp⟩
 ·simp
def zd7 : Con Tryz.prog := yE mo g0 [zYg] [zBt] 135 zTx (fn := Tryz.f135) ⟨lk, trivial⟩ (fun a hw _ => yX (by kernel_rfl) (zd6 a.1 a.2.1 hw) rfl)
theorem zfE (a0 : El zH) (a1 : Int) : zAS a0 a1 = zE1 (xB (fun _ x => bif (x.1 == a1) then (some ((zHn x.2).1, (), true, ())) else none) 0 a0.1) (fun (r1 : zBt.r.T) => (r1.1, r1.2.2.1, ())) (((⟨#[]⟩ : ByteArray), ([] : List (El zK))), false, ()) := by
 simp only [zAS, zLZ, zR, zy, zQ]
 rw [zWM, xw] <;> rfl
@[reducible] def vD : LB := ⟨[], ⟨63, [.d zN, .d ye], [(2, .pt 0 0), (3, .pt 1 0), (16, vd (.lst zA)), (17, vd .int), (18, vd .int), (46, vd (.lst .int)), (47, vd .int), (48, vd .int)]⟩, ⟨63, [], [(4, vd .bool)]⟩, 2, fun x => (fun (w0 : El zN) (w1 : El ye) (l16 : List (El zA)) (n17 : Int) (n18 : Int) (l46 : List (El .int)) (n47 : Int) (n48 : Int) => (bif decide (n48 < n47) then (.ix n48 l46 (bif (!(zAS w1.1 (zB .int l46 n48)).2.1) then (.v (.ret (false, ()))) else (.ik (n48 + (1 : Int)) (.v (.go (w0, w1, (), (), l16, n17, n18, l46, n47, (n48 + (1 : Int)), ())))))) else (.v (.brk (w0, w1, (), (), l16, n17, n18, l46, n47, n48, ()))) : Tr (St _ _))) x.1 x.2.1 x.2.2.2.2.1 x.2.2.2.2.2.1 x.2.2.2.2.2.2.1 x.2.2.2.2.2.2.2.1 x.2.2.2.2.2.2.2.2.1 x.2.2.2.2.2.2.2.2.2.1⟩
theorem zSB (w0 : El zN) (w1 : El ye) (l16 : List (El zA)) (n17 : Int) (n18 : Int) (l46 : List (El .int)) : LB.run vD (w0, w1, (), (), l16, n17, n18, l46, (l46.length : Int), (0 : Int), ()) = bif ze (fun _ x => bif (!(zAS w1.1 x).2.1) then false else true) 0 l46 then .brk (w0, w1, (), (), l16, n17, n18, l46, (l46.length : Int), (l46.length : Int), ()) else .ret (false, ()) := LB.run_all (l := vD) (fun i => (w0, w1, (), (), l16, n17, n18, l46, (l46.length : Int), (i : Int), ())) (fun i x h => by
  simp only [LB.b, vD, zi, zQ, zR, cond_true, yQ h, zG h]
  cases (!(zAS w1.1 x).2.1) <;> rfl) (by simp only [LB.b, vD, xo]; rfl)
theorem zSy : SF vD fun x : El zN × El ye × Unit × Unit × List (El zA) × Int × Int × List (El .int) × Int × Int × Unit => (0 ≤ x.2.2.2.2.2.2.2.2.2.1 ∧ x.2.2.2.2.2.2.2.2.1 = (x.2.2.2.2.2.2.2.1.length : Int), x.2.2.2.2.2.2.2.2.1 - x.2.2.2.2.2.2.2.2.2.1) := x5 (by
 rintro ⟨(w0 : El zN), (w1 : El ye), ⟨⟩, ⟨⟩, (l16 : List (El zA)), (n17 : Int), (n18 : Int), (l46 : List (El .int)), (n47 : Int), (n48 : Int), ⟨⟩⟩ hI hw
 have _ : -9223372036854775808 ≤ n17 ∧ n17 ≤ 9223372036854775807 := z0 hw.2.2.2.2.2.1
 have _ : -9223372036854775808 ≤ n18 ∧ n18 ≤ 9223372036854775807 := z0 hw.2.2.2.2.2.2.1
 have _ : -9223372036854775808 ≤ n47 ∧ n47 ≤ 9223372036854775807 := z0 hw.2.2.2.2.2.2.2.2.1
 have _ : (l46.length : Int) ≤ 16777216 := zE (hw.2.2.2.2.2.2.2.1.1)
 simp [vD] at hI ⊢
 repeat' first | intro _ | apply And.intro
 all_goals omega)
@[reducible] def zC6 : LB := ⟨[], ⟨63, [.d zN, .d ye], [(2, .pt 0 0), (3, .pt 1 0), (16, vd (.lst zA)), (17, vd .int), (18, vd .int)]⟩, ⟨63, [], [(4, vd .bool)]⟩, 0, fun x => (fun (w0 : El zN) (w1 : El ye) (l16 : List (El zA)) (n17 : Int) (n18 : Int) => (bif decide (n18 < n17) then (.ix n18 l16 (bif (!(xA w0 (zB zA l16 n18)).1) then (.v (.ret (false, ()))) else (bif (((zB zA l16 n18).2.2.length : Int) != (0 : Int)) then (.v (.ret (false, ()))) else (.ix (zB zA l16 n18).1 w0.2 (bif (((zB zA l16 n18).2.1.length : Int) != (yb (zB zC w0.2 (zB zA l16 n18).1)).1) then (.v (.ret (false, ()))) else (.lp vD (w0, w1, (), (), l16, n17, n18, (zB zA l16 n18).2.1, ((zB zA l16 n18).2.1.length : Int), (0 : Int), ()) (fun r8 => .v (.ret (r8.1, ()))) (fun t8 => .ik (t8.2.2.2.2.2.2.1 + (1 : Int)) (.v (.go (t8.1, t8.2.1, (), (), t8.2.2.2.2.1, t8.2.2.2.2.2.1, (t8.2.2.2.2.2.2.1 + (1 : Int)), ())))))))))) else (.v (.brk (w0, w1, (), (), l16, n17, n18, ()))) : Tr (St _ _))) x.1 x.2.1 x.2.2.2.2.1 x.2.2.2.2.2.1 x.2.2.2.2.2.2.1⟩
theorem zSO : SF zC6 fun x : El zN × El ye × Unit × Unit × List (El zA) × Int × Int × Unit => (0 ≤ x.2.2.2.2.2.2.1 ∧ x.2.2.2.2.2.1 = (x.2.2.2.2.1.length : Int), x.2.2.2.2.2.1 - x.2.2.2.2.2.2.1) := x5 (by
 rintro ⟨(w0 : El zN), (w1 : El ye), ⟨⟩, ⟨⟩, (l16 : List (El zA)), (n17 : Int), (n18 : Int), ⟨⟩⟩ hI hw
 dsimp only at hI ⊢
 obtain ⟨i0, i1⟩ := hI
 have _ : -9223372036854775808 ≤ n17 ∧ n17 ≤ 9223372036854775807 := z0 hw.2.2.2.2.2.1
 have hb : (l16.length : Int) ≤ 16777216 := zE (hw.2.2.2.2.1.1)
 refine ⟨by omega, ?_⟩
 refine x4 (fun h3 => ?_) (fun h3 => ?_)
 ·replace h3 : n18 < n17 := of_decide_eq_true h3
  refine yt ?_ ?_
  ·first | omega | (simp <;> omega)
  ·refine x4 (fun h4 => ?_) (fun h4 => ?_)
   ·exact trivial
   ·replace h4 := vj h4
    replace h4 := zJY h4
    refine x4 (fun h5 => ?_) (fun h5 => ?_)
    ·replace h5 := zct h5
     exact trivial
    ·replace h5 := zAg h5
     refine yt ?_ ?_
     ·first | omega | (simp <;> omega)
     ·refine x4 (fun h6 => ?_) (fun h6 => ?_)
      ·replace h6 := zct h6
       exact trivial
      ·replace h6 := zAg h6
       refine yt ?_ ?_
       ·exact zSy _ ⟨by (dsimp only <;> omega), by (dsimp only <;> omega)⟩
       ·refine zVh (zSB w0 w1 l16 n17 n18 (zB zA l16 n18).2.1) ?_ ?_
        ·try dsimp only
         refine yt ?_ ?_
         ·exact ink (by omega) (by omega)
         ·exact show (0 ≤ (n18 + (1 : Int)) ∧ n17 = (l16.length : Int)) ∧ n17 - (n18 + (1 : Int)) < n17 - n18 ∧ 0 < n17 - n18 from ⟨⟨by (first | omega | rfl | assumption | (simp <;> omega)), by (first | omega | rfl | assumption | (simp <;> omega))⟩, by (first | omega | (simp only [List.length_set]; omega)), by (first | omega | (simp only [List.length_set]; omega))⟩
        ·try dsimp only
         exact trivial
 ·replace h3 : ¬ (n18 < n17) := of_decide_eq_false h3
  exact trivial)
def zJu (a0 : El zN) (a1 : El ye) : Tr (Bool × Unit) := bif decide ((a1.2.1.length : Int) > (1000 : Int)) then (.v (false, ())) else (.lp zC6 (a0, a1, (), (), a1.2.1, (a1.2.1.length : Int), (0 : Int), ()) (fun r9 => .v (r9.1, ())) (fun _ => .v (true, ())))
def zG3 a0 a1 := (zJu a0 a1).val
@[reducible] def zQI : FnD := ⟨[va zN, va ye], [vd .bool], true, fun _ => none, fun a => zG3 a.1 a.2.1⟩
theorem zbA (a0 : El zN) (a1 : El ye) (_ : xH zQI.args (a0, a1, ())) : (zJu a0 a1).ok := by
 unfold zJu
 refine zo (fun _ => trivial) (fun h7 => ?_)
 replace h7 : ¬ ((a1.2.1.length : Int) > (1000 : Int)) := of_decide_eq_false h7
 refine zJ ?_ ?_
 ·exact zSO _ ⟨by (dsimp only <;> first | omega | rfl | assumption | (simp <;> omega)), by (dsimp only <;> first | omega | rfl | assumption | (simp <;> omega))⟩
 ·simp
def zZc : Con Tryz.prog := yE mo g0 [zMn, zd7, zKW] [zC6, vD] 79 zQI (fn := Tryz.f79) ⟨lk, lk, trivial⟩ (fun a hw _ => yX (by kernel_rfl) (zbA a.1 a.2.1 hw) rfl)
def zFF (a0 : Int) : Bool × Unit := ((z3 a0 (0 : Int) (1000000000 : Int)).1, ())
@[reducible] def zf2 : FnD := ⟨[vd .int], [vd .bool], true, fun _ => none, fun a => zFF a.1⟩
def zOS : Con Tryz.prog := yE mo g0 [vn] [] 38 zf2 (fn := Tryz.f38) trivial (fun _ _ _ => okv (by kernel_rfl))
def zIi (a0 : ByteArray) : Bool × Unit := ((z3 (a0.size : Int) (1 : Int) (200 : Int)).1, ())
@[reducible] def ziQ : FnD := ⟨[vd .str], [vd .bool], true, fun _ => none, fun a => zIi a.1⟩
def ziM : Con Tryz.prog := yE mo g0 [vn] [] 133 ziQ (fn := Tryz.f133) trivial (fun _ _ _ => okv (by kernel_rfl))
end
end Go.Proofs.YtipbfgknaihifaaGreat
namespace Go.Proofs.YtipbfgknaihifaaGreat
open Go.RowKit
noncomputable section
def zFr (a0 : El zU) (a1 : ByteArray) : Bool × Unit := ((a0.1.toList == a1.toList), ())
@[reducible] def zYp : FnD := ⟨[va zU, .bx .str 0], [vd .bool], true, fun _ => none, fun a => zFr a.1 a.2.1⟩
def zXd : Con Tryz.prog := yE mo g0 [] [] 191 zYp (fn := Tryz.f191) trivial (fun _ _ _ => okv (by kernel_rfl))
@[reducible] def zY : LB := ⟨[], ⟨19, [], [(0, vd (.lst zU)), (1, .fn 191 [.str]), (7, vd .int), (8, vd .int)]⟩, ⟨19, [], [(4, vd .int)]⟩, 0, fun x => (fun (l0 : List (El zU)) (f1 : TyL [.str]) (n7 : Int) (n8 : Int) => (bif decide (n8 < n7) then (.ix n8 l0 (bif (zFr (zB zU l0 n8) f1.1).1 then (.v (.ret (n8, ()))) else (.ik (n8 + (1 : Int)) (.v (.go (l0, (f1.1, ()), n7, (n8 + (1 : Int)), ())))))) else (.v (.brk (l0, (f1.1, ()), n7, n8, ()))) : Tr (St _ _))) x.1 x.2.1 x.2.2.1 x.2.2.2.1⟩
theorem zBv (l0 : List (El zU)) (f1 : TyL [.str]) : LB.run zY (l0, f1, (l0.length : Int), (0 : Int), ()) = zDg (xB (fun i x => bif (zFr x f1.1).1 then (some ((i : Int), ())) else none) 0 l0) (l0, f1, (l0.length : Int), (l0.length : Int), ()) := LB.run_scan (l := zY) (fun i => (l0, f1, (l0.length : Int), (i : Int), ())) (fun i x h => by
  simp only [LB.b, zY, zi, zQ, zR, cond_true, yQ h, zG h]
  cases (zFr x f1.1).1 <;> rfl) (by simp only [LB.b, zY, xo]; rfl)
theorem zB1 : SF zY fun x : List (El zU) × TyL [.str] × Int × Int × Unit => (0 ≤ x.2.2.2.1 ∧ x.2.2.1 = (x.1.length : Int), x.2.2.1 - x.2.2.2.1) := x5 (by
 rintro ⟨(l0 : List (El zU)), (f1 : TyL [.str]), (n7 : Int), (n8 : Int), ⟨⟩⟩ hI hw
 have _ : -9223372036854775808 ≤ n7 ∧ n7 ≤ 9223372036854775807 := z0 hw.2.2.1
 have _ : (l0.length : Int) ≤ 16777216 := zE (hw.1.1)
 simp [zY] at hI ⊢
 repeat' first | intro _ | apply And.intro
 all_goals omega)
def yo (a0 : List (El zU)) (a1 : TyL [.str]) : Tr (Int × Unit) := .lp zY (a0, (a1.1, ()), (a0.length : Int), (0 : Int), ()) (fun r2 => .v (r2.1, ())) (fun _ => .v ((-1 : Int), ()))
def ym a0 a1 := (yo a0 a1).val
@[reducible] def vb : FnD := ⟨[vd (.lst zU), .fn 191 [.str]], [vd .int], true, fun _ => none, fun a => ym a.1 a.2.1⟩
theorem zCm (a0 : List (El zU)) (a1 : TyL [.str]) (_ : xH vb.args (a0, a1, ())) : (yo a0 a1).ok := by
 unfold yo
 refine zJ ?_ ?_
 ·exact zB1 _ ⟨by (dsimp only <;> omega), by (dsimp only <;> omega)⟩
 ·simp
def zCZ : Con Tryz.prog := yE mo g0 [zXd] [zY] 234 vb (fn := Tryz.f234) ⟨lk, trivial⟩ (fun a hw _ => yX (by kernel_rfl) (zCm a.1 a.2.1 hw) rfl)
theorem zCY (a0 : List (El zU)) (a1 : TyL [.str]) : ym a0 a1 = zE1 (xB (fun i x => bif (zFr x (a1.1, ()).1).1 then (some ((i : Int), ())) else none) 0 a0) (fun (r1 : zY.r.T) => (r1.1, ())) ((-1 : Int), ()) := by
 simp only [ym, yo, zR, zy, zQ]
 rw [zBv, xw] <;> rfl
def y7 (a0 : List (El zU)) (a1 : TyL [.str]) : Bool × Unit := (decide ((ym a0 (a1.1, ())).1 ≥ (0 : Int)), ())
@[reducible] def zBy : FnD := ⟨[vd (.lst zU), .fn 191 [.str]], [vd .bool], true, fun _ => none, fun a => y7 a.1 a.2.1⟩
def zCD : Con Tryz.prog := yE mo g0 [zCZ] [] 190 zBy (fn := Tryz.f190) trivial (fun _ _ _ => okv (by kernel_rfl))
def zFN (a0 : List (El zU)) (a1 : ByteArray) : Bool × Unit := ((y7 a0 (a1, ())).1, ())
@[reducible] def zfr : FnD := ⟨[vd (.lst zU), vd .str], [vd .bool], true, fun _ => none, fun a => zFN a.1 a.2.1⟩
def zgJ : Con Tryz.prog := yE mo g0 [zCD] [] 134 zfr (fn := Tryz.f134) trivial (fun _ _ _ => okv (by kernel_rfl))
@[reducible] def zC9 : LB := ⟨[], ⟨26, [], [(16, vd (.lst zK)), (17, vd .int), (18, vd .int)]⟩, ⟨26, [], [(2, vd .bool)]⟩, 0, fun x => (fun (l16 : List (El zK)) (n17 : Int) (n18 : Int) => (bif decide (n18 < n17) then (.ix n18 l16 (bif (!(zB3 (zB zK l16 n18)).1) then (.v (.ret (false, ()))) else (.ik (n18 + (1 : Int)) (.v (.go (l16, n17, (n18 + (1 : Int)), ())))))) else (.v (.brk (l16, n17, n18, ()))) : Tr (St _ _))) x.1 x.2.1 x.2.2.1⟩
theorem zWu (l16 : List (El zK)) : LB.run zC9 (l16, (l16.length : Int), (0 : Int), ()) = bif ze (fun _ x => bif (!(zB3 x).1) then false else true) 0 l16 then .brk (l16, (l16.length : Int), (l16.length : Int), ()) else .ret (false, ()) := LB.run_all (l := zC9) (fun i => (l16, (l16.length : Int), (i : Int), ())) (fun i x h => by
  simp only [LB.b, zC9, zi, zQ, zR, cond_true, yQ h, zG h]
  cases (!(zB3 x).1) <;> rfl) (by simp only [LB.b, zC9, xo]; rfl)
theorem zWR : SF zC9 fun x : List (El zK) × Int × Int × Unit => (0 ≤ x.2.2.1 ∧ x.2.1 = (x.1.length : Int), x.2.1 - x.2.2.1) := x5 (by
 rintro ⟨(l16 : List (El zK)), (n17 : Int), (n18 : Int), ⟨⟩⟩ hI hw
 have _ : -9223372036854775808 ≤ n17 ∧ n17 ≤ 9223372036854775807 := z0 hw.2.1
 have _ : (l16.length : Int) ≤ 16777216 := zE (hw.1.1)
 simp [zC9] at hI ⊢
 repeat' first | intro _ | apply And.intro
 all_goals omega)
def zLB (a0 : El zr) : Tr (Bool × Unit) := bif (!(xd a0.1).1) then (.v (false, ())) else (bif decide ((a0.2.length : Int) > (5 : Int)) then (.v (false, ())) else (.lp zC9 (a0.2, (a0.2.length : Int), (0 : Int), ()) (fun r3 => .v (r3.1, ())) (fun _ => .v (true, ()))))
def vl a0 := (zLB a0).val
@[reducible] def zTp : FnD := ⟨[va zr], [vd .bool], true, fun _ => none, fun a => vl a.1⟩
theorem zfw (a0 : El zr) (_ : xH zTp.args (a0, ())) : (zLB a0).ok := by
 unfold zLB
 refine zo (fun _ => trivial) (fun h1 => ?_)
 refine zo (fun _ => trivial) (fun h2 => ?_)
 replace h2 : ¬ ((a0.2.length : Int) > (5 : Int)) := of_decide_eq_false h2
 refine zJ ?_ ?_
 ·exact zWR _ ⟨by (dsimp only <;> omega), by (dsimp only <;> omega)⟩
 ·simp
def zL8 : Con Tryz.prog := yE mo g0 [zFJ, zPy] [zC9] 128 zTp (fn := Tryz.f128) ⟨lk, trivial⟩ (fun a hw _ => yX (by kernel_rfl) (zfw a.1 hw) rfl)
theorem zek (a0 : El zr) : vl a0 = bif (!(xd a0.1).1) then (false, ()) else (bif (decide ((a0.2.length : Int) > (5 : Int))) then (false, ()) else (bif ze (fun _ x => bif (!(zB3 x).1) then false else true) 0 a0.2 then (true, ()) else (false, ()))) := by
 simp only [vl, zLB, zR, zi, zy, zQ]
 rw [zWu, z6] <;> rfl
@[reducible] def zBW : LB := ⟨[], ⟨34, [], [(0, vd (.lst zU)), (8, vd (.lst zU)), (9, vd .int), (10, vd .int)]⟩, ⟨34, [], [(2, vd .bool)]⟩, 0, fun x => (fun (l0 : List (El zU)) (l8 : List (El zU)) (n9 : Int) (n10 : Int) => (bif decide (n10 < n9) then (.ix n10 l8 (bif (!(zIi (zB zU l8 n10).1).1) then (.v (.ret (false, ()))) else (bif (!(vl (zB zU l8 n10).2).1) then (.v (.ret (false, ()))) else (.ck (0 ≤ (0 : Int) ∧ (0 : Int) ≤ n10 ∧ n10 ≤ (l0.length : Int)) (bif (zFN ((l0.take n10.toNat).drop (0 : Int).toNat) (zB zU l8 n10).1).1 then (.v (.ret (false, ()))) else (.ik (n10 + (1 : Int)) (.v (.go (l0, l8, n9, (n10 + (1 : Int)), ()))))))))) else (.v (.brk (l0, l8, n9, n10, ()))) : Tr (St _ _))) x.1 x.2.1 x.2.2.1 x.2.2.2.1⟩
theorem zSH (l0 : List (El zU)) (l8 : List (El zU)) : LB.run zBW (l0, l8, (l0.length : Int), (0 : Int), ()) = bif ze (fun i _ => bif (!(zIi (zB zU l8 (i : Int)).1).1) then false else (bif (!(vl (zB zU l8 (i : Int)).2).1) then false else (bif (zFN ((l0.take (i : Int).toNat).drop (0 : Int).toNat) (zB zU l8 (i : Int)).1).1 then false else true))) 0 l0 then .brk (l0, l8, (l0.length : Int), (l0.length : Int), ()) else .ret (false, ()) := LB.run_all (l := zBW) (fun i => (l0, l8, (l0.length : Int), (i : Int), ())) (fun i x h => by
  simp only [LB.b, zBW, zi, zQ, zR, cond_true, yQ h]
  cases (!(zIi (zB zU l8 (i : Int)).1).1)
  ·cases (!(vl (zB zU l8 (i : Int)).2).1)
   ·cases (zFN ((l0.take (i : Int).toNat).drop (0 : Int).toNat) (zB zU l8 (i : Int)).1).1 <;> rfl
   ·rfl
  ·rfl) (by simp only [LB.b, zBW, xo]; rfl)
theorem zTH : SF zBW fun x : List (El zU) × List (El zU) × Int × Int × Unit => (0 ≤ x.2.2.2.1 ∧ x.2.2.1 = (x.1.length : Int) ∧ x.2.2.1 ≤ (x.2.1.length : Int), x.2.2.1 - x.2.2.2.1) := x5 (by
 rintro ⟨(l0 : List (El zU)), (l8 : List (El zU)), (n9 : Int), (n10 : Int), ⟨⟩⟩ hI hw
 have _ : -9223372036854775808 ≤ n9 ∧ n9 ≤ 9223372036854775807 := z0 hw.2.2.1
 have _ : (l0.length : Int) ≤ 16777216 := zE (hw.1.1)
 simp [zBW] at hI ⊢
 repeat' first | intro _ | apply And.intro
 all_goals omega)
def zKB (a0 : List (El zU)) : Tr (Bool × Unit) := bif decide ((a0.length : Int) > (30 : Int)) then (.v (false, ())) else (.lp zBW (a0, a0, (a0.length : Int), (0 : Int), ()) (fun r5 => .v (r5.1, ())) (fun _ => .v (true, ())))
def zHG a0 := (zKB a0).val
@[reducible] def zRP : FnD := ⟨[vd (.lst zU)], [vd .bool], true, fun _ => none, fun a => zHG a.1⟩
theorem zZ4 (a0 : List (El zU)) (_ : xH zRP.args (a0, ())) : (zKB a0).ok := by
 unfold zKB
 refine zo (fun _ => trivial) (fun h1 => ?_)
 replace h1 : ¬ ((a0.length : Int) > (30 : Int)) := of_decide_eq_false h1
 refine zJ ?_ ?_
 ·exact zTH _ ⟨by (dsimp only <;> omega), by (dsimp only <;> omega), by (dsimp only <;> omega)⟩
 ·simp
def zbH : Con Tryz.prog := yE mo g0 [ziM, zgJ, zL8] [zBW] 78 zRP (fn := Tryz.f78) ⟨lk, trivial⟩ (fun a hw _ => yX (by kernel_rfl) (zZ4 a.1 hw) rfl)
theorem zca (a0 : List (El zU)) : zHG a0 = bif (decide ((a0.length : Int) > (30 : Int))) then (false, ()) else (bif ze (fun i _ => bif (!(zIi (zB zU a0 (i : Int)).1).1) then false else (bif (!(vl (zB zU a0 (i : Int)).2).1) then false else (bif (zFN ((a0.take (i : Int).toNat).drop (0 : Int).toNat) (zB zU a0 (i : Int)).1).1 then false else true))) 0 a0 then (true, ()) else (false, ())) := by
 simp only [zHG, zKB, zR, zi, zy, zQ]
 rw [zSH, z6] <;> rfl
def zJI (a0 : El zD) : Tr (Bool × Unit) := bif (zFF a0.1).1 then (.v ((vl a0.2).1, ())) else (.v (false, ()))
def zD0 a0 := (zJI a0).val
@[reducible] def zcI : FnD := ⟨[va zD], [vd .bool], true, fun _ => none, fun a => zD0 a.1⟩
def zcH : Con Tryz.prog := yE mo g0 [zOS, zL8] [] 132 zcI (fn := Tryz.f132) trivial (fun a _ _ => yX (t' := zJI a.1) (by kernel_rfl) (by simp [zJI]) rfl)
@[reducible] def zAe : LB := ⟨[], ⟨34, [], [(0, vd (.lst zD)), (8, vd (.lst zD)), (9, vd .int), (10, vd .int)]⟩, ⟨34, [], [(2, vd .bool)]⟩, 0, fun x => (fun (l0 : List (El zD)) (l8 : List (El zD)) (n9 : Int) (n10 : Int) => (bif decide (n10 < n9) then (.ix n10 l8 (bif (!(zD0 (zB zD l8 n10)).1) then (.v (.ret (false, ()))) else (bif decide (n10 > (0 : Int)) then (.ik (n10 - (1 : Int)) (.ix (n10 - (1 : Int)) l0 (bif decide ((zB zD l0 (n10 - (1 : Int))).1 > (zB zD l8 n10).1) then (.v (.ret (false, ()))) else (.ik (n10 + (1 : Int)) (.v (.go (l0, l8, n9, (n10 + (1 : Int)), ()))))))) else (.ik (n10 + (1 : Int)) (.v (.go (l0, l8, n9, (n10 + (1 : Int)), ()))))))) else (.v (.brk (l0, l8, n9, n10, ()))) : Tr (St _ _))) x.1 x.2.1 x.2.2.1 x.2.2.2.1⟩
theorem zQ8 (l0 : List (El zD)) (l8 : List (El zD)) : LB.run zAe (l0, l8, (l0.length : Int), (0 : Int), ()) = bif ze (fun i _ => bif (!(zD0 (zB zD l8 (i : Int))).1) then false else (bif (decide ((i : Int) > (0 : Int))) then (bif (decide ((zB zD l0 ((i : Int) - (1 : Int))).1 > (zB zD l8 (i : Int)).1)) then false else true) else true)) 0 l0 then .brk (l0, l8, (l0.length : Int), (l0.length : Int), ()) else .ret (false, ()) := LB.run_all (l := zAe) (fun i => (l0, l8, (l0.length : Int), (i : Int), ())) (fun i x h => by
  simp only [LB.b, zAe, zi, zQ, zR, cond_true, yQ h]
  cases (!(zD0 (zB zD l8 (i : Int))).1)
  ·cases (decide ((i : Int) > (0 : Int)))
   ·rfl
   ·cases (decide ((zB zD l0 ((i : Int) - (1 : Int))).1 > (zB zD l8 (i : Int)).1)) <;> rfl
  ·rfl) (by simp only [LB.b, zAe, xo]; rfl)
theorem zQK : SF zAe fun x : List (El zD) × List (El zD) × Int × Int × Unit => (0 ≤ x.2.2.2.1 ∧ x.2.2.1 = (x.1.length : Int) ∧ x.2.2.1 ≤ (x.2.1.length : Int), x.2.2.1 - x.2.2.2.1) := x5 (by
 rintro ⟨(l0 : List (El zD)), (l8 : List (El zD)), (n9 : Int), (n10 : Int), ⟨⟩⟩ hI hw
 have _ : -9223372036854775808 ≤ n9 ∧ n9 ≤ 9223372036854775807 := z0 hw.2.2.1
 have _ : (l0.length : Int) ≤ 16777216 := zE (hw.1.1)
 simp [zAe] at hI ⊢
 repeat' first | intro _ | apply And.intro
 all_goals omega)
def zHs (a0 : List (El zD)) : Tr (Bool × Unit) := bif decide ((a0.length : Int) > (30 : Int)) then (.v (false, ())) else (.lp zAe (a0, a0, (a0.length : Int), (0 : Int), ()) (fun r2 => .v (r2.1, ())) (fun _ => .v (true, ())))
def zFi a0 := (zHs a0).val
@[reducible] def zOt : FnD := ⟨[vd (.lst zD)], [vd .bool], true, fun _ => none, fun a => zFi a.1⟩
theorem zZM (a0 : List (El zD)) (_ : xH zOt.args (a0, ())) : (zHs a0).ok := by
 unfold zHs
 refine zo (fun _ => trivial) (fun h1 => ?_)
 replace h1 : ¬ ((a0.length : Int) > (30 : Int)) := of_decide_eq_false h1
 refine zJ ?_ ?_
 ·exact zQK _ ⟨by (dsimp only <;> omega), by (dsimp only <;> omega), by (dsimp only <;> omega)⟩
 ·simp
def zX5 : Con Tryz.prog := yE mo g0 [zcH] [zAe] 77 zOt (fn := Tryz.f77) ⟨lk, trivial⟩ (fun a hw _ => yX (by kernel_rfl) (zZM a.1 hw) rfl)
theorem zXG (a0 : List (El zD)) : zFi a0 = bif (decide ((a0.length : Int) > (30 : Int))) then (false, ()) else (bif ze (fun i _ => bif (!(zD0 (zB zD a0 (i : Int))).1) then false else (bif (decide ((i : Int) > (0 : Int))) then (bif (decide ((zB zD a0 ((i : Int) - (1 : Int))).1 > (zB zD a0 (i : Int)).1)) then false else true) else true)) 0 a0 then (true, ()) else (false, ())) := by
 simp only [zFi, zHs, zR, zi, zy, zQ]
 rw [zQ8, z6] <;> rfl
def zL0 (a0 : El zO) : Tr (Bool × Unit) := bif (!(vl a0.1).1) then (.v (false, ())) else (bif (!(zGV a0.2.1).1) then (.v (false, ())) else (bif (!(z3 a0.2.2.1 (1 : Int) (4 : Int)).1) then (.v (false, ())) else (bif (!(z3 a0.2.2.2.1 (0 : Int) (4 : Int)).1) then (.v (false, ())) else (bif (a0.2.2.1 == (1 : Int)) then (bif (a0.2.2.2.1 != (0 : Int)) then (.v (false, ())) else (bif (a0.2.2.1 == (2 : Int)) then (bif (a0.2.2.2.1 == (0 : Int)) then (.v (false, ())) else (bif (z3 a0.2.2.2.2.1 (0 : Int) (1000001000 : Int)).1 then (bif ((a0.2.2.2.2.2.1 == (0 : Int)) && ((a0.2.2.2.2.2.2.1 == (0 : Int)) && ((a0.2.2.2.2.2.2.2.toList == (⟨#[]⟩ : ByteArray).toList) && true))) then (.v (true, ())) else (.v ((zB3 a0.2.2.2.2.2).1, ()))) else (.v (false, ())))) else (bif (z3 a0.2.2.2.2.1 (0 : Int) (1000001000 : Int)).1 then (bif ((a0.2.2.2.2.2.1 == (0 : Int)) && ((a0.2.2.2.2.2.2.1 == (0 : Int)) && ((a0.2.2.2.2.2.2.2.toList == (⟨#[]⟩ : ByteArray).toList) && true))) then (.v (true, ())) else (.v ((zB3 a0.2.2.2.2.2).1, ()))) else (.v (false, ()))))) else (bif (a0.2.2.1 == (2 : Int)) then (bif (a0.2.2.2.1 == (0 : Int)) then (.v (false, ())) else (bif (z3 a0.2.2.2.2.1 (0 : Int) (1000001000 : Int)).1 then (bif ((a0.2.2.2.2.2.1 == (0 : Int)) && ((a0.2.2.2.2.2.2.1 == (0 : Int)) && ((a0.2.2.2.2.2.2.2.toList == (⟨#[]⟩ : ByteArray).toList) && true))) then (.v (true, ())) else (.v ((zB3 a0.2.2.2.2.2).1, ()))) else (.v (false, ())))) else (bif (z3 a0.2.2.2.2.1 (0 : Int) (1000001000 : Int)).1 then (bif ((a0.2.2.2.2.2.1 == (0 : Int)) && ((a0.2.2.2.2.2.2.1 == (0 : Int)) && ((a0.2.2.2.2.2.2.2.toList == (⟨#[]⟩ : ByteArray).toList) && true))) then (.v (true, ())) else (.v ((zB3 a0.2.2.2.2.2).1, ()))) else (.v (false, ()))))))))
def zFO a0 := (zL0 a0).val
@[reducible] def zfR : FnD := ⟨[va zO], [vd .bool], true, fun _ => none, fun a => zFO a.1⟩
def zgc : Con Tryz.prog := yE mo g0 [zL8, vn, zPy, zUS] [] 130 zfR (fn := Tryz.f130) trivial (fun a _ _ => yX (t' := zL0 a.1) (by kernel_rfl) (by simp [zL0]) rfl)
@[reducible] def z7 : LB := ⟨[], ⟨26, [], [(0, vd (.lst zK)), (1, vd (.lst zK)), (12, vd .int), (13, vd .int)]⟩, ⟨26, [], [(4, vd .bool)]⟩, 0, fun x => (fun (l0 : List (El zK)) (l1 : List (El zK)) (n12 : Int) (n13 : Int) => (bif decide (n13 < n12) then (.ix n13 l0 (.ix n13 l1 (bif (!(((zB zK l0 n13).1 == (zB zK l1 n13).1) && (((zB zK l0 n13).2.1 == (zB zK l1 n13).2.1) && (((zB zK l0 n13).2.2.toList == (zB zK l1 n13).2.2.toList) && true)))) then (.v (.ret (false, ()))) else (.ik (n13 + (1 : Int)) (.v (.go (l0, l1, n12, (n13 + (1 : Int)), ()))))))) else (.v (.brk (l0, l1, n12, n13, ()))) : Tr (St _ _))) x.1 x.2.1 x.2.2.1 x.2.2.2.1⟩
theorem zDk (l0 : List (El zK)) (l1 : List (El zK)) : LB.run z7 (l0, l1, (l0.length : Int), (0 : Int), ()) = bif ze (fun i x => bif (!((x.1 == (zB zK l1 (i : Int)).1) && ((x.2.1 == (zB zK l1 (i : Int)).2.1) && ((x.2.2.toList == (zB zK l1 (i : Int)).2.2.toList) && true)))) then false else true) 0 l0 then .brk (l0, l1, (l0.length : Int), (l0.length : Int), ()) else .ret (false, ()) := LB.run_all (l := z7) (fun i => (l0, l1, (l0.length : Int), (i : Int), ())) (fun i x h => by
  simp only [LB.b, z7, zi, zQ, zR, cond_true, yQ h, zG h]
  cases (!((x.1 == (zB zK l1 (i : Int)).1) && ((x.2.1 == (zB zK l1 (i : Int)).2.1) && ((x.2.2.toList == (zB zK l1 (i : Int)).2.2.toList) && true)))) <;> rfl) (by simp only [LB.b, z7, xo]; rfl)
theorem zDj : SF z7 fun x : List (El zK) × List (El zK) × Int × Int × Unit => (0 ≤ x.2.2.2.1 ∧ x.2.2.1 = (x.1.length : Int) ∧ x.2.2.1 ≤ (x.2.1.length : Int), x.2.2.1 - x.2.2.2.1) := x5 (by
 rintro ⟨(l0 : List (El zK)), (l1 : List (El zK)), (n12 : Int), (n13 : Int), ⟨⟩⟩ hI hw
 have _ : -9223372036854775808 ≤ n12 ∧ n12 ≤ 9223372036854775807 := z0 hw.2.2.1
 have _ : (l0.length : Int) ≤ 16777216 := zE (hw.1.1)
 simp [z7] at hI ⊢
 repeat' first | intro _ | apply And.intro
 all_goals omega)
def xD (a0 : List (El zK)) (a1 : List (El zK)) : Tr (Bool × Unit) := bif ((a0.length : Int) != (a1.length : Int)) then (.v (false, ())) else (.lp z7 (a0, a1, (a0.length : Int), (0 : Int), ()) (fun r1 => .v (r1.1, ())) (fun _ => .v (true, ())))
def yn a0 a1 := (xD a0 a1).val
@[reducible] def zAf : FnD := ⟨[vd (.lst zK), vd (.lst zK)], [vd .bool], true, fun _ => none, fun a => yn a.1 a.2.1⟩
theorem zEp (a0 : List (El zK)) (a1 : List (El zK)) (_ : xH zAf.args (a0, a1, ())) : (xD a0 a1).ok := by
 unfold xD
 refine zo (fun _ => trivial) (fun h1 => ?_)
 replace h1 := zAg h1
 refine zJ ?_ ?_
 ·exact zDj _ ⟨by (dsimp only <;> omega), by (dsimp only <;> omega), by (dsimp only <;> omega)⟩
 ·simp
def zEc : Con Tryz.prog := yE mo g0 [] [z7] 188 zAf (fn := Tryz.f188) ⟨lk, trivial⟩ (fun a hw _ => yX (by kernel_rfl) (zEp a.1 a.2.1 hw) rfl)
theorem zEm (a0 : List (El zK)) (a1 : List (El zK)) : yn a0 a1 = bif ((a0.length : Int) != (a1.length : Int)) then (false, ()) else (bif ze (fun i x => bif (!((x.1 == (zB zK a1 (i : Int)).1) && ((x.2.1 == (zB zK a1 (i : Int)).2.1) && ((x.2.2.toList == (zB zK a1 (i : Int)).2.2.toList) && true)))) then false else true) 0 a0 then (true, ()) else (false, ())) := by
 simp only [yn, xD, zR, zi, zy, zQ]
 rw [zDk, z6] <;> rfl
def zHo (a0 : El zr) (a1 : El zr) : Tr (Bool × Unit) := bif (a0.1.toList == a1.1.toList) then (.v ((yn a0.2 a1.2).1, ())) else (.v (false, ()))
def vH a0 a1 := (zHo a0 a1).val
@[reducible] def zXS : FnD := ⟨[va zr, va zr], [vd .bool], true, fun _ => none, fun a => vH a.1 a.2.1⟩
def zOs : Con Tryz.prog := yE mo g0 [zEc] [] 129 zXS (fn := Tryz.f129) trivial (fun a _ _ => yX (t' := zHo a.1 a.2.1) (by kernel_rfl) (by simp [zHo]) rfl)
def zAD (a0 : El zO) (a1 : El zr) : Bool × Unit := ((vH a0.1 a1).1, ())
@[reducible] def zOi : FnD := ⟨[va zO, .bx zr 0], [vd .bool], true, fun _ => none, fun a => zAD a.1 a.2.1⟩
def zOH : Con Tryz.prog := yE mo g0 [zOs] [] 189 zOi (fn := Tryz.f189) trivial (fun _ _ _ => okv (by kernel_rfl))
@[reducible] def zS : LB := ⟨[], ⟨19, [], [(0, vd (.lst zO)), (1, .fn 189 [zr]), (7, vd .int), (8, vd .int)]⟩, ⟨19, [], [(4, vd .int)]⟩, 0, fun x => (fun (l0 : List (El zO)) (f1 : TyL [zr]) (n7 : Int) (n8 : Int) => (bif decide (n8 < n7) then (.ix n8 l0 (bif (zAD (zB zO l0 n8) f1.1).1 then (.v (.ret (n8, ()))) else (.ik (n8 + (1 : Int)) (.v (.go (l0, (f1.1, ()), n7, (n8 + (1 : Int)), ())))))) else (.v (.brk (l0, (f1.1, ()), n7, n8, ()))) : Tr (St _ _))) x.1 x.2.1 x.2.2.1 x.2.2.2.1⟩
theorem zA9 (l0 : List (El zO)) (f1 : TyL [zr]) : LB.run zS (l0, f1, (l0.length : Int), (0 : Int), ()) = zDg (xB (fun i x => bif (zAD x f1.1).1 then (some ((i : Int), ())) else none) 0 l0) (l0, f1, (l0.length : Int), (l0.length : Int), ()) := LB.run_scan (l := zS) (fun i => (l0, f1, (l0.length : Int), (i : Int), ())) (fun i x h => by
  simp only [LB.b, zS, zi, zQ, zR, cond_true, yQ h, zG h]
  cases (zAD x f1.1).1 <;> rfl) (by simp only [LB.b, zS, xo]; rfl)
theorem zA6 : SF zS fun x : List (El zO) × TyL [zr] × Int × Int × Unit => (0 ≤ x.2.2.2.1 ∧ x.2.2.1 = (x.1.length : Int), x.2.2.1 - x.2.2.2.1) := x5 (by
 rintro ⟨(l0 : List (El zO)), (f1 : TyL [zr]), (n7 : Int), (n8 : Int), ⟨⟩⟩ hI hw
 have _ : -9223372036854775808 ≤ n7 ∧ n7 ≤ 9223372036854775807 := z0 hw.2.2.1
 have _ : (l0.length : Int) ≤ 16777216 := zE (hw.1.1)
 simp [zS] at hI ⊢
 repeat' first | intro _ | apply And.intro
 all_goals omega)
def yR (a0 : List (El zO)) (a1 : TyL [zr]) : Tr (Int × Unit) := .lp zS (a0, (a1.1, ()), (a0.length : Int), (0 : Int), ()) (fun r2 => .v (r2.1, ())) (fun _ => .v ((-1 : Int), ()))
def yW a0 a1 := (yR a0 a1).val
@[reducible] def vG : FnD := ⟨[vd (.lst zO), .fn 189 [zr]], [vd .int], true, fun _ => none, fun a => yW a.1 a.2.1⟩
theorem zB9 (a0 : List (El zO)) (a1 : TyL [zr]) (_ : xH vG.args (a0, a1, ())) : (yR a0 a1).ok := by
 unfold yR
 refine zJ ?_ ?_
 ·exact zA6 _ ⟨by (dsimp only <;> omega), by (dsimp only <;> omega)⟩
 ·simp
def zB0 : Con Tryz.prog := yE mo g0 [zOH] [zS] 136 vG (fn := Tryz.f136) ⟨lk, trivial⟩ (fun a hw _ => yX (by kernel_rfl) (zB9 a.1 a.2.1 hw) rfl)
theorem zCF (a0 : List (El zO)) (a1 : TyL [zr]) : yW a0 a1 = zE1 (xB (fun i x => bif (zAD x (a1.1, ()).1).1 then (some ((i : Int), ())) else none) 0 a0) (fun (r1 : zS.r.T) => (r1.1, ())) ((-1 : Int), ()) := by
 simp only [yW, yR, zR, zy, zQ]
 rw [zA9, xw] <;> rfl
def zAE (a0 : List (El zO)) (a1 : El zr) : Int × Unit := ((yW a0 (a1, ())).1, ())
@[reducible] def zQ7 : FnD := ⟨[vd (.lst zO), va zr], [vd .int], true, fun _ => none, fun a => zAE a.1 a.2.1⟩
def zP5 : Con Tryz.prog := yE mo g0 [zB0] [] 131 zQ7 (fn := Tryz.f131) trivial (fun _ _ _ => okv (by kernel_rfl))
@[reducible] def zBJ : LB := ⟨[], ⟨27, [], [(0, vd (.lst zO)), (8, vd (.lst zO)), (9, vd .int), (10, vd .int)]⟩, ⟨27, [], [(2, vd .bool)]⟩, 0, fun x => (fun (l0 : List (El zO)) (l8 : List (El zO)) (n9 : Int) (n10 : Int) => (bif decide (n10 < n9) then (.ix n10 l8 (bif (!(zFO (zB zO l8 n10)).1) then (.v (.ret (false, ()))) else (bif ((zAE l0 (zB zO l8 n10).1).1 != n10) then (.v (.ret (false, ()))) else (.ik (n10 + (1 : Int)) (.v (.go (l0, l8, n9, (n10 + (1 : Int)), ()))))))) else (.v (.brk (l0, l8, n9, n10, ()))) : Tr (St _ _))) x.1 x.2.1 x.2.2.1 x.2.2.2.1⟩
theorem zSd (l0 : List (El zO)) (l8 : List (El zO)) : LB.run zBJ (l0, l8, (l0.length : Int), (0 : Int), ()) = bif ze (fun i _ => bif (!(zFO (zB zO l8 (i : Int))).1) then false else (bif ((zAE l0 (zB zO l8 (i : Int)).1).1 != (i : Int)) then false else true)) 0 l0 then .brk (l0, l8, (l0.length : Int), (l0.length : Int), ()) else .ret (false, ()) := LB.run_all (l := zBJ) (fun i => (l0, l8, (l0.length : Int), (i : Int), ())) (fun i x h => by
  simp only [LB.b, zBJ, zi, zQ, zR, cond_true, yQ h]
  cases (!(zFO (zB zO l8 (i : Int))).1)
  ·cases ((zAE l0 (zB zO l8 (i : Int)).1).1 != (i : Int)) <;> rfl
  ·rfl) (by simp only [LB.b, zBJ, xo]; rfl)
theorem zTQ : SF zBJ fun x : List (El zO) × List (El zO) × Int × Int × Unit => (0 ≤ x.2.2.2.1 ∧ x.2.2.1 = (x.1.length : Int) ∧ x.2.2.1 ≤ (x.2.1.length : Int), x.2.2.1 - x.2.2.2.1) := x5 (by
 rintro ⟨(l0 : List (El zO)), (l8 : List (El zO)), (n9 : Int), (n10 : Int), ⟨⟩⟩ hI hw
 have _ : -9223372036854775808 ≤ n9 ∧ n9 ≤ 9223372036854775807 := z0 hw.2.2.1
 have _ : (l0.length : Int) ≤ 16777216 := zE (hw.1.1)
 simp [zBJ] at hI ⊢
 repeat' first | intro _ | apply And.intro
 all_goals omega)
def zJR (a0 : List (El zO)) : Tr (Bool × Unit) := bif decide ((a0.length : Int) > (30 : Int)) then (.v (false, ())) else (.lp zBJ (a0, a0, (a0.length : Int), (0 : Int), ()) (fun r3 => .v (r3.1, ())) (fun _ => .v (true, ())))
def zGg a0 := (zJR a0).val
@[reducible] def zQ6 : FnD := ⟨[vd (.lst zO)], [vd .bool], true, fun _ => none, fun a => zGg a.1⟩
theorem zbt (a0 : List (El zO)) (_ : xH zQ6.args (a0, ())) : (zJR a0).ok := by
 unfold zJR
 refine zo (fun _ => trivial) (fun h1 => ?_)
 replace h1 : ¬ ((a0.length : Int) > (30 : Int)) := of_decide_eq_false h1
 refine zJ ?_ ?_
 ·exact zTQ _ ⟨by (dsimp only <;> omega), by (dsimp only <;> omega), by (dsimp only <;> omega)⟩
 ·simp
def zch : Con Tryz.prog := yE mo g0 [zgc, zP5] [zBJ] 76 zQ6 (fn := Tryz.f76) ⟨lk, trivial⟩ (fun a hw _ => yX (by kernel_rfl) (zbt a.1 hw) rfl)
theorem zaZ (a0 : List (El zO)) : zGg a0 = bif (decide ((a0.length : Int) > (30 : Int))) then (false, ()) else (bif ze (fun i _ => bif (!(zFO (zB zO a0 (i : Int))).1) then false else (bif ((zAE a0 (zB zO a0 (i : Int)).1).1 != (i : Int)) then false else true)) 0 a0 then (true, ()) else (false, ())) := by
 simp only [zGg, zJR, zR, zi, zy, zQ]
 rw [zSd, z6] <;> rfl
@[reducible] def zAm : LB := ⟨[], ⟨70, [.d zH, .d zD], [(1, .pt 0 0), (4, .pt 1 0), (18, vd (.lst zD)), (19, vd .int), (20, vd .int), (57, vd (.lst zD)), (58, vd .int), (59, vd .int)]⟩, ⟨70, [], [(2, vd .bool)]⟩, 2, fun x => (fun (w0 : El zH) (w1 : El zD) (l18 : List (El zD)) (n19 : Int) (n20 : Int) (l57 : List (El zD)) (n58 : Int) (n59 : Int) => (bif decide (n59 < n58) then (.ix n59 l57 (bif (vH w1.2 (zB zD l57 n59).2).1 then (.v (.ret (false, ()))) else (.ik (n59 + (1 : Int)) (.v (.go (w0, w1, (), (), l18, n19, n20, l57, n58, (n59 + (1 : Int)), ())))))) else (.v (.brk (w0, w1, (), (), l18, n19, n20, l57, n58, n59, ()))) : Tr (St _ _))) x.1 x.2.1 x.2.2.2.2.1 x.2.2.2.2.2.1 x.2.2.2.2.2.2.1 x.2.2.2.2.2.2.2.1 x.2.2.2.2.2.2.2.2.1 x.2.2.2.2.2.2.2.2.2.1⟩
theorem zH6 (w0 : El zH) (w1 : El zD) (l18 : List (El zD)) (n19 : Int) (n20 : Int) (l57 : List (El zD)) : LB.run zAm (w0, w1, (), (), l18, n19, n20, l57, (l57.length : Int), (0 : Int), ()) = bif ze (fun _ x => bif (vH w1.2 x.2).1 then false else true) 0 l57 then .brk (w0, w1, (), (), l18, n19, n20, l57, (l57.length : Int), (l57.length : Int), ()) else .ret (false, ()) := LB.run_all (l := zAm) (fun i => (w0, w1, (), (), l18, n19, n20, l57, (l57.length : Int), (i : Int), ())) (fun i x h => by
  simp only [LB.b, zAm, zi, zQ, zR, cond_true, yQ h, zG h]
  cases (vH w1.2 x.2).1 <;> rfl) (by simp only [LB.b, zAm, xo]; rfl)
theorem zMW : SF zAm fun x : El zH × El zD × Unit × Unit × List (El zD) × Int × Int × List (El zD) × Int × Int × Unit => (0 ≤ x.2.2.2.2.2.2.2.2.2.1 ∧ x.2.2.2.2.2.2.2.2.1 = (x.2.2.2.2.2.2.2.1.length : Int), x.2.2.2.2.2.2.2.2.1 - x.2.2.2.2.2.2.2.2.2.1) := x5 (by
 rintro ⟨(w0 : El zH), (w1 : El zD), ⟨⟩, ⟨⟩, (l18 : List (El zD)), (n19 : Int), (n20 : Int), (l57 : List (El zD)), (n58 : Int), (n59 : Int), ⟨⟩⟩ hI hw
 have _ : -9223372036854775808 ≤ n19 ∧ n19 ≤ 9223372036854775807 := z0 hw.2.2.2.2.2.1
 have _ : -9223372036854775808 ≤ n20 ∧ n20 ≤ 9223372036854775807 := z0 hw.2.2.2.2.2.2.1
 have _ : -9223372036854775808 ≤ n58 ∧ n58 ≤ 9223372036854775807 := z0 hw.2.2.2.2.2.2.2.2.1
 have _ : (l57.length : Int) ≤ 16777216 := zE (hw.2.2.2.2.2.2.2.1.1)
 simp [zAm] at hI ⊢
 repeat' first | intro _ | apply And.intro
 all_goals omega)
@[reducible] def zC5 : LB := ⟨[], ⟨70, [.d zH], [(1, .pt 0 0), (18, vd (.lst zD)), (19, vd .int), (20, vd .int)]⟩, ⟨70, [], [(2, vd .bool)]⟩, 0, fun x => (fun (w0 : El zH) (l18 : List (El zD)) (n19 : Int) (n20 : Int) => (bif decide (n20 < n19) then (.ix n20 l18 (bif (!(vl (zB zD l18 n20).2).1) then (.v (.ret (false, ()))) else (.ik (w0.2 - (1 : Int)) (bif (!(z3 (zB zD l18 n20).1 (1 : Int) (w0.2 - (1 : Int))).1) then (.v (.ret (false, ()))) else (bif decide (n20 > (0 : Int)) then (.ik (n20 - (1 : Int)) (.ix (n20 - (1 : Int)) w0.1 (bif decide ((zB zD l18 n20).1 ≤ (zB zD w0.1 (n20 - (1 : Int))).1) then (.v (.ret (false, ()))) else (.ck (0 ≤ (0 : Int) ∧ (0 : Int) ≤ n20 ∧ n20 ≤ (w0.1.length : Int)) (.lp zAm (w0, (zB zD l18 n20), (), (), l18, n19, n20, ((w0.1.take n20.toNat).drop (0 : Int).toNat), (((w0.1.take n20.toNat).drop (0 : Int).toNat).length : Int), (0 : Int), ()) (fun r8 => .v (.ret (r8.1, ()))) (fun t8 => .ik (t8.2.2.2.2.2.2.1 + (1 : Int)) (.v (.go (t8.1, (), t8.2.2.2.2.1, t8.2.2.2.2.2.1, (t8.2.2.2.2.2.2.1 + (1 : Int)), ()))))))))) else (.ck (0 ≤ (0 : Int) ∧ (0 : Int) ≤ n20 ∧ n20 ≤ (w0.1.length : Int)) (.lp zAm (w0, (zB zD l18 n20), (), (), l18, n19, n20, ((w0.1.take n20.toNat).drop (0 : Int).toNat), (((w0.1.take n20.toNat).drop (0 : Int).toNat).length : Int), (0 : Int), ()) (fun r9 => .v (.ret (r9.1, ()))) (fun t9 => .ik (t9.2.2.2.2.2.2.1 + (1 : Int)) (.v (.go (t9.1, (), t9.2.2.2.2.1, t9.2.2.2.2.2.1, (t9.2.2.2.2.2.2.1 + (1 : Int)), ()))))))))))) else (.v (.brk (w0, (), l18, n19, n20, ()))) : Tr (St _ _))) x.1 x.2.2.1 x.2.2.2.1 x.2.2.2.2.1⟩
theorem zSn : SF zC5 fun x : El zH × Unit × List (El zD) × Int × Int × Unit => (0 ≤ x.2.2.2.2.1 ∧ x.2.2.2.1 = (x.2.2.1.length : Int) ∧ @LE.le Int _ 1 x.1.2 ∧ (x.2.2.1.length : Int) = (x.1.1.length : Int), x.2.2.2.1 - x.2.2.2.2.1) := x5 (by
 rintro ⟨(w0 : El zH), ⟨⟩, (l18 : List (El zD)), (n19 : Int), (n20 : Int), ⟨⟩⟩ hI hw
 dsimp only at hI ⊢
 obtain ⟨i0, i1, k0, k1⟩ := hI
 have _ : -9223372036854775808 ≤ n19 ∧ n19 ≤ 9223372036854775807 := z0 hw.2.2.2.1
 have hb : (l18.length : Int) ≤ 16777216 := zE (hw.2.2.1.1)
 refine ⟨by omega, ?_⟩
 refine x4 (fun h3 => ?_) (fun h3 => ?_)
 ·replace h3 : n20 < n19 := of_decide_eq_true h3
  refine yt ?_ ?_
  ·first | omega | (simp <;> omega)
  ·refine x4 (fun h4 => ?_) (fun h4 => ?_)
   ·exact trivial
   ·refine yt ?_ ?_
    ·exact ink (by have _ : @LE.le Int _ (-9223372036854775808) w0.2 ∧ @LE.le Int _ w0.2 9223372036854775807 := z0 hw.1.2; omega) (by have _ : @LE.le Int _ (-9223372036854775808) w0.2 ∧ @LE.le Int _ w0.2 9223372036854775807 := z0 hw.1.2; omega)
    ·refine x4 (fun h5 => ?_) (fun h5 => ?_)
     ·exact trivial
     ·replace h5 := vj h5
      replace h5 := zAt h5
      refine x4 (fun h6 => ?_) (fun h6 => ?_)
      ·replace h6 : n20 > (0 : Int) := of_decide_eq_true h6
       refine yt ?_ ?_
       ·exact ink (by omega) (by omega)
       ·refine yt ?_ ?_
        ·first | omega | (simp <;> omega)
        ·refine x4 (fun h7 => ?_) (fun h7 => ?_)
         ·replace h7 : (zB zD l18 n20).1 ≤ (zB zD w0.1 (n20 - (1 : Int))).1 := of_decide_eq_true h7
          exact trivial
         ·replace h7 : ¬ ((zB zD l18 n20).1 ≤ (zB zD w0.1 (n20 - (1 : Int))).1) := of_decide_eq_false h7
          refine yt ?_ ?_
          ·first | omega | (simp <;> omega)
          ·refine yt ?_ ?_
           ·exact zMW _ ⟨by (dsimp only <;> omega), by (dsimp only <;> omega)⟩
           ·refine zVh (zH6 w0 (zB zD l18 n20) l18 n19 n20 ((w0.1.take n20.toNat).drop (0 : Int).toNat)) ?_ ?_
            ·try dsimp only
             refine yt ?_ ?_
             ·exact ink (by omega) (by omega)
             ·exact show (0 ≤ (n20 + (1 : Int)) ∧ n19 = (l18.length : Int) ∧ @LE.le Int _ 1 w0.2 ∧ (l18.length : Int) = (w0.1.length : Int)) ∧ n19 - (n20 + (1 : Int)) < n19 - n20 ∧ 0 < n19 - n20 from ⟨⟨by (first | omega | rfl | assumption | (simp <;> omega)), by (first | omega | rfl | assumption | (simp <;> omega)), by (first | omega | rfl | assumption | (simp <;> omega)), by (first | omega | rfl | assumption | (simp <;> omega))⟩, by (first | omega | (simp only [List.length_set]; omega)), by (first | omega | (simp only [List.length_set]; omega))⟩
            ·try dsimp only
             exact trivial
      ·replace h6 : ¬ (n20 > (0 : Int)) := of_decide_eq_false h6
       refine yt ?_ ?_
       ·first | omega | (simp <;> omega)
       ·refine yt ?_ ?_
        ·exact zMW _ ⟨by (dsimp only <;> omega), by (dsimp only <;> omega)⟩
        ·refine zVh (zH6 w0 (zB zD l18 n20) l18 n19 n20 ((w0.1.take n20.toNat).drop (0 : Int).toNat)) ?_ ?_
         ·try dsimp only
          refine yt ?_ ?_
          ·exact ink (by omega) (by omega)
          ·exact show (0 ≤ (n20 + (1 : Int)) ∧ n19 = (l18.length : Int) ∧ @LE.le Int _ 1 w0.2 ∧ (l18.length : Int) = (w0.1.length : Int)) ∧ n19 - (n20 + (1 : Int)) < n19 - n20 ∧ 0 < n19 - n20 from ⟨⟨by (first | omega | rfl | assumption | (simp <;> omega)), by (first | omega | rfl | assumption | (simp <;> omega)), by (first | omega | rfl | assumption | (simp <;> omega)), by (first | omega | rfl | assumption | (simp <;> omega))⟩, by (first | omega | (simp only [List.length_set]; omega)), by (first | omega | (simp only [List.length_set]; omega))⟩
         ·try dsimp only
          exact trivial
 ·replace h3 : ¬ (n20 < n19) := of_decide_eq_false h3
  exact trivial)
def zGn (a0 : El zH) : Tr (Bool × Unit) := bif decide ((a0.1.length : Int) > (40 : Int)) then (.v (false, ())) else (bif (!(z3 a0.2 (1 : Int) (1000000 : Int)).1) then (.v (false, ())) else (.lp zC5 (a0, (), a0.1, (a0.1.length : Int), (0 : Int), ()) (fun r12 => .v (r12.1, ())) (fun _ => .v (true, ()))))
def zCe a0 := (zGn a0).val
@[reducible] def zRX : FnD := ⟨[va zH], [vd .bool], true, fun _ => none, fun a => zCe a.1⟩
theorem zZ6 (a0 : El zH) (_ : xH zRX.args (a0, ())) : (zGn a0).ok := by
 unfold zGn
 refine zo (fun _ => trivial) (fun h8 => ?_)
 replace h8 : ¬ ((a0.1.length : Int) > (40 : Int)) := of_decide_eq_false h8
 refine zo (fun _ => trivial) (fun h9 => ?_)
 replace h9 := vj h9
 replace h9 := zAt h9
 refine zJ ?_ ?_
 ·exact zSn _ ⟨by (dsimp only <;> first | omega | rfl | assumption | (simp <;> omega)), by (dsimp only <;> first | omega | rfl | assumption | (simp <;> omega)), by (dsimp only <;> first | omega | rfl | assumption | (simp <;> omega)), by (dsimp only <;> first | omega | rfl | assumption | (simp <;> omega))⟩
 ·simp
def za7 : Con Tryz.prog := yE mo g0 [zL8, zOs, vn] [zC5, zAm] 75 zRX (fn := Tryz.f75) ⟨lk, lk, trivial⟩ (fun a hw _ => yX (by kernel_rfl) (zZ6 a.1 hw) rfl)
theorem zbE {s : El zH} (h : (zCe s).1 = true) : s.1.length ≤ 40 := by
 simp only [zCe, zGn, zi, zQ, zR, zy, z8, zA1] at h
 have := of_decide_eq_false h.1
 omega
def zII (a0 : El zN) (a1 : El ye) : Tr (Bool × Unit) := .ck (zKV a0) (bif (!(zCn a0).1) then (.v (false, ())) else (bif (!(zCe a1.1).1) then (.v (false, ())) else (bif (!(zGg a1.2.2.1).1) then (.v (false, ())) else (bif (!(zFi a1.2.2.2.1).1) then (.v (false, ())) else (bif (!(zHG a1.2.2.2.2.1).1) then (.v (false, ())) else (bif (!(z3 a1.2.2.2.2.2.1 (1 : Int) (6 : Int)).1) then (.v (false, ())) else (bif (!(zFF a1.2.2.2.2.2.2).1) then (.v (false, ())) else (bif (!(zG3 a0 a1).1) then (.v (false, ())) else (bif (a1.2.2.2.2.2.1 == (3 : Int)) then (.v (decide ((a1.2.2.2.2.1.length : Int) > (0 : Int)), ())) else (bif (a1.2.2.2.2.2.1 == (5 : Int)) then (.v (decide ((a1.2.2.2.2.1.length : Int) > (0 : Int)), ())) else (bif (!(zQt a1).1) then (.v (true, ())) else (bif ((a1.2.2.2.1.length : Int) == (0 : Int)) then (.v ((!(yT a1.2.2.1 ()).1), ())) else (.v (false, ()))))))))))))))
def zBB a0 a1 := (zII a0 a1).val
def zLp (a0 : El zN) (_a1 : El ye) : Prop := ∀ r ∈ a0.2, SzR r
@[reducible] def zTt : FnD := ⟨[va zN, va ye], [vd .bool], true, fun a => some (zLp a.1 a.2.1), fun a => zBB a.1 a.2.1⟩
theorem zga (a0 : El zN) (a1 : El ye) (_ : xH zTt.args (a0, a1, ())) (hp : zLp a0 a1) : (zII a0 a1).ok := by
 unfold zLp at hp
 unfold zII
 refine zJ ?_ ?_
 ·exact hp
 ·simp
def zdn : Con Tryz.prog := yE mo g0 [zYk, vn, ziF, zBw, zZc, zOS, zbH, zX5, zch, za7] [] 44 zTt (fn := Tryz.f44) trivial (fun a hw h => yX (by kernel_rfl) (zga a.1 a.2.1 hw h) rfl)
theorem zd9 {d : El zN} {x : El ye} (h : (zBB d x).1 = true) : (zCn d).1 = true ∧ (zCe x.1).1 = true := by
 simp only [zBB, zII, zi, zQ, zR, z8, zA1] at h
 exact ⟨vj h.1, vj h.2.1⟩
theorem zdt {d : El zN} {x : El ye} (h : (zBB d x).1 = true) : zlv d x.1 := by
 obtain ⟨h1, h2⟩ := zd9 h
 obtain ⟨h3, h4⟩ := zif h1
 exact ⟨zbE h2, h3, fun r hr => zfJ (h4 r hr)⟩
def zFz (a0 : El zg) (a1 : ByteArray) : Bool × Unit := ((a0.1.toList == a1.toList), ())
@[reducible] def zXo : FnD := ⟨[va zg, .bx .str 0], [vd .bool], true, fun _ => none, fun a => zFz a.1 a.2.1⟩
def zYI : Con Tryz.prog := yE mo g0 [] [] 74 zXo (fn := Tryz.f74) trivial (fun _ _ _ => okv (by kernel_rfl))
@[reducible] def zV : LB := ⟨[], ⟨19, [], [(0, vd (.lst zg)), (1, .fn 74 [.str]), (7, vd .int), (8, vd .int)]⟩, ⟨19, [], [(4, vd .int)]⟩, 0, fun x => (fun (l0 : List (El zg)) (f1 : TyL [.str]) (n7 : Int) (n8 : Int) => (bif decide (n8 < n7) then (.ix n8 l0 (bif (zFz (zB zg l0 n8) f1.1).1 then (.v (.ret (n8, ()))) else (.ik (n8 + (1 : Int)) (.v (.go (l0, (f1.1, ()), n7, (n8 + (1 : Int)), ())))))) else (.v (.brk (l0, (f1.1, ()), n7, n8, ()))) : Tr (St _ _))) x.1 x.2.1 x.2.2.1 x.2.2.2.1⟩
theorem zB6 (l0 : List (El zg)) (f1 : TyL [.str]) : LB.run zV (l0, f1, (l0.length : Int), (0 : Int), ()) = zDg (xB (fun i x => bif (zFz x f1.1).1 then (some ((i : Int), ())) else none) 0 l0) (l0, f1, (l0.length : Int), (l0.length : Int), ()) := LB.run_scan (l := zV) (fun i => (l0, f1, (l0.length : Int), (i : Int), ())) (fun i x h => by
  simp only [LB.b, zV, zi, zQ, zR, cond_true, yQ h, zG h]
  cases (zFz x f1.1).1 <;> rfl) (by simp only [LB.b, zV, xo]; rfl)
theorem zCB : SF zV fun x : List (El zg) × TyL [.str] × Int × Int × Unit => (0 ≤ x.2.2.2.1 ∧ x.2.2.1 = (x.1.length : Int), x.2.2.1 - x.2.2.2.1) := x5 (by
 rintro ⟨(l0 : List (El zg)), (f1 : TyL [.str]), (n7 : Int), (n8 : Int), ⟨⟩⟩ hI hw
 have _ : -9223372036854775808 ≤ n7 ∧ n7 ≤ 9223372036854775807 := z0 hw.2.2.1
 have _ : (l0.length : Int) ≤ 16777216 := zE (hw.1.1)
 simp [zV] at hI ⊢
 repeat' first | intro _ | apply And.intro
 all_goals omega)
def yj (a0 : List (El zg)) (a1 : TyL [.str]) : Tr (Int × Unit) := .lp zV (a0, (a1.1, ()), (a0.length : Int), (0 : Int), ()) (fun r2 => .v (r2.1, ())) (fun _ => .v ((-1 : Int), ()))
def yl a0 a1 := (yj a0 a1).val
@[reducible] def ve : FnD := ⟨[vd (.lst zg), .fn 74 [.str]], [vd .int], true, fun _ => none, fun a => yl a.1 a.2.1⟩
theorem zDS (a0 : List (El zg)) (a1 : TyL [.str]) (_ : xH ve.args (a0, a1, ())) : (yj a0 a1).ok := by
 unfold yj
 refine zJ ?_ ?_
 ·exact zCB _ ⟨by (dsimp only <;> omega), by (dsimp only <;> omega)⟩
 ·simp
def zC0 : Con Tryz.prog := yE mo g0 [zYI] [zV] 73 ve (fn := Tryz.f73) ⟨lk, trivial⟩ (fun a hw _ => yX (by kernel_rfl) (zDS a.1 a.2.1 hw) rfl)
theorem zCx (a0 : List (El zg)) (a1 : TyL [.str]) : yl a0 a1 = zE1 (xB (fun i x => bif (zFz x (a1.1, ()).1).1 then (some ((i : Int), ())) else none) 0 a0) (fun (r1 : zV.r.T) => (r1.1, ())) ((-1 : Int), ()) := by
 simp only [yl, yj, zR, zy, zQ]
 rw [zB6, xw] <;> rfl
def zFD (a0 : El zp) (a1 : ByteArray) : Int × Unit := ((yl a0.2.1 (a1, ())).1, ())
@[reducible] def zdq : FnD := ⟨[va zp, vd .str], [vd .int], true, fun _ => none, fun a => zFD a.1 a.2.1⟩
def ze8 : Con Tryz.prog := yE mo g0 [zC0] [] 43 zdq (fn := Tryz.f43) trivial (fun _ _ _ => okv (by kernel_rfl))
@[reducible] def zDA : LB := ⟨[], ⟨101, [.d zp], [(1, .pt 0 0), (34, vd (.lst zN)), (35, vd .int), (36, vd .int)]⟩, ⟨101, [], [(2, vd .bool)]⟩, 0, fun x => (fun (w0 : El zp) (l34 : List (El zN)) (n35 : Int) (n36 : Int) => (bif decide (n36 < n35) then (.ix n36 l34 (.ck (zKV (zB zN l34 n36)) (bif (!(zCn (zB zN l34 n36)).1) then (.v (.ret (false, ()))) else (bif ((xy w0 (zB zN l34 n36).1).1 != n36) then (.v (.ret (false, ()))) else (.ik (n36 + (1 : Int)) (.v (.go (w0, (), l34, n35, (n36 + (1 : Int)), ())))))))) else (.v (.brk (w0, (), l34, n35, n36, ()))) : Tr (St _ _))) x.1 x.2.2.1 x.2.2.2.1 x.2.2.2.2.1⟩
theorem zN8 (w0 : El zp) (l34 : List (El zN)) : LB.run zDA (w0, (), l34, (l34.length : Int), (0 : Int), ()) = bif ze (fun i x => bif (!(zCn x).1) then false else (bif ((xy w0 x.1).1 != (i : Int)) then false else true)) 0 l34 then .brk (w0, (), l34, (l34.length : Int), (l34.length : Int), ()) else .ret (false, ()) := LB.run_all (l := zDA) (fun i => (w0, (), l34, (l34.length : Int), (i : Int), ())) (fun i x h => by
  simp only [LB.b, zDA, zi, zQ, zR, cond_true, yQ h, zG h]
  cases (!(zCn x).1)
  ·cases ((xy w0 x.1).1 != (i : Int)) <;> rfl
  ·rfl) (by simp only [LB.b, zDA, xo]; rfl)
theorem zWC : SF zDA fun x : El zp × Unit × List (El zN) × Int × Int × Unit => (0 ≤ x.2.2.2.2.1 ∧ x.2.2.2.1 = (x.2.2.1.length : Int) ∧ ∀ d ∈ x.2.2.1, ∀ r ∈ d.2, SzR r, x.2.2.2.1 - x.2.2.2.2.1) := x5 (by
 rintro ⟨(w0 : El zp), ⟨⟩, (l34 : List (El zN)), (n35 : Int), (n36 : Int), ⟨⟩⟩ hI hw
 obtain ⟨i0, i1, k0⟩ := hI
 dsimp only at i0 i1 k0
 have _ : -9223372036854775808 ≤ n35 ∧ n35 ≤ 9223372036854775807 := z0 hw.2.2.2.1
 have _ : (l34.length : Int) ≤ 16777216 := zE (hw.2.2.1.1)
 simp [zDA, -Prod.forall]
 repeat' first | exact k0 _ (z4 (by omega)) | assumption | intro _ | apply And.intro
 all_goals omega)
@[reducible] def zC3 : LB := ⟨[], ⟨101, [.d zp], [(1, .pt 0 0), (54, vd (.lst zg)), (55, vd .int), (56, vd .int)]⟩, ⟨101, [], [(2, vd .bool)]⟩, 2, fun x => (fun (w0 : El zp) (l54 : List (El zg)) (n55 : Int) (n56 : Int) => (bif decide (n56 < n55) then (.ix n56 l54 (let y4 := (xy w0 (zB zg l54 n56).2.1); bif (!(xd (zB zg l54 n56).1).1) then (.v (.ret (false, ()))) else (bif ((zFD w0 (zB zg l54 n56).1).1 != n56) then (.v (.ret (false, ()))) else (bif decide (y4.1 < (0 : Int)) then (.v (.ret (false, ()))) else (bif decide ((zB zg l54 n56).2.2.2.2.2.2.2.2 > w0.2.2.1) then (.v (.ret (false, ()))) else (.ix y4.1 w0.1 (.ck (zLp (zB zN w0.1 y4.1) (zB zg l54 n56).2.2) (bif (!(zBB (zB zN w0.1 y4.1) (zB zg l54 n56).2.2).1) then (.v (.ret (false, ()))) else (.ik (n56 + (1 : Int)) (.v (.go (w0, (), l54, n55, (n56 + (1 : Int)), ())))))))))))) else (.v (.brk (w0, (), l54, n55, n56, ()))) : Tr (St _ _))) x.1 x.2.2.1 x.2.2.2.1 x.2.2.2.2.1⟩
theorem zWE (w0 : El zp) (l54 : List (El zg)) : LB.run zC3 (w0, (), l54, (l54.length : Int), (0 : Int), ()) = bif ze (fun i x => bif (!(xd x.1).1) then false else (bif ((zFD w0 x.1).1 != (i : Int)) then false else (bif (decide ((xy w0 x.2.1).1 < (0 : Int))) then false else (bif (decide (x.2.2.2.2.2.2.2.2 > w0.2.2.1)) then false else (bif (!(zBB (zB zN w0.1 (xy w0 x.2.1).1) x.2.2).1) then false else true))))) 0 l54 then .brk (w0, (), l54, (l54.length : Int), (l54.length : Int), ()) else .ret (false, ()) := LB.run_all (l := zC3) (fun i => (w0, (), l54, (l54.length : Int), (i : Int), ())) (fun i x h => by
  simp only [LB.b, zC3, zi, zQ, zR, cond_true, yQ h, zG h]
  cases (!(xd x.1).1)
  ·cases ((zFD w0 x.1).1 != (i : Int))
   ·cases (decide ((xy w0 x.2.1).1 < (0 : Int)))
    ·cases (decide (x.2.2.2.2.2.2.2.2 > w0.2.2.1))
     ·cases (!(zBB (zB zN w0.1 (xy w0 x.2.1).1) x.2.2).1) <;> rfl
     ·rfl
    ·rfl
   ·rfl
  ·rfl) (by simp only [LB.b, zC3, xo]; rfl)
theorem zVt : SF zC3 fun x : El zp × Unit × List (El zg) × Int × Int × Unit => (0 ≤ x.2.2.2.2.1 ∧ x.2.2.2.1 = (x.2.2.1.length : Int) ∧ ∀ d ∈ x.1.1, ∀ r ∈ d.2, SzR r, x.2.2.2.1 - x.2.2.2.2.1) := x5 (by
 rintro ⟨(w0 : El zp), ⟨⟩, (l54 : List (El zg)), (n55 : Int), (n56 : Int), ⟨⟩⟩ hI hw
 obtain ⟨i0, i1, k0⟩ := hI
 dsimp only at i0 i1 k0
 have _ : -9223372036854775808 ≤ n55 ∧ n55 ≤ 9223372036854775807 := z0 hw.2.2.2.1
 have _ : (l54.length : Int) ≤ 16777216 := zE (hw.2.2.1.1)
 have _ := zYj w0 (zB zg l54 n56).2.1
 simp [zC3, -Prod.forall]
 repeat' first | exact k0 _ (z4 (by omega)) | assumption | intro _ | apply And.intro
 all_goals omega)
def zLG (a0 : El zp) : Tr (Bool × Unit) := bif decide ((a0.1.length : Int) > (8 : Int)) then (.v (false, ())) else (bif decide ((a0.2.1.length : Int) > (10 : Int)) then (.v (false, ())) else (bif (!(zFF a0.2.2.1).1) then (.v (false, ())) else (bif (!(z3 a0.2.2.2 (0 : Int) (a0.2.1.length : Int)).1) then (.v (false, ())) else (.lp zDA (a0, (), a0.1, (a0.1.length : Int), (0 : Int), ()) (fun r32 => .v (r32.1, ())) (fun t32 => .lp zC3 (t32.1, (), t32.1.2.1, (t32.1.2.1.length : Int), (0 : Int), ()) (fun r33 => .v (r33.1, ())) (fun _ => .v (true, ())))))))
def zGZ a0 := (zLG a0).val
def zLJ (a0 : El zp) : Prop := ∀ d ∈ a0.1, ∀ r ∈ d.2, SzR r
@[reducible] def zT8 : FnD := ⟨[va zp], [vd .bool], true, fun a => some (zLJ a.1), fun a => zGZ a.1⟩
theorem zgm (a0 : El zp) (_ : xH zT8.args (a0, ())) (hp : zLJ a0) : (zLG a0).ok := by
 unfold zLJ at hp
 unfold zLG
 refine zo (fun _ => trivial) (fun h1 => ?_)
 replace h1 : ¬ ((a0.1.length : Int) > (8 : Int)) := of_decide_eq_false h1
 refine zo (fun _ => trivial) (fun h2 => ?_)
 replace h2 : ¬ ((a0.2.1.length : Int) > (10 : Int)) := of_decide_eq_false h2
 refine zo (fun _ => trivial) (fun h3 => ?_)
 refine zo (fun _ => trivial) (fun h4 => ?_)
 replace h4 := vj h4
 replace h4 := zAt h4
 refine zJ ?_ ?_
 ·exact zWC _ ⟨by (dsimp only <;> first | omega | assumption | (simp <;> omega)), by (dsimp only <;> first | omega | assumption | (simp <;> omega)), by (dsimp only <;> first | omega | assumption | (simp <;> omega))⟩
 ·refine zVn (zN8 a0 a0.1) ?_ trivial
  try dsimp only
  refine zJ ?_ ?_
  ·exact zVt _ ⟨by (dsimp only <;> first | omega | assumption | (simp <;> omega)), by (dsimp only <;> first | omega | assumption | (simp <;> omega)), by (dsimp only <;> first | omega | assumption | (simp <;> omega))⟩
  ·simp
def zgB : Con Tryz.prog := yE mo g0 [zYk, zY2, zFJ, zdn, ze8, vn, zOS] [zDA, zC3] 21 zT8 (fn := Tryz.f21) ⟨lk, lk, trivial⟩ (fun a hw h => yX (by kernel_rfl) (zgm a.1 hw h) rfl)
theorem zT7 (a0 : El zp) : zGZ a0 = bif (decide ((a0.1.length : Int) > (8 : Int))) then (false, ()) else (bif (decide ((a0.2.1.length : Int) > (10 : Int))) then (false, ()) else (bif (!(zFF a0.2.2.1).1) then (false, ()) else (bif (!(z3 a0.2.2.2 (0 : Int) (a0.2.1.length : Int)).1) then (false, ()) else (bif ze (fun i x => bif (!(zCn x).1) then false else (bif ((xy a0 x.1).1 != (i : Int)) then false else true)) 0 a0.1 then (bif ze (fun i x => bif (!(xd x.1).1) then false else (bif ((zFD a0 x.1).1 != (i : Int)) then false else (bif (decide ((xy a0 x.2.1).1 < (0 : Int))) then false else (bif (decide (x.2.2.2.2.2.2.2.2 > a0.2.2.1)) then false else (bif (!(zBB (zB zN a0.1 (xy a0 x.2.1).1) x.2.2).1) then false else true))))) 0 a0.2.1 then (true, ()) else (false, ())) else (false, ()))))) := by
 simp only [zGZ, zLG, zR, zi, zy, zQ]
 rw [zN8, z6, zWE, z6] <;> rfl
theorem zUC {b : El zp} (h : (zGZ b).1 = true) {i : Int} (hi : 0 ≤ i ∧ i < (b.2.1.length : Int)) : 0 ≤ (xy b (zB zg b.2.1 i).2.1).1 ∧ (zBB (zB zN b.1 (xy b (zB zg b.2.1 i).2.1).1) (zB zg b.2.1 i).2.2).1 = true := by
 rw [zT7] at h
 simp only [z8, zA1, zKH] at h
 obtain ⟨h1, h2, h3, h4, h5, h6, _⟩ := h
 rw [zw] at h6
 have := h6 i.toNat _ (zXz hi)
 simp only [zA1] at this
 obtain ⟨g1, g2, g3, g4, g5, _⟩ := this
 have g3 := of_decide_eq_false g3
 exact ⟨by omega, vj g5⟩
def zJO (a0 : El zp) (a1 : Int) : Tr (Bool × Unit) := bif decide (a1 < (0 : Int)) then (.v (false, ())) else (bif decide (a1 ≥ (a0.2.1.length : Int)) then (.v (false, ())) else (.ck (zLJ a0) (bif (!(zGZ a0).1) then (.v (false, ())) else (.ck (zJC a0 a1) (.v ((zMc a0 a1).2.1, ()))))))
def zIu a0 a1 := (zJO a0 a1).val
def zMx (a0 : El zp) (_a1 : Int) : Prop := ∀ d ∈ a0.1, ∀ r ∈ d.2, SzR r
@[reducible] def zMy : FnD := ⟨[va zp, vd .int], [vd .bool], true, fun a => some (zMx a.1 a.2.1), fun a => zIu a.1 a.2.1⟩
theorem zaS (a0 : El zp) (a1 : Int) (_ : xH zMy.args (a0, a1, ())) (hp : zMx a0 a1) : (zJO a0 a1).ok := by
 unfold zMx at hp
 unfold zJO
 refine zo (fun _ => trivial) (fun h1 => ?_)
 replace h1 : ¬ (a1 < (0 : Int)) := of_decide_eq_false h1
 refine zo (fun _ => trivial) (fun h2 => ?_)
 replace h2 : ¬ (a1 ≥ (a0.2.1.length : Int)) := of_decide_eq_false h2
 refine zJ ?_ ?_
 ·exact hp
 ·refine zo (fun _ => trivial) (fun h3 => ?_)
  have hB := (vj h3)
  refine zJ ?_ ?_
  ·exact ⟨⟨⟨by omega, by omega⟩, (zUC hB ⟨by omega, by omega⟩).1⟩, zdt (zUC hB ⟨by omega, by omega⟩).2⟩
  ·trivial
def zcV : Con Tryz.prog := yE mo g0 [zZn, zgB] [] 9 zMy (fn := Tryz.f9) trivial (fun a hw h => yX (by kernel_rfl) (zaS a.1 a.2.1 hw h) rfl)
def zFl (a0 : El zK) : El zK × Unit := (a0, ())
@[reducible] def zjX : FnD := ⟨[va zK], [va zK], true, fun _ => none, fun a => zFl a.1⟩
def zNr : Con Tryz.prog := yE mo g0 [] [] 230 zjX (fn := Tryz.f230) trivial (fun _ _ _ => okv (by kernel_rfl))
def zDo (a0 : El zj) : El zj × Unit := ((a0.1, (a0.2.1, (zFl a0.2.2).1)), ())
@[reducible] def zhj : FnD := ⟨[va zj], [va zj], true, fun _ => none, fun a => zDo a.1⟩
def zQr : Con Tryz.prog := yE mo g0 [zNr] [] 260 zhj (fn := Tryz.f260) trivial (fun _ _ _ => okv (by kernel_rfl))
@[reducible] def zCt : LB := ⟨[], ⟨23, [], [(0, vd (.lst zj)), (3, vo zj), (4, vd .int)]⟩, ⟨23, [], []⟩, 0, fun x => (fun (l0 : List (El zj)) (l3 : List (El zj)) (n4 : Int) => (bif decide (n4 < (l0.length : Int)) then (.ix n4 l0 (.ix n4 l3 (.ik (n4 + (1 : Int)) (.v (.go (l0, (List.set l3 (Int.toNat n4) (zDo (zB zj l0 n4)).1), (n4 + (1 : Int)), ())))))) else (.v (.brk (l0, l3, n4, ()))) : Tr (St _ _))) x.1 x.2.1 x.2.2.1⟩
theorem zM2 (l0 : List (El zj)) (l3 : List (El zj)) : LB.run zCt (l0, l3, (0 : Int), ()) = .brk (l0, (zc (fun i x (s : (List (El zj))) => (List.set s (Int.toNat (i : Int)) (zDo x).1)) 0 l0 l3), (l0.length : Int), ()) := LB.run_fold (l := zCt) (fun i s => (l0, s, (i : Int), ())) (fun i x s h => by
  simp only [LB.b, zCt, zQ, zR, cond_true, yQ h, zG h]
  rfl) (fun s => by simp only [LB.b, zCt, xo]; rfl)
theorem zVr : SF zCt fun x : List (El zj) × List (El zj) × Int × Unit => (0 ≤ x.2.2.1 ∧ (x.1.length : Int) ≤ (x.2.1.length : Int), (x.1.length : Int) - x.2.2.1) := x5 (by
 rintro ⟨(l0 : List (El zj)), (l3 : List (El zj)), (n4 : Int), ⟨⟩⟩ hI hw
 have _ : (l0.length : Int) ≤ 16777216 := zE (hw.1.1)
 simp [zCt] at hI ⊢
 repeat' first | intro _ | apply And.intro
 all_goals omega)
def zLs (a0 : List (El zj)) : Tr (List (El zj) × Unit) := .ck (0 ≤ (a0.length : Int) ∧ (a0.length : Int) ≤ (a0.length : Int) ∧ (a0.length : Int) ≤ 16777216) (.lp zCt (a0, (List.replicate (a0.length : Int).toNat ((0 : Int), ((⟨#[]⟩ : ByteArray), ((0 : Int), ((0 : Int), (⟨#[]⟩ : ByteArray)))))), (0 : Int), ()) (fun _ => .bad) (fun t2 => .v (t2.2.1, ())))
def zIe a0 := (zLs a0).val
@[reducible] def zUh : FnD := ⟨[vd (.lst zj)], [vo zj], true, fun _ => none, fun a => zIe a.1⟩
theorem zf0 (a0 : List (El zj)) (hw : xH zUh.args (a0, ())) : (zLs a0).ok := by
 unfold zLs
 refine zJ ?_ ?_
 ·have _ : (a0.length : Int) ≤ 16777216 := zE (hw.1.1); have _ : (a0.length : Int) ≤ 16777216 := zE (hw.1.1); have _ : (a0.length : Int) ≤ 16777216 := zE (hw.1.1); have _ : (a0.length : Int) ≤ 16777216 := zE (hw.1.1); first | omega | (simp <;> omega)
 ·refine zJ ?_ ?_
  ·exact zVr _ ⟨by simp, by simp⟩
  ·refine vJ (zM2 a0 (List.replicate (a0.length : Int).toNat ((0 : Int), ((⟨#[]⟩ : ByteArray), ((0 : Int), ((0 : Int), (⟨#[]⟩ : ByteArray))))))) ?_
   try dsimp only
   trivial
def zeQ : Con Tryz.prog := yE mo g0 [zQr] [zCt] 259 zUh (fn := Tryz.f259) ⟨lk, trivial⟩ (fun a hw _ => yX (by kernel_rfl) (zf0 a.1 hw) rfl)
theorem zdw (a0 : List (El zj)) : zIe a0 = ((zc (fun i x (s : (List (El zj))) => (List.set s (Int.toNat (i : Int)) (zDo x).1)) 0 a0 (List.replicate (a0.length : Int).toNat ((0 : Int), ((⟨#[]⟩ : ByteArray), ((0 : Int), ((0 : Int), (⟨#[]⟩ : ByteArray))))))), ()) := by
 simp only [zIe, zLs, zR, zy, zQ]
 rw [zM2, xa] <;> rfl
def zIc (a0 : El zI) : El zI × Unit := ((a0.1, ((zIe a0.2.1).1, a0.2.2)), ())
@[reducible] def zhN : FnD := ⟨[va zI], [.val true (.pr (.d .str) (.pr (.o (.d zj)) (.d .bool)))], true, fun _ => none, fun a => zIc a.1⟩
def ziB : Con Tryz.prog := yE mo g0 [zeQ] [] 223 zhN (fn := Tryz.f223) trivial (fun _ _ _ => okv (by kernel_rfl))
@[reducible] def zCa : LB := ⟨[], ⟨23, [], [(0, vd (.lst zI)), (3, vo zI), (4, vd .int)]⟩, ⟨23, [], []⟩, 0, fun x => (fun (l0 : List (El zI)) (l3 : List (El zI)) (n4 : Int) => (bif decide (n4 < (l0.length : Int)) then (.ix n4 l0 (.ix n4 l3 (.ik (n4 + (1 : Int)) (.v (.go (l0, (List.set l3 (Int.toNat n4) (zIc (zB zI l0 n4)).1), (n4 + (1 : Int)), ())))))) else (.v (.brk (l0, l3, n4, ()))) : Tr (St _ _))) x.1 x.2.1 x.2.2.1⟩
theorem zNh (l0 : List (El zI)) (l3 : List (El zI)) : LB.run zCa (l0, l3, (0 : Int), ()) = .brk (l0, (zc (fun i x (s : (List (El zI))) => (List.set s (Int.toNat (i : Int)) (zIc x).1)) 0 l0 l3), (l0.length : Int), ()) := LB.run_fold (l := zCa) (fun i s => (l0, s, (i : Int), ())) (fun i x s h => by
  simp only [LB.b, zCa, zQ, zR, cond_true, yQ h, zG h]
  rfl) (fun s => by simp only [LB.b, zCa, xo]; rfl)
theorem zWI : SF zCa fun x : List (El zI) × List (El zI) × Int × Unit => (0 ≤ x.2.2.1 ∧ (x.1.length : Int) ≤ (x.2.1.length : Int), (x.1.length : Int) - x.2.2.1) := x5 (by
 rintro ⟨(l0 : List (El zI)), (l3 : List (El zI)), (n4 : Int), ⟨⟩⟩ hI hw
 have _ : (l0.length : Int) ≤ 16777216 := zE (hw.1.1)
 simp [zCa] at hI ⊢
 repeat' first | intro _ | apply And.intro
 all_goals omega)
def zK5 (a0 : List (El zI)) : Tr (List (El zI) × Unit) := .ck (0 ≤ (a0.length : Int) ∧ (a0.length : Int) ≤ (a0.length : Int) ∧ (a0.length : Int) ≤ 16777216) (.lp zCa (a0, (List.replicate (a0.length : Int).toNat ((⟨#[]⟩ : ByteArray), (([] : List (El zj)), false))), (0 : Int), ()) (fun _ => .bad) (fun t2 => .v (t2.2.1, ())))
def zIG a0 := (zK5 a0).val
@[reducible] def zTd : FnD := ⟨[vd (.lst zI)], [vo zI], false, fun _ => none, fun a => zIG a.1⟩
theorem zff (a0 : List (El zI)) (hw : xH zTd.args (a0, ())) : (zK5 a0).ok := by
 unfold zK5
 refine zJ ?_ ?_
 ·have _ : (a0.length : Int) ≤ 16777216 := zE (hw.1.1); have _ : (a0.length : Int) ≤ 16777216 := zE (hw.1.1); have _ : (a0.length : Int) ≤ 16777216 := zE (hw.1.1); have _ : (a0.length : Int) ≤ 16777216 := zE (hw.1.1); first | omega | (simp <;> omega)
 ·refine zJ ?_ ?_
  ·exact zWI _ ⟨by simp, by simp⟩
  ·refine vJ (zNh a0 (List.replicate (a0.length : Int).toNat ((⟨#[]⟩ : ByteArray), (([] : List (El zj)), false)))) ?_
   try dsimp only
   trivial
def zfv : Con Tryz.prog := yE mo g0 [ziB] [zCa] 172 zTd (fn := Tryz.f172) ⟨lk, trivial⟩ (fun a hw _ => yX (by kernel_rfl) (zff a.1 hw) rfl)
theorem zdu (a0 : List (El zI)) : zIG a0 = ((zc (fun i x (s : (List (El zI))) => (List.set s (Int.toNat (i : Int)) (zIc x).1)) 0 a0 (List.replicate (a0.length : Int).toNat ((⟨#[]⟩ : ByteArray), (([] : List (El zj)), false)))), ()) := by
 simp only [zIG, zK5, zR, zy, zQ]
 rw [zNh, xa] <;> rfl
def zGT (a0 : El zP) : El zP × Unit := ((a0.1, ((zDo a0.2.1).1, (zDo a0.2.2).1)), ())
@[reducible] def zfg : FnD := ⟨[va zP], [va zP], true, fun _ => none, fun a => zGT a.1⟩
def zfp : Con Tryz.prog := yE mo g0 [zQr] [] 224 zfg (fn := Tryz.f224) trivial (fun _ _ _ => okv (by kernel_rfl))
@[reducible] def zBX : LB := ⟨[], ⟨23, [], [(0, vd (.lst zP)), (3, vo zP), (4, vd .int)]⟩, ⟨23, [], []⟩, 0, fun x => (fun (l0 : List (El zP)) (l3 : List (El zP)) (n4 : Int) => (bif decide (n4 < (l0.length : Int)) then (.ix n4 l0 (.ix n4 l3 (.ik (n4 + (1 : Int)) (.v (.go (l0, (List.set l3 (Int.toNat n4) (zGT (zB zP l0 n4)).1), (n4 + (1 : Int)), ())))))) else (.v (.brk (l0, l3, n4, ()))) : Tr (St _ _))) x.1 x.2.1 x.2.2.1⟩
theorem zMJ (l0 : List (El zP)) (l3 : List (El zP)) : LB.run zBX (l0, l3, (0 : Int), ()) = .brk (l0, (zc (fun i x (s : (List (El zP))) => (List.set s (Int.toNat (i : Int)) (zGT x).1)) 0 l0 l3), (l0.length : Int), ()) := LB.run_fold (l := zBX) (fun i s => (l0, s, (i : Int), ())) (fun i x s h => by
  simp only [LB.b, zBX, zQ, zR, cond_true, yQ h, zG h]
  rfl) (fun s => by simp only [LB.b, zBX, xo]; rfl)
theorem zSF : SF zBX fun x : List (El zP) × List (El zP) × Int × Unit => (0 ≤ x.2.2.1 ∧ (x.1.length : Int) ≤ (x.2.1.length : Int), (x.1.length : Int) - x.2.2.1) := x5 (by
 rintro ⟨(l0 : List (El zP)), (l3 : List (El zP)), (n4 : Int), ⟨⟩⟩ hI hw
 have _ : (l0.length : Int) ≤ 16777216 := zE (hw.1.1)
 simp [zBX] at hI ⊢
 repeat' first | intro _ | apply And.intro
 all_goals omega)
def zJr (a0 : List (El zP)) : Tr (List (El zP) × Unit) := .ck (0 ≤ (a0.length : Int) ∧ (a0.length : Int) ≤ (a0.length : Int) ∧ (a0.length : Int) ≤ 16777216) (.lp zBX (a0, (List.replicate (a0.length : Int).toNat ((0 : Int), (((0 : Int), ((⟨#[]⟩ : ByteArray), ((0 : Int), ((0 : Int), (⟨#[]⟩ : ByteArray))))), ((0 : Int), ((⟨#[]⟩ : ByteArray), ((0 : Int), ((0 : Int), (⟨#[]⟩ : ByteArray)))))))), (0 : Int), ()) (fun _ => .bad) (fun t2 => .v (t2.2.1, ())))
def zG4 a0 := (zJr a0).val
@[reducible] def zQz : FnD := ⟨[vd (.lst zP)], [vo zP], true, fun _ => none, fun a => zG4 a.1⟩
theorem zcU (a0 : List (El zP)) (hw : xH zQz.args (a0, ())) : (zJr a0).ok := by
 unfold zJr
 refine zJ ?_ ?_
 ·have _ : (a0.length : Int) ≤ 16777216 := zE (hw.1.1); have _ : (a0.length : Int) ≤ 16777216 := zE (hw.1.1); have _ : (a0.length : Int) ≤ 16777216 := zE (hw.1.1); have _ : (a0.length : Int) ≤ 16777216 := zE (hw.1.1); first | omega | (simp <;> omega)
 ·refine zJ ?_ ?_
  ·exact zSF _ ⟨by simp, by simp⟩
  ·refine vJ (zMJ a0 (List.replicate (a0.length : Int).toNat ((0 : Int), (((0 : Int), ((⟨#[]⟩ : ByteArray), ((0 : Int), ((0 : Int), (⟨#[]⟩ : ByteArray))))), ((0 : Int), ((⟨#[]⟩ : ByteArray), ((0 : Int), ((0 : Int), (⟨#[]⟩ : ByteArray))))))))) ?_
   try dsimp only
   trivial
def zZU : Con Tryz.prog := yE mo g0 [zfp] [zBX] 173 zQz (fn := Tryz.f173) ⟨lk, trivial⟩ (fun a hw _ => yX (by kernel_rfl) (zcU a.1 hw) rfl)
theorem zcA (a0 : List (El zP)) : zG4 a0 = ((zc (fun i x (s : (List (El zP))) => (List.set s (Int.toNat (i : Int)) (zGT x).1)) 0 a0 (List.replicate (a0.length : Int).toNat ((0 : Int), (((0 : Int), ((⟨#[]⟩ : ByteArray), ((0 : Int), ((0 : Int), (⟨#[]⟩ : ByteArray))))), ((0 : Int), ((⟨#[]⟩ : ByteArray), ((0 : Int), ((0 : Int), (⟨#[]⟩ : ByteArray))))))))), ()) := by
 simp only [zG4, zJr, zR, zy, zQ]
 rw [zMJ, xa] <;> rfl
def zGa (a0 : El zq) : El zq × Unit := ((a0.1, ((zDo a0.2.1).1, (zDo a0.2.2).1)), ())
@[reducible] def zd0 : FnD := ⟨[va zq], [va zq], true, fun _ => none, fun a => zGa a.1⟩
def zgY : Con Tryz.prog := yE mo g0 [zQr] [] 278 zd0 (fn := Tryz.f278) trivial (fun _ _ _ => okv (by kernel_rfl))
@[reducible] def zBU : LB := ⟨[], ⟨23, [], [(0, vd (.lst zq)), (3, vo zq), (4, vd .int)]⟩, ⟨23, [], []⟩, 0, fun x => (fun (l0 : List (El zq)) (l3 : List (El zq)) (n4 : Int) => (bif decide (n4 < (l0.length : Int)) then (.ix n4 l0 (.ix n4 l3 (.ik (n4 + (1 : Int)) (.v (.go (l0, (List.set l3 (Int.toNat n4) (zGa (zB zq l0 n4)).1), (n4 + (1 : Int)), ())))))) else (.v (.brk (l0, l3, n4, ()))) : Tr (St _ _))) x.1 x.2.1 x.2.2.1⟩
theorem zMT (l0 : List (El zq)) (l3 : List (El zq)) : LB.run zBU (l0, l3, (0 : Int), ()) = .brk (l0, (zc (fun i x (s : (List (El zq))) => (List.set s (Int.toNat (i : Int)) (zGa x).1)) 0 l0 l3), (l0.length : Int), ()) := LB.run_fold (l := zBU) (fun i s => (l0, s, (i : Int), ())) (fun i x s h => by
  simp only [LB.b, zBU, zQ, zR, cond_true, yQ h, zG h]
  rfl) (fun s => by simp only [LB.b, zBU, xo]; rfl)
theorem zSo : SF zBU fun x : List (El zq) × List (El zq) × Int × Unit => (0 ≤ x.2.2.1 ∧ (x.1.length : Int) ≤ (x.2.1.length : Int), (x.1.length : Int) - x.2.2.1) := x5 (by
 rintro ⟨(l0 : List (El zq)), (l3 : List (El zq)), (n4 : Int), ⟨⟩⟩ hI hw
 have _ : (l0.length : Int) ≤ 16777216 := zE (hw.1.1)
 simp [zBU] at hI ⊢
 repeat' first | intro _ | apply And.intro
 all_goals omega)
def zJQ (a0 : List (El zq)) : Tr (List (El zq) × Unit) := .ck (0 ≤ (a0.length : Int) ∧ (a0.length : Int) ≤ (a0.length : Int) ∧ (a0.length : Int) ≤ 16777216) (.lp zBU (a0, (List.replicate (a0.length : Int).toNat ((⟨#[]⟩ : ByteArray), (((0 : Int), ((⟨#[]⟩ : ByteArray), ((0 : Int), ((0 : Int), (⟨#[]⟩ : ByteArray))))), ((0 : Int), ((⟨#[]⟩ : ByteArray), ((0 : Int), ((0 : Int), (⟨#[]⟩ : ByteArray)))))))), (0 : Int), ()) (fun _ => .bad) (fun t2 => .v (t2.2.1, ())))
def zHS a0 := (zJQ a0).val
@[reducible] def zQe : FnD := ⟨[vd (.lst zq)], [vo zq], true, fun _ => none, fun a => zHS a.1⟩
theorem zcQ (a0 : List (El zq)) (hw : xH zQe.args (a0, ())) : (zJQ a0).ok := by
 unfold zJQ
 refine zJ ?_ ?_
 ·have _ : (a0.length : Int) ≤ 16777216 := zE (hw.1.1); have _ : (a0.length : Int) ≤ 16777216 := zE (hw.1.1); have _ : (a0.length : Int) ≤ 16777216 := zE (hw.1.1); have _ : (a0.length : Int) ≤ 16777216 := zE (hw.1.1); first | omega | (simp <;> omega)
 ·refine zJ ?_ ?_
  ·exact zSo _ ⟨by simp, by simp⟩
  ·refine vJ (zMT a0 (List.replicate (a0.length : Int).toNat ((⟨#[]⟩ : ByteArray), (((0 : Int), ((⟨#[]⟩ : ByteArray), ((0 : Int), ((0 : Int), (⟨#[]⟩ : ByteArray))))), ((0 : Int), ((⟨#[]⟩ : ByteArray), ((0 : Int), ((0 : Int), (⟨#[]⟩ : ByteArray))))))))) ?_
   try dsimp only
   trivial
def zZx : Con Tryz.prog := yE mo g0 [zgY] [zBU] 261 zQe (fn := Tryz.f261) ⟨lk, trivial⟩ (fun a hw _ => yX (by kernel_rfl) (zcQ a.1 hw) rfl)
theorem zcb (a0 : List (El zq)) : zHS a0 = ((zc (fun i x (s : (List (El zq))) => (List.set s (Int.toNat (i : Int)) (zGa x).1)) 0 a0 (List.replicate (a0.length : Int).toNat ((⟨#[]⟩ : ByteArray), (((0 : Int), ((⟨#[]⟩ : ByteArray), ((0 : Int), ((0 : Int), (⟨#[]⟩ : ByteArray))))), ((0 : Int), ((⟨#[]⟩ : ByteArray), ((0 : Int), ((0 : Int), (⟨#[]⟩ : ByteArray))))))))), ()) := by
 simp only [zHS, zJQ, zR, zy, zQ]
 rw [zMT, xa] <;> rfl
def zIV (a0 : El z5) : El z5 × Unit := ((a0.1, (a0.2.1, ((zHS a0.2.2.1).1, a0.2.2.2))), ())
@[reducible] def zg3 : FnD := ⟨[va z5], [.val true (.pr (.d .int) (.pr (.d .str) (.pr (.o (.d zq)) (.d (.pr .int .str)))))], true, fun _ => none, fun a => zIV a.1⟩
def zi6 : Con Tryz.prog := yE mo g0 [zZx] [] 225 zg3 (fn := Tryz.f225) trivial (fun _ _ _ => okv (by kernel_rfl))
@[reducible] def zCl : LB := ⟨[], ⟨23, [], [(0, vd (.lst z5)), (3, vo z5), (4, vd .int)]⟩, ⟨23, [], []⟩, 0, fun x => (fun (l0 : List (El z5)) (l3 : List (El z5)) (n4 : Int) => (bif decide (n4 < (l0.length : Int)) then (.ix n4 l0 (.ix n4 l3 (.ik (n4 + (1 : Int)) (.v (.go (l0, (List.set l3 (Int.toNat n4) (zIV (zB z5 l0 n4)).1), (n4 + (1 : Int)), ())))))) else (.v (.brk (l0, l3, n4, ()))) : Tr (St _ _))) x.1 x.2.1 x.2.2.1⟩
theorem zN3 (l0 : List (El z5)) (l3 : List (El z5)) : LB.run zCl (l0, l3, (0 : Int), ()) = .brk (l0, (zc (fun i x (s : (List (El z5))) => (List.set s (Int.toNat (i : Int)) (zIV x).1)) 0 l0 l3), (l0.length : Int), ()) := LB.run_fold (l := zCl) (fun i s => (l0, s, (i : Int), ())) (fun i x s h => by
  simp only [LB.b, zCl, zQ, zR, cond_true, yQ h, zG h]
  rfl) (fun s => by simp only [LB.b, zCl, xo]; rfl)
theorem zWl : SF zCl fun x : List (El z5) × List (El z5) × Int × Unit => (0 ≤ x.2.2.1 ∧ (x.1.length : Int) ≤ (x.2.1.length : Int), (x.1.length : Int) - x.2.2.1) := x5 (by
 rintro ⟨(l0 : List (El z5)), (l3 : List (El z5)), (n4 : Int), ⟨⟩⟩ hI hw
 have _ : (l0.length : Int) ≤ 16777216 := zE (hw.1.1)
 simp [zCl] at hI ⊢
 repeat' first | intro _ | apply And.intro
 all_goals omega)
def zLI (a0 : List (El z5)) : Tr (List (El z5) × Unit) := .ck (0 ≤ (a0.length : Int) ∧ (a0.length : Int) ≤ (a0.length : Int) ∧ (a0.length : Int) ≤ 16777216) (.lp zCl (a0, (List.replicate (a0.length : Int).toNat ((0 : Int), ((⟨#[]⟩ : ByteArray), (([] : List (El zq)), ((0 : Int), (⟨#[]⟩ : ByteArray)))))), (0 : Int), ()) (fun _ => .bad) (fun t2 => .v (t2.2.1, ())))
def zIo a0 := (zLI a0).val
@[reducible] def zUA : FnD := ⟨[vd (.lst z5)], [vo z5], false, fun _ => none, fun a => zIo a.1⟩
theorem zeH (a0 : List (El z5)) (hw : xH zUA.args (a0, ())) : (zLI a0).ok := by
 unfold zLI
 refine zJ ?_ ?_
 ·have _ : (a0.length : Int) ≤ 16777216 := zE (hw.1.1); have _ : (a0.length : Int) ≤ 16777216 := zE (hw.1.1); have _ : (a0.length : Int) ≤ 16777216 := zE (hw.1.1); have _ : (a0.length : Int) ≤ 16777216 := zE (hw.1.1); first | omega | (simp <;> omega)
 ·refine zJ ?_ ?_
  ·exact zWl _ ⟨by simp, by simp⟩
  ·refine vJ (zN3 a0 (List.replicate (a0.length : Int).toNat ((0 : Int), ((⟨#[]⟩ : ByteArray), (([] : List (El zq)), ((0 : Int), (⟨#[]⟩ : ByteArray))))))) ?_
   try dsimp only
   trivial
def zgb : Con Tryz.prog := yE mo g0 [zi6] [zCl] 174 zUA (fn := Tryz.f174) ⟨lk, trivial⟩ (fun a hw _ => yX (by kernel_rfl) (zeH a.1 hw) rfl)
theorem zgZ (a0 : List (El z5)) : zIo a0 = ((zc (fun i x (s : (List (El z5))) => (List.set s (Int.toNat (i : Int)) (zIV x).1)) 0 a0 (List.replicate (a0.length : Int).toNat ((0 : Int), ((⟨#[]⟩ : ByteArray), (([] : List (El zq)), ((0 : Int), (⟨#[]⟩ : ByteArray))))))), ()) := by
 simp only [zIo, zLI, zR, zy, zQ]
 rw [zN3, xa] <;> rfl
def zGX (a0 : El zC) : El zC × Unit := ((a0.1, (a0.2.1, ((zIG a0.2.2.1).1, ((zG4 a0.2.2.2.1).1, (zIo a0.2.2.2.2).1)))), ())
@[reducible] def zdB : FnD := ⟨[va zC], [.val true (.pr (.d .str) (.pr (.d .int) (.pr (.o (.d zI)) (.pr (.o (.d zP)) (.o (.d z5))))))], false, fun _ => none, fun a => zGX a.1⟩
def ze3 : Con Tryz.prog := yE mo g0 [zfv, zZU, zgb] [] 112 zdB (fn := Tryz.f112) trivial (fun _ _ _ => okv (by kernel_rfl))
@[reducible] def zBf : LB := ⟨[], ⟨23, [], [(0, vd (.lst zC)), (3, vo zC), (4, vd .int)]⟩, ⟨23, [], []⟩, 0, fun x => (fun (l0 : List (El zC)) (l3 : List (El zC)) (n4 : Int) => (bif decide (n4 < (l0.length : Int)) then (.ix n4 l0 (.ix n4 l3 (.ik (n4 + (1 : Int)) (.v (.go (l0, (List.set l3 (Int.toNat n4) (zGX (zB zC l0 n4)).1), (n4 + (1 : Int)), ())))))) else (.v (.brk (l0, l3, n4, ()))) : Tr (St _ _))) x.1 x.2.1 x.2.2.1⟩
theorem zMN (l0 : List (El zC)) (l3 : List (El zC)) : LB.run zBf (l0, l3, (0 : Int), ()) = .brk (l0, (zc (fun i x (s : (List (El zC))) => (List.set s (Int.toNat (i : Int)) (zGX x).1)) 0 l0 l3), (l0.length : Int), ()) := LB.run_fold (l := zBf) (fun i s => (l0, s, (i : Int), ())) (fun i x s h => by
  simp only [LB.b, zBf, zQ, zR, cond_true, yQ h, zG h]
  rfl) (fun s => by simp only [LB.b, zBf, xo]; rfl)
theorem zSp : SF zBf fun x : List (El zC) × List (El zC) × Int × Unit => (0 ≤ x.2.2.1 ∧ (x.1.length : Int) ≤ (x.2.1.length : Int), (x.1.length : Int) - x.2.2.1) := x5 (by
 rintro ⟨(l0 : List (El zC)), (l3 : List (El zC)), (n4 : Int), ⟨⟩⟩ hI hw
 have _ : (l0.length : Int) ≤ 16777216 := zE (hw.1.1)
 simp [zBf] at hI ⊢
 repeat' first | intro _ | apply And.intro
 all_goals omega)
def zJT (a0 : List (El zC)) : Tr (List (El zC) × Unit) := .ck (0 ≤ (a0.length : Int) ∧ (a0.length : Int) ≤ (a0.length : Int) ∧ (a0.length : Int) ≤ 16777216) (.lp zBf (a0, (List.replicate (a0.length : Int).toNat ((⟨#[]⟩ : ByteArray), ((0 : Int), (([] : List (El zI)), (([] : List (El zP)), ([] : List (El z5))))))), (0 : Int), ()) (fun _ => .bad) (fun t2 => .v (t2.2.1, ())))
def zGy a0 := (zJT a0).val
@[reducible] def zQ9 : FnD := ⟨[vd (.lst zC)], [vo zC], false, fun _ => none, fun a => zGy a.1⟩
theorem zaa (a0 : List (El zC)) (hw : xH zQ9.args (a0, ())) : (zJT a0).ok := by
 unfold zJT
 refine zJ ?_ ?_
 ·have _ : (a0.length : Int) ≤ 16777216 := zE (hw.1.1); have _ : (a0.length : Int) ≤ 16777216 := zE (hw.1.1); have _ : (a0.length : Int) ≤ 16777216 := zE (hw.1.1); have _ : (a0.length : Int) ≤ 16777216 := zE (hw.1.1); first | omega | (simp <;> omega)
 ·refine zJ ?_ ?_
  ·exact zSp _ ⟨by simp, by simp⟩
  ·refine vJ (zMN a0 (List.replicate (a0.length : Int).toNat ((⟨#[]⟩ : ByteArray), ((0 : Int), (([] : List (El zI)), (([] : List (El zP)), ([] : List (El z5)))))))) ?_
   try dsimp only
   trivial
def zbu : Con Tryz.prog := yE mo g0 [ze3] [zBf] 65 zQ9 (fn := Tryz.f65) ⟨lk, trivial⟩ (fun a hw _ => yX (by kernel_rfl) (zaa a.1 hw) rfl)
theorem zcS (a0 : List (El zC)) : zGy a0 = ((zc (fun i x (s : (List (El zC))) => (List.set s (Int.toNat (i : Int)) (zGX x).1)) 0 a0 (List.replicate (a0.length : Int).toNat ((⟨#[]⟩ : ByteArray), ((0 : Int), (([] : List (El zI)), (([] : List (El zP)), ([] : List (El z5)))))))), ()) := by
 simp only [zGy, zJT, zR, zy, zQ]
 rw [zMN, xa] <;> rfl
def zIP (a0 : El zN) : El zN × Unit := ((a0.1, (zGy a0.2).1), ())
@[reducible] def zhq : FnD := ⟨[va zN], [.val true (.pr (.d .str) (.o (.d zC)))], false, fun _ => none, fun a => zIP a.1⟩
def zja : Con Tryz.prog := yE mo g0 [zbu] [] 36 zhq (fn := Tryz.f36) trivial (fun _ _ _ => okv (by kernel_rfl))
@[reducible] def zCg : LB := ⟨[], ⟨23, [], [(0, vd (.lst zN)), (3, vo zN), (4, vd .int)]⟩, ⟨23, [], []⟩, 0, fun x => (fun (l0 : List (El zN)) (l3 : List (El zN)) (n4 : Int) => (bif decide (n4 < (l0.length : Int)) then (.ix n4 l0 (.ix n4 l3 (.ik (n4 + (1 : Int)) (.v (.go (l0, (List.set l3 (Int.toNat n4) (zIP (zB zN l0 n4)).1), (n4 + (1 : Int)), ())))))) else (.v (.brk (l0, l3, n4, ()))) : Tr (St _ _))) x.1 x.2.1 x.2.2.1⟩
theorem zNz (l0 : List (El zN)) (l3 : List (El zN)) : LB.run zCg (l0, l3, (0 : Int), ()) = .brk (l0, (zc (fun i x (s : (List (El zN))) => (List.set s (Int.toNat (i : Int)) (zIP x).1)) 0 l0 l3), (l0.length : Int), ()) := LB.run_fold (l := zCg) (fun i s => (l0, s, (i : Int), ())) (fun i x s h => by
  simp only [LB.b, zCg, zQ, zR, cond_true, yQ h, zG h]
  rfl) (fun s => by simp only [LB.b, zCg, xo]; rfl)
theorem zVl : SF zCg fun x : List (El zN) × List (El zN) × Int × Unit => (0 ≤ x.2.2.1 ∧ (x.1.length : Int) ≤ (x.2.1.length : Int), (x.1.length : Int) - x.2.2.1) := x5 (by
 rintro ⟨(l0 : List (El zN)), (l3 : List (El zN)), (n4 : Int), ⟨⟩⟩ hI hw
 have _ : (l0.length : Int) ≤ 16777216 := zE (hw.1.1)
 simp [zCg] at hI ⊢
 repeat' first | intro _ | apply And.intro
 all_goals omega)
def zK0 (a0 : List (El zN)) : Tr (List (El zN) × Unit) := .ck (0 ≤ (a0.length : Int) ∧ (a0.length : Int) ≤ (a0.length : Int) ∧ (a0.length : Int) ≤ 16777216) (.lp zCg (a0, (List.replicate (a0.length : Int).toNat ((⟨#[]⟩ : ByteArray), ([] : List (El zC)))), (0 : Int), ()) (fun _ => .bad) (fun t2 => .v (t2.2.1, ())))
def zIS a0 := (zK0 a0).val
@[reducible] def zUV : FnD := ⟨[vd (.lst zN)], [vo zN], false, fun _ => none, fun a => zIS a.1⟩
theorem zeS (a0 : List (El zN)) (hw : xH zUV.args (a0, ())) : (zK0 a0).ok := by
 unfold zK0
 refine zJ ?_ ?_
 ·have _ : (a0.length : Int) ≤ 16777216 := zE (hw.1.1); have _ : (a0.length : Int) ≤ 16777216 := zE (hw.1.1); have _ : (a0.length : Int) ≤ 16777216 := zE (hw.1.1); have _ : (a0.length : Int) ≤ 16777216 := zE (hw.1.1); first | omega | (simp <;> omega)
 ·refine zJ ?_ ?_
  ·exact zVl _ ⟨by simp, by simp⟩
  ·refine vJ (zNz a0 (List.replicate (a0.length : Int).toNat ((⟨#[]⟩ : ByteArray), ([] : List (El zC))))) ?_
   try dsimp only
   trivial
def zdv : Con Tryz.prog := yE mo g0 [zja] [zCg] 19 zUV (fn := Tryz.f19) ⟨lk, trivial⟩ (fun a hw _ => yX (by kernel_rfl) (zeS a.1 hw) rfl)
theorem zdp (a0 : List (El zN)) : zIS a0 = ((zc (fun i x (s : (List (El zN))) => (List.set s (Int.toNat (i : Int)) (zIP x).1)) 0 a0 (List.replicate (a0.length : Int).toNat ((⟨#[]⟩ : ByteArray), ([] : List (El zC))))), ()) := by
 simp only [zIS, zK0, zR, zy, zQ]
 rw [zNz, xa] <;> rfl
@[reducible] def zCy : LB := ⟨[], ⟨23, [], [(0, vd (.lst zK)), (3, vo zK), (4, vd .int)]⟩, ⟨23, [], []⟩, 0, fun x => (fun (l0 : List (El zK)) (l3 : List (El zK)) (n4 : Int) => (bif decide (n4 < (l0.length : Int)) then (.ix n4 l0 (.ix n4 l3 (.ik (n4 + (1 : Int)) (.v (.go (l0, (List.set l3 (Int.toNat n4) (zFl (zB zK l0 n4)).1), (n4 + (1 : Int)), ())))))) else (.v (.brk (l0, l3, n4, ()))) : Tr (St _ _))) x.1 x.2.1 x.2.2.1⟩
theorem zNi (l0 : List (El zK)) (l3 : List (El zK)) : LB.run zCy (l0, l3, (0 : Int), ()) = .brk (l0, (zc (fun i x (s : (List (El zK))) => (List.set s (Int.toNat (i : Int)) (zFl x).1)) 0 l0 l3), (l0.length : Int), ()) := LB.run_fold (l := zCy) (fun i s => (l0, s, (i : Int), ())) (fun i x s h => by
  simp only [LB.b, zCy, zQ, zR, cond_true, yQ h, zG h]
  rfl) (fun s => by simp only [LB.b, zCy, xo]; rfl)
theorem zWz : SF zCy fun x : List (El zK) × List (El zK) × Int × Unit => (0 ≤ x.2.2.1 ∧ (x.1.length : Int) ≤ (x.2.1.length : Int), (x.1.length : Int) - x.2.2.1) := x5 (by
 rintro ⟨(l0 : List (El zK)), (l3 : List (El zK)), (n4 : Int), ⟨⟩⟩ hI hw
 have _ : (l0.length : Int) ≤ 16777216 := zE (hw.1.1)
 simp [zCy] at hI ⊢
 repeat' first | intro _ | apply And.intro
 all_goals omega)
def zLX (a0 : List (El zK)) : Tr (List (El zK) × Unit) := .ck (0 ≤ (a0.length : Int) ∧ (a0.length : Int) ≤ (a0.length : Int) ∧ (a0.length : Int) ≤ 16777216) (.lp zCy (a0, (List.replicate (a0.length : Int).toNat ((0 : Int), ((0 : Int), (⟨#[]⟩ : ByteArray)))), (0 : Int), ()) (fun _ => .bad) (fun t2 => .v (t2.2.1, ())))
def zIl a0 := (zLX a0).val
@[reducible] def zUW : FnD := ⟨[vd (.lst zK)], [vo zK], true, fun _ => none, fun a => zIl a.1⟩
theorem zgW (a0 : List (El zK)) (hw : xH zUW.args (a0, ())) : (zLX a0).ok := by
 unfold zLX
 refine zJ ?_ ?_
 ·have _ : (a0.length : Int) ≤ 16777216 := zE (hw.1.1); have _ : (a0.length : Int) ≤ 16777216 := zE (hw.1.1); have _ : (a0.length : Int) ≤ 16777216 := zE (hw.1.1); have _ : (a0.length : Int) ≤ 16777216 := zE (hw.1.1); first | omega | (simp <;> omega)
 ·refine zJ ?_ ?_
  ·exact zWz _ ⟨by simp, by simp⟩
  ·refine vJ (zNi a0 (List.replicate (a0.length : Int).toNat ((0 : Int), ((0 : Int), (⟨#[]⟩ : ByteArray))))) ?_
   try dsimp only
   trivial
def zgC : Con Tryz.prog := yE mo g0 [zNr] [zCy] 263 zUW (fn := Tryz.f263) ⟨lk, trivial⟩ (fun a hw _ => yX (by kernel_rfl) (zgW a.1 hw) rfl)
theorem zdT (a0 : List (El zK)) : zIl a0 = ((zc (fun i x (s : (List (El zK))) => (List.set s (Int.toNat (i : Int)) (zFl x).1)) 0 a0 (List.replicate (a0.length : Int).toNat ((0 : Int), ((0 : Int), (⟨#[]⟩ : ByteArray))))), ()) := by
 simp only [zIl, zLX, zR, zy, zQ]
 rw [zNi, xa] <;> rfl
def zE4 (a0 : El zr) : El zr × Unit := ((a0.1, (zIl a0.2).1), ())
@[reducible] def zfV : FnD := ⟨[va zr], [.val true (.pr (.d .str) (.o (.d zK)))], true, fun _ => none, fun a => zE4 a.1⟩
def zLM : Con Tryz.prog := yE mo g0 [zgC] [] 229 zfV (fn := Tryz.f229) trivial (fun _ _ _ => okv (by kernel_rfl))
def zGd (a0 : El zD) : El zD × Unit := ((a0.1, (zE4 a0.2).1), ())
@[reducible] def zd1 : FnD := ⟨[va zD], [.val true (.pr (.d .int) (.pr (.d .str) (.o (.d zK))))], true, fun _ => none, fun a => zGd a.1⟩
def zdD : Con Tryz.prog := yE mo g0 [zLM] [] 226 zd1 (fn := Tryz.f226) trivial (fun _ _ _ => okv (by kernel_rfl))
@[reducible] def zBZ : LB := ⟨[], ⟨23, [], [(0, vd (.lst zD)), (3, vo zD), (4, vd .int)]⟩, ⟨23, [], []⟩, 0, fun x => (fun (l0 : List (El zD)) (l3 : List (El zD)) (n4 : Int) => (bif decide (n4 < (l0.length : Int)) then (.ix n4 l0 (.ix n4 l3 (.ik (n4 + (1 : Int)) (.v (.go (l0, (List.set l3 (Int.toNat n4) (zGd (zB zD l0 n4)).1), (n4 + (1 : Int)), ())))))) else (.v (.brk (l0, l3, n4, ()))) : Tr (St _ _))) x.1 x.2.1 x.2.2.1⟩
theorem zMQ (l0 : List (El zD)) (l3 : List (El zD)) : LB.run zBZ (l0, l3, (0 : Int), ()) = .brk (l0, (zc (fun i x (s : (List (El zD))) => (List.set s (Int.toNat (i : Int)) (zGd x).1)) 0 l0 l3), (l0.length : Int), ()) := LB.run_fold (l := zBZ) (fun i s => (l0, s, (i : Int), ())) (fun i x s h => by
  simp only [LB.b, zBZ, zQ, zR, cond_true, yQ h, zG h]
  rfl) (fun s => by simp only [LB.b, zBZ, xo]; rfl)
theorem zSL : SF zBZ fun x : List (El zD) × List (El zD) × Int × Unit => (0 ≤ x.2.2.1 ∧ (x.1.length : Int) ≤ (x.2.1.length : Int), (x.1.length : Int) - x.2.2.1) := x5 (by
 rintro ⟨(l0 : List (El zD)), (l3 : List (El zD)), (n4 : Int), ⟨⟩⟩ hI hw
 have _ : (l0.length : Int) ≤ 16777216 := zE (hw.1.1)
 simp [zBZ] at hI ⊢
 repeat' first | intro _ | apply And.intro
 all_goals omega)
def zI8 (a0 : List (El zD)) : Tr (List (El zD) × Unit) := .ck (0 ≤ (a0.length : Int) ∧ (a0.length : Int) ≤ (a0.length : Int) ∧ (a0.length : Int) ≤ 16777216) (.lp zBZ (a0, (List.replicate (a0.length : Int).toNat ((0 : Int), ((⟨#[]⟩ : ByteArray), ([] : List (El zK))))), (0 : Int), ()) (fun _ => .bad) (fun t2 => .v (t2.2.1, ())))
def zHV a0 := (zI8 a0).val
@[reducible] def zQV : FnD := ⟨[vd (.lst zD)], [vo zD], false, fun _ => none, fun a => zHV a.1⟩
theorem zbi (a0 : List (El zD)) (hw : xH zQV.args (a0, ())) : (zI8 a0).ok := by
 unfold zI8
 refine zJ ?_ ?_
 ·have _ : (a0.length : Int) ≤ 16777216 := zE (hw.1.1); have _ : (a0.length : Int) ≤ 16777216 := zE (hw.1.1); have _ : (a0.length : Int) ≤ 16777216 := zE (hw.1.1); have _ : (a0.length : Int) ≤ 16777216 := zE (hw.1.1); first | omega | (simp <;> omega)
 ·refine zJ ?_ ?_
  ·exact zSL _ ⟨by simp, by simp⟩
  ·refine vJ (zMQ a0 (List.replicate (a0.length : Int).toNat ((0 : Int), ((⟨#[]⟩ : ByteArray), ([] : List (El zK)))))) ?_
   try dsimp only
   trivial
def zZq : Con Tryz.prog := yE mo g0 [zdD] [zBZ] 175 zQV (fn := Tryz.f175) ⟨lk, trivial⟩ (fun a hw _ => yX (by kernel_rfl) (zbi a.1 hw) rfl)
theorem zZ7 (a0 : List (El zD)) : zHV a0 = ((zc (fun i x (s : (List (El zD))) => (List.set s (Int.toNat (i : Int)) (zGd x).1)) 0 a0 (List.replicate (a0.length : Int).toNat ((0 : Int), ((⟨#[]⟩ : ByteArray), ([] : List (El zK)))))), ()) := by
 simp only [zHV, zI8, zR, zy, zQ]
 rw [zMQ, xa] <;> rfl
def zIy (a0 : El zH) : El zH × Unit := (((zHV a0.1).1, a0.2), ())
@[reducible] def zby : FnD := ⟨[va zH], [.val true (.pr (.o (.d zD)) (.d .int))], false, fun _ => none, fun a => zIy a.1⟩
def zap : Con Tryz.prog := yE mo g0 [zZq] [] 113 zby (fn := Tryz.f113) trivial (fun _ _ _ => okv (by kernel_rfl))
@[reducible] def zCs : LB := ⟨[], ⟨22, [], [(0, vd (.lst .int)), (3, vo .int), (4, vd .int)]⟩, ⟨22, [], []⟩, 0, fun x => (fun (l0 : List (El .int)) (l3 : List (El .int)) (n4 : Int) => (bif decide (n4 < (l0.length : Int)) then (.ix n4 l0 (.ix n4 l3 (.ik (n4 + (1 : Int)) (.v (.go (l0, (List.set l3 (Int.toNat n4) (zB .int l0 n4)), (n4 + (1 : Int)), ())))))) else (.v (.brk (l0, l3, n4, ()))) : Tr (St _ _))) x.1 x.2.1 x.2.2.1⟩
theorem zN6 (l0 : List (El .int)) (l3 : List (El .int)) : LB.run zCs (l0, l3, (0 : Int), ()) = .brk (l0, (zc (fun i x (s : (List (El .int))) => (List.set s (Int.toNat (i : Int)) x)) 0 l0 l3), (l0.length : Int), ()) := LB.run_fold (l := zCs) (fun i s => (l0, s, (i : Int), ())) (fun i x s h => by
  simp only [LB.b, zCs, zQ, zR, cond_true, yQ h, zG h]
  rfl) (fun s => by simp only [LB.b, zCs, xo]; rfl)
theorem zVP : SF zCs fun x : List (El .int) × List (El .int) × Int × Unit => (0 ≤ x.2.2.1 ∧ (x.1.length : Int) ≤ (x.2.1.length : Int), (x.1.length : Int) - x.2.2.1) := x5 (by
 rintro ⟨(l0 : List (El .int)), (l3 : List (El .int)), (n4 : Int), ⟨⟩⟩ hI hw
 have _ : (l0.length : Int) ≤ 16777216 := zE (hw.1.1)
 simp [zCs] at hI ⊢
 repeat' first | intro _ | apply And.intro
 all_goals omega)
def zLo (a0 : List (El .int)) : Tr (List (El .int) × Unit) := .ck (0 ≤ (a0.length : Int) ∧ (a0.length : Int) ≤ (a0.length : Int) ∧ (a0.length : Int) ≤ 16777216) (.lp zCs (a0, (List.replicate (a0.length : Int).toNat (0 : Int)), (0 : Int), ()) (fun _ => .bad) (fun t1 => .v (t1.2.1, ())))
def zIW a0 := (zLo a0).val
@[reducible] def zTq : FnD := ⟨[vd (.lst .int)], [vo .int], true, fun _ => none, fun a => zIW a.1⟩
theorem zgo (a0 : List (El .int)) (hw : xH zTq.args (a0, ())) : (zLo a0).ok := by
 unfold zLo
 refine zJ ?_ ?_
 ·have _ : (a0.length : Int) ≤ 16777216 := zE (hw.1.1); have _ : (a0.length : Int) ≤ 16777216 := zE (hw.1.1); have _ : (a0.length : Int) ≤ 16777216 := zE (hw.1.1); have _ : (a0.length : Int) ≤ 16777216 := zE (hw.1.1); first | omega | (simp <;> omega)
 ·refine zJ ?_ ?_
  ·exact zVP _ ⟨by simp, by simp⟩
  ·refine vJ (zN6 a0 (List.replicate (a0.length : Int).toNat (0 : Int))) ?_
   try dsimp only
   trivial
def zfs : Con Tryz.prog := yE mo g0 [] [zCs] 227 zTq (fn := Tryz.f227) ⟨lk, trivial⟩ (fun a hw _ => yX (by kernel_rfl) (zgo a.1 hw) rfl)
theorem zgv (a0 : List (El .int)) : zIW a0 = ((zc (fun i x (s : (List (El .int))) => (List.set s (Int.toNat (i : Int)) x)) 0 a0 (List.replicate (a0.length : Int).toNat (0 : Int))), ()) := by
 simp only [zIW, zLo, zR, zy, zQ]
 rw [zN6, xa] <;> rfl
def zGe (a0 : El zF) : El zF × Unit := ((a0.1, (zFl a0.2).1), ())
@[reducible] def zdo : FnD := ⟨[va zF], [va zF], true, fun _ => none, fun a => zGe a.1⟩
def zeq : Con Tryz.prog := yE mo g0 [zNr] [] 262 zdo (fn := Tryz.f262) trivial (fun _ _ _ => okv (by kernel_rfl))
@[reducible] def zBe : LB := ⟨[], ⟨23, [], [(0, vd (.lst zF)), (3, vo zF), (4, vd .int)]⟩, ⟨23, [], []⟩, 0, fun x => (fun (l0 : List (El zF)) (l3 : List (El zF)) (n4 : Int) => (bif decide (n4 < (l0.length : Int)) then (.ix n4 l0 (.ix n4 l3 (.ik (n4 + (1 : Int)) (.v (.go (l0, (List.set l3 (Int.toNat n4) (zGe (zB zF l0 n4)).1), (n4 + (1 : Int)), ())))))) else (.v (.brk (l0, l3, n4, ()))) : Tr (St _ _))) x.1 x.2.1 x.2.2.1⟩
theorem zMS (l0 : List (El zF)) (l3 : List (El zF)) : LB.run zBe (l0, l3, (0 : Int), ()) = .brk (l0, (zc (fun i x (s : (List (El zF))) => (List.set s (Int.toNat (i : Int)) (zGe x).1)) 0 l0 l3), (l0.length : Int), ()) := LB.run_fold (l := zBe) (fun i s => (l0, s, (i : Int), ())) (fun i x s h => by
  simp only [LB.b, zBe, zQ, zR, cond_true, yQ h, zG h]
  rfl) (fun s => by simp only [LB.b, zBe, xo]; rfl)
theorem zTN : SF zBe fun x : List (El zF) × List (El zF) × Int × Unit => (0 ≤ x.2.2.1 ∧ (x.1.length : Int) ≤ (x.2.1.length : Int), (x.1.length : Int) - x.2.2.1) := x5 (by
 rintro ⟨(l0 : List (El zF)), (l3 : List (El zF)), (n4 : Int), ⟨⟩⟩ hI hw
 have _ : (l0.length : Int) ≤ 16777216 := zE (hw.1.1)
 simp [zBe] at hI ⊢
 repeat' first | intro _ | apply And.intro
 all_goals omega)
def zJk (a0 : List (El zF)) : Tr (List (El zF) × Unit) := .ck (0 ≤ (a0.length : Int) ∧ (a0.length : Int) ≤ (a0.length : Int) ∧ (a0.length : Int) ≤ 16777216) (.lp zBe (a0, (List.replicate (a0.length : Int).toNat ((⟨#[]⟩ : ByteArray), ((0 : Int), ((0 : Int), (⟨#[]⟩ : ByteArray))))), (0 : Int), ()) (fun _ => .bad) (fun t2 => .v (t2.2.1, ())))
def zHP a0 := (zJk a0).val
@[reducible] def zPo : FnD := ⟨[vd (.lst zF)], [vo zF], true, fun _ => none, fun a => zHP a.1⟩
theorem zbd (a0 : List (El zF)) (hw : xH zPo.args (a0, ())) : (zJk a0).ok := by
 unfold zJk
 refine zJ ?_ ?_
 ·have _ : (a0.length : Int) ≤ 16777216 := zE (hw.1.1); have _ : (a0.length : Int) ≤ 16777216 := zE (hw.1.1); have _ : (a0.length : Int) ≤ 16777216 := zE (hw.1.1); have _ : (a0.length : Int) ≤ 16777216 := zE (hw.1.1); first | omega | (simp <;> omega)
 ·refine zJ ?_ ?_
  ·exact zTN _ ⟨by simp, by simp⟩
  ·refine vJ (zMS a0 (List.replicate (a0.length : Int).toNat ((⟨#[]⟩ : ByteArray), ((0 : Int), ((0 : Int), (⟨#[]⟩ : ByteArray)))))) ?_
   try dsimp only
   trivial
def zb1 : Con Tryz.prog := yE mo g0 [zeq] [zBe] 228 zPo (fn := Tryz.f228) ⟨lk, trivial⟩ (fun a hw _ => yX (by kernel_rfl) (zbd a.1 hw) rfl)
theorem zb8 (a0 : List (El zF)) : zHP a0 = ((zc (fun i x (s : (List (El zF))) => (List.set s (Int.toNat (i : Int)) (zGe x).1)) 0 a0 (List.replicate (a0.length : Int).toNat ((⟨#[]⟩ : ByteArray), ((0 : Int), ((0 : Int), (⟨#[]⟩ : ByteArray)))))), ()) := by
 simp only [zHP, zJk, zR, zy, zQ]
 rw [zMS, xa] <;> rfl
def zFH (a0 : El zA) : El zA × Unit := ((a0.1, ((zIW a0.2.1).1, (zHP a0.2.2).1)), ())
@[reducible] def zZp : FnD := ⟨[va zA], [.val true (.pr (.d .int) (.pr (.o (.d .int)) (.o (.d zF))))], true, fun _ => none, fun a => zFH a.1⟩
def zaP : Con Tryz.prog := yE mo g0 [zfs, zb1] [] 176 zZp (fn := Tryz.f176) trivial (fun _ _ _ => okv (by kernel_rfl))
@[reducible] def zAa : LB := ⟨[], ⟨23, [], [(0, vd (.lst zA)), (3, vo zA), (4, vd .int)]⟩, ⟨23, [], []⟩, 0, fun x => (fun (l0 : List (El zA)) (l3 : List (El zA)) (n4 : Int) => (bif decide (n4 < (l0.length : Int)) then (.ix n4 l0 (.ix n4 l3 (.ik (n4 + (1 : Int)) (.v (.go (l0, (List.set l3 (Int.toNat n4) (zFH (zB zA l0 n4)).1), (n4 + (1 : Int)), ())))))) else (.v (.brk (l0, l3, n4, ()))) : Tr (St _ _))) x.1 x.2.1 x.2.2.1⟩
theorem zKJ (l0 : List (El zA)) (l3 : List (El zA)) : LB.run zAa (l0, l3, (0 : Int), ()) = .brk (l0, (zc (fun i x (s : (List (El zA))) => (List.set s (Int.toNat (i : Int)) (zFH x).1)) 0 l0 l3), (l0.length : Int), ()) := LB.run_fold (l := zAa) (fun i s => (l0, s, (i : Int), ())) (fun i x s h => by
  simp only [LB.b, zAa, zQ, zR, cond_true, yQ h, zG h]
  rfl) (fun s => by simp only [LB.b, zAa, xo]; rfl)
theorem zP7 : SF zAa fun x : List (El zA) × List (El zA) × Int × Unit => (0 ≤ x.2.2.1 ∧ (x.1.length : Int) ≤ (x.2.1.length : Int), (x.1.length : Int) - x.2.2.1) := x5 (by
 rintro ⟨(l0 : List (El zA)), (l3 : List (El zA)), (n4 : Int), ⟨⟩⟩ hI hw
 have _ : (l0.length : Int) ≤ 16777216 := zE (hw.1.1)
 simp [zAa] at hI ⊢
 repeat' first | intro _ | apply And.intro
 all_goals omega)
def zHk (a0 : List (El zA)) : Tr (List (El zA) × Unit) := .ck (0 ≤ (a0.length : Int) ∧ (a0.length : Int) ≤ (a0.length : Int) ∧ (a0.length : Int) ≤ 16777216) (.lp zAa (a0, (List.replicate (a0.length : Int).toNat ((0 : Int), (([] : List (El .int)), ([] : List (El zF))))), (0 : Int), ()) (fun _ => .bad) (fun t2 => .v (t2.2.1, ())))
def zFo a0 := (zHk a0).val
@[reducible] def zO2 : FnD := ⟨[vd (.lst zA)], [vo zA], false, fun _ => none, fun a => zFo a.1⟩
theorem zXy (a0 : List (El zA)) (hw : xH zO2.args (a0, ())) : (zHk a0).ok := by
 unfold zHk
 refine zJ ?_ ?_
 ·have _ : (a0.length : Int) ≤ 16777216 := zE (hw.1.1); have _ : (a0.length : Int) ≤ 16777216 := zE (hw.1.1); have _ : (a0.length : Int) ≤ 16777216 := zE (hw.1.1); have _ : (a0.length : Int) ≤ 16777216 := zE (hw.1.1); first | omega | (simp <;> omega)
 ·refine zJ ?_ ?_
  ·exact zP7 _ ⟨by simp, by simp⟩
  ·refine vJ (zKJ a0 (List.replicate (a0.length : Int).toNat ((0 : Int), (([] : List (El .int)), ([] : List (El zF)))))) ?_
   try dsimp only
   trivial
def zZJ : Con Tryz.prog := yE mo g0 [zaP] [zAa] 114 zO2 (fn := Tryz.f114) ⟨lk, trivial⟩ (fun a hw _ => yX (by kernel_rfl) (zXy a.1 hw) rfl)
theorem zZD (a0 : List (El zA)) : zFo a0 = ((zc (fun i x (s : (List (El zA))) => (List.set s (Int.toNat (i : Int)) (zFH x).1)) 0 a0 (List.replicate (a0.length : Int).toNat ((0 : Int), (([] : List (El .int)), ([] : List (El zF)))))), ()) := by
 simp only [zFo, zHk, zR, zy, zQ]
 rw [zKJ, xa] <;> rfl
def zGb (a0 : El zO) : El zO × Unit := (((zE4 a0.1).1, (a0.2.1, (a0.2.2.1, (a0.2.2.2.1, (a0.2.2.2.2.1, (zFl a0.2.2.2.2.2).1))))), ())
@[reducible] def zew : FnD := ⟨[va zO], [.val true (.pr (.pr (.d .str) (.o (.d zK))) (.d (.pr .str (.pr .int (.pr .int (.pr .int zK))))))], true, fun _ => none, fun a => zGb a.1⟩
def zgQ : Con Tryz.prog := yE mo g0 [zLM, zNr] [] 177 zew (fn := Tryz.f177) trivial (fun _ _ _ => okv (by kernel_rfl))
@[reducible] def zBb : LB := ⟨[], ⟨23, [], [(0, vd (.lst zO)), (3, vo zO), (4, vd .int)]⟩, ⟨23, [], []⟩, 0, fun x => (fun (l0 : List (El zO)) (l3 : List (El zO)) (n4 : Int) => (bif decide (n4 < (l0.length : Int)) then (.ix n4 l0 (.ix n4 l3 (.ik (n4 + (1 : Int)) (.v (.go (l0, (List.set l3 (Int.toNat n4) (zGb (zB zO l0 n4)).1), (n4 + (1 : Int)), ())))))) else (.v (.brk (l0, l3, n4, ()))) : Tr (St _ _))) x.1 x.2.1 x.2.2.1⟩
theorem zMF (l0 : List (El zO)) (l3 : List (El zO)) : LB.run zBb (l0, l3, (0 : Int), ()) = .brk (l0, (zc (fun i x (s : (List (El zO))) => (List.set s (Int.toNat (i : Int)) (zGb x).1)) 0 l0 l3), (l0.length : Int), ()) := LB.run_fold (l := zBb) (fun i s => (l0, s, (i : Int), ())) (fun i x s h => by
  simp only [LB.b, zBb, zQ, zR, cond_true, yQ h, zG h]
  rfl) (fun s => by simp only [LB.b, zBb, xo]; rfl)
theorem zTI : SF zBb fun x : List (El zO) × List (El zO) × Int × Unit => (0 ≤ x.2.2.1 ∧ (x.1.length : Int) ≤ (x.2.1.length : Int), (x.1.length : Int) - x.2.2.1) := x5 (by
 rintro ⟨(l0 : List (El zO)), (l3 : List (El zO)), (n4 : Int), ⟨⟩⟩ hI hw
 have _ : (l0.length : Int) ≤ 16777216 := zE (hw.1.1)
 simp [zBb] at hI ⊢
 repeat' first | intro _ | apply And.intro
 all_goals omega)
def zJs (a0 : List (El zO)) : Tr (List (El zO) × Unit) := .ck (0 ≤ (a0.length : Int) ∧ (a0.length : Int) ≤ (a0.length : Int) ∧ (a0.length : Int) ≤ 16777216) (.lp zBb (a0, (List.replicate (a0.length : Int).toNat (((⟨#[]⟩ : ByteArray), ([] : List (El zK))), ((⟨#[]⟩ : ByteArray), ((0 : Int), ((0 : Int), ((0 : Int), ((0 : Int), ((0 : Int), (⟨#[]⟩ : ByteArray))))))))), (0 : Int), ()) (fun _ => .bad) (fun t2 => .v (t2.2.1, ())))
def zGq a0 := (zJs a0).val
@[reducible] def zRb : FnD := ⟨[vd (.lst zO)], [vo zO], false, fun _ => none, fun a => zGq a.1⟩
theorem zbW (a0 : List (El zO)) (hw : xH zRb.args (a0, ())) : (zJs a0).ok := by
 unfold zJs
 refine zJ ?_ ?_
 ·have _ : (a0.length : Int) ≤ 16777216 := zE (hw.1.1); have _ : (a0.length : Int) ≤ 16777216 := zE (hw.1.1); have _ : (a0.length : Int) ≤ 16777216 := zE (hw.1.1); have _ : (a0.length : Int) ≤ 16777216 := zE (hw.1.1); first | omega | (simp <;> omega)
 ·refine zJ ?_ ?_
  ·exact zTI _ ⟨by simp, by simp⟩
  ·refine vJ (zMF a0 (List.replicate (a0.length : Int).toNat (((⟨#[]⟩ : ByteArray), ([] : List (El zK))), ((⟨#[]⟩ : ByteArray), ((0 : Int), ((0 : Int), ((0 : Int), ((0 : Int), ((0 : Int), (⟨#[]⟩ : ByteArray)))))))))) ?_
   try dsimp only
   trivial
def zcE : Con Tryz.prog := yE mo g0 [zgQ] [zBb] 115 zRb (fn := Tryz.f115) ⟨lk, trivial⟩ (fun a hw _ => yX (by kernel_rfl) (zbW a.1 hw) rfl)
theorem zbP (a0 : List (El zO)) : zGq a0 = ((zc (fun i x (s : (List (El zO))) => (List.set s (Int.toNat (i : Int)) (zGb x).1)) 0 a0 (List.replicate (a0.length : Int).toNat (((⟨#[]⟩ : ByteArray), ([] : List (El zK))), ((⟨#[]⟩ : ByteArray), ((0 : Int), ((0 : Int), ((0 : Int), ((0 : Int), ((0 : Int), (⟨#[]⟩ : ByteArray)))))))))), ()) := by
 simp only [zGq, zJs, zR, zy, zQ]
 rw [zMF, xa] <;> rfl
def zFT (a0 : El zD) : El zD × Unit := ((a0.1, (zE4 a0.2).1), ())
@[reducible] def zai : FnD := ⟨[va zD], [.val true (.pr (.d .int) (.pr (.d .str) (.o (.d zK))))], true, fun _ => none, fun a => zFT a.1⟩
def zbK : Con Tryz.prog := yE mo g0 [zLM] [] 178 zai (fn := Tryz.f178) trivial (fun _ _ _ => okv (by kernel_rfl))
@[reducible] def zAk : LB := ⟨[], ⟨23, [], [(0, vd (.lst zD)), (3, vo zD), (4, vd .int)]⟩, ⟨23, [], []⟩, 0, fun x => (fun (l0 : List (El zD)) (l3 : List (El zD)) (n4 : Int) => (bif decide (n4 < (l0.length : Int)) then (.ix n4 l0 (.ix n4 l3 (.ik (n4 + (1 : Int)) (.v (.go (l0, (List.set l3 (Int.toNat n4) (zFT (zB zD l0 n4)).1), (n4 + (1 : Int)), ())))))) else (.v (.brk (l0, l3, n4, ()))) : Tr (St _ _))) x.1 x.2.1 x.2.2.1⟩
theorem zKO (l0 : List (El zD)) (l3 : List (El zD)) : LB.run zAk (l0, l3, (0 : Int), ()) = .brk (l0, (zc (fun i x (s : (List (El zD))) => (List.set s (Int.toNat (i : Int)) (zFT x).1)) 0 l0 l3), (l0.length : Int), ()) := LB.run_fold (l := zAk) (fun i s => (l0, s, (i : Int), ())) (fun i x s h => by
  simp only [LB.b, zAk, zQ, zR, cond_true, yQ h, zG h]
  rfl) (fun s => by simp only [LB.b, zAk, xo]; rfl)
theorem zQw : SF zAk fun x : List (El zD) × List (El zD) × Int × Unit => (0 ≤ x.2.2.1 ∧ (x.1.length : Int) ≤ (x.2.1.length : Int), (x.1.length : Int) - x.2.2.1) := x5 (by
 rintro ⟨(l0 : List (El zD)), (l3 : List (El zD)), (n4 : Int), ⟨⟩⟩ hI hw
 have _ : (l0.length : Int) ≤ 16777216 := zE (hw.1.1)
 simp [zAk] at hI ⊢
 repeat' first | intro _ | apply And.intro
 all_goals omega)
def zHt (a0 : List (El zD)) : Tr (List (El zD) × Unit) := .ck (0 ≤ (a0.length : Int) ∧ (a0.length : Int) ≤ (a0.length : Int) ∧ (a0.length : Int) ≤ 16777216) (.lp zAk (a0, (List.replicate (a0.length : Int).toNat ((0 : Int), ((⟨#[]⟩ : ByteArray), ([] : List (El zK))))), (0 : Int), ()) (fun _ => .bad) (fun t2 => .v (t2.2.1, ())))
def zF2 a0 := (zHt a0).val
@[reducible] def zPI : FnD := ⟨[vd (.lst zD)], [vo zD], false, fun _ => none, fun a => zF2 a.1⟩
theorem zZK (a0 : List (El zD)) (hw : xH zPI.args (a0, ())) : (zHt a0).ok := by
 unfold zHt
 refine zJ ?_ ?_
 ·have _ : (a0.length : Int) ≤ 16777216 := zE (hw.1.1); have _ : (a0.length : Int) ≤ 16777216 := zE (hw.1.1); have _ : (a0.length : Int) ≤ 16777216 := zE (hw.1.1); have _ : (a0.length : Int) ≤ 16777216 := zE (hw.1.1); first | omega | (simp <;> omega)
 ·refine zJ ?_ ?_
  ·exact zQw _ ⟨by simp, by simp⟩
  ·refine vJ (zKO a0 (List.replicate (a0.length : Int).toNat ((0 : Int), ((⟨#[]⟩ : ByteArray), ([] : List (El zK)))))) ?_
   try dsimp only
   trivial
def zZI : Con Tryz.prog := yE mo g0 [zbK] [zAk] 116 zPI (fn := Tryz.f116) ⟨lk, trivial⟩ (fun a hw _ => yX (by kernel_rfl) (zZK a.1 hw) rfl)
theorem zY7 (a0 : List (El zD)) : zF2 a0 = ((zc (fun i x (s : (List (El zD))) => (List.set s (Int.toNat (i : Int)) (zFT x).1)) 0 a0 (List.replicate (a0.length : Int).toNat ((0 : Int), ((⟨#[]⟩ : ByteArray), ([] : List (El zK)))))), ()) := by
 simp only [zF2, zHt, zR, zy, zQ]
 rw [zKO, xa] <;> rfl
def zGY (a0 : El zU) : El zU × Unit := ((a0.1, (zE4 a0.2).1), ())
@[reducible] def zfZ : FnD := ⟨[va zU], [.val true (.pr (.d .str) (.pr (.d .str) (.o (.d zK))))], true, fun _ => none, fun a => zGY a.1⟩
def zgq : Con Tryz.prog := yE mo g0 [zLM] [] 179 zfZ (fn := Tryz.f179) trivial (fun _ _ _ => okv (by kernel_rfl))
@[reducible] def zBQ : LB := ⟨[], ⟨23, [], [(0, vd (.lst zU)), (3, vo zU), (4, vd .int)]⟩, ⟨23, [], []⟩, 0, fun x => (fun (l0 : List (El zU)) (l3 : List (El zU)) (n4 : Int) => (bif decide (n4 < (l0.length : Int)) then (.ix n4 l0 (.ix n4 l3 (.ik (n4 + (1 : Int)) (.v (.go (l0, (List.set l3 (Int.toNat n4) (zGY (zB zU l0 n4)).1), (n4 + (1 : Int)), ())))))) else (.v (.brk (l0, l3, n4, ()))) : Tr (St _ _))) x.1 x.2.1 x.2.2.1⟩
theorem zMV (l0 : List (El zU)) (l3 : List (El zU)) : LB.run zBQ (l0, l3, (0 : Int), ()) = .brk (l0, (zc (fun i x (s : (List (El zU))) => (List.set s (Int.toNat (i : Int)) (zGY x).1)) 0 l0 l3), (l0.length : Int), ()) := LB.run_fold (l := zBQ) (fun i s => (l0, s, (i : Int), ())) (fun i x s h => by
  simp only [LB.b, zBQ, zQ, zR, cond_true, yQ h, zG h]
  rfl) (fun s => by simp only [LB.b, zBQ, xo]; rfl)
theorem zTM : SF zBQ fun x : List (El zU) × List (El zU) × Int × Unit => (0 ≤ x.2.2.1 ∧ (x.1.length : Int) ≤ (x.2.1.length : Int), (x.1.length : Int) - x.2.2.1) := x5 (by
 rintro ⟨(l0 : List (El zU)), (l3 : List (El zU)), (n4 : Int), ⟨⟩⟩ hI hw
 have _ : (l0.length : Int) ≤ 16777216 := zE (hw.1.1)
 simp [zBQ] at hI ⊢
 repeat' first | intro _ | apply And.intro
 all_goals omega)
def zKE (a0 : List (El zU)) : Tr (List (El zU) × Unit) := .ck (0 ≤ (a0.length : Int) ∧ (a0.length : Int) ≤ (a0.length : Int) ∧ (a0.length : Int) ≤ 16777216) (.lp zBQ (a0, (List.replicate (a0.length : Int).toNat ((⟨#[]⟩ : ByteArray), ((⟨#[]⟩ : ByteArray), ([] : List (El zK))))), (0 : Int), ()) (fun _ => .bad) (fun t2 => .v (t2.2.1, ())))
def zGi a0 := (zKE a0).val
@[reducible] def zQ3 : FnD := ⟨[vd (.lst zU)], [vo zU], false, fun _ => none, fun a => zGi a.1⟩
theorem zbR (a0 : List (El zU)) (hw : xH zQ3.args (a0, ())) : (zKE a0).ok := by
 unfold zKE
 refine zJ ?_ ?_
 ·have _ : (a0.length : Int) ≤ 16777216 := zE (hw.1.1); have _ : (a0.length : Int) ≤ 16777216 := zE (hw.1.1); have _ : (a0.length : Int) ≤ 16777216 := zE (hw.1.1); have _ : (a0.length : Int) ≤ 16777216 := zE (hw.1.1); first | omega | (simp <;> omega)
 ·refine zJ ?_ ?_
  ·exact zTM _ ⟨by simp, by simp⟩
  ·refine vJ (zMV a0 (List.replicate (a0.length : Int).toNat ((⟨#[]⟩ : ByteArray), ((⟨#[]⟩ : ByteArray), ([] : List (El zK)))))) ?_
   try dsimp only
   trivial
def zaA : Con Tryz.prog := yE mo g0 [zgq] [zBQ] 117 zQ3 (fn := Tryz.f117) ⟨lk, trivial⟩ (fun a hw _ => yX (by kernel_rfl) (zbR a.1 hw) rfl)
theorem zah (a0 : List (El zU)) : zGi a0 = ((zc (fun i x (s : (List (El zU))) => (List.set s (Int.toNat (i : Int)) (zGY x).1)) 0 a0 (List.replicate (a0.length : Int).toNat ((⟨#[]⟩ : ByteArray), ((⟨#[]⟩ : ByteArray), ([] : List (El zK)))))), ()) := by
 simp only [zGi, zKE, zR, zy, zQ]
 rw [zMV, xa] <;> rfl
def zLk (a0 : El ye) : El ye × Unit := (((zIy a0.1).1, ((zFo a0.2.1).1, ((zGq a0.2.2.1).1, ((zF2 a0.2.2.2.1).1, ((zGi a0.2.2.2.2.1).1, a0.2.2.2.2.2))))), ())
@[reducible] def zfB : FnD := ⟨[va ye], [.val true (.pr (.pr (.o (.d zD)) (.d .int)) (.pr (.o (.d zA)) (.pr (.o (.d zO)) (.pr (.o (.d zD)) (.pr (.o (.d zU)) (.d (.pr .int .int)))))))], false, fun _ => none, fun a => zLk a.1⟩
def zf6 : Con Tryz.prog := yE mo g0 [zap, zZJ, zcE, zZI, zaA] [] 66 zfB (fn := Tryz.f66) trivial (fun _ _ _ => okv (by kernel_rfl))
def zGU (a0 : El zg) : El zg × Unit := ((a0.1, (a0.2.1, (zLk a0.2.2).1)), ())
@[reducible] def zgV : FnD := ⟨[va zg], [.val true (.pr (.d .str) (.pr (.d .str) (.pr (.pr (.o (.d zD)) (.d .int)) (.pr (.o (.d zA)) (.pr (.o (.d zO)) (.pr (.o (.d zD)) (.pr (.o (.d zU)) (.d (.pr .int .int)))))))))], false, fun _ => none, fun a => zGU a.1⟩
def zfP : Con Tryz.prog := yE mo g0 [zf6] [] 37 zgV (fn := Tryz.f37) trivial (fun _ _ _ => okv (by kernel_rfl))
@[reducible] def zBc : LB := ⟨[], ⟨23, [], [(0, vd (.lst zg)), (3, vo zg), (4, vd .int)]⟩, ⟨23, [], []⟩, 0, fun x => (fun (l0 : List (El zg)) (l3 : List (El zg)) (n4 : Int) => (bif decide (n4 < (l0.length : Int)) then (.ix n4 l0 (.ix n4 l3 (.ik (n4 + (1 : Int)) (.v (.go (l0, (List.set l3 (Int.toNat n4) (zGU (zB zg l0 n4)).1), (n4 + (1 : Int)), ())))))) else (.v (.brk (l0, l3, n4, ()))) : Tr (St _ _))) x.1 x.2.1 x.2.2.1⟩
theorem zMY (l0 : List (El zg)) (l3 : List (El zg)) : LB.run zBc (l0, l3, (0 : Int), ()) = .brk (l0, (zc (fun i x (s : (List (El zg))) => (List.set s (Int.toNat (i : Int)) (zGU x).1)) 0 l0 l3), (l0.length : Int), ()) := LB.run_fold (l := zBc) (fun i s => (l0, s, (i : Int), ())) (fun i x s h => by
  simp only [LB.b, zBc, zQ, zR, cond_true, yQ h, zG h]
  rfl) (fun s => by simp only [LB.b, zBc, xo]; rfl)
theorem zSN : SF zBc fun x : List (El zg) × List (El zg) × Int × Unit => (0 ≤ x.2.2.1 ∧ (x.1.length : Int) ≤ (x.2.1.length : Int), (x.1.length : Int) - x.2.2.1) := x5 (by
 rintro ⟨(l0 : List (El zg)), (l3 : List (El zg)), (n4 : Int), ⟨⟩⟩ hI hw
 have _ : (l0.length : Int) ≤ 16777216 := zE (hw.1.1)
 simp [zBc] at hI ⊢
 repeat' first | intro _ | apply And.intro
 all_goals omega)
def zJN (a0 : List (El zg)) : Tr (List (El zg) × Unit) := .ck (0 ≤ (a0.length : Int) ∧ (a0.length : Int) ≤ (a0.length : Int) ∧ (a0.length : Int) ≤ 16777216) (.lp zBc (a0, (List.replicate (a0.length : Int).toNat ((⟨#[]⟩ : ByteArray), ((⟨#[]⟩ : ByteArray), ((([] : List (El zD)), (0 : Int)), (([] : List (El zA)), (([] : List (El zO)), (([] : List (El zD)), (([] : List (El zU)), ((0 : Int), (0 : Int)))))))))), (0 : Int), ()) (fun _ => .bad) (fun t2 => .v (t2.2.1, ())))
def zGp a0 := (zJN a0).val
@[reducible] def zPr : FnD := ⟨[vd (.lst zg)], [vo zg], false, fun _ => none, fun a => zGp a.1⟩
theorem zaI (a0 : List (El zg)) (hw : xH zPr.args (a0, ())) : (zJN a0).ok := by
 unfold zJN
 refine zJ ?_ ?_
 ·have _ : (a0.length : Int) ≤ 16777216 := zE (hw.1.1); have _ : (a0.length : Int) ≤ 16777216 := zE (hw.1.1); have _ : (a0.length : Int) ≤ 16777216 := zE (hw.1.1); have _ : (a0.length : Int) ≤ 16777216 := zE (hw.1.1); first | omega | (simp <;> omega)
 ·refine zJ ?_ ?_
  ·exact zSN _ ⟨by simp, by simp⟩
  ·refine vJ (zMY a0 (List.replicate (a0.length : Int).toNat ((⟨#[]⟩ : ByteArray), ((⟨#[]⟩ : ByteArray), ((([] : List (El zD)), (0 : Int)), (([] : List (El zA)), (([] : List (El zO)), (([] : List (El zD)), (([] : List (El zU)), ((0 : Int), (0 : Int))))))))))) ?_
   try dsimp only
   trivial
def zbB : Con Tryz.prog := yE mo g0 [zfP] [zBc] 20 zPr (fn := Tryz.f20) ⟨lk, trivial⟩ (fun a hw _ => yX (by kernel_rfl) (zaI a.1 hw) rfl)
theorem zb5 (a0 : List (El zg)) : zGp a0 = ((zc (fun i x (s : (List (El zg))) => (List.set s (Int.toNat (i : Int)) (zGU x).1)) 0 a0 (List.replicate (a0.length : Int).toNat ((⟨#[]⟩ : ByteArray), ((⟨#[]⟩ : ByteArray), ((([] : List (El zD)), (0 : Int)), (([] : List (El zA)), (([] : List (El zO)), (([] : List (El zD)), (([] : List (El zU)), ((0 : Int), (0 : Int))))))))))), ()) := by
 simp only [zGp, zJN, zR, zy, zQ]
 rw [zMY, xa] <;> rfl
def zOf (a0 : El zp) : El zp × Unit := (((zIS a0.1).1, ((zGp a0.2.1).1, a0.2.2)), ())
@[reducible] def zOR : FnD := ⟨[va zp], [.val true (.pr (.o (.d zN)) (.pr (.o (.d zg)) (.d (.pr .int .int))))], false, fun _ => none, fun a => zOf a.1⟩
def zeE : Con Tryz.prog := yE mo g0 [zdv, zbB] [] 8 zOR (fn := Tryz.f8) trivial (fun _ _ _ => okv (by kernel_rfl))
def zN7 (a0 : El zK) (a1 : El zK) : Tr (Bool × Unit) := bif (a0.1 != a1.1) then (.v (false, ())) else (bif (a0.2.1 != a1.2.1) then (.v (false, ())) else (bif (!(a0.2.2.toList == a1.2.2.toList)) then (.v (false, ())) else (.v (true, ()))))
def zDP a0 a1 := (zN7 a0 a1).val
@[reducible] def zhw : FnD := ⟨[va zK, va zK], [vd .bool], true, fun _ => none, fun a => zDP a.1 a.2.1⟩
def zNQ : Con Tryz.prog := yE mo g0 [] [] 249 zhw (fn := Tryz.f249) trivial (fun a _ _ => yX (t' := zN7 a.1 a.2.1) (by kernel_rfl) (by simp [zN7]) rfl)
def zNc (a0 : El zj) (a1 : El zj) : Tr (Bool × Unit) := bif (a0.1 != a1.1) then (.v (false, ())) else (bif (!(a0.2.1.toList == a1.2.1.toList)) then (.v (false, ())) else (bif (!(zDP a0.2.2 a1.2.2).1) then (.v (false, ())) else (.v (true, ()))))
def zCA a0 a1 := (zNc a0 a1).val
@[reducible] def zh5 : FnD := ⟨[va zj, va zj], [vd .bool], true, fun _ => none, fun a => zCA a.1 a.2.1⟩
def zQa : Con Tryz.prog := yE mo g0 [zNQ] [] 269 zh5 (fn := Tryz.f269) trivial (fun a _ _ => yX (t' := zNc a.1 a.2.1) (by kernel_rfl) (by simp [zNc]) rfl)
@[reducible] def zCi : LB := ⟨[], ⟨27, [], [(0, vd (.lst zj)), (1, vd (.lst zj)), (5, vd .int)]⟩, ⟨27, [], [(4, vd .bool)]⟩, 0, fun x => (fun (l0 : List (El zj)) (l1 : List (El zj)) (n5 : Int) => (bif decide (n5 < (l0.length : Int)) then (.ix n5 l0 (.ix n5 l1 (bif (!(zCA (zB zj l0 n5) (zB zj l1 n5)).1) then (.v (.ret (false, ()))) else (.ik (n5 + (1 : Int)) (.v (.go (l0, l1, (n5 + (1 : Int)), ()))))))) else (.v (.brk (l0, l1, n5, ()))) : Tr (St _ _))) x.1 x.2.1 x.2.2.1⟩
theorem zV3 (l0 : List (El zj)) (l1 : List (El zj)) : LB.run zCi (l0, l1, (0 : Int), ()) = bif ze (fun i x => bif (!(zCA x (zB zj l1 (i : Int))).1) then false else true) 0 l0 then .brk (l0, l1, (l0.length : Int), ()) else .ret (false, ()) := LB.run_all (l := zCi) (fun i => (l0, l1, (i : Int), ())) (fun i x h => by
  simp only [LB.b, zCi, zi, zQ, zR, cond_true, yQ h, zG h]
  cases (!(zCA x (zB zj l1 (i : Int))).1) <;> rfl) (by simp only [LB.b, zCi, xo]; rfl)
theorem zU8 : SF zCi fun x : List (El zj) × List (El zj) × Int × Unit => (0 ≤ x.2.2.1 ∧ (x.1.length : Int) ≤ (x.2.1.length : Int), (x.1.length : Int) - x.2.2.1) := x5 (by
 rintro ⟨(l0 : List (El zj)), (l1 : List (El zj)), (n5 : Int), ⟨⟩⟩ hI hw
 have _ : (l0.length : Int) ≤ 16777216 := zE (hw.1.1)
 simp [zCi] at hI ⊢
 repeat' first | intro _ | apply And.intro
 all_goals omega)
def zLE (a0 : List (El zj)) (a1 : List (El zj)) : Tr (Bool × Unit) := bif ((a0.length : Int) != (a1.length : Int)) then (.v (false, ())) else (.lp zCi (a0, a1, (0 : Int), ()) (fun r2 => .v (r2.1, ())) (fun _ => .v (true, ())))
def zIh a0 a1 := (zLE a0 a1).val
@[reducible] def zUd : FnD := ⟨[vd (.lst zj), vd (.lst zj)], [vd .bool], true, fun _ => none, fun a => zIh a.1 a.2.1⟩
theorem ze9 (a0 : List (El zj)) (a1 : List (El zj)) (_ : xH zUd.args (a0, a1, ())) : (zLE a0 a1).ok := by
 unfold zLE
 refine zo (fun _ => trivial) (fun h1 => ?_)
 replace h1 := zAg h1
 refine zJ ?_ ?_
 ·exact zU8 _ ⟨by (dsimp only <;> omega), by (dsimp only <;> omega)⟩
 ·simp
def zfA : Con Tryz.prog := yE mo g0 [zQa] [zCi] 268 zUd (fn := Tryz.f268) ⟨lk, trivial⟩ (fun a hw _ => yX (by kernel_rfl) (ze9 a.1 a.2.1 hw) rfl)
theorem zgF (a0 : List (El zj)) (a1 : List (El zj)) : zIh a0 a1 = bif ((a0.length : Int) != (a1.length : Int)) then (false, ()) else (bif ze (fun i x => bif (!(zCA x (zB zj a1 (i : Int))).1) then false else true) 0 a0 then (true, ()) else (false, ())) := by
 simp only [zIh, zLE, zR, zi, zy, zQ]
 rw [zV3, z6] <;> rfl
def zM7 (a0 : El zI) (a1 : El zI) : Tr (Bool × Unit) := bif (!(a0.1.toList == a1.1.toList)) then (.v (false, ())) else (bif (!(zIh a0.2.1 a1.2.1).1) then (.v (false, ())) else (bif (!(a0.2.2 == a1.2.2)) then (.v (false, ())) else (.v (true, ()))))
def zF3 a0 a1 := (zM7 a0 a1).val
@[reducible] def ziq : FnD := ⟨[va zI, va zI], [vd .bool], true, fun _ => none, fun a => zF3 a.1 a.2.1⟩
def zid : Con Tryz.prog := yE mo g0 [zfA] [] 242 ziq (fn := Tryz.f242) trivial (fun a _ _ => yX (t' := zM7 a.1 a.2.1) (by kernel_rfl) (by simp [zM7]) rfl)
@[reducible] def zDD : LB := ⟨[], ⟨27, [], [(0, vd (.lst zI)), (1, vd (.lst zI)), (5, vd .int)]⟩, ⟨27, [], [(4, vd .bool)]⟩, 0, fun x => (fun (l0 : List (El zI)) (l1 : List (El zI)) (n5 : Int) => (bif decide (n5 < (l0.length : Int)) then (.ix n5 l0 (.ix n5 l1 (bif (!(zF3 (zB zI l0 n5) (zB zI l1 n5)).1) then (.v (.ret (false, ()))) else (.ik (n5 + (1 : Int)) (.v (.go (l0, l1, (n5 + (1 : Int)), ()))))))) else (.v (.brk (l0, l1, n5, ()))) : Tr (St _ _))) x.1 x.2.1 x.2.2.1⟩
theorem zW5 (l0 : List (El zI)) (l1 : List (El zI)) : LB.run zDD (l0, l1, (0 : Int), ()) = bif ze (fun i x => bif (!(zF3 x (zB zI l1 (i : Int))).1) then false else true) 0 l0 then .brk (l0, l1, (l0.length : Int), ()) else .ret (false, ()) := LB.run_all (l := zDD) (fun i => (l0, l1, (i : Int), ())) (fun i x h => by
  simp only [LB.b, zDD, zi, zQ, zR, cond_true, yQ h, zG h]
  cases (!(zF3 x (zB zI l1 (i : Int))).1) <;> rfl) (by simp only [LB.b, zDD, xo]; rfl)
theorem zVF : SF zDD fun x : List (El zI) × List (El zI) × Int × Unit => (0 ≤ x.2.2.1 ∧ (x.1.length : Int) ≤ (x.2.1.length : Int), (x.1.length : Int) - x.2.2.1) := x5 (by
 rintro ⟨(l0 : List (El zI)), (l1 : List (El zI)), (n5 : Int), ⟨⟩⟩ hI hw
 have _ : (l0.length : Int) ≤ 16777216 := zE (hw.1.1)
 simp [zDD] at hI ⊢
 repeat' first | intro _ | apply And.intro
 all_goals omega)
def zL7 (a0 : List (El zI)) (a1 : List (El zI)) : Tr (Bool × Unit) := bif ((a0.length : Int) != (a1.length : Int)) then (.v (false, ())) else (.lp zDD (a0, a1, (0 : Int), ()) (fun r2 => .v (r2.1, ())) (fun _ => .v (true, ())))
def zIa a0 a1 := (zL7 a0 a1).val
@[reducible] def zTl : FnD := ⟨[vd (.lst zI), vd (.lst zI)], [vd .bool], true, fun _ => none, fun a => zIa a.1 a.2.1⟩
theorem zeV (a0 : List (El zI)) (a1 : List (El zI)) (_ : xH zTl.args (a0, a1, ())) : (zL7 a0 a1).ok := by
 unfold zL7
 refine zo (fun _ => trivial) (fun h1 => ?_)
 replace h1 := zAg h1
 refine zJ ?_ ?_
 ·exact zVF _ ⟨by (dsimp only <;> omega), by (dsimp only <;> omega)⟩
 ·simp
def zfT : Con Tryz.prog := yE mo g0 [zid] [zDD] 200 zTl (fn := Tryz.f200) ⟨lk, trivial⟩ (fun a hw _ => yX (by kernel_rfl) (zeV a.1 a.2.1 hw) rfl)
theorem zgl (a0 : List (El zI)) (a1 : List (El zI)) : zIa a0 a1 = bif ((a0.length : Int) != (a1.length : Int)) then (false, ()) else (bif ze (fun i x => bif (!(zF3 x (zB zI a1 (i : Int))).1) then false else true) 0 a0 then (true, ()) else (false, ())) := by
 simp only [zIa, zL7, zR, zi, zy, zQ]
 rw [zW5, z6] <;> rfl
def zLP (a0 : El zP) (a1 : El zP) : Tr (Bool × Unit) := bif (a0.1 != a1.1) then (.v (false, ())) else (bif (!(zCA a0.2.1 a1.2.1).1) then (.v (false, ())) else (bif (!(zCA a0.2.2 a1.2.2).1) then (.v (false, ())) else (.v (true, ()))))
def zEM a0 a1 := (zLP a0 a1).val
@[reducible] def zd4 : FnD := ⟨[va zP, va zP], [vd .bool], true, fun _ => none, fun a => zEM a.1 a.2.1⟩
def zet : Con Tryz.prog := yE mo g0 [zQa] [] 243 zd4 (fn := Tryz.f243) trivial (fun a _ _ => yX (t' := zLP a.1 a.2.1) (by kernel_rfl) (by simp [zLP]) rfl)
@[reducible] def zBN : LB := ⟨[], ⟨27, [], [(0, vd (.lst zP)), (1, vd (.lst zP)), (5, vd .int)]⟩, ⟨27, [], [(4, vd .bool)]⟩, 0, fun x => (fun (l0 : List (El zP)) (l1 : List (El zP)) (n5 : Int) => (bif decide (n5 < (l0.length : Int)) then (.ix n5 l0 (.ix n5 l1 (bif (!(zEM (zB zP l0 n5) (zB zP l1 n5)).1) then (.v (.ret (false, ()))) else (.ik (n5 + (1 : Int)) (.v (.go (l0, l1, (n5 + (1 : Int)), ()))))))) else (.v (.brk (l0, l1, n5, ()))) : Tr (St _ _))) x.1 x.2.1 x.2.2.1⟩
theorem zSh (l0 : List (El zP)) (l1 : List (El zP)) : LB.run zBN (l0, l1, (0 : Int), ()) = bif ze (fun i x => bif (!(zEM x (zB zP l1 (i : Int))).1) then false else true) 0 l0 then .brk (l0, l1, (l0.length : Int), ()) else .ret (false, ()) := LB.run_all (l := zBN) (fun i => (l0, l1, (i : Int), ())) (fun i x h => by
  simp only [LB.b, zBN, zi, zQ, zR, cond_true, yQ h, zG h]
  cases (!(zEM x (zB zP l1 (i : Int))).1) <;> rfl) (by simp only [LB.b, zBN, xo]; rfl)
theorem zR7 : SF zBN fun x : List (El zP) × List (El zP) × Int × Unit => (0 ≤ x.2.2.1 ∧ (x.1.length : Int) ≤ (x.2.1.length : Int), (x.1.length : Int) - x.2.2.1) := x5 (by
 rintro ⟨(l0 : List (El zP)), (l1 : List (El zP)), (n5 : Int), ⟨⟩⟩ hI hw
 have _ : (l0.length : Int) ≤ 16777216 := zE (hw.1.1)
 simp [zBN] at hI ⊢
 repeat' first | intro _ | apply And.intro
 all_goals omega)
def zJq (a0 : List (El zP)) (a1 : List (El zP)) : Tr (Bool × Unit) := bif ((a0.length : Int) != (a1.length : Int)) then (.v (false, ())) else (.lp zBN (a0, a1, (0 : Int), ()) (fun r2 => .v (r2.1, ())) (fun _ => .v (true, ())))
def zHU a0 a1 := (zJq a0 a1).val
@[reducible] def zPw : FnD := ⟨[vd (.lst zP), vd (.lst zP)], [vd .bool], true, fun _ => none, fun a => zHU a.1 a.2.1⟩
theorem zac (a0 : List (El zP)) (a1 : List (El zP)) (_ : xH zPw.args (a0, a1, ())) : (zJq a0 a1).ok := by
 unfold zJq
 refine zo (fun _ => trivial) (fun h1 => ?_)
 replace h1 := zAg h1
 refine zJ ?_ ?_
 ·exact zR7 _ ⟨by (dsimp only <;> omega), by (dsimp only <;> omega)⟩
 ·simp
def zaR : Con Tryz.prog := yE mo g0 [zet] [zBN] 201 zPw (fn := Tryz.f201) ⟨lk, trivial⟩ (fun a hw _ => yX (by kernel_rfl) (zac a.1 a.2.1 hw) rfl)
theorem zay (a0 : List (El zP)) (a1 : List (El zP)) : zHU a0 a1 = bif ((a0.length : Int) != (a1.length : Int)) then (false, ()) else (bif ze (fun i x => bif (!(zEM x (zB zP a1 (i : Int))).1) then false else true) 0 a0 then (true, ()) else (false, ())) := by
 simp only [zHU, zJq, zR, zi, zy, zQ]
 rw [zSh, z6] <;> rfl
def zL6 (a0 : El zq) (a1 : El zq) : Tr (Bool × Unit) := bif (!(a0.1.toList == a1.1.toList)) then (.v (false, ())) else (bif (!(zCA a0.2.1 a1.2.1).1) then (.v (false, ())) else (bif (!(zCA a0.2.2 a1.2.2).1) then (.v (false, ())) else (.v (true, ()))))
def zEP a0 a1 := (zL6 a0 a1).val
@[reducible] def zgP : FnD := ⟨[va zq, va zq], [vd .bool], true, fun _ => none, fun a => zEP a.1 a.2.1⟩
def zey : Con Tryz.prog := yE mo g0 [zQa] [] 281 zgP (fn := Tryz.f281) trivial (fun a _ _ => yX (t' := zL6 a.1 a.2.1) (by kernel_rfl) (by simp [zL6]) rfl)
@[reducible] def zBM : LB := ⟨[], ⟨27, [], [(0, vd (.lst zq)), (1, vd (.lst zq)), (5, vd .int)]⟩, ⟨27, [], [(4, vd .bool)]⟩, 0, fun x => (fun (l0 : List (El zq)) (l1 : List (El zq)) (n5 : Int) => (bif decide (n5 < (l0.length : Int)) then (.ix n5 l0 (.ix n5 l1 (bif (!(zEP (zB zq l0 n5) (zB zq l1 n5)).1) then (.v (.ret (false, ()))) else (.ik (n5 + (1 : Int)) (.v (.go (l0, l1, (n5 + (1 : Int)), ()))))))) else (.v (.brk (l0, l1, n5, ()))) : Tr (St _ _))) x.1 x.2.1 x.2.2.1⟩
theorem zSj (l0 : List (El zq)) (l1 : List (El zq)) : LB.run zBM (l0, l1, (0 : Int), ()) = bif ze (fun i x => bif (!(zEP x (zB zq l1 (i : Int))).1) then false else true) 0 l0 then .brk (l0, l1, (l0.length : Int), ()) else .ret (false, ()) := LB.run_all (l := zBM) (fun i => (l0, l1, (i : Int), ())) (fun i x h => by
  simp only [LB.b, zBM, zi, zQ, zR, cond_true, yQ h, zG h]
  cases (!(zEP x (zB zq l1 (i : Int))).1) <;> rfl) (by simp only [LB.b, zBM, xo]; rfl)
theorem zTZ : SF zBM fun x : List (El zq) × List (El zq) × Int × Unit => (0 ≤ x.2.2.1 ∧ (x.1.length : Int) ≤ (x.2.1.length : Int), (x.1.length : Int) - x.2.2.1) := x5 (by
 rintro ⟨(l0 : List (El zq)), (l1 : List (El zq)), (n5 : Int), ⟨⟩⟩ hI hw
 have _ : (l0.length : Int) ≤ 16777216 := zE (hw.1.1)
 simp [zBM] at hI ⊢
 repeat' first | intro _ | apply And.intro
 all_goals omega)
def zJp (a0 : List (El zq)) (a1 : List (El zq)) : Tr (Bool × Unit) := bif ((a0.length : Int) != (a1.length : Int)) then (.v (false, ())) else (.lp zBM (a0, a1, (0 : Int), ()) (fun r2 => .v (r2.1, ())) (fun _ => .v (true, ())))
def zHJ a0 a1 := (zJp a0 a1).val
@[reducible] def zRy : FnD := ⟨[vd (.lst zq), vd (.lst zq)], [vd .bool], true, fun _ => none, fun a => zHJ a.1 a.2.1⟩
theorem zZ9 (a0 : List (El zq)) (a1 : List (El zq)) (_ : xH zRy.args (a0, a1, ())) : (zJp a0 a1).ok := by
 unfold zJp
 refine zo (fun _ => trivial) (fun h1 => ?_)
 replace h1 := zAg h1
 refine zJ ?_ ?_
 ·exact zTZ _ ⟨by (dsimp only <;> omega), by (dsimp only <;> omega)⟩
 ·simp
def zaf : Con Tryz.prog := yE mo g0 [zey] [zBM] 270 zRy (fn := Tryz.f270) ⟨lk, trivial⟩ (fun a hw _ => yX (by kernel_rfl) (zZ9 a.1 a.2.1 hw) rfl)
theorem zcJ (a0 : List (El zq)) (a1 : List (El zq)) : zHJ a0 a1 = bif ((a0.length : Int) != (a1.length : Int)) then (false, ()) else (bif ze (fun i x => bif (!(zEP x (zB zq a1 (i : Int))).1) then false else true) 0 a0 then (true, ()) else (false, ())) := by
 simp only [zHJ, zJp, zR, zi, zy, zQ]
 rw [zSj, z6] <;> rfl
def zNC (a0 : El z5) (a1 : El z5) : Tr (Bool × Unit) := bif (a0.1 != a1.1) then (.v (false, ())) else (bif (!(a0.2.1.toList == a1.2.1.toList)) then (.v (false, ())) else (bif (!(zHJ a0.2.2.1 a1.2.2.1).1) then (.v (false, ())) else (bif (a0.2.2.2.1 != a1.2.2.2.1) then (.v (false, ())) else (bif (!(a0.2.2.2.2.toList == a1.2.2.2.2.toList)) then (.v (false, ())) else (.v (true, ()))))))
def zFx a0 a1 := (zNC a0 a1).val
@[reducible] def zhp : FnD := ⟨[va z5, va z5], [vd .bool], true, fun _ => none, fun a => zFx a.1 a.2.1⟩
def zjR : Con Tryz.prog := yE mo g0 [zaf] [] 244 zhp (fn := Tryz.f244) trivial (fun a _ _ => yX (t' := zNC a.1 a.2.1) (by kernel_rfl) (by simp [zNC]) rfl)
@[reducible] def zDC : LB := ⟨[], ⟨27, [], [(0, vd (.lst z5)), (1, vd (.lst z5)), (5, vd .int)]⟩, ⟨27, [], [(4, vd .bool)]⟩, 0, fun x => (fun (l0 : List (El z5)) (l1 : List (El z5)) (n5 : Int) => (bif decide (n5 < (l0.length : Int)) then (.ix n5 l0 (.ix n5 l1 (bif (!(zFx (zB z5 l0 n5) (zB z5 l1 n5)).1) then (.v (.ret (false, ()))) else (.ik (n5 + (1 : Int)) (.v (.go (l0, l1, (n5 + (1 : Int)), ()))))))) else (.v (.brk (l0, l1, n5, ()))) : Tr (St _ _))) x.1 x.2.1 x.2.2.1⟩
theorem zVx (l0 : List (El z5)) (l1 : List (El z5)) : LB.run zDC (l0, l1, (0 : Int), ()) = bif ze (fun i x => bif (!(zFx x (zB z5 l1 (i : Int))).1) then false else true) 0 l0 then .brk (l0, l1, (l0.length : Int), ()) else .ret (false, ()) := LB.run_all (l := zDC) (fun i => (l0, l1, (i : Int), ())) (fun i x h => by
  simp only [LB.b, zDC, zi, zQ, zR, cond_true, yQ h, zG h]
  cases (!(zFx x (zB z5 l1 (i : Int))).1) <;> rfl) (by simp only [LB.b, zDC, xo]; rfl)
theorem zWA : SF zDC fun x : List (El z5) × List (El z5) × Int × Unit => (0 ≤ x.2.2.1 ∧ (x.1.length : Int) ≤ (x.2.1.length : Int), (x.1.length : Int) - x.2.2.1) := x5 (by
 rintro ⟨(l0 : List (El z5)), (l1 : List (El z5)), (n5 : Int), ⟨⟩⟩ hI hw
 have _ : (l0.length : Int) ≤ 16777216 := zE (hw.1.1)
 simp [zDC] at hI ⊢
 repeat' first | intro _ | apply And.intro
 all_goals omega)
def zL3 (a0 : List (El z5)) (a1 : List (El z5)) : Tr (Bool × Unit) := bif ((a0.length : Int) != (a1.length : Int)) then (.v (false, ())) else (.lp zDC (a0, a1, (0 : Int), ()) (fun r2 => .v (r2.1, ())) (fun _ => .v (true, ())))
def zIR a0 a1 := (zL3 a0 a1).val
@[reducible] def zUD : FnD := ⟨[vd (.lst z5), vd (.lst z5)], [vd .bool], true, fun _ => none, fun a => zIR a.1 a.2.1⟩
theorem zel (a0 : List (El z5)) (a1 : List (El z5)) (_ : xH zUD.args (a0, a1, ())) : (zL3 a0 a1).ok := by
 unfold zL3
 refine zo (fun _ => trivial) (fun h1 => ?_)
 replace h1 := zAg h1
 refine zJ ?_ ?_
 ·exact zWA _ ⟨by (dsimp only <;> omega), by (dsimp only <;> omega)⟩
 ·simp
def zf9 : Con Tryz.prog := yE mo g0 [zjR] [zDC] 202 zUD (fn := Tryz.f202) ⟨lk, trivial⟩ (fun a hw _ => yX (by kernel_rfl) (zel a.1 a.2.1 hw) rfl)
theorem zdR (a0 : List (El z5)) (a1 : List (El z5)) : zIR a0 a1 = bif ((a0.length : Int) != (a1.length : Int)) then (false, ()) else (bif ze (fun i x => bif (!(zFx x (zB z5 a1 (i : Int))).1) then false else true) 0 a0 then (true, ()) else (false, ())) := by
 simp only [zIR, zL3, zR, zi, zy, zQ]
 rw [zVx, z6] <;> rfl
def zLi (a0 : El zC) (a1 : El zC) : Tr (Bool × Unit) := bif (!(a0.1.toList == a1.1.toList)) then (.v (false, ())) else (bif (a0.2.1 != a1.2.1) then (.v (false, ())) else (bif (!(zIa a0.2.2.1 a1.2.2.1).1) then (.v (false, ())) else (bif (!(zHU a0.2.2.2.1 a1.2.2.2.1).1) then (.v (false, ())) else (bif (!(zIR a0.2.2.2.2 a1.2.2.2.2).1) then (.v (false, ())) else (.v (true, ()))))))
def zD2 a0 a1 := (zLi a0 a1).val
@[reducible] def zfD : FnD := ⟨[va zC, va zC], [vd .bool], true, fun _ => none, fun a => zD2 a.1 a.2.1⟩
def zdG : Con Tryz.prog := yE mo g0 [zfT, zaR, zf9] [] 144 zfD (fn := Tryz.f144) trivial (fun a _ _ => yX (t' := zLi a.1 a.2.1) (by kernel_rfl) (by simp [zLi]) rfl)
@[reducible] def zBS : LB := ⟨[], ⟨27, [], [(0, vd (.lst zC)), (1, vd (.lst zC)), (5, vd .int)]⟩, ⟨27, [], [(4, vd .bool)]⟩, 0, fun x => (fun (l0 : List (El zC)) (l1 : List (El zC)) (n5 : Int) => (bif decide (n5 < (l0.length : Int)) then (.ix n5 l0 (.ix n5 l1 (bif (!(zD2 (zB zC l0 n5) (zB zC l1 n5)).1) then (.v (.ret (false, ()))) else (.ik (n5 + (1 : Int)) (.v (.go (l0, l1, (n5 + (1 : Int)), ()))))))) else (.v (.brk (l0, l1, n5, ()))) : Tr (St _ _))) x.1 x.2.1 x.2.2.1⟩
theorem zST (l0 : List (El zC)) (l1 : List (El zC)) : LB.run zBS (l0, l1, (0 : Int), ()) = bif ze (fun i x => bif (!(zD2 x (zB zC l1 (i : Int))).1) then false else true) 0 l0 then .brk (l0, l1, (l0.length : Int), ()) else .ret (false, ()) := LB.run_all (l := zBS) (fun i => (l0, l1, (i : Int), ())) (fun i x h => by
  simp only [LB.b, zBS, zi, zQ, zR, cond_true, yQ h, zG h]
  cases (!(zD2 x (zB zC l1 (i : Int))).1) <;> rfl) (by simp only [LB.b, zBS, xo]; rfl)
theorem zSe : SF zBS fun x : List (El zC) × List (El zC) × Int × Unit => (0 ≤ x.2.2.1 ∧ (x.1.length : Int) ≤ (x.2.1.length : Int), (x.1.length : Int) - x.2.2.1) := x5 (by
 rintro ⟨(l0 : List (El zC)), (l1 : List (El zC)), (n5 : Int), ⟨⟩⟩ hI hw
 have _ : (l0.length : Int) ≤ 16777216 := zE (hw.1.1)
 simp [zBS] at hI ⊢
 repeat' first | intro _ | apply And.intro
 all_goals omega)
def zJt (a0 : List (El zC)) (a1 : List (El zC)) : Tr (Bool × Unit) := bif ((a0.length : Int) != (a1.length : Int)) then (.v (false, ())) else (.lp zBS (a0, a1, (0 : Int), ()) (fun r2 => .v (r2.1, ())) (fun _ => .v (true, ())))
def zGz a0 a1 := (zJt a0 a1).val
@[reducible] def zRg : FnD := ⟨[vd (.lst zC), vd (.lst zC)], [vd .bool], true, fun _ => none, fun a => zGz a.1 a.2.1⟩
theorem zZi (a0 : List (El zC)) (a1 : List (El zC)) (_ : xH zRg.args (a0, a1, ())) : (zJt a0 a1).ok := by
 unfold zJt
 refine zo (fun _ => trivial) (fun h1 => ?_)
 replace h1 := zAg h1
 refine zJ ?_ ?_
 ·exact zSe _ ⟨by (dsimp only <;> omega), by (dsimp only <;> omega)⟩
 ·simp
def zbh : Con Tryz.prog := yE mo g0 [zdG] [zBS] 88 zRg (fn := Tryz.f88) ⟨lk, trivial⟩ (fun a hw _ => yX (by kernel_rfl) (zZi a.1 a.2.1 hw) rfl)
theorem zZd (a0 : List (El zC)) (a1 : List (El zC)) : zGz a0 a1 = bif ((a0.length : Int) != (a1.length : Int)) then (false, ()) else (bif ze (fun i x => bif (!(zD2 x (zB zC a1 (i : Int))).1) then false else true) 0 a0 then (true, ()) else (false, ())) := by
 simp only [zGz, zJt, zR, zi, zy, zQ]
 rw [zST, z6] <;> rfl
def zM4 (a0 : El zN) (a1 : El zN) : Tr (Bool × Unit) := bif (!(a0.1.toList == a1.1.toList)) then (.v (false, ())) else (bif (!(zGz a0.2 a1.2).1) then (.v (false, ())) else (.v (true, ())))
def zFp a0 a1 := (zM4 a0 a1).val
@[reducible] def zi1 : FnD := ⟨[va zN, va zN], [vd .bool], true, fun _ => none, fun a => zFp a.1 a.2.1⟩
def zhO : Con Tryz.prog := yE mo g0 [zbh] [] 48 zi1 (fn := Tryz.f48) trivial (fun a _ _ => yX (t' := zM4 a.1 a.2.1) (by kernel_rfl) (by simp [zM4]) rfl)
@[reducible] def zCd : LB := ⟨[], ⟨27, [], [(0, vd (.lst zN)), (1, vd (.lst zN)), (5, vd .int)]⟩, ⟨27, [], [(4, vd .bool)]⟩, 0, fun x => (fun (l0 : List (El zN)) (l1 : List (El zN)) (n5 : Int) => (bif decide (n5 < (l0.length : Int)) then (.ix n5 l0 (.ix n5 l1 (bif (!(zFp (zB zN l0 n5) (zB zN l1 n5)).1) then (.v (.ret (false, ()))) else (.ik (n5 + (1 : Int)) (.v (.go (l0, l1, (n5 + (1 : Int)), ()))))))) else (.v (.brk (l0, l1, n5, ()))) : Tr (St _ _))) x.1 x.2.1 x.2.2.1⟩
theorem zVz (l0 : List (El zN)) (l1 : List (El zN)) : LB.run zCd (l0, l1, (0 : Int), ()) = bif ze (fun i x => bif (!(zFp x (zB zN l1 (i : Int))).1) then false else true) 0 l0 then .brk (l0, l1, (l0.length : Int), ()) else .ret (false, ()) := LB.run_all (l := zCd) (fun i => (l0, l1, (i : Int), ())) (fun i x h => by
  simp only [LB.b, zCd, zi, zQ, zR, cond_true, yQ h, zG h]
  cases (!(zFp x (zB zN l1 (i : Int))).1) <;> rfl) (by simp only [LB.b, zCd, xo]; rfl)
theorem zV7 : SF zCd fun x : List (El zN) × List (El zN) × Int × Unit => (0 ≤ x.2.2.1 ∧ (x.1.length : Int) ≤ (x.2.1.length : Int), (x.1.length : Int) - x.2.2.1) := x5 (by
 rintro ⟨(l0 : List (El zN)), (l1 : List (El zN)), (n5 : Int), ⟨⟩⟩ hI hw
 have _ : (l0.length : Int) ≤ 16777216 := zE (hw.1.1)
 simp [zCd] at hI ⊢
 repeat' first | intro _ | apply And.intro
 all_goals omega)
def zLr (a0 : List (El zN)) (a1 : List (El zN)) : Tr (Bool × Unit) := bif ((a0.length : Int) != (a1.length : Int)) then (.v (false, ())) else (.lp zCd (a0, a1, (0 : Int), ()) (fun r2 => .v (r2.1, ())) (fun _ => .v (true, ())))
def zIY a0 a1 := (zLr a0 a1).val
@[reducible] def zUG : FnD := ⟨[vd (.lst zN), vd (.lst zN)], [vd .bool], true, fun _ => none, fun a => zIY a.1 a.2.1⟩
theorem zdd (a0 : List (El zN)) (a1 : List (El zN)) (_ : xH zUG.args (a0, a1, ())) : (zLr a0 a1).ok := by
 unfold zLr
 refine zo (fun _ => trivial) (fun h1 => ?_)
 replace h1 := zAg h1
 refine zJ ?_ ?_
 ·exact zV7 _ ⟨by (dsimp only <;> omega), by (dsimp only <;> omega)⟩
 ·simp
def zgA : Con Tryz.prog := yE mo g0 [zhO] [zCd] 23 zUG (fn := Tryz.f23) ⟨lk, trivial⟩ (fun a hw _ => yX (by kernel_rfl) (zdd a.1 a.2.1 hw) rfl)
theorem zee (a0 : List (El zN)) (a1 : List (El zN)) : zIY a0 a1 = bif ((a0.length : Int) != (a1.length : Int)) then (false, ()) else (bif ze (fun i x => bif (!(zFp x (zB zN a1 (i : Int))).1) then false else true) 0 a0 then (true, ()) else (false, ())) := by
 simp only [zIY, zLr, zR, zi, zy, zQ]
 rw [zVz, z6] <;> rfl
@[reducible] def zCw : LB := ⟨[], ⟨27, [], [(0, vd (.lst zK)), (1, vd (.lst zK)), (5, vd .int)]⟩, ⟨27, [], [(4, vd .bool)]⟩, 0, fun x => (fun (l0 : List (El zK)) (l1 : List (El zK)) (n5 : Int) => (bif decide (n5 < (l0.length : Int)) then (.ix n5 l0 (.ix n5 l1 (bif (!(zDP (zB zK l0 n5) (zB zK l1 n5)).1) then (.v (.ret (false, ()))) else (.ik (n5 + (1 : Int)) (.v (.go (l0, l1, (n5 + (1 : Int)), ()))))))) else (.v (.brk (l0, l1, n5, ()))) : Tr (St _ _))) x.1 x.2.1 x.2.2.1⟩
theorem zW1 (l0 : List (El zK)) (l1 : List (El zK)) : LB.run zCw (l0, l1, (0 : Int), ()) = bif ze (fun i x => bif (!(zDP x (zB zK l1 (i : Int))).1) then false else true) 0 l0 then .brk (l0, l1, (l0.length : Int), ()) else .ret (false, ()) := LB.run_all (l := zCw) (fun i => (l0, l1, (i : Int), ())) (fun i x h => by
  simp only [LB.b, zCw, zi, zQ, zR, cond_true, yQ h, zG h]
  cases (!(zDP x (zB zK l1 (i : Int))).1) <;> rfl) (by simp only [LB.b, zCw, xo]; rfl)
theorem zWH : SF zCw fun x : List (El zK) × List (El zK) × Int × Unit => (0 ≤ x.2.2.1 ∧ (x.1.length : Int) ≤ (x.2.1.length : Int), (x.1.length : Int) - x.2.2.1) := x5 (by
 rintro ⟨(l0 : List (El zK)), (l1 : List (El zK)), (n5 : Int), ⟨⟩⟩ hI hw
 have _ : (l0.length : Int) ≤ 16777216 := zE (hw.1.1)
 simp [zCw] at hI ⊢
 repeat' first | intro _ | apply And.intro
 all_goals omega)
def zK7 (a0 : List (El zK)) (a1 : List (El zK)) : Tr (Bool × Unit) := bif ((a0.length : Int) != (a1.length : Int)) then (.v (false, ())) else (.lp zCw (a0, a1, (0 : Int), ()) (fun r2 => .v (r2.1, ())) (fun _ => .v (true, ())))
def zIs a0 a1 := (zK7 a0 a1).val
@[reducible] def zUk : FnD := ⟨[vd (.lst zK), vd (.lst zK)], [vd .bool], true, fun _ => none, fun a => zIs a.1 a.2.1⟩
theorem zds (a0 : List (El zK)) (a1 : List (El zK)) (_ : xH zUk.args (a0, a1, ())) : (zK7 a0 a1).ok := by
 unfold zK7
 refine zo (fun _ => trivial) (fun h1 => ?_)
 replace h1 := zAg h1
 refine zJ ?_ ?_
 ·exact zWH _ ⟨by (dsimp only <;> omega), by (dsimp only <;> omega)⟩
 ·simp
def zgR : Con Tryz.prog := yE mo g0 [zNQ] [zCw] 272 zUk (fn := Tryz.f272) ⟨lk, trivial⟩ (fun a hw _ => yX (by kernel_rfl) (zds a.1 a.2.1 hw) rfl)
theorem zdk (a0 : List (El zK)) (a1 : List (El zK)) : zIs a0 a1 = bif ((a0.length : Int) != (a1.length : Int)) then (false, ()) else (bif ze (fun i x => bif (!(zDP x (zB zK a1 (i : Int))).1) then false else true) 0 a0 then (true, ()) else (false, ())) := by
 simp only [zIs, zK7, zR, zi, zy, zQ]
 rw [zW1, z6] <;> rfl
def zK4 (a0 : El zr) (a1 : El zr) : Tr (Bool × Unit) := bif (!(a0.1.toList == a1.1.toList)) then (.v (false, ())) else (bif (!(zIs a0.2 a1.2).1) then (.v (false, ())) else (.v (true, ())))
def zFG a0 a1 := (zK4 a0 a1).val
@[reducible] def zf5 : FnD := ⟨[va zr, va zr], [vd .bool], true, fun _ => none, fun a => zFG a.1 a.2.1⟩
def zKx : Con Tryz.prog := yE mo g0 [zgR] [] 248 zf5 (fn := Tryz.f248) trivial (fun a _ _ => yX (t' := zK4 a.1 a.2.1) (by kernel_rfl) (by simp [zK4]) rfl)
def zLg (a0 : El zD) (a1 : El zD) : Tr (Bool × Unit) := bif (a0.1 != a1.1) then (.v (false, ())) else (bif (!(zFG a0.2 a1.2).1) then (.v (false, ())) else (.v (true, ())))
def zEG a0 a1 := (zLg a0 a1).val
@[reducible] def zeK : FnD := ⟨[va zD, va zD], [vd .bool], true, fun _ => none, fun a => zEG a.1 a.2.1⟩
def zdL : Con Tryz.prog := yE mo g0 [zKx] [] 245 zeK (fn := Tryz.f245) trivial (fun a _ _ => yX (t' := zLg a.1 a.2.1) (by kernel_rfl) (by simp [zLg]) rfl)
@[reducible] def zBY : LB := ⟨[], ⟨27, [], [(0, vd (.lst zD)), (1, vd (.lst zD)), (5, vd .int)]⟩, ⟨27, [], [(4, vd .bool)]⟩, 0, fun x => (fun (l0 : List (El zD)) (l1 : List (El zD)) (n5 : Int) => (bif decide (n5 < (l0.length : Int)) then (.ix n5 l0 (.ix n5 l1 (bif (!(zEG (zB zD l0 n5) (zB zD l1 n5)).1) then (.v (.ret (false, ()))) else (.ik (n5 + (1 : Int)) (.v (.go (l0, l1, (n5 + (1 : Int)), ()))))))) else (.v (.brk (l0, l1, n5, ()))) : Tr (St _ _))) x.1 x.2.1 x.2.2.1⟩
theorem zSi (l0 : List (El zD)) (l1 : List (El zD)) : LB.run zBY (l0, l1, (0 : Int), ()) = bif ze (fun i x => bif (!(zEG x (zB zD l1 (i : Int))).1) then false else true) 0 l0 then .brk (l0, l1, (l0.length : Int), ()) else .ret (false, ()) := LB.run_all (l := zBY) (fun i => (l0, l1, (i : Int), ())) (fun i x h => by
  simp only [LB.b, zBY, zi, zQ, zR, cond_true, yQ h, zG h]
  cases (!(zEG x (zB zD l1 (i : Int))).1) <;> rfl) (by simp only [LB.b, zBY, xo]; rfl)
theorem zTD : SF zBY fun x : List (El zD) × List (El zD) × Int × Unit => (0 ≤ x.2.2.1 ∧ (x.1.length : Int) ≤ (x.2.1.length : Int), (x.1.length : Int) - x.2.2.1) := x5 (by
 rintro ⟨(l0 : List (El zD)), (l1 : List (El zD)), (n5 : Int), ⟨⟩⟩ hI hw
 have _ : (l0.length : Int) ≤ 16777216 := zE (hw.1.1)
 simp [zBY] at hI ⊢
 repeat' first | intro _ | apply And.intro
 all_goals omega)
def zI4 (a0 : List (El zD)) (a1 : List (El zD)) : Tr (Bool × Unit) := bif ((a0.length : Int) != (a1.length : Int)) then (.v (false, ())) else (.lp zBY (a0, a1, (0 : Int), ()) (fun r2 => .v (r2.1, ())) (fun _ => .v (true, ())))
def zHA a0 a1 := (zI4 a0 a1).val
@[reducible] def zRF : FnD := ⟨[vd (.lst zD), vd (.lst zD)], [vd .bool], true, fun _ => none, fun a => zHA a.1 a.2.1⟩
theorem zbv (a0 : List (El zD)) (a1 : List (El zD)) (_ : xH zRF.args (a0, a1, ())) : (zI4 a0 a1).ok := by
 unfold zI4
 refine zo (fun _ => trivial) (fun h1 => ?_)
 replace h1 := zAg h1
 refine zJ ?_ ?_
 ·exact zTD _ ⟨by (dsimp only <;> omega), by (dsimp only <;> omega)⟩
 ·simp
def zcL : Con Tryz.prog := yE mo g0 [zdL] [zBY] 203 zRF (fn := Tryz.f203) ⟨lk, trivial⟩ (fun a hw _ => yX (by kernel_rfl) (zbv a.1 a.2.1 hw) rfl)
theorem za9 (a0 : List (El zD)) (a1 : List (El zD)) : zHA a0 a1 = bif ((a0.length : Int) != (a1.length : Int)) then (false, ()) else (bif ze (fun i x => bif (!(zEG x (zB zD a1 (i : Int))).1) then false else true) 0 a0 then (true, ()) else (false, ())) := by
 simp only [zHA, zI4, zR, zi, zy, zQ]
 rw [zSi, z6] <;> rfl
def zJn (a0 : El zH) (a1 : El zH) : Tr (Bool × Unit) := bif (!(zHA a0.1 a1.1).1) then (.v (false, ())) else (bif (a0.2 != a1.2) then (.v (false, ())) else (.v (true, ())))
def zKD a0 a1 := (zJn a0 a1).val
@[reducible] def zZm : FnD := ⟨[va zH, va zH], [vd .bool], true, fun _ => none, fun a => zKD a.1 a.2.1⟩
def zce : Con Tryz.prog := yE mo g0 [zcL] [] 145 zZm (fn := Tryz.f145) trivial (fun a _ _ => yX (t' := zJn a.1 a.2.1) (by kernel_rfl) (by simp [zJn]) rfl)
end
end Go.Proofs.YtipbfgknaihifaaGreat
