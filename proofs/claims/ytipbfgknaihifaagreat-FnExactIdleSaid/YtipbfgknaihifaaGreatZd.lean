/- Parts of a proof. -/
import Derived.Test.YtipbfgknaihifaaGreatZc
import Derived.Test.YtipbfgknaihifaaGreatProg
import Derived.Eval
namespace Go.Proofs.YtipbfgknaihifaaGreat
open Go.RowKit
noncomputable section
theorem mo : Tryz.prog.follows .mixedOrders = true := by kernel_rfl
@[reducible] def zEK : LB := ⟨[], ⟨18, [], [(0, vd (.lst .str)), (1, vd .str), (5, vd .int)]⟩, ⟨18, [], [(4, vd .bool)]⟩, 0, fun x => (fun (l0 : List (El .str)) (s1 : ByteArray) (n5 : Int) => (bif decide (n5 < (l0.length : Int)) then (.ix n5 l0 (bif ((zB .str l0 n5).toList == s1.toList) then (.v (.ret (true, ()))) else (.ik (n5 + (1 : Int)) (.v (.go (l0, s1, (n5 + (1 : Int)), ())))))) else (.v (.brk (l0, s1, n5, ()))) : Tr (St _ _))) x.1 x.2.1 x.2.2.1⟩
theorem zYP (l0 : List (El .str)) (s1 : ByteArray) : LB.run zEK (l0, s1, (0 : Int), ()) = bif zd (fun _ x => bif (x.toList == s1.toList) then false else true) 0 l0 then .brk (l0, s1, (l0.length : Int), ()) else .ret (true, ()) := LB.run_all (l := zEK) (fun i => (l0, s1, (i : Int), ())) (fun i x h => by
  simp only [LB.b, zEK, zi, zQ, zR, cond_true, yM h, zG h]
  cases (x.toList == s1.toList) <;> rfl) (by simp only [LB.b, zEK, xl]; rfl)
theorem zYJ : SF zEK fun x : List (El .str) × ByteArray × Int × Unit => (0 ≤ x.2.2.1, (x.1.length : Int) - x.2.2.1) := xz (by
 rintro ⟨(l0 : List (El .str)), (s1 : ByteArray), (n5 : Int), ⟨⟩⟩ hI hw
 have _ : (l0.length : Int) ≤ 16777216 := zE (hw.1.1)
 simp [zEK] at hI ⊢
 repeat' first | intro _ | apply And.intro
 all_goals omega)
def zN7 (a0 : List (El .str)) (a1 : ByteArray) : Tr (Bool × Unit) := .lp zEK (a0, a1, (0 : Int), ()) (fun r1 => .v (r1.1, ())) (fun _ => .v (false, ()))
def vx a0 a1 := (zN7 a0 a1).val
@[reducible] def zZs : FnD := ⟨[vd (.lst .str), vd .str], [vd .bool], true, fun _ => none, fun a => vx a.1 a.2.1⟩
theorem zjj (a0 : List (El .str)) (a1 : ByteArray) (_ : xG zZs.args (a0, a1, ())) : (zN7 a0 a1).ok := by
 unfold zN7
 refine zI ?_ ?_
 ·exact zYJ _ (by (dsimp only <;> omega))
 ·simp
def zQE : Con Tryz.prog := yD mo g0 [] [zEK] 159 zZs (fn := Tryz.f159) ⟨lk, trivial⟩ (fun a hw _ => yT (by kernel_rfl) (zjj a.1 a.2.1 hw) rfl)
theorem zio (a0 : List (El .str)) (a1 : ByteArray) : vx a0 a1 = bif zd (fun _ x => bif (x.toList == a1.toList) then false else true) 0 a0 then (false, ()) else (true, ()) := by
 simp only [vx, zN7, zR, zx, zQ]
 rw [zYP, z7] <;> rfl
@[reducible] def vV : LB := ⟨[], ⟨41, [.d zJ], [(1, .pt 0 0), (3, vo .str), (4, vd .int)]⟩, ⟨41, [], []⟩, 0, fun x => (fun (w0 : El zJ) (l3 : List (El .str)) (n4 : Int) => (bif decide (n4 < (w0.2.1.length : Int)) then (.ix n4 w0.2.1 (bif ((zB zo w0.2.1 n4).1 == (1 : Int)) then (.ix n4 w0.2.1 (bif (!(vx l3 (zB zo w0.2.1 n4).2.1).1) then (.ix n4 w0.2.1 (.ck (((l3.length + [(zB zo w0.2.1 n4).2.1].length : Nat) : Int) ≤ 16777216) (.ik (n4 + (1 : Int)) (.v (.go (w0, (), (l3 ++ [(zB zo w0.2.1 n4).2.1]), (n4 + (1 : Int)), ())))))) else (.ik (n4 + (1 : Int)) (.v (.go (w0, (), l3, (n4 + (1 : Int)), ())))))) else (.ik (n4 + (1 : Int)) (.v (.go (w0, (), l3, (n4 + (1 : Int)), ())))))) else (.v (.brk (w0, (), l3, n4, ()))) : Tr (St _ _))) x.1 x.2.2.1 x.2.2.2.1⟩
theorem zWS (w0 : El zJ) (l3 : List (El .str)) : LB.run vV (w0, (), l3, (0 : Int), ()) = .brk (w0, (), (zg (fun _ x (s : (List (El .str))) => bif (x.1 == (1 : Int)) then (bif (!(vx s x.2.1).1) then (s ++ [x.2.1]) else s) else s) 0 w0.2.1 l3), (w0.2.1.length : Int), ()) := LB.run_fold (l := vV) (fun i s => (w0, (), s, (i : Int), ())) (fun i x s h => by
  simp only [LB.b, vV, zi, zQ, zR, cond_true, yM h, zG h]
  cases (x.1 == (1 : Int))
  ·rfl
  ·cases (!(vx s x.2.1).1) <;> rfl) (fun s => by simp only [LB.b, vV, xl]; rfl)
theorem zNl (w00 : El zJ) (l30 : List (El .str)) (n40 : Int) (p0 : (l30.length : Int) ≤ n40 ∧ n40 ≤ (w00.2.1.length : Int)) : (LB.run vV (w00, (), l30, n40, ())).all (fun _ => False) (fun (w0, _, l3, n4, _) => w00 = w0 ∧ ((l3.length : Int) ≤ n4 ∧ n4 ≤ (w0.2.1.length : Int))) (fun (w0, _, l3, n4, _) => w00 = w0 ∧ ((l3.length : Int) ≤ n4 ∧ n4 ≤ (w0.2.1.length : Int))) := by
 have H : ∀ (w0 : El zJ) (l3 : List (El .str)) (n4 : Int), (w00 = w0 ∧ ((l3.length : Int) ≤ n4 ∧ n4 ≤ (w0.2.1.length : Int))) → St.all (fun _ => False) (fun (w0, _, l3, n4, _) => w00 = w0 ∧ ((l3.length : Int) ≤ n4 ∧ n4 ≤ (w0.2.1.length : Int))) (fun (w0, _, l3, n4, _) => w00 = w0 ∧ ((l3.length : Int) ≤ n4 ∧ n4 ≤ (w0.2.1.length : Int))) (vV.b (w0, (), l3, n4, ())) := by
  intro w0 l3 n4 hI
  obtain ⟨eq0, eq1⟩ := hI
  simp only [LB.b, vV, zi, zQ, zR]
  refine zj (fun h4 => ?_) (fun h4 => ?_)
  ·replace h4 : n4 < (w0.2.1.length : Int) := of_decide_eq_true h4
   refine zj (fun h5 => ?_) (fun h5 => ?_)
   ·replace h5 := zIe h5
    refine zj (fun h6 => ?_) (fun h6 => ?_)
    ·exact yg (show w00 = w0 ∧ (((l3 ++ [(zB zo w0.2.1 n4).2.1]).length : Int) ≤ (n4 + (1 : Int)) ∧ (n4 + (1 : Int)) ≤ (w0.2.1.length : Int)) from ⟨eq0, by first | omega | rfl | assumption | (simp <;> omega)⟩)
    ·exact yg (show w00 = w0 ∧ ((l3.length : Int) ≤ (n4 + (1 : Int)) ∧ (n4 + (1 : Int)) ≤ (w0.2.1.length : Int)) from ⟨eq0, by first | omega | rfl | assumption | (simp <;> omega)⟩)
   ·replace h5 := zIw h5
    exact yg (show w00 = w0 ∧ ((l3.length : Int) ≤ (n4 + (1 : Int)) ∧ (n4 + (1 : Int)) ≤ (w0.2.1.length : Int)) from ⟨eq0, by first | omega | rfl | assumption | (simp <;> omega)⟩)
  ·replace h4 : ¬ (n4 < (w0.2.1.length : Int)) := of_decide_eq_false h4
   exact zCd (show w00 = w0 ∧ ((l3.length : Int) ≤ n4 ∧ n4 ≤ (w0.2.1.length : Int)) from ⟨eq0, by first | omega | rfl | assumption | (simp <;> omega)⟩)
 exact LB.post (l := vV) (A := fun _ => False) (fun (w0, _, l3, n4, _) => w00 = w0 ∧ ((l3.length : Int) ≤ n4 ∧ n4 ≤ (w0.2.1.length : Int))) (fun ⟨w0, ⟨⟩, l3, n4, ⟨⟩⟩ hx => H w0 l3 n4 hx) ⟨rfl, p0⟩
theorem zWD : SF vV fun x : El zJ × Unit × List (El .str) × Int × Unit => (0 ≤ x.2.2.2.1 ∧ (x.2.2.1.length : Int) ≤ x.2.2.2.1, (x.1.2.1.length : Int) - x.2.2.2.1) := xz (by
 rintro ⟨(w0 : El zJ), ⟨⟩, (l3 : List (El .str)), (n4 : Int), ⟨⟩⟩ hI hw
 have _ : (w0.2.1.length : Int) ≤ 16777216 := zE (hw.1.2.1.1)
 have _ : (l3.length : Int) ≤ 16777216 := zE (hw.2.2.1.1)
 simp [vV] at hI ⊢
 repeat' first | intro _ | apply And.intro
 all_goals omega)
def zI6 (a0 : El zJ) : Tr (List (El .str) × Unit) := .lp vV (a0, (), ([] : List (El .str)), (0 : Int), ()) (fun _ => .bad) (fun t2 => .v (t2.2.2.1, ()))
def xj a0 := (zI6 a0).val
@[reducible] def zUB : FnD := ⟨[va zJ], [vo .str], true, fun _ => none, fun a => xj a.1⟩
theorem zeS (a0 : El zJ) (_ : xG zUB.args (a0, ())) : (zI6 a0).ok := by
 unfold zI6
 refine zI ?_ ?_
 ·exact zWD _ ⟨by simp, by simp⟩
 ·refine zIQ (A' := fun _ => False) (B' := fun (t2w0, _, t2l3, t2n4, _) => a0 = t2w0 ∧ ((t2l3.length : Int) ≤ t2n4 ∧ t2n4 ≤ (t2w0.2.1.length : Int))) (zNl a0 ([] : List (El .str)) (0 : Int) (by (first | omega | rfl | assumption | (simp <;> omega) | (refine ⟨?_, ?_, ?_⟩ <;> first | omega | rfl | (simp <;> omega)) | (refine ⟨?_, ?_⟩ <;> first | omega | rfl | (simp <;> omega))))) (fun _ h => h.elim) (fun t ht => ?_)
  obtain ⟨t2w0, ⟨⟩, t2l3, t2n4, ⟨⟩⟩ := t
  dsimp only
  obtain ⟨rfl, hth7⟩ := ht
  obtain ⟨t2n4, rfl⟩ : ∃ y : Int, y = t2n4 := ⟨_, rfl⟩
  replace hth7 : (t2l3.length : Int) ≤ t2n4 ∧ t2n4 ≤ (a0.2.1.length : Int) := hth7
  trivial
def zf9 : Con Tryz.prog := yD mo g0 [zQE] [vV] 158 zUB (fn := Tryz.f158) ⟨lk, trivial⟩ (fun a hw _ => yT (by kernel_rfl) (zeS a.1 hw) rfl)
theorem zeP (a0 : El zJ) : xj a0 = ((zg (fun _ x (s : (List (El .str))) => bif (x.1 == (1 : Int)) then (bif (!(vx s x.2.1).1) then (s ++ [x.2.1]) else s) else s) 0 a0.2.1 ([] : List (El .str))), ()) := by
 simp only [xj, zI6, zR, zx, zQ]
 rw [zWS, xf] <;> rfl
theorem zJD (p : El zJ) : ((xj p).1.length : Int) ≤ (p.2.1.length : Int) := by
 simp only [xj, zI6, zQ, zR, zx]
 have := zNl p [] (0 : Int) (by refine ⟨?_, ?_⟩ <;> simp)
 revert this
 cases (LB.run vV (p, (), ([] : List (El .str)), (0 : Int), ())) with
 | ret r => intro h; exact h.elim
 | brk t => obtain ⟨t0, ⟨⟩, t1, t2, ⟨⟩⟩ := t; rintro ⟨rfl, h1, h2⟩; obtain ⟨t2, rfl⟩ : ∃ y : Int, y = t2 := ⟨_, rfl⟩; replace h1 : (t1.length : Int) ≤ t2 := h1; replace h2 : t2 ≤ (p.2.1.length : Int) := h2; show (t1.length : Int) ≤ _; omega
 | go t => obtain ⟨t0, ⟨⟩, t1, t2, ⟨⟩⟩ := t; rintro ⟨rfl, h1, h2⟩; obtain ⟨t2, rfl⟩ : ∃ y : Int, y = t2 := ⟨_, rfl⟩; replace h1 : (t1.length : Int) ≤ t2 := h1; replace h2 : t2 ≤ (p.2.1.length : Int) := h2; show (t1.length : Int) ≤ _; omega
@[reducible] def yv : LB := ⟨[], ⟨51, [.d zC], [(1, .pt 0 0), (3, vo .str), (4, vd .int), (5, vo .str), (6, vd .int)]⟩, ⟨51, [], []⟩, 2, fun x => (fun (w0 : El zC) (l3 : List (El .str)) (n4 : Int) (l5 : List (El .str)) (n6 : Int) => (bif decide (n6 < (l5.length : Int)) then (.ix n4 w0.2.2.1 (bif (!(zB zJ w0.2.2.1 n4).2.2) then (.ix n6 l5 (bif (!(vx l3 (zB .str l5 n6)).1) then (.ix n6 l5 (.ck (((l3.length + [(zB .str l5 n6)].length : Nat) : Int) ≤ 16777216) (.ik (n6 + (1 : Int)) (.v (.go (w0, (), (l3 ++ [(zB .str l5 n6)]), n4, l5, (n6 + (1 : Int)), ())))))) else (.ik (n6 + (1 : Int)) (.v (.go (w0, (), l3, n4, l5, (n6 + (1 : Int)), ())))))) else (.v (.brk (w0, (), l3, n4, l5, n6, ()))))) else (.v (.brk (w0, (), l3, n4, l5, n6, ()))) : Tr (St _ _))) x.1 x.2.2.1 x.2.2.2.1 x.2.2.2.2.1 x.2.2.2.2.2.1⟩
theorem zTC (w00 : El zC) (l30 : List (El .str)) (n40 : Int) (l50 : List (El .str)) (n60 : Int)  : (LB.run yv (w00, (), l30, n40, l50, n60, ())).all (fun _ => False) (fun (w0, _, _, n4, l5, _) => w00 = w0 ∧ n40 = n4 ∧ l50 = l5) (fun (w0, _, _, n4, l5, _) => w00 = w0 ∧ n40 = n4 ∧ l50 = l5) := by
 have H : ∀ (w0 : El zC) (l3 : List (El .str)) (n4 : Int) (l5 : List (El .str)) (n6 : Int), (w00 = w0 ∧ n40 = n4 ∧ l50 = l5) → St.all (fun _ => False) (fun (w0, _, _, n4, l5, _) => w00 = w0 ∧ n40 = n4 ∧ l50 = l5) (fun (w0, _, _, n4, l5, _) => w00 = w0 ∧ n40 = n4 ∧ l50 = l5) (yv.b (w0, (), l3, n4, l5, n6, ())) := by
  intro w0 l3 n4 l5 n6 hI
  obtain ⟨eq0, eq1, eq2⟩ := hI
  simp only [LB.b, yv, zi, zQ, zR]
  refine zj (fun h1 => ?_) (fun h1 => ?_)
  ·replace h1 : n6 < (l5.length : Int) := of_decide_eq_true h1
   refine zj (fun h2 => ?_) (fun h2 => ?_)
   ·refine zj (fun h3 => ?_) (fun h3 => ?_)
    ·exact ⟨eq0, eq1, eq2⟩
    ·exact ⟨eq0, eq1, eq2⟩
   ·exact ⟨eq0, eq1, eq2⟩
  ·replace h1 : ¬ (n6 < (l5.length : Int)) := of_decide_eq_false h1
   exact ⟨eq0, eq1, eq2⟩
 exact LB.post (l := yv) (A := fun _ => False) (fun (w0, _, _, n4, l5, _) => w00 = w0 ∧ n40 = n4 ∧ l50 = l5) (fun ⟨w0, ⟨⟩, l3, n4, l5, n6, ⟨⟩⟩ hx => H w0 l3 n4 l5 n6 hx) ⟨rfl, rfl, rfl⟩
theorem zTM (w00 : El zC) (l30 : List (El .str)) (n40 : Int) (l50 : List (El .str)) (n60 : Int) (p0 : (l30.length : Int) + (l50.length : Int) - n60 + zAv w00.2.2.1 (n40 + 1) ≤ 16777216 ∧ n60 ≤ (l50.length : Int)) : (LB.run yv (w00, (), l30, n40, l50, n60, ())).all (fun _ => False) (fun (w0, _, l3, n4, l5, n6, _) => w00 = w0 ∧ n40 = n4 ∧ l50 = l5 ∧ ((l3.length : Int) + (l5.length : Int) - n6 + zAv w0.2.2.1 (n4 + 1) ≤ 16777216 ∧ n6 ≤ (l5.length : Int))) (fun (w0, _, l3, n4, l5, n6, _) => w00 = w0 ∧ n40 = n4 ∧ l50 = l5 ∧ ((l3.length : Int) + (l5.length : Int) - n6 + zAv w0.2.2.1 (n4 + 1) ≤ 16777216 ∧ n6 ≤ (l5.length : Int))) := by
 have H : ∀ (w0 : El zC) (l3 : List (El .str)) (n4 : Int) (l5 : List (El .str)) (n6 : Int), (w00 = w0 ∧ n40 = n4 ∧ l50 = l5 ∧ ((l3.length : Int) + (l5.length : Int) - n6 + zAv w0.2.2.1 (n4 + 1) ≤ 16777216 ∧ n6 ≤ (l5.length : Int))) → St.all (fun _ => False) (fun (w0, _, l3, n4, l5, n6, _) => w00 = w0 ∧ n40 = n4 ∧ l50 = l5 ∧ ((l3.length : Int) + (l5.length : Int) - n6 + zAv w0.2.2.1 (n4 + 1) ≤ 16777216 ∧ n6 ≤ (l5.length : Int))) (fun (w0, _, l3, n4, l5, n6, _) => w00 = w0 ∧ n40 = n4 ∧ l50 = l5 ∧ ((l3.length : Int) + (l5.length : Int) - n6 + zAv w0.2.2.1 (n4 + 1) ≤ 16777216 ∧ n6 ≤ (l5.length : Int))) (yv.b (w0, (), l3, n4, l5, n6, ())) := by
  intro w0 l3 n4 l5 n6 hI
  obtain ⟨eq0, eq1, eq2, eq3⟩ := hI
  simp only [LB.b, yv, zi, zQ, zR]
  refine zj (fun h4 => ?_) (fun h4 => ?_)
  ·replace h4 : n6 < (l5.length : Int) := of_decide_eq_true h4
   refine zj (fun h5 => ?_) (fun h5 => ?_)
   ·refine zj (fun h6 => ?_) (fun h6 => ?_)
    ·exact yg (show w00 = w0 ∧ n40 = n4 ∧ l50 = l5 ∧ (((l3 ++ [(zB .str l5 n6)]).length : Int) + (l5.length : Int) - (n6 + (1 : Int)) + zAv w0.2.2.1 (n4 + 1) ≤ 16777216 ∧ (n6 + (1 : Int)) ≤ (l5.length : Int)) from ⟨eq0, eq1, eq2, by have _ := zEg w0.2.2.1 (n4 + 1); first | omega | rfl | assumption | (simp <;> omega)⟩)
    ·exact yg (show w00 = w0 ∧ n40 = n4 ∧ l50 = l5 ∧ ((l3.length : Int) + (l5.length : Int) - (n6 + (1 : Int)) + zAv w0.2.2.1 (n4 + 1) ≤ 16777216 ∧ (n6 + (1 : Int)) ≤ (l5.length : Int)) from ⟨eq0, eq1, eq2, by have _ := zEg w0.2.2.1 (n4 + 1); first | omega | rfl | assumption | (simp <;> omega)⟩)
   ·exact zCd (show w00 = w0 ∧ n40 = n4 ∧ l50 = l5 ∧ ((l3.length : Int) + (l5.length : Int) - n6 + zAv w0.2.2.1 (n4 + 1) ≤ 16777216 ∧ n6 ≤ (l5.length : Int)) from ⟨eq0, eq1, eq2, by first | omega | rfl | assumption | (simp <;> omega)⟩)
  ·replace h4 : ¬ (n6 < (l5.length : Int)) := of_decide_eq_false h4
   exact zCd (show w00 = w0 ∧ n40 = n4 ∧ l50 = l5 ∧ ((l3.length : Int) + (l5.length : Int) - n6 + zAv w0.2.2.1 (n4 + 1) ≤ 16777216 ∧ n6 ≤ (l5.length : Int)) from ⟨eq0, eq1, eq2, by first | omega | rfl | assumption | (simp <;> omega)⟩)
 exact LB.post (l := yv) (A := fun _ => False) (fun (w0, _, l3, n4, l5, n6, _) => w00 = w0 ∧ n40 = n4 ∧ l50 = l5 ∧ ((l3.length : Int) + (l5.length : Int) - n6 + zAv w0.2.2.1 (n4 + 1) ≤ 16777216 ∧ n6 ≤ (l5.length : Int))) (fun ⟨w0, ⟨⟩, l3, n4, l5, n6, ⟨⟩⟩ hx => H w0 l3 n4 l5 n6 hx) ⟨rfl, rfl, rfl, p0⟩
theorem zTE : SF yv fun x : El zC × Unit × List (El .str) × Int × List (El .str) × Int × Unit => (0 ≤ x.2.2.2.2.2.1 ∧ (0 ≤ x.2.2.2.1 ∧ x.2.2.2.1 < (x.1.2.2.1.length : Int)) ∧ (x.2.2.1.length : Int) + (x.2.2.2.2.1.length : Int) - x.2.2.2.2.2.1 + zAv x.1.2.2.1 (x.2.2.2.1 + 1) ≤ 16777216, (x.2.2.2.2.1.length : Int) - x.2.2.2.2.2.1) := xz (by
 rintro ⟨(w0 : El zC), ⟨⟩, (l3 : List (El .str)), (n4 : Int), (l5 : List (El .str)), (n6 : Int), ⟨⟩⟩ hI hw
 dsimp only at hI ⊢
 obtain ⟨i0, i1, k0⟩ := hI
 have _ : -9223372036854775808 ≤ n4 ∧ n4 ≤ 9223372036854775807 := zw hw.2.2.2.1
 have hb : (l5.length : Int) ≤ 16777216 := zE (hw.2.2.2.2.1.1)
 have hb0 : (w0.2.2.1.length : Int) ≤ 16777216 := zE (hw.1.2.2.1.1)
 refine ⟨by omega, ?_⟩
 refine xM (fun h7 => ?_) (fun h7 => ?_)
 ·replace h7 : n6 < (l5.length : Int) := of_decide_eq_true h7
  refine yR ?_ ?_
  ·first | omega | (simp <;> omega)
  ·refine xM (fun h8 => ?_) (fun h8 => ?_)
   ·refine yR ?_ ?_
    ·first | omega | (simp <;> omega)
    ·refine xM (fun h9 => ?_) (fun h9 => ?_)
     ·refine yR ?_ ?_
      ·first | omega | (simp <;> omega)
      ·refine yR ?_ ?_
       ·have _ := zEg w0.2.2.1 (n4 + 1); have _ : (l3.length : Int) ≤ 16777216 := zE (hw.2.2.1.1); first | omega | (simp <;> omega)
       ·refine yR ?_ ?_
        ·exact ink (by omega) (by omega)
        ·exact show (0 ≤ (n6 + (1 : Int)) ∧ (0 ≤ n4 ∧ n4 < (w0.2.2.1.length : Int)) ∧ ((l3 ++ [(zB .str l5 n6)]).length : Int) + (l5.length : Int) - (n6 + (1 : Int)) + zAv w0.2.2.1 (n4 + 1) ≤ 16777216) ∧ (l5.length : Int) - (n6 + (1 : Int)) < (l5.length : Int) - n6 ∧ 0 < (l5.length : Int) - n6 from ⟨⟨by (have _ := zEg w0.2.2.1 (n4 + 1); first | omega | rfl | assumption | (simp <;> omega)), by (have _ := zEg w0.2.2.1 (n4 + 1); first | omega | rfl | assumption | (simp <;> omega)), by (have _ := zEg w0.2.2.1 (n4 + 1); first | omega | rfl | assumption | (simp <;> omega))⟩, by (first | omega | (simp only [List.length_set]; omega)), by (first | omega | (simp only [List.length_set]; omega))⟩
     ·refine yR ?_ ?_
      ·exact ink (by omega) (by omega)
      ·exact show (0 ≤ (n6 + (1 : Int)) ∧ (0 ≤ n4 ∧ n4 < (w0.2.2.1.length : Int)) ∧ (l3.length : Int) + (l5.length : Int) - (n6 + (1 : Int)) + zAv w0.2.2.1 (n4 + 1) ≤ 16777216) ∧ (l5.length : Int) - (n6 + (1 : Int)) < (l5.length : Int) - n6 ∧ 0 < (l5.length : Int) - n6 from ⟨⟨by (have _ := zEg w0.2.2.1 (n4 + 1); first | omega | rfl | assumption | (simp <;> omega)), by (have _ := zEg w0.2.2.1 (n4 + 1); first | omega | rfl | assumption | (simp <;> omega)), by (have _ := zEg w0.2.2.1 (n4 + 1); first | omega | rfl | assumption | (simp <;> omega))⟩, by (first | omega | (simp only [List.length_set]; omega)), by (first | omega | (simp only [List.length_set]; omega))⟩
   ·exact trivial
 ·replace h7 : ¬ (n6 < (l5.length : Int)) := of_decide_eq_false h7
  exact trivial)
@[reducible] def vg : LB := ⟨[], ⟨51, [.d zC], [(1, .pt 0 0), (3, vo .str), (4, vd .int)]⟩, ⟨51, [], []⟩, 0, fun x => (fun (w0 : El zC) (l3 : List (El .str)) (n4 : Int) => (bif decide (n4 < (w0.2.2.1.length : Int)) then (.ix n4 w0.2.2.1 (.lp yv (w0, (), l3, n4, (xj (zB zJ w0.2.2.1 n4)).1, (0 : Int), ()) (fun _ => .v (.ret ())) (fun t4 => .ik (t4.2.2.2.1 + (1 : Int)) (.v (.go (t4.1, (), t4.2.2.1, (t4.2.2.2.1 + (1 : Int)), ())))))) else (.v (.brk (w0, (), l3, n4, ()))) : Tr (St _ _))) x.1 x.2.2.1 x.2.2.2.1⟩
theorem zS8 (w00 : El zC) (l30 : List (El .str)) (n40 : Int)  : (LB.run vg (w00, (), l30, n40, ())).all (fun _ => False) (fun (w0, _) => w00 = w0) (fun (w0, _) => w00 = w0) := by
 have H : ∀ (w0 : El zC) (l3 : List (El .str)) (n4 : Int), (w00 = w0) → St.all (fun _ => False) (fun (w0, _) => w00 = w0) (fun (w0, _) => w00 = w0) (vg.b (w0, (), l3, n4, ())) := by
  intro w0 l3 n4 hI
  have eq0 := hI
  simp only [LB.b, vg, zi, zQ, zR, zx]
  refine zj (fun h10 => ?_) (fun h10 => ?_)
  ·replace h10 : n4 < (w0.2.2.1.length : Int) := of_decide_eq_true h10
   refine zP7 (A' := fun _ => False) (B' := fun (t4w0, _, t4l3, t4n4, t4l5, t4n6, _) => w0 = t4w0 ∧ n4 = t4n4 ∧ (xj (zB zJ w0.2.2.1 n4)).1 = t4l5) (zTC w0 l3 n4 (xj (zB zJ w0.2.2.1 n4)).1 (0 : Int)) (fun _ h => h.elim) (fun t ht => ?_)
   obtain ⟨t4w0, ⟨⟩, t4l3, t4n4, t4l5, t4n6, ⟨⟩⟩ := t
   dsimp only
   obtain ⟨rfl, rfl, rfl⟩ := ht
   obtain ⟨t4n6, rfl⟩ : ∃ y : Int, y = t4n6 := ⟨_, rfl⟩
   exact eq0
  ·replace h10 : ¬ (n4 < (w0.2.2.1.length : Int)) := of_decide_eq_false h10
   exact eq0
 exact LB.post (l := vg) (A := fun _ => False) (fun (w0, _) => w00 = w0) (fun ⟨w0, ⟨⟩, l3, n4, ⟨⟩⟩ hx => H w0 l3 n4 hx) rfl
theorem zTp : SF vg fun x : El zC × Unit × List (El .str) × Int × Unit => (0 ≤ x.2.2.2.1 ∧ (x.2.2.1.length : Int) + zAv x.1.2.2.1 x.2.2.2.1 ≤ 16777216, (x.1.2.2.1.length : Int) - x.2.2.2.1) := xz (by
 rintro ⟨(w0 : El zC), ⟨⟩, (l3 : List (El .str)), (n4 : Int), ⟨⟩⟩ hI hw
 dsimp only at hI ⊢
 obtain ⟨i0, k0⟩ := hI
 have hb : (w0.2.2.1.length : Int) ≤ 16777216 := zE (hw.1.2.2.1.1)
 refine ⟨by omega, ?_⟩
 refine xM (fun h11 => ?_) (fun h11 => ?_)
 ·replace h11 : n4 < (w0.2.2.1.length : Int) := of_decide_eq_true h11
  refine yR ?_ ?_
  ·first | omega | (simp <;> omega)
  ·refine yR ?_ ?_
   ·have _ := zJD (zB zJ w0.2.2.1 n4); exact zTE _ ⟨by (have _ := zJD (zB zJ w0.2.2.1 n4); have _ := zAR w0.2.2.1 n4 (by omega); dsimp only <;> first | omega | rfl | assumption | (simp <;> omega)), by (have _ := zJD (zB zJ w0.2.2.1 n4); have _ := zAR w0.2.2.1 n4 (by omega); dsimp only <;> first | omega | rfl | assumption | (simp <;> omega)), by (have _ := zJD (zB zJ w0.2.2.1 n4); have _ := zAR w0.2.2.1 n4 (by omega); dsimp only <;> first | omega | rfl | assumption | (simp <;> omega))⟩
   ·refine zNC (A' := fun _ => False) (B' := fun (t4w0, _, t4l3, t4n4, t4l5, t4n6, _) => w0 = t4w0 ∧ n4 = t4n4 ∧ (xj (zB zJ w0.2.2.1 n4)).1 = t4l5 ∧ ((t4l3.length : Int) + (t4l5.length : Int) - t4n6 + zAv t4w0.2.2.1 (t4n4 + 1) ≤ 16777216 ∧ t4n6 ≤ (t4l5.length : Int))) (zTM w0 l3 n4 (xj (zB zJ w0.2.2.1 n4)).1 (0 : Int) (by (have _ := zJD (zB zJ w0.2.2.1 n4); have _ := zAR w0.2.2.1 n4 (by omega); first | omega | rfl | assumption | (simp <;> omega) | (refine ⟨?_, ?_, ?_⟩ <;> first | omega | rfl | (simp <;> omega)) | (refine ⟨?_, ?_⟩ <;> first | omega | rfl | (simp <;> omega))))) (fun _ h => h.elim) (fun t ht => ?_)
    obtain ⟨t4w0, ⟨⟩, t4l3, t4n4, t4l5, t4n6, ⟨⟩⟩ := t
    dsimp only
    obtain ⟨rfl, rfl, rfl, hth12⟩ := ht
    obtain ⟨t4n6, rfl⟩ : ∃ y : Int, y = t4n6 := ⟨_, rfl⟩
    replace hth12 : (t4l3.length : Int) + ((xj (zB zJ w0.2.2.1 n4)).1.length : Int) - t4n6 + zAv w0.2.2.1 (n4 + 1) ≤ 16777216 ∧ t4n6 ≤ ((xj (zB zJ w0.2.2.1 n4)).1.length : Int) := hth12
    refine yR ?_ ?_
    ·exact ink (by omega) (by omega)
    ·exact show (0 ≤ (n4 + (1 : Int)) ∧ (t4l3.length : Int) + zAv w0.2.2.1 (n4 + (1 : Int)) ≤ 16777216) ∧ (w0.2.2.1.length : Int) - (n4 + (1 : Int)) < (w0.2.2.1.length : Int) - n4 ∧ 0 < (w0.2.2.1.length : Int) - n4 from ⟨⟨by (first | omega | rfl | assumption | (simp <;> omega)), by (first | omega | rfl | assumption | (simp <;> omega))⟩, by (first | omega | (simp only [List.length_set]; omega)), by (first | omega | (simp only [List.length_set]; omega))⟩
 ·replace h11 : ¬ (n4 < (w0.2.2.1.length : Int)) := of_decide_eq_false h11
  exact trivial)
def zJg (a0 : El zC) : Tr (List (El .str) × Unit) := .lp vg (a0, (), ([] : List (El .str)), (0 : Int), ()) (fun _ => .bad) (fun t5 => .v (t5.2.2.1, ()))
def zEB a0 := (zJg a0).val
def zKF (a0 : El zC) : Prop := SzR a0
@[reducible] def zRW : FnD := ⟨[va zC], [vo .str], true, fun a => some (zKF a.1), fun a => zEB a.1⟩
theorem zbu (a0 : El zC) (_ : xG zRW.args (a0, ())) (hp : zKF a0) : (zJg a0).ok := by
 unfold zKF at hp
 unfold zJg
 refine zI ?_ ?_
 ·exact zTp _ ⟨by (have _ := hp.1; dsimp only <;> first | omega | rfl | assumption | (simp <;> omega)), by (have _ := hp.1; dsimp only <;> first | omega | rfl | assumption | (simp <;> omega))⟩
 ·refine zIQ (A' := fun _ => False) (B' := fun (t5w0, _, t5l3, t5n4, _) => a0 = t5w0) (zS8 a0 ([] : List (El .str)) (0 : Int)) (fun _ h => h.elim) (fun t ht => ?_)
  obtain ⟨t5w0, ⟨⟩, t5l3, t5n4, ⟨⟩⟩ := t
  dsimp only
  obtain rfl := ht
  obtain ⟨t5n4, rfl⟩ : ∃ y : Int, y = t5n4 := ⟨_, rfl⟩
  trivial
def zbU : Con Tryz.prog := yD mo g0 [zf9, zQE] [vg, yv] 96 zRW (fn := Tryz.f96) ⟨lk, lk, trivial⟩ (fun a hw h => yT (by kernel_rfl) (zbu a.1 hw h) rfl)
def zJU (a0 : Int) (a1 : Int) (a2 : Int) : Tr (Bool × Unit) := bif decide (a0 ≥ a1) then (.v (decide (a0 ≤ a2), ())) else (.v (false, ()))
def yB a0 a1 a2 := (zJU a0 a1 a2).val
@[reducible] def zkx : FnD := ⟨[vd .int, vd .int, vd .int], [vd .bool], true, fun _ => none, fun a => yB a.1 a.2.1 a.2.2.1⟩
def zAx : Con Tryz.prog := yD mo g0 [] [] 28 zkx (fn := Tryz.f28) trivial (fun a _ _ => yT (t' := zJU a.1 a.2.1 a.2.2.1) (by kernel_rfl) (by simp [zJU]) rfl)
theorem zJq {x a b : Int} (h : (yB x a b).1 = true) : a ≤ x ∧ x ≤ b := by
 simp only [yB, zJU, zi, zR] at h
 cases e : decide (x ≥ a) with
 | false => rw [e] at h; cases h
 | true =>
  rw [e] at h
  exact ⟨of_decide_eq_true e, of_decide_eq_true h⟩
def zHz (a0 : Int) : Tr (Bool × Unit) := .ik a0 (bif (yB a0 (97 : Int) (122 : Int)).1 then (.v (true, ())) else (.ik a0 (bif (yB a0 (48 : Int) (57 : Int)).1 then (.v (true, ())) else (.v ((a0 == (95 : Int)), ())))))
def yy a0 := (zHz a0).val
@[reducible] def zPE : FnD := ⟨[vd .u8], [vd .bool], true, fun _ => none, fun a => yy a.1⟩
theorem zYY (a0 : Int) (hw : xG zPE.args (a0, ())) : (zHz a0).ok := by
 have _ : 0 ≤ a0 ∧ a0 ≤ 255 := zdw hw.1
 unfold zHz
 refine zI ?_ ?_
 ·exact ink (by omega) (by omega)
 ·refine zp (fun _ => trivial) (fun h1 => ?_)
  refine zI ?_ ?_
  ·exact ink (by omega) (by omega)
  ·simp
def zKt : Con Tryz.prog := yD mo g0 [zAx] [] 54 zPE (fn := Tryz.f54) trivial (fun a hw _ => yT (by kernel_rfl) (zYY a.1 hw) rfl)
@[reducible] def zBr : LB := ⟨[], ⟨30, [], [(0, vd .str), (3, vd .int)]⟩, ⟨30, [], [(2, vd .bool)]⟩, 0, fun x => (fun (s0 : ByteArray) (n3 : Int) => (bif decide (n3 < (s0.size : Int)) then (.is n3 s0 (bif (!(yy ((bt s0 n3).toNat : Int)).1) then (.v (.ret (false, ()))) else (bif (n3 == (0 : Int)) then (.is n3 s0 (.ik ((bt s0 n3).toNat : Int) (bif (!(yB ((bt s0 n3).toNat : Int) (97 : Int) (122 : Int)).1) then (.v (.ret (false, ()))) else (.ik (n3 + (1 : Int)) (.v (.go (s0, (n3 + (1 : Int)), ()))))))) else (.ik (n3 + (1 : Int)) (.v (.go (s0, (n3 + (1 : Int)), ()))))))) else (.v (.brk (s0, n3, ()))) : Tr (St _ _))) x.1 x.2.1⟩
theorem zXX (s0 : ByteArray) : LB.run zBr (s0, (0 : Int), ()) = bif zd (fun i x => bif (!(yy (x.toNat : Int)).1) then false else (bif ((i : Int) == (0 : Int)) then (bif (!(yB (x.toNat : Int) (97 : Int) (122 : Int)).1) then false else true) else true)) 0 s0.data.toList then .brk (s0, (s0.size : Int), ()) else .ret (false, ()) := LB.run_all (l := zBr) (fun i => (s0, (i : Int), ())) (fun i x h => by
  simp only [LB.b, zBr, zi, zQ, zR, cond_true, zin h, zUf h]
  cases (!(yy (x.toNat : Int)).1)
  ·cases ((i : Int) == (0 : Int))
   ·rfl
   ·cases (!(yB (x.toNat : Int) (97 : Int) (122 : Int)).1) <;> rfl
  ·rfl) (by show LB.b zBr (s0, (s0.size : Int), ()) = _; simp only [LB.b, zBr, xl]; rfl)
theorem zWb : SF zBr fun x : ByteArray × Int × Unit => (0 ≤ x.2.1, (x.1.size : Int) - x.2.1) := xz (by
 rintro ⟨(s0 : ByteArray), (n3 : Int), ⟨⟩⟩ hI hw
 have _ : (s0.size : Int) ≤ 9223372036854775807 := zNd (hw.1)
 have _ := fun h : (yB ((bt s0 n3).toNat : Int) (97 : Int) (122 : Int)).1 = true => zJq h
 have _ := znW s0 n3
 simp [zBr] at hI ⊢
 repeat' first | intro _ | apply And.intro
 all_goals omega)
def zMK (a0 : ByteArray) : Tr (Bool × Unit) := .lp zBr (a0, (0 : Int), ()) (fun r3 => .v (r3.1, ())) (fun t3 => .v ((yB (t3.1.size : Int) (1 : Int) (12 : Int)).1, ()))
def yQ a0 := (zMK a0).val
@[reducible] def zVJ : FnD := ⟨[vd .str], [vd .bool], true, fun _ => none, fun a => yQ a.1⟩
theorem zeG (a0 : ByteArray) (_ : xG zVJ.args (a0, ())) : (zMK a0).ok := by
 unfold zMK
 refine zI ?_ ?_
 ·exact zWb _ (by (dsimp only <;> omega))
 ·simp
def zFY : Con Tryz.prog := yD mo g0 [zKt, zAx] [zBr] 31 zVJ (fn := Tryz.f31) ⟨lk, trivial⟩ (fun a hw _ => yT (by kernel_rfl) (zeG a.1 hw) rfl)
theorem zhe (a0 : ByteArray) : yQ a0 = bif zd (fun i x => bif (!(yy (x.toNat : Int)).1) then false else (bif ((i : Int) == (0 : Int)) then (bif (!(yB (x.toNat : Int) (97 : Int) (122 : Int)).1) then false else true) else true)) 0 a0.data.toList then ((yB (a0.size : Int) (1 : Int) (12 : Int)).1, ()) else (false, ()) := by
 simp only [yQ, zMK, zR, zx, zQ]
 rw [zXX, z7] <;> rfl
def zJd (a0 : Int) : Tr (Bool × Unit) := .ik a0 (.v ((yB a0 (65 : Int) (90 : Int)).1, ()))
def zD7 a0 := (zJd a0).val
@[reducible] def zQD : FnD := ⟨[vd .u8], [vd .bool], true, fun _ => none, fun a => zD7 a.1⟩
theorem zaZ (a0 : Int) (hw : xG zQD.args (a0, ())) : (zJd a0).ok := by
 have _ : 0 ≤ a0 ∧ a0 ≤ 255 := zdw hw.1
 unfold zJd
 refine zI ?_ ?_
 ·exact ink (by omega) (by omega)
 ·simp
def zbP : Con Tryz.prog := yD mo g0 [zAx] [] 274 zQD (fn := Tryz.f274) trivial (fun a hw _ => yT (by kernel_rfl) (zaZ a.1 hw) rfl)
@[reducible] def zAh : LB := ⟨[], ⟨29, [], [(0, vd .str), (3, vd .int)]⟩, ⟨29, [], [(2, vd .bool)]⟩, 0, fun x => (fun (s0 : ByteArray) (n3 : Int) => (bif decide (n3 < (s0.size : Int)) then (.is n3 s0 (bif (!(zD7 ((bt s0 n3).toNat : Int)).1) then (bif (n3 == (0 : Int)) then (.v (.ret (false, ()))) else (.is n3 s0 (bif (!(yy ((bt s0 n3).toNat : Int)).1) then (.v (.ret (false, ()))) else (.ik (n3 + (1 : Int)) (.v (.go (s0, (n3 + (1 : Int)), ()))))))) else (.ik (n3 + (1 : Int)) (.v (.go (s0, (n3 + (1 : Int)), ())))))) else (.v (.brk (s0, n3, ()))) : Tr (St _ _))) x.1 x.2.1⟩
theorem zTF (s0 : ByteArray) : LB.run zAh (s0, (0 : Int), ()) = bif zd (fun i x => bif (!(zD7 (x.toNat : Int)).1) then (bif ((i : Int) == (0 : Int)) then false else (bif (!(yy (x.toNat : Int)).1) then false else true)) else true) 0 s0.data.toList then .brk (s0, (s0.size : Int), ()) else .ret (false, ()) := LB.run_all (l := zAh) (fun i => (s0, (i : Int), ())) (fun i x h => by
  simp only [LB.b, zAh, zi, zQ, zR, cond_true, zin h, zUf h]
  cases (!(zD7 (x.toNat : Int)).1)
  ·rfl
  ·cases ((i : Int) == (0 : Int))
   ·cases (!(yy (x.toNat : Int)).1) <;> rfl
   ·rfl) (by show LB.b zAh (s0, (s0.size : Int), ()) = _; simp only [LB.b, zAh, xl]; rfl)
theorem zTg : SF zAh fun x : ByteArray × Int × Unit => (0 ≤ x.2.1, (x.1.size : Int) - x.2.1) := xz (by
 rintro ⟨(s0 : ByteArray), (n3 : Int), ⟨⟩⟩ hI hw
 have _ : (s0.size : Int) ≤ 9223372036854775807 := zNd (hw.1)
 simp [zAh] at hI ⊢
 repeat' first | intro _ | apply And.intro
 all_goals omega)
def zJu (a0 : ByteArray) : Tr (Bool × Unit) := .lp zAh (a0, (0 : Int), ()) (fun r3 => .v (r3.1, ())) (fun t3 => .v ((yB (t3.1.size : Int) (1 : Int) (12 : Int)).1, ()))
def zHQ a0 := (zJu a0).val
@[reducible] def zRY : FnD := ⟨[vd .str], [vd .bool], true, fun _ => none, fun a => zHQ a.1⟩
theorem zak (a0 : ByteArray) (_ : xG zRY.args (a0, ())) : (zJu a0).ok := by
 unfold zJu
 refine zI ?_ ?_
 ·exact zTg _ (by (dsimp only <;> omega))
 ·simp
def zb9 : Con Tryz.prog := yD mo g0 [zbP, zKt, zAx] [zAh] 255 zRY (fn := Tryz.f255) ⟨lk, trivial⟩ (fun a hw _ => yT (by kernel_rfl) (zak a.1 hw) rfl)
theorem zcA (a0 : ByteArray) : zHQ a0 = bif zd (fun i x => bif (!(zD7 (x.toNat : Int)).1) then (bif ((i : Int) == (0 : Int)) then false else (bif (!(yy (x.toNat : Int)).1) then false else true)) else true) 0 a0.data.toList then ((yB (a0.size : Int) (1 : Int) (12 : Int)).1, ()) else (false, ()) := by
 simp only [zHQ, zJu, zR, zx, zQ]
 rw [zTF, z7] <;> rfl
@[reducible] def zAw : LB := ⟨[], ⟨18, [], [(0, vd .str), (3, vd .int)]⟩, ⟨18, [], [(2, vd .bool)]⟩, 0, fun x => (fun (s0 : ByteArray) (n3 : Int) => (bif decide (n3 < (s0.size : Int)) then (.is n3 s0 (bif (!(yy ((bt s0 n3).toNat : Int)).1) then (.v (.ret (false, ()))) else (.ik (n3 + (1 : Int)) (.v (.go (s0, (n3 + (1 : Int)), ())))))) else (.v (.brk (s0, n3, ()))) : Tr (St _ _))) x.1 x.2.1⟩
theorem zT3 (s0 : ByteArray) : LB.run zAw (s0, (0 : Int), ()) = bif zd (fun _ x => bif (!(yy (x.toNat : Int)).1) then false else true) 0 s0.data.toList then .brk (s0, (s0.size : Int), ()) else .ret (false, ()) := LB.run_all (l := zAw) (fun i => (s0, (i : Int), ())) (fun i x h => by
  simp only [LB.b, zAw, zi, zQ, zR, cond_true, zin h, zUf h]
  cases (!(yy (x.toNat : Int)).1) <;> rfl) (by show LB.b zAw (s0, (s0.size : Int), ()) = _; simp only [LB.b, zAw, xl]; rfl)
theorem zTV : SF zAw fun x : ByteArray × Int × Unit => (0 ≤ x.2.1, (x.1.size : Int) - x.2.1) := xz (by
 rintro ⟨(s0 : ByteArray), (n3 : Int), ⟨⟩⟩ hI hw
 have _ : (s0.size : Int) ≤ 9223372036854775807 := zNd (hw.1)
 simp [zAw] at hI ⊢
 repeat' first | intro _ | apply And.intro
 all_goals omega)
def zJS (a0 : ByteArray) : Tr (Bool × Unit) := .lp zAw (a0, (0 : Int), ()) (fun r2 => .v (r2.1, ())) (fun t2 => .v (decide ((t2.1.size : Int) ≤ (20 : Int)), ()))
def zFB a0 := (zJS a0).val
@[reducible] def zQH : FnD := ⟨[vd .str], [vd .bool], true, fun _ => none, fun a => zFB a.1⟩
theorem zbI (a0 : ByteArray) (_ : xG zQH.args (a0, ())) : (zJS a0).ok := by
 unfold zJS
 refine zI ?_ ?_
 ·exact zTV _ (by (dsimp only <;> omega))
 ·simp
def zbq : Con Tryz.prog := yD mo g0 [zKt] [zAw] 218 zQH (fn := Tryz.f218) ⟨lk, trivial⟩ (fun a hw _ => yT (by kernel_rfl) (zbI a.1 hw) rfl)
theorem zdO (a0 : ByteArray) : zFB a0 = bif zd (fun _ x => bif (!(yy (x.toNat : Int)).1) then false else true) 0 a0.data.toList then (decide ((a0.size : Int) ≤ (20 : Int)), ()) else (false, ()) := by
 simp only [zFB, zJS, zR, zx, zQ]
 rw [zT3, z7] <;> rfl
def zOY (a0 : El zK) : Tr (Bool × Unit) := bif (a0.1 == (1 : Int)) then (bif (yB a0.2.1 (-1000000000 : Int) (1000000000 : Int)).1 then (.v ((a0.2.2.toList == (⟨#[]⟩ : ByteArray).toList), ())) else (.v (false, ()))) else (bif (a0.1 == (2 : Int)) then (bif (zFB a0.2.2).1 then (.v ((a0.2.1 == (0 : Int)), ())) else (.v (false, ()))) else (.v (false, ())))
def zEp a0 := (zOY a0).val
@[reducible] def zjb : FnD := ⟨[va zK], [vd .bool], true, fun _ => none, fun a => zEp a.1⟩
def zQG : Con Tryz.prog := yD mo g0 [zAx, zbq] [] 166 zjb (fn := Tryz.f166) trivial (fun a _ _ => yT (t' := zOY a.1) (by kernel_rfl) (by simp [zOY]) rfl)
def zNf (a0 : El zo) : Tr (Bool × Unit) := bif (a0.1 == (1 : Int)) then (bif (zHQ a0.2.1).1 then (.v (((a0.2.2.1 == (0 : Int)) && ((a0.2.2.2.1 == (0 : Int)) && ((a0.2.2.2.2.toList == (⟨#[]⟩ : ByteArray).toList) && true))), ())) else (.v (false, ()))) else (bif (a0.1 == (2 : Int)) then (bif (zEp a0.2.2).1 then (.v ((a0.2.1.toList == (⟨#[]⟩ : ByteArray).toList), ())) else (.v (false, ()))) else (bif (a0.1 == (3 : Int)) then (bif (a0.2.1.toList == (⟨#[]⟩ : ByteArray).toList) then (.v (((a0.2.2.1 == (0 : Int)) && ((a0.2.2.2.1 == (0 : Int)) && ((a0.2.2.2.2.toList == (⟨#[]⟩ : ByteArray).toList) && true))), ())) else (.v (false, ()))) else (.v (false, ()))))
def zD1 a0 := (zNf a0).val
@[reducible] def ziw : FnD := ⟨[va zo], [vd .bool], true, fun _ => none, fun a => zD1 a.1⟩
def zSE : Con Tryz.prog := yD mo g0 [zb9, zQG] [] 216 ziw (fn := Tryz.f216) trivial (fun a _ _ => yT (t' := zNf a.1) (by kernel_rfl) (by simp [zNf]) rfl)
@[reducible] def zEV : LB := ⟨[], ⟨27, [.d zJ], [(1, .pt 0 0), (3, vd .int)]⟩, ⟨27, [], [(2, vd .bool)]⟩, 0, fun x => (fun (w0 : El zJ) (n3 : Int) => (bif decide (n3 < (w0.2.1.length : Int)) then (.ix n3 w0.2.1 (bif (!(zD1 (zB zo w0.2.1 n3)).1) then (.v (.ret (false, ()))) else (.ik (n3 + (1 : Int)) (.v (.go (w0, (), (n3 + (1 : Int)), ())))))) else (.v (.brk (w0, (), n3, ()))) : Tr (St _ _))) x.1 x.2.2.1⟩
theorem zX7 (w0 : El zJ) : LB.run zEV (w0, (), (0 : Int), ()) = bif zd (fun _ x => bif (!(zD1 x).1) then false else true) 0 w0.2.1 then .brk (w0, (), (w0.2.1.length : Int), ()) else .ret (false, ()) := LB.run_all (l := zEV) (fun i => (w0, (), (i : Int), ())) (fun i x h => by
  simp only [LB.b, zEV, zi, zQ, zR, cond_true, yM h, zG h]
  cases (!(zD1 x).1) <;> rfl) (by simp only [LB.b, zEV, xl]; rfl)
theorem zZq : SF zEV fun x : El zJ × Unit × Int × Unit => (0 ≤ x.2.2.1, (x.1.2.1.length : Int) - x.2.2.1) := xz (by
 rintro ⟨(w0 : El zJ), ⟨⟩, (n3 : Int), ⟨⟩⟩ hI hw
 have _ : (w0.2.1.length : Int) ≤ 16777216 := zE (hw.1.2.1.1)
 simp [zEV] at hI ⊢
 repeat' first | intro _ | apply And.intro
 all_goals omega)
def zOB (a0 : El zJ) : Tr (Bool × Unit) := .lp zEV (a0, (), (0 : Int), ()) (fun r2 => .v (r2.1, ())) (fun t2 => bif (yQ t2.1.1).1 then (.v (decide ((t2.1.2.1.length : Int) ≤ (5 : Int)), ())) else (.v (false, ())))
def zAj a0 := (zOB a0).val
@[reducible] def zY5 : FnD := ⟨[va zJ], [vd .bool], true, fun _ => none, fun a => zAj a.1⟩
theorem zj8 (a0 : El zJ) (_ : xG zY5.args (a0, ())) : (zOB a0).ok := by
 unfold zOB
 refine zI ?_ ?_
 ·exact zZq _ (by (dsimp only <;> omega))
 ·simp
def ziT : Con Tryz.prog := yD mo g0 [zSE, zFY] [zEV] 160 zY5 (fn := Tryz.f160) ⟨lk, trivial⟩ (fun a hw _ => yT (by kernel_rfl) (zj8 a.1 hw) rfl)
theorem zYD (a0 : El zJ) : zAj a0 = bif zd (fun _ x => bif (!(zD1 x).1) then false else true) 0 a0.2.1 then (bif (yQ a0.1).1 then (decide ((a0.2.1.length : Int) ≤ (5 : Int)), ()) else (false, ())) else (false, ()) := by
 simp only [zAj, zOB, zR, zi, zx, zQ]
 rw [zX7, z7] <;> rfl
theorem zjV {p : El zJ} (h : (zAj p).1 = true) : p.2.1.length ≤ 5 := by
 rw [zYD] at h
 simp only [z6, zIT] at h
 have := of_decide_eq_true h.2.2
 omega
@[reducible] def zCr : LB := ⟨[], ⟨60, [], [(0, vd (.lst zJ)), (3, vd .int)]⟩, ⟨60, [], [(2, vd .bool)]⟩, 0, fun x => (fun (l0 : List (El zJ)) (n3 : Int) => (bif decide (n3 < (l0.length : Int)) then (bif decide (n3 > (2 : Int)) then (.ix n3 l0 (bif (!(zB zJ l0 n3).2.2) then (.v (.ret (false, ()))) else (.ix n3 l0 (bif (!(zAj (zB zJ l0 n3)).1) then (.v (.ret (false, ()))) else (bif (n3 == (0 : Int)) then (.ix n3 l0 (bif (zB zJ l0 n3).2.2 then (.v (.ret (false, ()))) else (bif decide (n3 > (0 : Int)) then (.ik (n3 - (1 : Int)) (.ix (n3 - (1 : Int)) l0 (bif (zB zJ l0 (n3 - (1 : Int))).2.2 then (.ix n3 l0 (bif (!(zB zJ l0 n3).2.2) then (.v (.ret (false, ()))) else (.ik (n3 + (1 : Int)) (.v (.go (l0, (n3 + (1 : Int)), ())))))) else (.ik (n3 + (1 : Int)) (.v (.go (l0, (n3 + (1 : Int)), ()))))))) else (.ik (n3 + (1 : Int)) (.v (.go (l0, (n3 + (1 : Int)), ()))))))) else (bif decide (n3 > (0 : Int)) then (.ik (n3 - (1 : Int)) (.ix (n3 - (1 : Int)) l0 (bif (zB zJ l0 (n3 - (1 : Int))).2.2 then (.ix n3 l0 (bif (!(zB zJ l0 n3).2.2) then (.v (.ret (false, ()))) else (.ik (n3 + (1 : Int)) (.v (.go (l0, (n3 + (1 : Int)), ())))))) else (.ik (n3 + (1 : Int)) (.v (.go (l0, (n3 + (1 : Int)), ()))))))) else (.ik (n3 + (1 : Int)) (.v (.go (l0, (n3 + (1 : Int)), ())))))))))) else (.ix n3 l0 (bif (!(zAj (zB zJ l0 n3)).1) then (.v (.ret (false, ()))) else (bif (n3 == (0 : Int)) then (.ix n3 l0 (bif (zB zJ l0 n3).2.2 then (.v (.ret (false, ()))) else (bif decide (n3 > (0 : Int)) then (.ik (n3 - (1 : Int)) (.ix (n3 - (1 : Int)) l0 (bif (zB zJ l0 (n3 - (1 : Int))).2.2 then (.ix n3 l0 (bif (!(zB zJ l0 n3).2.2) then (.v (.ret (false, ()))) else (.ik (n3 + (1 : Int)) (.v (.go (l0, (n3 + (1 : Int)), ())))))) else (.ik (n3 + (1 : Int)) (.v (.go (l0, (n3 + (1 : Int)), ()))))))) else (.ik (n3 + (1 : Int)) (.v (.go (l0, (n3 + (1 : Int)), ()))))))) else (bif decide (n3 > (0 : Int)) then (.ik (n3 - (1 : Int)) (.ix (n3 - (1 : Int)) l0 (bif (zB zJ l0 (n3 - (1 : Int))).2.2 then (.ix n3 l0 (bif (!(zB zJ l0 n3).2.2) then (.v (.ret (false, ()))) else (.ik (n3 + (1 : Int)) (.v (.go (l0, (n3 + (1 : Int)), ())))))) else (.ik (n3 + (1 : Int)) (.v (.go (l0, (n3 + (1 : Int)), ()))))))) else (.ik (n3 + (1 : Int)) (.v (.go (l0, (n3 + (1 : Int)), ()))))))))) else (.v (.brk (l0, n3, ()))) : Tr (St _ _))) x.1 x.2.1⟩
theorem zXV (l0 : List (El zJ)) : LB.run zCr (l0, (0 : Int), ()) = bif zd (fun i x => bif (decide ((i : Int) > (2 : Int))) then (bif (!x.2.2) then false else (bif (!(zAj x).1) then false else (bif ((i : Int) == (0 : Int)) then (bif x.2.2 then false else (bif (decide ((i : Int) > (0 : Int))) then (bif (zB zJ l0 ((i : Int) - (1 : Int))).2.2 then (bif (!x.2.2) then false else true) else true) else true)) else (bif (decide ((i : Int) > (0 : Int))) then (bif (zB zJ l0 ((i : Int) - (1 : Int))).2.2 then (bif (!x.2.2) then false else true) else true) else true)))) else (bif (!(zAj x).1) then false else (bif ((i : Int) == (0 : Int)) then (bif x.2.2 then false else (bif (decide ((i : Int) > (0 : Int))) then (bif (zB zJ l0 ((i : Int) - (1 : Int))).2.2 then (bif (!x.2.2) then false else true) else true) else true)) else (bif (decide ((i : Int) > (0 : Int))) then (bif (zB zJ l0 ((i : Int) - (1 : Int))).2.2 then (bif (!x.2.2) then false else true) else true) else true)))) 0 l0 then .brk (l0, (l0.length : Int), ()) else .ret (false, ()) := LB.run_all (l := zCr) (fun i => (l0, (i : Int), ())) (fun i x h => by
  simp only [LB.b, zCr, zi, zQ, zR, cond_true, yM h, zG h]
  cases (decide ((i : Int) > (2 : Int)))
  ·cases (!(zAj x).1)
   ·cases ((i : Int) == (0 : Int))
    ·cases (decide ((i : Int) > (0 : Int)))
     ·rfl
     ·cases (zB zJ l0 ((i : Int) - (1 : Int))).2.2
      ·rfl
      ·cases (!x.2.2) <;> rfl
    ·cases x.2.2
     ·cases (decide ((i : Int) > (0 : Int)))
      ·rfl
      ·cases (zB zJ l0 ((i : Int) - (1 : Int))).2.2
       ·rfl
       ·cases (!x.2.2) <;> rfl
     ·rfl
   ·rfl
  ·cases (!x.2.2)
   ·cases (!(zAj x).1)
    ·cases ((i : Int) == (0 : Int))
     ·cases (decide ((i : Int) > (0 : Int)))
      ·rfl
      ·cases (zB zJ l0 ((i : Int) - (1 : Int))).2.2
       ·rfl
       ·cases (!x.2.2) <;> rfl
     ·cases x.2.2
      ·cases (decide ((i : Int) > (0 : Int)))
       ·rfl
       ·cases (zB zJ l0 ((i : Int) - (1 : Int))).2.2
        ·rfl
        ·cases (!x.2.2) <;> rfl
      ·rfl
    ·rfl
   ·rfl) (by simp only [LB.b, zCr, xl]; rfl)
theorem zWM : SF zCr fun x : List (El zJ) × Int × Unit => (0 ≤ x.2.1, (x.1.length : Int) - x.2.1) := xz (by
 rintro ⟨(l0 : List (El zJ)), (n3 : Int), ⟨⟩⟩ hI hw
 have _ : (l0.length : Int) ≤ 16777216 := zE (hw.1.1)
 simp [zCr] at hI ⊢
 repeat' first | intro _ | apply And.intro
 all_goals omega)
def zLm (a0 : List (El zJ)) : Tr (Bool × Unit) := .lp zCr (a0, (0 : Int), ()) (fun r3 => .v (r3.1, ())) (fun t3 => .v ((yB (t3.1.length : Int) (1 : Int) (6 : Int)).1, ()))
def zFQ a0 := (zLm a0).val
@[reducible] def zVG : FnD := ⟨[vd (.lst zJ)], [vd .bool], true, fun _ => none, fun a => zFQ a.1⟩
theorem zeM (a0 : List (El zJ)) (_ : xG zVG.args (a0, ())) : (zLm a0).ok := by
 unfold zLm
 refine zI ?_ ?_
 ·exact zWM _ (by (dsimp only <;> omega))
 ·simp
def ze0 : Con Tryz.prog := yD mo g0 [ziT, zAx] [zCr] 97 zVG (fn := Tryz.f97) ⟨lk, trivial⟩ (fun a hw _ => yT (by kernel_rfl) (zeM a.1 hw) rfl)
theorem zOh (a0 : List (El zJ)) : zFQ a0 = bif zd (fun i x => bif (decide ((i : Int) > (2 : Int))) then (bif (!x.2.2) then false else (bif (!(zAj x).1) then false else (bif ((i : Int) == (0 : Int)) then (bif x.2.2 then false else (bif (decide ((i : Int) > (0 : Int))) then (bif (zB zJ a0 ((i : Int) - (1 : Int))).2.2 then (bif (!x.2.2) then false else true) else true) else true)) else (bif (decide ((i : Int) > (0 : Int))) then (bif (zB zJ a0 ((i : Int) - (1 : Int))).2.2 then (bif (!x.2.2) then false else true) else true) else true)))) else (bif (!(zAj x).1) then false else (bif ((i : Int) == (0 : Int)) then (bif x.2.2 then false else (bif (decide ((i : Int) > (0 : Int))) then (bif (zB zJ a0 ((i : Int) - (1 : Int))).2.2 then (bif (!x.2.2) then false else true) else true) else true)) else (bif (decide ((i : Int) > (0 : Int))) then (bif (zB zJ a0 ((i : Int) - (1 : Int))).2.2 then (bif (!x.2.2) then false else true) else true) else true)))) 0 a0 then ((yB (a0.length : Int) (1 : Int) (6 : Int)).1, ()) else (false, ()) := by
 simp only [zFQ, zLm, zR, zx, zQ]
 rw [zXV, z7] <;> rfl
theorem zeg {l : List (El zJ)} (h : (zFQ l).1 = true) : (∀ p ∈ l, p.2.1.length ≤ 5) ∧ (l.filter (fun p => !p.2.2)).length ≤ 3 := by
 rw [zOh] at h
 simp only [z6, zIT] at h
 obtain ⟨h3, _⟩ := h
 rw [zr] at h3
 have key : ∀ i p, l[i]? = some p → (zAj p).1 = true ∧ (2 < i → p.2.2 = true) := by
  intro i p hp
  have := h3 i p hp
  by_cases hi : 2 < i
  ·rw [decide_eq_true (show ((0 + i : Nat) : Int) > (2 : Int) by omega)] at this
   simp only [cond_true, zAY] at this
   exact ⟨vQ this.2.1, fun _ => vQ this.1⟩
  ·rw [decide_eq_false (show ¬ ((0 + i : Nat) : Int) > (2 : Int) by omega)] at this
   simp only [cond_false, zAY] at this
   exact ⟨vQ this.1, fun h => absurd h hi⟩
 constructor
 ·intro p hp
  obtain ⟨i, hi⟩ := List.mem_iff_getElem?.1 hp
  exact zjV (key i p hi).1
 ·have e : (l.drop 3).filter (fun p => !p.2.2) = [] := by
   rw [List.filter_eq_nil_iff]
   intro p hp
   obtain ⟨i, hi⟩ := List.mem_iff_getElem?.1 hp
   rw [List.getElem?_drop] at hi
   rw [(key _ p hi).2 (by omega)]; simp
  have : l.filter (fun p => !p.2.2) = (l.take 3).filter (fun p => !p.2.2) ++ (l.drop 3).filter (fun p => !p.2.2) := by rw [← List.filter_append, List.take_append_drop]
  rw [this, e, List.append_nil]
  have h1 := List.length_filter_le (fun (p : El zJ) => !p.2.2) (l.take 3)
  have h2 := List.length_take_le 3 l
  omega
def zLQ (a0 : El zS) : Tr (Bool × Unit) := bif (yB a0.1 (1 : Int) (3 : Int)).1 then (bif (zD1 a0.2.1).1 then (bif (zD1 a0.2.2).1 then (bif (a0.2.1.1 != (3 : Int)) then (.v ((a0.2.2.1 != (3 : Int)), ())) else (.v (false, ()))) else (.v (false, ()))) else (.v (false, ()))) else (.v (false, ()))
def zFF a0 := (zLQ a0).val
@[reducible] def zfD : FnD := ⟨[va zS], [vd .bool], true, fun _ => none, fun a => zFF a.1⟩
def zgk : Con Tryz.prog := yD mo g0 [zAx, zSE] [] 161 zfD (fn := Tryz.f161) trivial (fun a _ _ => yT (t' := zLQ a.1) (by kernel_rfl) (by simp [zLQ]) rfl)
def zKJ (a0 : El zo) (a1 : List (El .str)) : Tr (Bool × Unit) := bif (a0.1 != (1 : Int)) then (.v (true, ())) else (.v ((vx a1 a0.2.1).1, ()))
def yu a0 a1 := (zKJ a0 a1).val
@[reducible] def zbm : FnD := ⟨[va zo, vd (.lst .str)], [vd .bool], true, fun _ => none, fun a => yu a.1 a.2.1⟩
def zRB : Con Tryz.prog := yD mo g0 [zQE] [] 162 zbm (fn := Tryz.f162) trivial (fun a _ _ => yT (t' := zKJ a.1 a.2.1) (by kernel_rfl) (by simp [zKJ]) rfl)
@[reducible] def zBg : LB := ⟨[], ⟨41, [], [(0, vd (.lst zS)), (1, vd (.lst .str)), (5, vd .int)]⟩, ⟨41, [], [(4, vd .bool)]⟩, 0, fun x => (fun (l0 : List (El zS)) (l1 : List (El .str)) (n5 : Int) => (bif decide (n5 < (l0.length : Int)) then (.ix n5 l0 (bif (!(zFF (zB zS l0 n5)).1) then (.v (.ret (false, ()))) else (.ix n5 l0 (bif (!(yu (zB zS l0 n5).2.1 l1).1) then (.v (.ret (false, ()))) else (.ix n5 l0 (bif (!(yu (zB zS l0 n5).2.2 l1).1) then (.v (.ret (false, ()))) else (.ik (n5 + (1 : Int)) (.v (.go (l0, l1, (n5 + (1 : Int)), ())))))))))) else (.v (.brk (l0, l1, n5, ()))) : Tr (St _ _))) x.1 x.2.1 x.2.2.1⟩
theorem zSa (l0 : List (El zS)) (l1 : List (El .str)) : LB.run zBg (l0, l1, (0 : Int), ()) = bif zd (fun _ x => bif (!(zFF x).1) then false else (bif (!(yu x.2.1 l1).1) then false else (bif (!(yu x.2.2 l1).1) then false else true))) 0 l0 then .brk (l0, l1, (l0.length : Int), ()) else .ret (false, ()) := LB.run_all (l := zBg) (fun i => (l0, l1, (i : Int), ())) (fun i x h => by
  simp only [LB.b, zBg, zi, zQ, zR, cond_true, yM h, zG h]
  cases (!(zFF x).1)
  ·cases (!(yu x.2.1 l1).1)
   ·cases (!(yu x.2.2 l1).1) <;> rfl
   ·rfl
  ·rfl) (by simp only [LB.b, zBg, xl]; rfl)
theorem zSg : SF zBg fun x : List (El zS) × List (El .str) × Int × Unit => (0 ≤ x.2.2.1, (x.1.length : Int) - x.2.2.1) := xz (by
 rintro ⟨(l0 : List (El zS)), (l1 : List (El .str)), (n5 : Int), ⟨⟩⟩ hI hw
 have _ : (l0.length : Int) ≤ 16777216 := zE (hw.1.1)
 simp [zBg] at hI ⊢
 repeat' first | intro _ | apply And.intro
 all_goals omega)
def zJ6 (a0 : List (El zS)) (a1 : List (El .str)) : Tr (Bool × Unit) := .lp zBg (a0, a1, (0 : Int), ()) (fun r5 => .v (r5.1, ())) (fun t5 => .v (decide ((t5.1.length : Int) ≤ (6 : Int)), ()))
def zJr a0 a1 := (zJ6 a0 a1).val
@[reducible] def zSR : FnD := ⟨[vd (.lst zS), vd (.lst .str)], [vd .bool], true, fun _ => none, fun a => zJr a.1 a.2.1⟩
theorem zdK (a0 : List (El zS)) (a1 : List (El .str)) (_ : xG zSR.args (a0, a1, ())) : (zJ6 a0 a1).ok := by
 unfold zJ6
 refine zI ?_ ?_
 ·exact zSg _ (by (dsimp only <;> omega))
 ·simp
def zaK : Con Tryz.prog := yD mo g0 [zgk, zRB] [zBg] 98 zSR (fn := Tryz.f98) ⟨lk, trivial⟩ (fun a hw _ => yT (by kernel_rfl) (zdK a.1 a.2.1 hw) rfl)
theorem zbx (a0 : List (El zS)) (a1 : List (El .str)) : zJr a0 a1 = bif zd (fun _ x => bif (!(zFF x).1) then false else (bif (!(yu x.2.1 a1).1) then false else (bif (!(yu x.2.2 a1).1) then false else true))) 0 a0 then (decide ((a0.length : Int) ≤ (6 : Int)), ()) else (false, ()) := by
 simp only [zJr, zJ6, zR, zx, zQ]
 rw [zSa, z7] <;> rfl
@[reducible] def zAr : LB := ⟨[], ⟨22, [.d zC], [(1, .pt 0 0), (3, vd .int), (4, vd .int)]⟩, ⟨22, [], []⟩, 0, fun x => (fun (w0 : El zC) (n3 : Int) (n4 : Int) => (bif decide (n4 < (w0.2.2.1.length : Int)) then (.ix n4 w0.2.2.1 (bif (!(zB zJ w0.2.2.1 n4).2.2) then (.ik (n3 + (1 : Int)) (.ik (n4 + (1 : Int)) (.v (.go (w0, (), (n3 + (1 : Int)), (n4 + (1 : Int)), ()))))) else (.ik (n4 + (1 : Int)) (.v (.go (w0, (), n3, (n4 + (1 : Int)), ())))))) else (.v (.brk (w0, (), n3, n4, ()))) : Tr (St _ _))) x.1 x.2.2.1 x.2.2.2.1⟩
theorem zHE (w0 : El zC) (n3 : Int) : LB.run zAr (w0, (), n3, (0 : Int), ()) = .brk (w0, (), (zg (fun _ x (s : Int) => bif (!x.2.2) then (s + (1 : Int)) else s) 0 w0.2.2.1 n3), (w0.2.2.1.length : Int), ()) := LB.run_fold (l := zAr) (fun i s => (w0, (), s, (i : Int), ())) (fun i x s h => by
  simp only [LB.b, zAr, zi, zQ, zR, cond_true, yM h, zG h]
  cases (!x.2.2) <;> rfl) (fun s => by simp only [LB.b, zAr, xl]; rfl)
theorem zR1 : SF zAr fun x : El zC × Unit × Int × Int × Unit => (0 ≤ x.2.2.2.1 ∧ (0 ≤ x.2.2.1 ∧ x.2.2.1 ≤ x.2.2.2.1), (x.1.2.2.1.length : Int) - x.2.2.2.1) := xz (by
 rintro ⟨(w0 : El zC), ⟨⟩, (n3 : Int), (n4 : Int), ⟨⟩⟩ hI hw
 have _ : -9223372036854775808 ≤ n3 ∧ n3 ≤ 9223372036854775807 := zw hw.2.2.1
 have _ : (w0.2.2.1.length : Int) ≤ 16777216 := zE (hw.1.2.2.1.1)
 simp [zAr] at hI ⊢
 repeat' first | intro _ | apply And.intro
 all_goals omega)
def zFp (a0 : El zC) : Tr (Int × Unit) := .lp zAr (a0, (), (0 : Int), (0 : Int), ()) (fun _ => .bad) (fun t1 => .v (t1.2.2.1, ()))
def xP a0 := (zFp a0).val
@[reducible] def zPZ : FnD := ⟨[va zC], [vd .int], true, fun _ => none, fun a => xP a.1⟩
theorem zZm (a0 : El zC) (_ : xG zPZ.args (a0, ())) : (zFp a0).ok := by
 unfold zFp
 refine zI ?_ ?_
 ·exact zR1 _ ⟨by (dsimp only <;> omega), by (dsimp only <;> omega)⟩
 ·refine vP (zHE a0 (0 : Int)) ?_
  try dsimp only
  trivial
def zKx : Con Tryz.prog := yD mo g0 [] [zAr] 100 zPZ (fn := Tryz.f100) ⟨lk, trivial⟩ (fun a hw _ => yT (by kernel_rfl) (zZm a.1 hw) rfl)
theorem zYe (a0 : El zC) : xP a0 = ((zg (fun _ x (s : Int) => bif (!x.2.2) then (s + (1 : Int)) else s) 0 a0.2.2.1 (0 : Int)), ()) := by
 simp only [xP, zFp, zR, zx, zQ]
 rw [zHE, xf] <;> rfl
theorem zFk (r : El zC) : (xP r).1 = ((r.2.2.1.filter (fun p => !p.2.2)).length : Int) := by
 simp only [xP, zFp, zQ, zR, zx]
 rw [zHE]
 show zg (fun i x (s : Int) => bif (!x.2.2) then (s + (1 : Int)) else s) 0 r.2.2.1 (0 : Int) = _
 rw [zH7]; simp
def zkX (d : El zN) (s : El zH) : Prop := s.1.length ≤ 40 ∧ d.2.length ≤ 12 ∧ ∀ r ∈ d.2, (∀ p ∈ r.2.2.1, p.2.1.length ≤ 5) ∧ (r.2.2.1.filter (fun p => !p.2.2)).length ≤ 3
def zHh (a0 : El zo) : Tr (Bool × Unit) := bif (zD1 a0).1 then (.v ((a0.1 != (3 : Int)), ())) else (.v (false, ()))
def zBx a0 := (zHh a0).val
@[reducible] def zac : FnD := ⟨[va zo], [vd .bool], true, fun _ => none, fun a => zBx a.1⟩
def zbe : Con Tryz.prog := yD mo g0 [zSE] [] 275 zac (fn := Tryz.f275) trivial (fun a _ _ => yT (t' := zHh a.1) (by kernel_rfl) (by simp [zHh]) rfl)
def zLK (a0 : El zq) : Tr (Bool × Unit) := bif (a0.1.toList == (⟨#[]⟩ : ByteArray).toList) then (bif (zBx a0.2.1).1 then (.v (((a0.2.2.1 == (0 : Int)) && ((a0.2.2.2.1.toList == (⟨#[]⟩ : ByteArray).toList) && (((a0.2.2.2.2.1 == (0 : Int)) && ((a0.2.2.2.2.2.1 == (0 : Int)) && ((a0.2.2.2.2.2.2.toList == (⟨#[]⟩ : ByteArray).toList) && true))) && true))), ())) else (.v (false, ()))) else (bif (a0.1.toList == (⟨#[43]⟩ : ByteArray).toList) then (bif (a0.1.toList == (⟨#[43]⟩ : ByteArray).toList) then (bif (zBx a0.2.1).1 then (.v ((zBx a0.2.2).1, ())) else (.v (false, ()))) else (.v (false, ()))) else (bif (a0.1.toList == (⟨#[45]⟩ : ByteArray).toList) then (bif (zBx a0.2.1).1 then (.v ((zBx a0.2.2).1, ())) else (.v (false, ()))) else (.v (false, ()))))
def zFD a0 := (zLK a0).val
@[reducible] def zev : FnD := ⟨[va zq], [vd .bool], true, fun _ => none, fun a => zFD a.1⟩
def zfd : Con Tryz.prog := yD mo g0 [zbe] [] 256 zev (fn := Tryz.f256) trivial (fun a _ _ => yT (t' := zLK a.1) (by kernel_rfl) (by simp [zLK]) rfl)
@[reducible] def zC8 : LB := ⟨[], ⟨19, [], [(0, vd (.lst zq)), (3, vd .int)]⟩, ⟨19, [], [(2, vd .bool)]⟩, 0, fun x => (fun (l0 : List (El zq)) (n3 : Int) => (bif decide (n3 < (l0.length : Int)) then (.ix n3 l0 (bif (!(zFD (zB zq l0 n3)).1) then (.v (.ret (false, ()))) else (.ik (n3 + (1 : Int)) (.v (.go (l0, (n3 + (1 : Int)), ())))))) else (.v (.brk (l0, n3, ()))) : Tr (St _ _))) x.1 x.2.1⟩
theorem zWC (l0 : List (El zq)) : LB.run zC8 (l0, (0 : Int), ()) = bif zd (fun _ x => bif (!(zFD x).1) then false else true) 0 l0 then .brk (l0, (l0.length : Int), ()) else .ret (false, ()) := LB.run_all (l := zC8) (fun i => (l0, (i : Int), ())) (fun i x h => by
  simp only [LB.b, zC8, zi, zQ, zR, cond_true, yM h, zG h]
  cases (!(zFD x).1) <;> rfl) (by simp only [LB.b, zC8, xl]; rfl)
theorem zWK : SF zC8 fun x : List (El zq) × Int × Unit => (0 ≤ x.2.1, (x.1.length : Int) - x.2.1) := xz (by
 rintro ⟨(l0 : List (El zq)), (n3 : Int), ⟨⟩⟩ hI hw
 have _ : (l0.length : Int) ≤ 16777216 := zE (hw.1.1)
 simp [zC8] at hI ⊢
 repeat' first | intro _ | apply And.intro
 all_goals omega)
def zLs (a0 : List (El zq)) : Tr (Bool × Unit) := .lp zC8 (a0, (0 : Int), ()) (fun r2 => .v (r2.1, ())) (fun t2 => .v (decide ((t2.1.length : Int) ≤ (5 : Int)), ()))
def zAI a0 := (zLs a0).val
@[reducible] def zT8 : FnD := ⟨[vd (.lst zq)], [vd .bool], true, fun _ => none, fun a => zAI a.1⟩
theorem zd0 (a0 : List (El zq)) (_ : xG zT8.args (a0, ())) : (zLs a0).ok := by
 unfold zLs
 refine zI ?_ ?_
 ·exact zWK _ (by (dsimp only <;> omega))
 ·simp
def zd7 : Con Tryz.prog := yD mo g0 [zfd] [zC8] 217 zT8 (fn := Tryz.f217) ⟨lk, trivial⟩ (fun a hw _ => yT (by kernel_rfl) (zd0 a.1 hw) rfl)
theorem zgH (a0 : List (El zq)) : zAI a0 = bif zd (fun _ x => bif (!(zFD x).1) then false else true) 0 a0 then (decide ((a0.length : Int) ≤ (5 : Int)), ()) else (false, ()) := by
 simp only [zAI, zLs, zR, zx, zQ]
 rw [zWC, z7] <;> rfl
def zN8 (a0 : El z5) : Tr (Bool × Unit) := bif (a0.2.1.toList == (⟨#[]⟩ : ByteArray).toList) then (bif ((a0.2.2.1.length : Int) == (0 : Int)) then (bif (a0.1 == (1 : Int)) then (bif (yQ a0.2.1).1 then (bif (zAI a0.2.2.1).1 then (bif (a0.2.2.2.1 == (0 : Int)) then (.v ((a0.2.2.2.2.toList == (⟨#[]⟩ : ByteArray).toList), ())) else (.v (false, ()))) else (.v (false, ()))) else (.v (false, ()))) else (bif (a0.1 == (3 : Int)) then (bif (yQ a0.2.1).1 then (bif (zAI a0.2.2.1).1 then (bif (a0.2.2.2.1 == (0 : Int)) then (bif (a0.2.2.2.2.toList == (⟨#[]⟩ : ByteArray).toList) then (.v (true, ())) else (.v ((yQ a0.2.2.2.2).1, ()))) else (.v (false, ()))) else (.v (false, ()))) else (.v (false, ()))) else (bif (a0.1 == (4 : Int)) then (bif (yQ a0.2.1).1 then (bif (zAI a0.2.2.1).1 then (bif (yB a0.2.2.2.1 (0 : Int) (100000 : Int)).1 then (.v ((a0.2.2.2.2.toList == (⟨#[]⟩ : ByteArray).toList), ())) else (.v (false, ()))) else (.v (false, ()))) else (.v (false, ()))) else (bif (a0.1 == (2 : Int)) then (bif (a0.2.2.2.2.toList == (⟨#[]⟩ : ByteArray).toList) then (.v ((yB a0.2.2.2.1 (0 : Int) (7 : Int)).1, ())) else (.v (false, ()))) else (bif (a0.1 == (5 : Int)) then (bif (a0.1 == (5 : Int)) then (bif (a0.2.2.2.2.toList == (⟨#[]⟩ : ByteArray).toList) then (.v ((a0.2.2.2.1 == (0 : Int)), ())) else (.v (false, ()))) else (.v (false, ()))) else (bif (a0.1 == (6 : Int)) then (bif (a0.2.2.2.2.toList == (⟨#[]⟩ : ByteArray).toList) then (.v ((a0.2.2.2.1 == (0 : Int)), ())) else (.v (false, ()))) else (.v (false, ())))))))) else (bif (a0.1 == (1 : Int)) then (bif (yQ a0.2.1).1 then (bif (zAI a0.2.2.1).1 then (bif (a0.2.2.2.1 == (0 : Int)) then (.v ((a0.2.2.2.2.toList == (⟨#[]⟩ : ByteArray).toList), ())) else (.v (false, ()))) else (.v (false, ()))) else (.v (false, ()))) else (bif (a0.1 == (3 : Int)) then (bif (yQ a0.2.1).1 then (bif (zAI a0.2.2.1).1 then (bif (a0.2.2.2.1 == (0 : Int)) then (bif (a0.2.2.2.2.toList == (⟨#[]⟩ : ByteArray).toList) then (.v (true, ())) else (.v ((yQ a0.2.2.2.2).1, ()))) else (.v (false, ()))) else (.v (false, ()))) else (.v (false, ()))) else (bif (a0.1 == (4 : Int)) then (bif (yQ a0.2.1).1 then (bif (zAI a0.2.2.1).1 then (bif (yB a0.2.2.2.1 (0 : Int) (100000 : Int)).1 then (.v ((a0.2.2.2.2.toList == (⟨#[]⟩ : ByteArray).toList), ())) else (.v (false, ()))) else (.v (false, ()))) else (.v (false, ()))) else (bif (a0.1 == (2 : Int)) then (.v (false, ())) else (bif (a0.1 == (5 : Int)) then (bif (a0.1 == (5 : Int)) then (.v (false, ())) else (.v (false, ()))) else (bif (a0.1 == (6 : Int)) then (.v (false, ())) else (.v (false, ()))))))))) else (bif (a0.1 == (1 : Int)) then (bif (yQ a0.2.1).1 then (bif (zAI a0.2.2.1).1 then (bif (a0.2.2.2.1 == (0 : Int)) then (.v ((a0.2.2.2.2.toList == (⟨#[]⟩ : ByteArray).toList), ())) else (.v (false, ()))) else (.v (false, ()))) else (.v (false, ()))) else (bif (a0.1 == (3 : Int)) then (bif (yQ a0.2.1).1 then (bif (zAI a0.2.2.1).1 then (bif (a0.2.2.2.1 == (0 : Int)) then (bif (a0.2.2.2.2.toList == (⟨#[]⟩ : ByteArray).toList) then (.v (true, ())) else (.v ((yQ a0.2.2.2.2).1, ()))) else (.v (false, ()))) else (.v (false, ()))) else (.v (false, ()))) else (bif (a0.1 == (4 : Int)) then (bif (yQ a0.2.1).1 then (bif (zAI a0.2.2.1).1 then (bif (yB a0.2.2.2.1 (0 : Int) (100000 : Int)).1 then (.v ((a0.2.2.2.2.toList == (⟨#[]⟩ : ByteArray).toList), ())) else (.v (false, ()))) else (.v (false, ()))) else (.v (false, ()))) else (bif (a0.1 == (2 : Int)) then (.v (false, ())) else (bif (a0.1 == (5 : Int)) then (bif (a0.1 == (5 : Int)) then (.v (false, ())) else (.v (false, ()))) else (bif (a0.1 == (6 : Int)) then (.v (false, ())) else (.v (false, ()))))))))
def zHZ a0 := (zN8 a0).val
@[reducible] def zjN : FnD := ⟨[va z5], [vd .bool], true, fun _ => none, fun a => zHZ a.1⟩
def ziQ : Con Tryz.prog := yD mo g0 [zFY, zd7, zAx] [] 163 zjN (fn := Tryz.f163) trivial (fun a _ _ => yT (t' := zN8 a.1) (by kernel_rfl) (by simp [zN8]) rfl)
@[reducible] def zBv : LB := ⟨[], ⟨77, [], [(0, vd (.lst z5)), (1, vd (.lst .str)), (2, vd .int), (7, vd .int), (8, vd .int)]⟩, ⟨77, [], [(6, vd .bool)]⟩, 2, fun x => (fun (l0 : List (El z5)) (l1 : List (El .str)) (n2 : Int) (n7 : Int) (n8 : Int) => (.ix n7 l0 (bif decide (n8 < ((zB z5 l0 n7).2.2.1.length : Int)) then (.ix n7 l0 (.ix n8 (zB z5 l0 n7).2.2.1 (bif (!(yu (zB zq (zB z5 l0 n7).2.2.1 n8).2.1 l1).1) then (.v (.ret (false, ()))) else (.ix n7 l0 (.ix n8 (zB z5 l0 n7).2.2.1 (bif (!(yu (zB zq (zB z5 l0 n7).2.2.1 n8).2.2 l1).1) then (.v (.ret (false, ()))) else (.ik (n8 + (1 : Int)) (.v (.go (l0, l1, n2, n7, (n8 + (1 : Int)), ())))))))))) else (.v (.brk (l0, l1, n2, n7, n8, ())))) : Tr (St _ _))) x.1 x.2.1 x.2.2.1 x.2.2.2.1 x.2.2.2.2.1⟩
theorem zOL (l0 : List (El z5)) (l1 : List (El .str)) (n2 : Int) (n7 : Int) : LB.run zBv (l0, l1, n2, n7, (0 : Int), ()) = bif zd (fun _ x => bif (!(yu x.2.1 l1).1) then false else (bif (!(yu x.2.2 l1).1) then false else true)) 0 (zB z5 l0 n7).2.2.1 then .brk (l0, l1, n2, n7, ((zB z5 l0 n7).2.2.1.length : Int), ()) else .ret (false, ()) := LB.run_all (l := zBv) (fun i => (l0, l1, n2, n7, (i : Int), ())) (fun i x h => by
  simp only [LB.b, zBv, zi, zQ, zR, cond_true, yM h, zG h]
  cases (!(yu x.2.1 l1).1)
  ·cases (!(yu x.2.2 l1).1) <;> rfl
  ·rfl) (by simp only [LB.b, zBv, xl]; rfl)
theorem zW2 : SF zBv fun x : List (El z5) × List (El .str) × Int × Int × Int × Unit => (0 ≤ x.2.2.2.2.1 ∧ (0 ≤ x.2.2.2.1 ∧ x.2.2.2.1 < (x.1.length : Int)), ((zB z5 x.1 x.2.2.2.1).2.2.1.length : Int) - x.2.2.2.2.1) := xz (by
 rintro ⟨(l0 : List (El z5)), (l1 : List (El .str)), (n2 : Int), (n7 : Int), (n8 : Int), ⟨⟩⟩ hI hw
 obtain ⟨i0, i1⟩ := hI
 dsimp only at i0 i1
 have _ : -9223372036854775808 ≤ n2 ∧ n2 ≤ 9223372036854775807 := zw hw.2.2.1
 have _ : -9223372036854775808 ≤ n7 ∧ n7 ≤ 9223372036854775807 := zw hw.2.2.2.1
 have _ : ((zB z5 l0 n7).2.2.1.length : Int) ≤ 16777216 := zE ((zlN (t := z5) hw.1.2 (by omega)).2.2.1.1)
 have _ : (l0.length : Int) ≤ 16777216 := zE (hw.1.1)
 simp [zBv] at i0 i1 ⊢
 repeat' first | intro _ | apply And.intro
 all_goals omega)
@[reducible] def zDZ : LB := ⟨[], ⟨77, [], [(0, vd (.lst z5)), (1, vd (.lst .str)), (2, vd .int), (7, vd .int)]⟩, ⟨77, [], [(6, vd .bool)]⟩, 0, fun x => (fun (l0 : List (El z5)) (l1 : List (El .str)) (n2 : Int) (n7 : Int) => (bif decide (n7 < (l0.length : Int)) then (.ix n7 l0 (bif (!(zHZ (zB z5 l0 n7)).1) then (.v (.ret (false, ()))) else (.ix n7 l0 (bif ((zB z5 l0 n7).1 == (2 : Int)) then (.ix n7 l0 (bif decide ((zB z5 l0 n7).2.2.2.1 ≥ n2) then (.v (.ret (false, ()))) else (.lp zBv (l0, l1, n2, n7, (0 : Int), ()) (fun r5 => .v (.ret (r5.1, ()))) (fun t5 => .ik (t5.2.2.2.1 + (1 : Int)) (.v (.go (t5.1, t5.2.1, t5.2.2.1, (t5.2.2.2.1 + (1 : Int)), ()))))))) else (.lp zBv (l0, l1, n2, n7, (0 : Int), ()) (fun r6 => .v (.ret (r6.1, ()))) (fun t6 => .ik (t6.2.2.2.1 + (1 : Int)) (.v (.go (t6.1, t6.2.1, t6.2.2.1, (t6.2.2.2.1 + (1 : Int)), ()))))))))) else (.v (.brk (l0, l1, n2, n7, ()))) : Tr (St _ _))) x.1 x.2.1 x.2.2.1 x.2.2.2.1⟩
theorem zXA : SF zDZ fun x : List (El z5) × List (El .str) × Int × Int × Unit => (0 ≤ x.2.2.2.1, (x.1.length : Int) - x.2.2.2.1) := xz (by
 rintro ⟨(l0 : List (El z5)), (l1 : List (El .str)), (n2 : Int), (n7 : Int), ⟨⟩⟩ hI hw
 have _ : -9223372036854775808 ≤ n2 ∧ n2 ≤ 9223372036854775807 := zw hw.2.2.1
 have _ : (l0.length : Int) ≤ 16777216 := zE (hw.1.1)
 simp only [zDZ, Tr.lp]
 rw [zOL l0 l1 n2 n7]
 simp [z7] at hI ⊢
 repeat' first | exact zW2 _ ⟨by (dsimp only <;> omega), by (dsimp only <;> omega)⟩ | intro _ | apply And.intro
 all_goals omega)
def zLu (a0 : List (El z5)) (a1 : List (El .str)) (a2 : Int) : Tr (Bool × Unit) := .lp zDZ (a0, a1, a2, (0 : Int), ()) (fun r7 => .v (r7.1, ())) (fun t7 => .v ((yB (t7.1.length : Int) (1 : Int) (6 : Int)).1, ()))
def zMP a0 a1 a2 := (zLu a0 a1 a2).val
@[reducible] def zUG : FnD := ⟨[vd (.lst z5), vd (.lst .str), vd .int], [vd .bool], true, fun _ => none, fun a => zMP a.1 a.2.1 a.2.2.1⟩
theorem zd1 (a0 : List (El z5)) (a1 : List (El .str)) (a2 : Int) (_ : xG zUG.args (a0, a1, a2, ())) : (zLu a0 a1 a2).ok := by
 unfold zLu
 refine zI ?_ ?_
 ·exact zXA _ (by (dsimp only <;> omega))
 ·simp
def zem : Con Tryz.prog := yD mo g0 [ziQ, zRB, zAx] [zDZ, zBv] 99 zUG (fn := Tryz.f99) ⟨lk, lk, trivial⟩ (fun a hw _ => yT (by kernel_rfl) (zd1 a.1 a.2.1 a.2.2.1 hw) rfl)
def zGl (a0 : El zC) : Tr (Bool × Unit) := .ck (zKF a0) (bif (yQ a0.1).1 then (bif (yB a0.2.1 (-100 : Int) (100 : Int)).1 then (bif (zFQ a0.2.2.1).1 then (bif (zJr a0.2.2.2.1 (zEB a0).1).1 then (.v ((zMP a0.2.2.2.2 (zEB a0).1 (xP a0).1).1, ())) else (.v (false, ()))) else (.v (false, ()))) else (.v (false, ()))) else (.v (false, ())))
def zBB a0 := (zGl a0).val
def zMV (a0 : El zC) : Prop := SzR a0
@[reducible] def zU3 : FnD := ⟨[va zC], [vd .bool], true, fun a => some (zMV a.1), fun a => zBB a.1⟩
theorem zgc (a0 : El zC) (_ : xG zU3.args (a0, ())) (hp : zMV a0) : (zGl a0).ok := by
 unfold zMV at hp
 unfold zGl
 refine zI ?_ ?_
 ·exact hp
 ·simp
def zd8 : Con Tryz.prog := yD mo g0 [zbU, zFY, zAx, ze0, zaK, zKx, zem] [] 52 zU3 (fn := Tryz.f52) trivial (fun a hw h => yT (by kernel_rfl) (zgc a.1 hw h) rfl)
theorem zeh {r : El zC} (h : (zBB r).1 = true) : (∀ p ∈ r.2.2.1, p.2.1.length ≤ 5) ∧ (r.2.2.1.filter (fun p => !p.2.2)).length ≤ 3 := by
 simp only [zBB, zGl, zi, zQ, zR, z6, zIT] at h
 exact zeg h.2.2.1
@[reducible] def zBw : LB := ⟨[], ⟨22, [.d zN], [(1, vd .str), (2, .pt 0 0), (5, vd .int)]⟩, ⟨22, [], [(4, vd .int)]⟩, 0, fun x => (fun (w0 : El zN) (s1 : ByteArray) (n5 : Int) => (bif decide (n5 < (w0.2.length : Int)) then (.ix n5 w0.2 (bif ((zB zC w0.2 n5).1.toList == s1.toList) then (.v (.ret (n5, ()))) else (.ik (n5 + (1 : Int)) (.v (.go (w0, s1, (), (n5 + (1 : Int)), ())))))) else (.v (.brk (w0, s1, (), n5, ()))) : Tr (St _ _))) x.1 x.2.1 x.2.2.2.1⟩
theorem zWJ (w0 : El zN) (s1 : ByteArray) : LB.run zBw (w0, s1, (), (0 : Int), ()) = zCY (yt (fun i x => bif (x.1.toList == s1.toList) then (some ((i : Int), ())) else none) 0 w0.2) (w0, s1, (), (w0.2.length : Int), ()) := LB.run_scan (l := zBw) (fun i => (w0, s1, (), (i : Int), ())) (fun i x h => by
  simp only [LB.b, zBw, zi, zQ, zR, cond_true, yM h, zG h]
  cases (x.1.toList == s1.toList) <;> rfl) (by simp only [LB.b, zBw, xl]; rfl)
theorem zWX : SF zBw fun x : El zN × ByteArray × Unit × Int × Unit => (0 ≤ x.2.2.2.1, (x.1.2.length : Int) - x.2.2.2.1) := xz (by
 rintro ⟨(w0 : El zN), (s1 : ByteArray), ⟨⟩, (n5 : Int), ⟨⟩⟩ hI hw
 have _ : (w0.2.length : Int) ≤ 16777216 := zE (hw.1.2.1)
 simp [zBw] at hI ⊢
 repeat' first | intro _ | apply And.intro
 all_goals omega)
def zLD (a0 : El zN) (a1 : ByteArray) : Tr (Int × Unit) := .lp zBw (a0, a1, (), (0 : Int), ()) (fun r1 => .v (r1.1, ())) (fun _ => .v ((-1 : Int), ()))
def zEW a0 a1 := (zLD a0 a1).val
@[reducible] def zVN : FnD := ⟨[va zN, vd .str], [vd .int], true, fun _ => none, fun a => zEW a.1 a.2.1⟩
theorem zfI (a0 : El zN) (a1 : ByteArray) (_ : xG zVN.args (a0, a1, ())) : (zLD a0 a1).ok := by
 unfold zLD
 refine zI ?_ ?_
 ·exact zWX _ (by (dsimp only <;> omega))
 ·simp
def zgO : Con Tryz.prog := yD mo g0 [] [zBw] 53 zVN (fn := Tryz.f53) ⟨lk, trivial⟩ (fun a hw _ => yT (by kernel_rfl) (zfI a.1 a.2.1 hw) rfl)
theorem zgt (a0 : El zN) (a1 : ByteArray) : zEW a0 a1 = zCh (yt (fun i x => bif (x.1.toList == a1.toList) then (some ((i : Int), ())) else none) 0 a0.2) (fun (r1 : zBw.r.T) => (r1.1, ())) ((-1 : Int), ()) := by
 simp only [zEW, zLD, zR, zx, zQ]
 rw [zWJ, xI] <;> rfl
@[reducible] def zEL : LB := ⟨[], ⟨39, [.d zN], [(1, .pt 0 0), (3, vd .int)]⟩, ⟨39, [], [(2, vd .bool)]⟩, 0, fun x => (fun (w0 : El zN) (n3 : Int) => (bif decide (n3 < (w0.2.length : Int)) then (.ix n3 w0.2 (.ck (zMV (zB zC w0.2 n3)) (bif (!(zBB (zB zC w0.2 n3)).1) then (.v (.ret (false, ()))) else (.ix n3 w0.2 (bif ((zEW w0 (zB zC w0.2 n3).1).1 != n3) then (.v (.ret (false, ()))) else (.ik (n3 + (1 : Int)) (.v (.go (w0, (), (n3 + (1 : Int)), ()))))))))) else (.v (.brk (w0, (), n3, ()))) : Tr (St _ _))) x.1 x.2.2.1⟩
theorem zZF (w0 : El zN) : LB.run zEL (w0, (), (0 : Int), ()) = bif zd (fun i x => bif (!(zBB x).1) then false else (bif ((zEW w0 x.1).1 != (i : Int)) then false else true)) 0 w0.2 then .brk (w0, (), (w0.2.length : Int), ()) else .ret (false, ()) := LB.run_all (l := zEL) (fun i => (w0, (), (i : Int), ())) (fun i x h => by
  simp only [LB.b, zEL, zi, zQ, zR, cond_true, yM h, zG h]
  cases (!(zBB x).1)
  ·cases ((zEW w0 x.1).1 != (i : Int)) <;> rfl
  ·rfl) (by simp only [LB.b, zEL, xl]; rfl)
theorem zYZ : SF zEL fun x : El zN × Unit × Int × Unit => (0 ≤ x.2.2.1 ∧ ∀ r ∈ x.1.2, SzR r, (x.1.2.length : Int) - x.2.2.1) := xz (by
 rintro ⟨(w0 : El zN), ⟨⟩, (n3 : Int), ⟨⟩⟩ hI hw
 obtain ⟨i0, k0⟩ := hI
 dsimp only at i0 k0
 have _ : (w0.2.length : Int) ≤ 16777216 := zE (hw.1.2.1)
 simp [zEL, -Prod.forall]
 repeat' first | exact k0 _ (z4 (by omega)) | assumption | intro _ | apply And.intro
 all_goals omega)
def zNr (a0 : El zN) : Tr (Bool × Unit) := .lp zEL (a0, (), (0 : Int), ()) (fun r3 => .v (r3.1, ())) (fun t3 => bif (yQ t3.1.1).1 then (.v ((yB (t3.1.2.length : Int) (1 : Int) (12 : Int)).1, ())) else (.v (false, ())))
def zCx a0 := (zNr a0).val
def zKc (a0 : El zN) : Prop := ∀ r ∈ a0.2, SzR r
@[reducible] def zZ0 : FnD := ⟨[va zN], [vd .bool], true, fun a => some (zKc a.1), fun a => zCx a.1⟩
theorem zia (a0 : El zN) (_ : xG zZ0.args (a0, ())) (hp : zKc a0) : (zNr a0).ok := by
 unfold zKc at hp
 unfold zNr
 refine zI ?_ ?_
 ·exact zYZ _ ⟨by (dsimp only <;> first | omega | assumption | (simp <;> omega)), by (dsimp only <;> first | omega | assumption | (simp <;> omega))⟩
 ·simp
def zYl : Con Tryz.prog := yD mo g0 [zd8, zgO, zFY, zAx] [zEL] 29 zZ0 (fn := Tryz.f29) ⟨lk, trivial⟩ (fun a hw h => yT (by kernel_rfl) (zia a.1 hw h) rfl)
theorem zRh (a0 : El zN) : zCx a0 = bif zd (fun i x => bif (!(zBB x).1) then false else (bif ((zEW a0 x.1).1 != (i : Int)) then false else true)) 0 a0.2 then (bif (yQ a0.1).1 then ((yB (a0.2.length : Int) (1 : Int) (12 : Int)).1, ()) else (false, ())) else (false, ()) := by
 simp only [zCx, zNr, zR, zi, zx, zQ]
 rw [zZF, z7] <;> rfl
theorem zh1 {d : El zN} (h : (zCx d).1 = true) : d.2.length ≤ 12 ∧ ∀ r ∈ d.2, (zBB r).1 = true := by
 rw [zRh] at h
 simp only [z6, zIT] at h
 obtain ⟨h3, h1, h2⟩ := h
 have := zJq h2
 rw [zr] at h3
 refine ⟨by omega, fun r hr => ?_⟩
 obtain ⟨i, hi⟩ := List.mem_iff_getElem?.1 hr
 have := h3 i r hi
 simp only [zAY] at this
 exact vQ this.1
@[reducible] def vr : LB := ⟨[], ⟨22, [.d zO], [(1, vd .str), (2, .pt 0 0), (5, vd .int)]⟩, ⟨22, [], [(4, vd .int)]⟩, 0, fun x => (fun (w0 : El zO) (s1 : ByteArray) (n5 : Int) => (bif decide (n5 < (w0.1.length : Int)) then (.ix n5 w0.1 (bif ((zB zN w0.1 n5).1.toList == s1.toList) then (.v (.ret (n5, ()))) else (.ik (n5 + (1 : Int)) (.v (.go (w0, s1, (), (n5 + (1 : Int)), ())))))) else (.v (.brk (w0, s1, (), n5, ()))) : Tr (St _ _))) x.1 x.2.1 x.2.2.2.1⟩
theorem zZ5 (w0 : El zO) (s1 : ByteArray) : LB.run vr (w0, s1, (), (0 : Int), ()) = zCY (yt (fun i x => bif (x.1.toList == s1.toList) then (some ((i : Int), ())) else none) 0 w0.1) (w0, s1, (), (w0.1.length : Int), ()) := LB.run_scan (l := vr) (fun i => (w0, s1, (), (i : Int), ())) (fun i x h => by
  simp only [LB.b, vr, zi, zQ, zR, cond_true, yM h, zG h]
  cases (x.1.toList == s1.toList) <;> rfl) (by simp only [LB.b, vr, xl]; rfl)
theorem zZy (w00 : El zO) (s10 : ByteArray) (n50 : Int)  : (LB.run vr (w00, s10, (), n50, ())).all (fun r => r.1 < (w00.1.length : Int)) (fun (w0, s1, _) => w00 = w0 ∧ s10 = s1) (fun (w0, s1, _) => w00 = w0 ∧ s10 = s1) := by
 have H : ∀ (w0 : El zO) (s1 : ByteArray) (n5 : Int), (w00 = w0 ∧ s10 = s1) → St.all (fun r => r.1 < (w00.1.length : Int)) (fun (w0, s1, _) => w00 = w0 ∧ s10 = s1) (fun (w0, s1, _) => w00 = w0 ∧ s10 = s1) (vr.b (w0, s1, (), n5, ())) := by
  intro w0 s1 n5 hI
  obtain ⟨eq0, eq1⟩ := hI
  simp only [LB.b, vr, zi, zQ, zR]
  refine zj (fun h1 => ?_) (fun h1 => ?_)
  ·replace h1 : n5 < (w0.1.length : Int) := of_decide_eq_true h1
   refine zj (fun h2 => ?_) (fun h2 => ?_)
   ·exact zKS (by subst_vars; dsimp only; omega)
   ·exact ⟨eq0, eq1⟩
  ·replace h1 : ¬ (n5 < (w0.1.length : Int)) := of_decide_eq_false h1
   exact ⟨eq0, eq1⟩
 exact LB.post (l := vr) (A := fun r => r.1 < (w00.1.length : Int)) (fun (w0, s1, _) => w00 = w0 ∧ s10 = s1) (fun ⟨w0, s1, ⟨⟩, n5, ⟨⟩⟩ hx => H w0 s1 n5 hx) ⟨rfl, rfl⟩
theorem zZN : SF vr fun x : El zO × ByteArray × Unit × Int × Unit => (0 ≤ x.2.2.2.1, (x.1.1.length : Int) - x.2.2.2.1) := xz (by
 rintro ⟨(w0 : El zO), (s1 : ByteArray), ⟨⟩, (n5 : Int), ⟨⟩⟩ hI hw
 have _ : (w0.1.length : Int) ≤ 16777216 := zE (hw.1.1.1)
 simp [vr] at hI ⊢
 repeat' first | intro _ | apply And.intro
 all_goals omega)
def zKq (a0 : El zO) (a1 : ByteArray) : Tr (Int × Unit) := .lp vr (a0, a1, (), (0 : Int), ()) (fun r1 => .v (r1.1, ())) (fun _ => .v ((-1 : Int), ()))
def xQ a0 a1 := (zKq a0 a1).val
@[reducible] def zY0 : FnD := ⟨[va zO, vd .str], [vd .int], true, fun _ => none, fun a => xQ a.1 a.2.1⟩
theorem zjW (a0 : El zO) (a1 : ByteArray) (_ : xG zY0.args (a0, a1, ())) : (zKq a0 a1).ok := by
 unfold zKq
 refine zI ?_ ?_
 ·exact zZN _ (by (dsimp only <;> omega))
 ·simp
def zZc : Con Tryz.prog := yD mo g0 [] [vr] 30 zY0 (fn := Tryz.f30) ⟨lk, trivial⟩ (fun a hw _ => yT (by kernel_rfl) (zjW a.1 a.2.1 hw) rfl)
theorem zjz (a0 : El zO) (a1 : ByteArray) : xQ a0 a1 = zCh (yt (fun i x => bif (x.1.toList == a1.toList) then (some ((i : Int), ())) else none) 0 a0.1) (fun (r1 : vr.r.T) => (r1.1, ())) ((-1 : Int), ()) := by
 simp only [xQ, zKq, zR, zx, zQ]
 rw [zZ5, xI] <;> rfl
theorem zZH (b : El zO) (s : ByteArray) : (xQ b s).1 < (b.1.length : Int) := by
 simp only [xQ, zKq, zQ, zR, zx]
 have := zZy b s (0 : Int)
 revert this
 cases (LB.run vr (b, s, (), (0 : Int), ())) with
 | ret r => intro h; exact h
 | brk t => intro _; show (-1 : Int) < _; omega
 | go t => intro _; show (-1 : Int) < _; omega
def zOS (a0 : El yf) : Tr (Bool × Unit) := bif (a0.2.2.2.2.2.1 == (2 : Int)) then (.v (true, ())) else (bif (a0.2.2.2.2.2.1 == (4 : Int)) then (.v (true, ())) else (.v ((a0.2.2.2.2.2.1 == (6 : Int)), ())))
def zQI a0 := (zOS a0).val
@[reducible] def ziR : FnD := ⟨[va yf], [vd .bool], true, fun _ => none, fun a => zQI a.1⟩
def zjO : Con Tryz.prog := yD mo g0 [] [] 60 ziR (fn := Tryz.f60) trivial (fun a _ _ => yT (t' := zOS a.1) (by kernel_rfl) (by simp [zOS]) rfl)
@[reducible] def zBd : LB := ⟨[], ⟨24, [], [(0, vd (.lst zP)), (3, vd .int)]⟩, ⟨24, [], [(2, vd .bool)]⟩, 0, fun x => (fun (l0 : List (El zP)) (n3 : Int) => (bif decide (n3 < (l0.length : Int)) then (.ix n3 l0 (bif ((zB zP l0 n3).2.2.1 == (1 : Int)) then (.v (.ret (true, ()))) else (.ix n3 l0 (bif ((zB zP l0 n3).2.2.1 == (2 : Int)) then (.v (.ret (true, ()))) else (.ik (n3 + (1 : Int)) (.v (.go (l0, (n3 + (1 : Int)), ())))))))) else (.v (.brk (l0, n3, ()))) : Tr (St _ _))) x.1 x.2.1⟩
theorem zTA (l0 : List (El zP)) : LB.run zBd (l0, (0 : Int), ()) = bif zd (fun _ x => bif (x.2.2.1 == (1 : Int)) then false else (bif (x.2.2.1 == (2 : Int)) then false else true)) 0 l0 then .brk (l0, (l0.length : Int), ()) else .ret (true, ()) := LB.run_all (l := zBd) (fun i => (l0, (i : Int), ())) (fun i x h => by
  simp only [LB.b, zBd, zi, zQ, zR, cond_true, yM h, zG h]
  cases (x.2.2.1 == (1 : Int))
  ·cases (x.2.2.1 == (2 : Int)) <;> rfl
  ·rfl) (by simp only [LB.b, zBd, xl]; rfl)
theorem zTL : SF zBd fun x : List (El zP) × Int × Unit => (0 ≤ x.2.1, (x.1.length : Int) - x.2.1) := xz (by
 rintro ⟨(l0 : List (El zP)), (n3 : Int), ⟨⟩⟩ hI hw
 have _ : (l0.length : Int) ≤ 16777216 := zE (hw.1.1)
 simp [zBd] at hI ⊢
 repeat' first | intro _ | apply And.intro
 all_goals omega)
def zJW (a0 : List (El zP)) : Tr (Bool × Unit) := .lp zBd (a0, (0 : Int), ()) (fun r1 => .v (r1.1, ())) (fun _ => .v (false, ()))
def zHa a0 := (zJW a0).val
@[reducible] def zQm : FnD := ⟨[vd (.lst zP)], [vd .bool], true, fun _ => none, fun a => zHa a.1⟩
theorem zdI (a0 : List (El zP)) (_ : xG zQm.args (a0, ())) : (zJW a0).ok := by
 unfold zJW
 refine zI ?_ ?_
 ·exact zTL _ (by (dsimp only <;> omega))
 ·simp
def zdN : Con Tryz.prog := yD mo g0 [] [zBd] 61 zQm (fn := Tryz.f61) ⟨lk, trivial⟩ (fun a hw _ => yT (by kernel_rfl) (zdI a.1 hw) rfl)
theorem zaL (a0 : List (El zP)) : zHa a0 = bif zd (fun _ x => bif (x.2.2.1 == (1 : Int)) then false else (bif (x.2.2.1 == (2 : Int)) then false else true)) 0 a0 then (false, ()) else (true, ()) := by
 simp only [zHa, zJW, zR, zx, zQ]
 rw [zTA, z7] <;> rfl
def zFl (a0 : El yf) : Tr (Bool × Unit) := bif (a0.2.2.2.2.2.1 == (3 : Int)) then (.v (true, ())) else (.v ((a0.2.2.2.2.2.1 == (5 : Int)), ()))
def zFg a0 := (zFl a0).val
@[reducible] def zTh : FnD := ⟨[va yf], [vd .bool], true, fun _ => none, fun a => zFg a.1⟩
def zSj : Con Tryz.prog := yD mo g0 [] [] 62 zTh (fn := Tryz.f62) trivial (fun a _ _ => yT (t' := zFl a.1) (by kernel_rfl) (by simp [zFl]) rfl)
def zJv (a0 : El zN) (a1 : El zA) : Tr (Bool × Unit) := bif decide (a1.1 ≥ (0 : Int)) then (.v (decide (a1.1 < (a0.2.length : Int)), ())) else (.v (false, ()))
def y5 a0 a1 := (zJv a0 a1).val
@[reducible] def zcG : FnD := ⟨[va zN, va zA], [vd .bool], true, fun _ => none, fun a => y5 a.1 a.2.1⟩
def zND : Con Tryz.prog := yD mo g0 [] [] 106 zcG (fn := Tryz.f106) trivial (fun a _ _ => yT (t' := zJv a.1 a.2.1) (by kernel_rfl) (by simp [zJv]) rfl)
theorem zGw {d : El zN} {m : El zA} (h : (y5 d m).1 = true) : 0 ≤ m.1 ∧ m.1 < (d.2.length : Int) := by
 simp only [y5, zJv, zi, zR] at h
 cases e : decide (m.1 ≥ (0 : Int)) with
 | false => rw [e] at h; cases h
 | true =>
  rw [e] at h
  exact ⟨of_decide_eq_true e, of_decide_eq_true h⟩
def zOq (a0 : El zt) : Tr (El zt × Unit) := .ck ((a0.2.length : Int) ≤ 16777216) (.v (a0, ()))
def zMZ a0 := (zOq a0).val
@[reducible] def zU9 : FnD := ⟨[va zt], [.val true (.pr (.d .str) (.o (.d zK)))], true, fun _ => none, fun a => zMZ a.1⟩
theorem zhD (a0 : El zt) (hw : xG zU9.args (a0, ())) : (zOq a0).ok := by
 unfold zOq
 refine zI ?_ ?_
 ·have _ : (a0.2.length : Int) ≤ 16777216 := zE (hw.1.2.1); first | omega | (simp <;> omega)
 ·trivial
def zgK : Con Tryz.prog := yD mo g0 [] [] 168 zU9 (fn := Tryz.f168) trivial (fun a hw _ => yT (by kernel_rfl) (zhD a.1 hw) rfl)
@[reducible] def zBo : LB := ⟨[1, 0], ⟨30, [.pr (.d .str) (.o (.d zK)), .d zH], [(1, vd .int), (2, .pt 1 0), (4, .pt 0 0), (6, vd .int)]⟩, ⟨30, [.pr (.d .str) (.o (.d zK))], [(4, .pt 0 0), (5, vd .bool)]⟩, 0, fun x => (fun (w0 : El zt) (w1 : El zH) (n1 : Int) (n6 : Int) => (bif decide (n6 < (w1.1.length : Int)) then (.ix n6 w1.1 (bif ((zB zD w1.1 n6).1 == n1) then (.ix n6 w1.1 (.v (.ret ((zMZ (zB zD w1.1 n6).2).1, (), true, ())))) else (.ik (n6 + (1 : Int)) (.v (.go (w0, w1, n1, (), (), (n6 + (1 : Int)), ())))))) else (.v (.brk (w0, w1, n1, (), (), n6, ()))) : Tr (St _ _))) x.1 x.2.1 x.2.2.1 x.2.2.2.2.2.1⟩
theorem zXG (w0 : El zt) (w1 : El zH) (n1 : Int) : LB.run zBo (w0, w1, n1, (), (), (0 : Int), ()) = zCY (yt (fun _ x => bif (x.1 == n1) then (some ((zMZ x.2).1, (), true, ())) else none) 0 w1.1) (w0, w1, n1, (), (), (w1.1.length : Int), ()) := LB.run_scan (l := zBo) (fun i => (w0, w1, n1, (), (), (i : Int), ())) (fun i x h => by
  simp only [LB.b, zBo, zi, zQ, zR, cond_true, yM h, zG h]
  cases (x.1 == n1) <;> rfl) (by simp only [LB.b, zBo, xl]; rfl)
theorem zXD : SF zBo fun x : El zt × El zH × Int × Unit × Unit × Int × Unit => (0 ≤ x.2.2.2.2.2.1, (x.2.1.1.length : Int) - x.2.2.2.2.2.1) := xz (by
 rintro ⟨(w0 : El zt), (w1 : El zH), (n1 : Int), ⟨⟩, ⟨⟩, (n6 : Int), ⟨⟩⟩ hI hw
 have _ : -9223372036854775808 ≤ n1 ∧ n1 ≤ 9223372036854775807 := zw hw.2.2.1
 have _ : (w1.1.length : Int) ≤ 16777216 := zE (hw.2.1.1.1)
 simp [zBo] at hI ⊢
 repeat' first | intro _ | apply And.intro
 all_goals omega)
def zMH (a0 : El zH) (a1 : Int) : Tr (El zt × Bool × Unit) := .lp zBo (((⟨#[]⟩ : ByteArray), ([] : List (El zK))), a0, a1, (), (), (0 : Int), ()) (fun r2 => .v (r2.1, r2.2.2.1, ())) (fun _ => .v (((⟨#[]⟩ : ByteArray), ([] : List (El zK))), false, ()))
def zAZ a0 a1 := (zMH a0 a1).val
@[reducible] def zUk : FnD := ⟨[va zH, vd .int], [.val true (.pr (.d .str) (.o (.d zK))), vd .bool], true, fun _ => none, fun a => zAZ a.1 a.2.1⟩
theorem zfw (a0 : El zH) (a1 : Int) (_ : xG zUk.args (a0, a1, ())) : (zMH a0 a1).ok := by
 unfold zMH
 refine zI ?_ ?_
 ·exact zXD _ (by simp)
 ·simp
def zga : Con Tryz.prog := yD mo g0 [zgK] [zBo] 107 zUk (fn := Tryz.f107) ⟨lk, trivial⟩ (fun a hw _ => yT (by kernel_rfl) (zfw a.1 a.2.1 hw) rfl)
theorem zg8 (a0 : El zH) (a1 : Int) : zAZ a0 a1 = zCh (yt (fun _ x => bif (x.1 == a1) then (some ((zMZ x.2).1, (), true, ())) else none) 0 a0.1) (fun (r1 : zBo.r.T) => (r1.1, r1.2.2.1, ())) (((⟨#[]⟩ : ByteArray), ([] : List (El zK))), false, ()) := by
 simp only [zAZ, zMH, zR, zx, zQ]
 rw [zXG, xI] <;> rfl
@[reducible] def xm : LB := ⟨[], ⟨69, [.d zN, .d yf, .d zA], [(2, .pt 0 0), (3, .pt 1 0), (5, vd .int), (6, .pt 2 0), (7, vd .int)]⟩, ⟨69, [], [(4, vd .bool)]⟩, 2, fun x => (fun (w0 : El zN) (w1 : El yf) (w2 : El zA) (n5 : Int) (n7 : Int) => (bif decide (n7 < (w2.2.1.length : Int)) then (.ix n7 w2.2.1 (bif (!(zAZ w1.1 (zB .int w2.2.1 n7)).2.1) then (.v (.ret (false, ()))) else (.ik (n7 + (1 : Int)) (.v (.go (w0, w1, w2, (), (), n5, (), (n7 + (1 : Int)), ())))))) else (.v (.brk (w0, w1, w2, (), (), n5, (), n7, ()))) : Tr (St _ _))) x.1 x.2.1 x.2.2.1 x.2.2.2.2.2.1 x.2.2.2.2.2.2.2.1⟩
theorem zRL (w0 : El zN) (w1 : El yf) (w2 : El zA) (n5 : Int) : LB.run xm (w0, w1, w2, (), (), n5, (), (0 : Int), ()) = bif zd (fun _ x => bif (!(zAZ w1.1 x).2.1) then false else true) 0 w2.2.1 then .brk (w0, w1, w2, (), (), n5, (), (w2.2.1.length : Int), ()) else .ret (false, ()) := LB.run_all (l := xm) (fun i => (w0, w1, w2, (), (), n5, (), (i : Int), ())) (fun i x h => by
  simp only [LB.b, xm, zi, zQ, zR, cond_true, yM h, zG h]
  cases (!(zAZ w1.1 x).2.1) <;> rfl) (by simp only [LB.b, xm, xl]; rfl)
theorem zQY : SF xm fun x : El zN × El yf × El zA × Unit × Unit × Int × Unit × Int × Unit => (0 ≤ x.2.2.2.2.2.2.2.1, (x.2.2.1.2.1.length : Int) - x.2.2.2.2.2.2.2.1) := xz (by
 rintro ⟨(w0 : El zN), (w1 : El yf), (w2 : El zA), ⟨⟩, ⟨⟩, (n5 : Int), ⟨⟩, (n7 : Int), ⟨⟩⟩ hI hw
 have _ : -9223372036854775808 ≤ n5 ∧ n5 ≤ 9223372036854775807 := zw hw.2.2.2.2.2.1
 have _ : (w2.2.1.length : Int) ≤ 16777216 := zE (hw.2.2.1.2.1.1)
 simp [xm] at hI ⊢
 repeat' first | intro _ | apply And.intro
 all_goals omega)
@[reducible] def zBz : LB := ⟨[], ⟨69, [.d zN, .d yf], [(2, .pt 0 0), (3, .pt 1 0), (5, vd .int)]⟩, ⟨69, [], [(4, vd .bool)]⟩, 0, fun x => (fun (w0 : El zN) (w1 : El yf) (n5 : Int) => (bif decide (n5 < (w1.2.1.length : Int)) then (.ix n5 w1.2.1 (bif (!(y5 w0 (zB zA w1.2.1 n5)).1) then (.v (.ret (false, ()))) else (bif (((zB zA w1.2.1 n5).2.2.length : Int) != (0 : Int)) then (.v (.ret (false, ()))) else (.ix (zB zA w1.2.1 n5).1 w0.2 (bif (((zB zA w1.2.1 n5).2.1.length : Int) != (xP (zB zC w0.2 (zB zA w1.2.1 n5).1)).1) then (.v (.ret (false, ()))) else (.lp xm (w0, w1, (zB zA w1.2.1 n5), (), (), n5, (), (0 : Int), ()) (fun r8 => .v (.ret (r8.1, ()))) (fun t8 => .ik (t8.2.2.2.2.2.1 + (1 : Int)) (.v (.go (t8.1, t8.2.1, (), (), (t8.2.2.2.2.2.1 + (1 : Int)), ())))))))))) else (.v (.brk (w0, w1, (), (), n5, ()))) : Tr (St _ _))) x.1 x.2.1 x.2.2.2.2.1⟩
theorem zRi : SF zBz fun x : El zN × El yf × Unit × Unit × Int × Unit => (0 ≤ x.2.2.2.2.1, (x.2.1.2.1.length : Int) - x.2.2.2.2.1) := xz (by
 rintro ⟨(w0 : El zN), (w1 : El yf), ⟨⟩, ⟨⟩, (n5 : Int), ⟨⟩⟩ hI hw
 dsimp only at hI ⊢
 have i0 := hI
 have hb : (w1.2.1.length : Int) ≤ 16777216 := zE (hw.2.1.2.1.1)
 refine ⟨by omega, ?_⟩
 refine xM (fun h3 => ?_) (fun h3 => ?_)
 ·replace h3 : n5 < (w1.2.1.length : Int) := of_decide_eq_true h3
  refine yR ?_ ?_
  ·first | omega | (simp <;> omega)
  ·refine xM (fun h4 => ?_) (fun h4 => ?_)
   ·exact trivial
   ·replace h4 := vQ h4
    replace h4 := zGw h4
    refine xM (fun h5 => ?_) (fun h5 => ?_)
    ·replace h5 := zdY h5
     exact trivial
    ·replace h5 := zAp h5
     refine yR ?_ ?_
     ·first | omega | (simp <;> omega)
     ·refine xM (fun h6 => ?_) (fun h6 => ?_)
      ·replace h6 := zdY h6
       exact trivial
      ·replace h6 := zAp h6
       refine yR ?_ ?_
       ·exact zQY _ (by (dsimp only <;> omega))
       ·refine zXi (zRL w0 w1 (zB zA w1.2.1 n5) n5) ?_ ?_
        ·try dsimp only
         refine yR ?_ ?_
         ·exact ink (by omega) (by omega)
         ·exact show (0 ≤ (n5 + (1 : Int))) ∧ (w1.2.1.length : Int) - (n5 + (1 : Int)) < (w1.2.1.length : Int) - n5 ∧ 0 < (w1.2.1.length : Int) - n5 from ⟨by (first | omega | rfl | assumption | (simp <;> omega)), by (first | omega | (simp only [List.length_set]; omega)), by (first | omega | (simp only [List.length_set]; omega))⟩
        ·try dsimp only
         exact trivial
 ·replace h3 : ¬ (n5 < (w1.2.1.length : Int)) := of_decide_eq_false h3
  exact trivial)
def zHs (a0 : El zN) (a1 : El yf) : Tr (Bool × Unit) := .lp zBz (a0, a1, (), (), (0 : Int), ()) (fun r9 => .v (r9.1, ())) (fun t9 => .v (decide ((t9.2.1.2.1.length : Int) ≤ (1000 : Int)), ()))
def zFx a0 a1 := (zHs a0 a1).val
@[reducible] def zPB : FnD := ⟨[va zN, va yf], [vd .bool], true, fun _ => none, fun a => zFx a.1 a.2.1⟩
theorem zXr (a0 : El zN) (a1 : El yf) (_ : xG zPB.args (a0, a1, ())) : (zHs a0 a1).ok := by
 unfold zHs
 refine zI ?_ ?_
 ·exact zRi _ (by (dsimp only <;> first | omega | rfl | assumption | (simp <;> omega)))
 ·simp
def zYt : Con Tryz.prog := yD mo g0 [zND, zga, zKx] [zBz, xm] 59 zPB (fn := Tryz.f59) ⟨lk, lk, trivial⟩ (fun a hw _ => yT (by kernel_rfl) (zXr a.1 a.2.1 hw) rfl)
@[reducible] def zC6 : LB := ⟨[], ⟨19, [], [(0, vd (.lst zK)), (3, vd .int)]⟩, ⟨19, [], [(2, vd .bool)]⟩, 0, fun x => (fun (l0 : List (El zK)) (n3 : Int) => (bif decide (n3 < (l0.length : Int)) then (.ix n3 l0 (bif (!(zEp (zB zK l0 n3)).1) then (.v (.ret (false, ()))) else (.ik (n3 + (1 : Int)) (.v (.go (l0, (n3 + (1 : Int)), ())))))) else (.v (.brk (l0, n3, ()))) : Tr (St _ _))) x.1 x.2.1⟩
theorem zW1 (l0 : List (El zK)) : LB.run zC6 (l0, (0 : Int), ()) = bif zd (fun _ x => bif (!(zEp x).1) then false else true) 0 l0 then .brk (l0, (l0.length : Int), ()) else .ret (false, ()) := LB.run_all (l := zC6) (fun i => (l0, (i : Int), ())) (fun i x h => by
  simp only [LB.b, zC6, zi, zQ, zR, cond_true, yM h, zG h]
  cases (!(zEp x).1) <;> rfl) (by simp only [LB.b, zC6, xl]; rfl)
theorem zWN : SF zC6 fun x : List (El zK) × Int × Unit => (0 ≤ x.2.1, (x.1.length : Int) - x.2.1) := xz (by
 rintro ⟨(l0 : List (El zK)), (n3 : Int), ⟨⟩⟩ hI hw
 have _ : (l0.length : Int) ≤ 16777216 := zE (hw.1.1)
 simp [zC6] at hI ⊢
 repeat' first | intro _ | apply And.intro
 all_goals omega)
def zLr (a0 : List (El zK)) : Tr (Bool × Unit) := .lp zC6 (a0, (0 : Int), ()) (fun r2 => .v (r2.1, ())) (fun t2 => .v (decide ((t2.1.length : Int) ≤ (5 : Int)), ()))
def zMI a0 := (zLr a0).val
@[reducible] def zVM : FnD := ⟨[vd (.lst zK)], [vd .bool], true, fun _ => none, fun a => zMI a.1⟩
theorem zeK (a0 : List (El zK)) (_ : xG zVM.args (a0, ())) : (zLr a0).ok := by
 unfold zLr
 refine zI ?_ ?_
 ·exact zWN _ (by (dsimp only <;> omega))
 ·simp
def zec : Con Tryz.prog := yD mo g0 [zQG] [zC6] 164 zVM (fn := Tryz.f164) ⟨lk, trivial⟩ (fun a hw _ => yT (by kernel_rfl) (zeK a.1 hw) rfl)
theorem zfN (a0 : List (El zK)) : zMI a0 = bif zd (fun _ x => bif (!(zEp x).1) then false else true) 0 a0 then (decide ((a0.length : Int) ≤ (5 : Int)), ()) else (false, ()) := by
 simp only [zMI, zLr, zR, zx, zQ]
 rw [zW1, z7] <;> rfl
def zLf (a0 : El zt) : Tr (Bool × Unit) := bif (yQ a0.1).1 then (.v ((zMI a0.2).1, ())) else (.v (false, ()))
def zAH a0 := (zLf a0).val
@[reducible] def zg1 : FnD := ⟨[va zt], [vd .bool], true, fun _ => none, fun a => zAH a.1⟩
def zLJ : Con Tryz.prog := yD mo g0 [zFY, zec] [] 101 zg1 (fn := Tryz.f101) trivial (fun a _ _ => yT (t' := zLf a.1) (by kernel_rfl) (by simp [zLf]) rfl)
@[reducible] def vJ : LB := ⟨[], ⟨47, [], [(0, vd (.lst zV)), (3, vd .int), (4, vd .int)]⟩, ⟨47, [], [(2, vd .bool)]⟩, 2, fun x => (fun (l0 : List (El zV)) (n3 : Int) (n4 : Int) => (bif decide (n4 < n3) then (.ix n3 l0 (.ix n4 l0 (bif ((zB zV l0 n3).1.toList == (zB zV l0 n4).1.toList) then (.v (.ret (false, ()))) else (.ik (n4 + (1 : Int)) (.v (.go (l0, n3, (n4 + (1 : Int)), ()))))))) else (.v (.brk (l0, n3, n4, ()))) : Tr (St _ _))) x.1 x.2.1 x.2.2.1⟩
theorem zTz (l00 : List (El zV)) (n30 : Int) (n40 : Int)  : (LB.run vJ (l00, n30, n40, ())).all (fun _ => True) (fun (l0, n3, _) => l00 = l0 ∧ n30 = n3) (fun (l0, n3, _) => l00 = l0 ∧ n30 = n3) := by
 have H : ∀ (l0 : List (El zV)) (n3 : Int) (n4 : Int), (l00 = l0 ∧ n30 = n3) → St.all (fun _ => True) (fun (l0, n3, _) => l00 = l0 ∧ n30 = n3) (fun (l0, n3, _) => l00 = l0 ∧ n30 = n3) (vJ.b (l0, n3, n4, ())) := by
  intro l0 n3 n4 hI
  obtain ⟨eq0, eq1⟩ := hI
  simp only [LB.b, vJ, zi, zQ, zR]
  refine zj (fun h1 => ?_) (fun h1 => ?_)
  ·replace h1 : n4 < n3 := of_decide_eq_true h1
   refine zj (fun h2 => ?_) (fun h2 => ?_)
   ·exact trivial
   ·exact ⟨eq0, eq1⟩
  ·replace h1 : ¬ (n4 < n3) := of_decide_eq_false h1
   exact ⟨eq0, eq1⟩
 exact LB.post (l := vJ) (A := fun _ => True) (fun (l0, n3, _) => l00 = l0 ∧ n30 = n3) (fun ⟨l0, n3, n4, ⟨⟩⟩ hx => H l0 n3 n4 hx) ⟨rfl, rfl⟩
theorem zSp : SF vJ fun x : List (El zV) × Int × Int × Unit => (0 ≤ x.2.2.1 ∧ (0 ≤ x.2.1 ∧ x.2.1 < (x.1.length : Int)) ∧ x.2.1 ≤ (x.1.length : Int), x.2.1 - x.2.2.1) := xz (by
 rintro ⟨(l0 : List (El zV)), (n3 : Int), (n4 : Int), ⟨⟩⟩ hI hw
 have _ : -9223372036854775808 ≤ n3 ∧ n3 ≤ 9223372036854775807 := zw hw.2.1
 have _ : (l0.length : Int) ≤ 16777216 := zE (hw.1.1)
 simp [vJ] at hI ⊢
 repeat' first | intro _ | apply And.intro
 all_goals omega)
@[reducible] def zDX : LB := ⟨[], ⟨47, [], [(0, vd (.lst zV)), (3, vd .int)]⟩, ⟨47, [], [(2, vd .bool)]⟩, 0, fun x => (fun (l0 : List (El zV)) (n3 : Int) => (bif decide (n3 < (l0.length : Int)) then (.ix n3 l0 (bif (!(yB ((zB zV l0 n3).1.size : Int) (1 : Int) (200 : Int)).1) then (.v (.ret (false, ()))) else (.ix n3 l0 (bif (!(zAH (zB zV l0 n3).2).1) then (.v (.ret (false, ()))) else (.lp vJ (l0, n3, (0 : Int), ()) (fun r4 => .v (.ret (r4.1, ()))) (fun t4 => .ik (t4.2.1 + (1 : Int)) (.v (.go (t4.1, (t4.2.1 + (1 : Int)), ()))))))))) else (.v (.brk (l0, n3, ()))) : Tr (St _ _))) x.1 x.2.1⟩
theorem zSu : SF zDX fun x : List (El zV) × Int × Unit => (0 ≤ x.2.1, (x.1.length : Int) - x.2.1) := xz (by
 rintro ⟨(l0 : List (El zV)), (n3 : Int), ⟨⟩⟩ hI hw
 dsimp only at hI ⊢
 have i0 := hI
 have hb : (l0.length : Int) ≤ 16777216 := zE (hw.1.1)
 refine ⟨by omega, ?_⟩
 refine xM (fun h3 => ?_) (fun h3 => ?_)
 ·replace h3 : n3 < (l0.length : Int) := of_decide_eq_true h3
  refine yR ?_ ?_
  ·first | omega | (simp <;> omega)
  ·refine xM (fun h4 => ?_) (fun h4 => ?_)
   ·exact trivial
   ·replace h4 := vQ h4
    replace h4 := zJq h4
    refine yR ?_ ?_
    ·first | omega | (simp <;> omega)
    ·refine xM (fun h5 => ?_) (fun h5 => ?_)
     ·exact trivial
     ·refine yR ?_ ?_
      ·exact zSp _ ⟨by (dsimp only <;> omega), by (dsimp only <;> omega), by (dsimp only <;> omega)⟩
      ·refine zNC (A' := fun _ => True) (B' := fun (t4l0, t4n3, t4n4, _) => l0 = t4l0 ∧ n3 = t4n3) (zTz l0 n3 (0 : Int)) (fun r _ => ?_) (fun t ht => ?_)
       ·obtain ⟨r4b2, ⟨⟩⟩ := r
        dsimp only
        exact trivial
       ·obtain ⟨t4l0, t4n3, t4n4, ⟨⟩⟩ := t
        dsimp only
        obtain ⟨rfl, rfl⟩ := ht
        obtain ⟨t4n4, rfl⟩ : ∃ y : Int, y = t4n4 := ⟨_, rfl⟩
        refine yR ?_ ?_
        ·exact ink (by omega) (by omega)
        ·exact show (0 ≤ (n3 + (1 : Int))) ∧ (l0.length : Int) - (n3 + (1 : Int)) < (l0.length : Int) - n3 ∧ 0 < (l0.length : Int) - n3 from ⟨by (first | omega | rfl | assumption | (simp <;> omega)), by (first | omega | (simp only [List.length_set]; omega)), by (first | omega | (simp only [List.length_set]; omega))⟩
 ·replace h3 : ¬ (n3 < (l0.length : Int)) := of_decide_eq_false h3
  exact trivial)
def zJo (a0 : List (El zV)) : Tr (Bool × Unit) := .lp zDX (a0, (0 : Int), ()) (fun r5 => .v (r5.1, ())) (fun t5 => .v (decide ((t5.1.length : Int) ≤ (30 : Int)), ()))
def zHF a0 := (zJo a0).val
@[reducible] def zRz : FnD := ⟨[vd (.lst zV)], [vd .bool], true, fun _ => none, fun a => zHF a.1⟩
theorem zbQ (a0 : List (El zV)) (_ : xG zRz.args (a0, ())) : (zJo a0).ok := by
 unfold zJo
 refine zI ?_ ?_
 ·exact zSu _ (by (dsimp only <;> first | omega | rfl | assumption | (simp <;> omega)))
 ·simp
def zbR : Con Tryz.prog := yD mo g0 [zAx, zLJ] [zDX, vJ] 58 zRz (fn := Tryz.f58) ⟨lk, lk, trivial⟩ (fun a hw _ => yT (by kernel_rfl) (zbQ a.1 hw) rfl)
def zIE (a0 : El zD) : Tr (Bool × Unit) := bif (yB a0.1 (0 : Int) (1000000000 : Int)).1 then (.v ((zAH a0.2).1, ())) else (.v (false, ()))
def zDV a0 := (zIE a0).val
@[reducible] def zXu : FnD := ⟨[va zD], [vd .bool], true, fun _ => none, fun a => zDV a.1⟩
def zYa : Con Tryz.prog := yD mo g0 [zAx, zLJ] [] 105 zXu (fn := Tryz.f105) trivial (fun a _ _ => yT (t' := zIE a.1) (by kernel_rfl) (by simp [zIE]) rfl)
@[reducible] def zAy : LB := ⟨[], ⟨37, [], [(0, vd (.lst zD)), (3, vd .int)]⟩, ⟨37, [], [(2, vd .bool)]⟩, 0, fun x => (fun (l0 : List (El zD)) (n3 : Int) => (bif decide (n3 < (l0.length : Int)) then (.ix n3 l0 (bif (!(zDV (zB zD l0 n3)).1) then (.v (.ret (false, ()))) else (bif decide (n3 > (0 : Int)) then (.ik (n3 - (1 : Int)) (.ix (n3 - (1 : Int)) l0 (.ix n3 l0 (bif decide ((zB zD l0 (n3 - (1 : Int))).1 > (zB zD l0 n3).1) then (.v (.ret (false, ()))) else (.ik (n3 + (1 : Int)) (.v (.go (l0, (n3 + (1 : Int)), ())))))))) else (.ik (n3 + (1 : Int)) (.v (.go (l0, (n3 + (1 : Int)), ()))))))) else (.v (.brk (l0, n3, ()))) : Tr (St _ _))) x.1 x.2.1⟩
theorem zRG (l0 : List (El zD)) : LB.run zAy (l0, (0 : Int), ()) = bif zd (fun i x => bif (!(zDV x).1) then false else (bif (decide ((i : Int) > (0 : Int))) then (bif (decide ((zB zD l0 ((i : Int) - (1 : Int))).1 > x.1)) then false else true) else true)) 0 l0 then .brk (l0, (l0.length : Int), ()) else .ret (false, ()) := LB.run_all (l := zAy) (fun i => (l0, (i : Int), ())) (fun i x h => by
  simp only [LB.b, zAy, zi, zQ, zR, cond_true, yM h, zG h]
  cases (!(zDV x).1)
  ·cases (decide ((i : Int) > (0 : Int)))
   ·rfl
   ·cases (decide ((zB zD l0 ((i : Int) - (1 : Int))).1 > x.1)) <;> rfl
  ·rfl) (by simp only [LB.b, zAy, xl]; rfl)
theorem zRa : SF zAy fun x : List (El zD) × Int × Unit => (0 ≤ x.2.1, (x.1.length : Int) - x.2.1) := xz (by
 rintro ⟨(l0 : List (El zD)), (n3 : Int), ⟨⟩⟩ hI hw
 have _ : (l0.length : Int) ≤ 16777216 := zE (hw.1.1)
 simp [zAy] at hI ⊢
 repeat' first | intro _ | apply And.intro
 all_goals omega)
def zHq (a0 : List (El zD)) : Tr (Bool × Unit) := .lp zAy (a0, (0 : Int), ()) (fun r2 => .v (r2.1, ())) (fun t2 => .v (decide ((t2.1.length : Int) ≤ (30 : Int)), ()))
def zF3 a0 := (zHq a0).val
@[reducible] def zPc : FnD := ⟨[vd (.lst zD)], [vd .bool], true, fun _ => none, fun a => zF3 a.1⟩
theorem zZJ (a0 : List (El zD)) (_ : xG zPc.args (a0, ())) : (zHq a0).ok := by
 unfold zHq
 refine zI ?_ ?_
 ·exact zRa _ (by (dsimp only <;> omega))
 ·simp
def zZi : Con Tryz.prog := yD mo g0 [zYa] [zAy] 57 zPc (fn := Tryz.f57) ⟨lk, trivial⟩ (fun a hw _ => yT (by kernel_rfl) (zZJ a.1 hw) rfl)
theorem zZd (a0 : List (El zD)) : zF3 a0 = bif zd (fun i x => bif (!(zDV x).1) then false else (bif (decide ((i : Int) > (0 : Int))) then (bif (decide ((zB zD a0 ((i : Int) - (1 : Int))).1 > x.1)) then false else true) else true)) 0 a0 then (decide ((a0.length : Int) ≤ (30 : Int)), ()) else (false, ()) := by
 simp only [zF3, zHq, zR, zx, zQ]
 rw [zRG, z7] <;> rfl
def zHU (a0 : ByteArray) : Tr (Bool × Unit) := bif (a0.toList == (⟨#[]⟩ : ByteArray).toList) then (.v (true, ())) else (.v ((yQ a0).1, ()))
def zHV a0 := (zHU a0).val
@[reducible] def zcb : FnD := ⟨[vd .str], [vd .bool], true, fun _ => none, fun a => zHV a.1⟩
def zcW : Con Tryz.prog := yD mo g0 [zFY] [] 165 zcb (fn := Tryz.f165) trivial (fun a _ _ => yT (t' := zHU a.1) (by kernel_rfl) (by simp [zHU]) rfl)
def zKI (a0 : El zP) : Tr (Bool × Unit) := bif (!(zAH a0.1).1) then (.v (false, ())) else (bif (!(zHV a0.2.1).1) then (.v (false, ())) else (bif (!(yB a0.2.2.1 (1 : Int) (4 : Int)).1) then (.v (false, ())) else (bif (!(yB a0.2.2.2.1 (0 : Int) (4 : Int)).1) then (.v (false, ())) else (bif (!(yB a0.2.2.2.2.1 (0 : Int) (1000001000 : Int)).1) then (.v (false, ())) else (bif (!((a0.2.2.2.2.2.1 == (0 : Int)) && ((a0.2.2.2.2.2.2.1 == (0 : Int)) && ((a0.2.2.2.2.2.2.2.toList == (⟨#[]⟩ : ByteArray).toList) && true)))) then (bif (!(zEp a0.2.2.2.2.2).1) then (.v (false, ())) else (bif (a0.2.2.1 != (1 : Int)) then (bif (a0.2.2.1 != (2 : Int)) then (.v (true, ())) else (.v (((a0.2.2.1 == (1 : Int)) == (a0.2.2.2.1 == (0 : Int))), ()))) else (.v (((a0.2.2.1 == (1 : Int)) == (a0.2.2.2.1 == (0 : Int))), ())))) else (bif (a0.2.2.1 != (1 : Int)) then (bif (a0.2.2.1 != (2 : Int)) then (.v (true, ())) else (.v (((a0.2.2.1 == (1 : Int)) == (a0.2.2.2.1 == (0 : Int))), ()))) else (.v (((a0.2.2.1 == (1 : Int)) == (a0.2.2.2.1 == (0 : Int))), ()))))))))
def zEA a0 := (zKI a0).val
@[reducible] def zaV : FnD := ⟨[va zP], [vd .bool], true, fun _ => none, fun a => zEA a.1⟩
def zcU : Con Tryz.prog := yD mo g0 [zLJ, zQG, zAx, zcW] [] 103 zaV (fn := Tryz.f103) trivial (fun a _ _ => yT (t' := zKI a.1) (by kernel_rfl) (by simp [zKI]) rfl)
@[reducible] def vl : LB := ⟨[], ⟨26, [], [(0, vd (.lst zK)), (1, vd (.lst zK)), (5, vd .int)]⟩, ⟨26, [], [(4, vd .bool)]⟩, 0, fun x => (fun (l0 : List (El zK)) (l1 : List (El zK)) (n5 : Int) => (bif decide (n5 < (l0.length : Int)) then (.ix n5 l0 (.ix n5 l1 (bif (!(((zB zK l0 n5).1 == (zB zK l1 n5).1) && (((zB zK l0 n5).2.1 == (zB zK l1 n5).2.1) && (((zB zK l0 n5).2.2.toList == (zB zK l1 n5).2.2.toList) && true)))) then (.v (.ret (false, ()))) else (.ik (n5 + (1 : Int)) (.v (.go (l0, l1, (n5 + (1 : Int)), ()))))))) else (.v (.brk (l0, l1, n5, ()))) : Tr (St _ _))) x.1 x.2.1 x.2.2.1⟩
theorem zOj (l0 : List (El zK)) (l1 : List (El zK)) : LB.run vl (l0, l1, (0 : Int), ()) = bif zd (fun i x => bif (!((x.1 == (zB zK l1 (i : Int)).1) && ((x.2.1 == (zB zK l1 (i : Int)).2.1) && ((x.2.2.toList == (zB zK l1 (i : Int)).2.2.toList) && true)))) then false else true) 0 l0 then .brk (l0, l1, (l0.length : Int), ()) else .ret (false, ()) := LB.run_all (l := vl) (fun i => (l0, l1, (i : Int), ())) (fun i x h => by
  simp only [LB.b, vl, zi, zQ, zR, cond_true, yM h, zG h]
  cases (!((x.1 == (zB zK l1 (i : Int)).1) && ((x.2.1 == (zB zK l1 (i : Int)).2.1) && ((x.2.2.toList == (zB zK l1 (i : Int)).2.2.toList) && true)))) <;> rfl) (by simp only [LB.b, vl, xl]; rfl)
theorem zO2 : SF vl fun x : List (El zK) × List (El zK) × Int × Unit => (0 ≤ x.2.2.1 ∧ (x.1.length : Int) ≤ (x.2.1.length : Int), (x.1.length : Int) - x.2.2.1) := xz (by
 rintro ⟨(l0 : List (El zK)), (l1 : List (El zK)), (n5 : Int), ⟨⟩⟩ hI hw
 have _ : (l0.length : Int) ≤ 16777216 := zE (hw.1.1)
 simp [vl] at hI ⊢
 repeat' first | intro _ | apply And.intro
 all_goals omega)
def zFh (a0 : List (El zK)) (a1 : List (El zK)) : Tr (Bool × Unit) := bif ((a0.length : Int) != (a1.length : Int)) then (.v (false, ())) else (.lp vl (a0, a1, (0 : Int), ()) (fun r1 => .v (r1.1, ())) (fun _ => .v (true, ())))
def zDw a0 a1 := (zFh a0 a1).val
@[reducible] def zMq : FnD := ⟨[vd (.lst zK), vd (.lst zK)], [vd .bool], true, fun _ => none, fun a => zDw a.1 a.2.1⟩
theorem zSX (a0 : List (El zK)) (a1 : List (El zK)) (_ : xG zMq.args (a0, a1, ())) : (zFh a0 a1).ok := by
 unfold zFh
 refine zp (fun _ => trivial) (fun h1 => ?_)
 replace h1 := zAp h1
 refine zI ?_ ?_
 ·exact zO2 _ ⟨by (dsimp only <;> omega), by (dsimp only <;> omega)⟩
 ·simp
def zSt : Con Tryz.prog := yD mo g0 [] [vl] 167 zMq (fn := Tryz.f167) ⟨lk, trivial⟩ (fun a hw _ => yT (by kernel_rfl) (zSX a.1 a.2.1 hw) rfl)
theorem zMj (a0 : List (El zK)) (a1 : List (El zK)) : zDw a0 a1 = bif ((a0.length : Int) != (a1.length : Int)) then (false, ()) else (bif zd (fun i x => bif (!((x.1 == (zB zK a1 (i : Int)).1) && ((x.2.1 == (zB zK a1 (i : Int)).2.1) && ((x.2.2.toList == (zB zK a1 (i : Int)).2.2.toList) && true)))) then false else true) 0 a0 then (true, ()) else (false, ())) := by
 simp only [zDw, zFh, zR, zi, zx, zQ]
 rw [zOj, z7] <;> rfl
def zFr (a0 : El zt) (a1 : El zt) : Tr (Bool × Unit) := bif (a0.1.toList == a1.1.toList) then (.v ((zDw a0.2 a1.2).1, ())) else (.v (false, ()))
def yC a0 a1 := (zFr a0 a1).val
@[reducible] def zYE : FnD := ⟨[va zt, va zt], [vd .bool], true, fun _ => none, fun a => yC a.1 a.2.1⟩
def zPD : Con Tryz.prog := yD mo g0 [zSt] [] 104 zYE (fn := Tryz.f104) trivial (fun a _ _ => yT (t' := zFr a.1 a.2.1) (by kernel_rfl) (by simp [zFr]) rfl)
@[reducible] def vO : LB := ⟨[], ⟨36, [], [(0, vd (.lst zP)), (3, vd .int), (4, vd .int)]⟩, ⟨36, [], [(2, vd .bool)]⟩, 2, fun x => (fun (l0 : List (El zP)) (n3 : Int) (n4 : Int) => (bif decide (n4 < n3) then (.ix n3 l0 (.ix n4 l0 (bif (yC (zB zP l0 n3).1 (zB zP l0 n4).1).1 then (.v (.ret (false, ()))) else (.ik (n4 + (1 : Int)) (.v (.go (l0, n3, (n4 + (1 : Int)), ()))))))) else (.v (.brk (l0, n3, n4, ()))) : Tr (St _ _))) x.1 x.2.1 x.2.2.1⟩
theorem zTx (l00 : List (El zP)) (n30 : Int) (n40 : Int)  : (LB.run vO (l00, n30, n40, ())).all (fun _ => True) (fun (l0, n3, _) => l00 = l0 ∧ n30 = n3) (fun (l0, n3, _) => l00 = l0 ∧ n30 = n3) := by
 have H : ∀ (l0 : List (El zP)) (n3 : Int) (n4 : Int), (l00 = l0 ∧ n30 = n3) → St.all (fun _ => True) (fun (l0, n3, _) => l00 = l0 ∧ n30 = n3) (fun (l0, n3, _) => l00 = l0 ∧ n30 = n3) (vO.b (l0, n3, n4, ())) := by
  intro l0 n3 n4 hI
  obtain ⟨eq0, eq1⟩ := hI
  simp only [LB.b, vO, zi, zQ, zR]
  refine zj (fun h1 => ?_) (fun h1 => ?_)
  ·replace h1 : n4 < n3 := of_decide_eq_true h1
   refine zj (fun h2 => ?_) (fun h2 => ?_)
   ·exact trivial
   ·exact ⟨eq0, eq1⟩
  ·replace h1 : ¬ (n4 < n3) := of_decide_eq_false h1
   exact ⟨eq0, eq1⟩
 exact LB.post (l := vO) (A := fun _ => True) (fun (l0, n3, _) => l00 = l0 ∧ n30 = n3) (fun ⟨l0, n3, n4, ⟨⟩⟩ hx => H l0 n3 n4 hx) ⟨rfl, rfl⟩
theorem zSb : SF vO fun x : List (El zP) × Int × Int × Unit => (0 ≤ x.2.2.1 ∧ (0 ≤ x.2.1 ∧ x.2.1 < (x.1.length : Int)) ∧ x.2.1 ≤ (x.1.length : Int), x.2.1 - x.2.2.1) := xz (by
 rintro ⟨(l0 : List (El zP)), (n3 : Int), (n4 : Int), ⟨⟩⟩ hI hw
 have _ : -9223372036854775808 ≤ n3 ∧ n3 ≤ 9223372036854775807 := zw hw.2.1
 have _ : (l0.length : Int) ≤ 16777216 := zE (hw.1.1)
 simp [vO] at hI ⊢
 repeat' first | intro _ | apply And.intro
 all_goals omega)
@[reducible] def zDI : LB := ⟨[], ⟨36, [], [(0, vd (.lst zP)), (3, vd .int)]⟩, ⟨36, [], [(2, vd .bool)]⟩, 0, fun x => (fun (l0 : List (El zP)) (n3 : Int) => (bif decide (n3 < (l0.length : Int)) then (.ix n3 l0 (bif (!(zEA (zB zP l0 n3)).1) then (.v (.ret (false, ()))) else (.lp vO (l0, n3, (0 : Int), ()) (fun r3 => .v (.ret (r3.1, ()))) (fun t3 => .ik (t3.2.1 + (1 : Int)) (.v (.go (t3.1, (t3.2.1 + (1 : Int)), ()))))))) else (.v (.brk (l0, n3, ()))) : Tr (St _ _))) x.1 x.2.1⟩
theorem zSo : SF zDI fun x : List (El zP) × Int × Unit => (0 ≤ x.2.1, (x.1.length : Int) - x.2.1) := xz (by
 rintro ⟨(l0 : List (El zP)), (n3 : Int), ⟨⟩⟩ hI hw
 dsimp only at hI ⊢
 have i0 := hI
 have hb : (l0.length : Int) ≤ 16777216 := zE (hw.1.1)
 refine ⟨by omega, ?_⟩
 refine xM (fun h3 => ?_) (fun h3 => ?_)
 ·replace h3 : n3 < (l0.length : Int) := of_decide_eq_true h3
  refine yR ?_ ?_
  ·first | omega | (simp <;> omega)
  ·refine xM (fun h4 => ?_) (fun h4 => ?_)
   ·exact trivial
   ·refine yR ?_ ?_
    ·exact zSb _ ⟨by (dsimp only <;> omega), by (dsimp only <;> omega), by (dsimp only <;> omega)⟩
    ·refine zNC (A' := fun _ => True) (B' := fun (t3l0, t3n3, t3n4, _) => l0 = t3l0 ∧ n3 = t3n3) (zTx l0 n3 (0 : Int)) (fun r _ => ?_) (fun t ht => ?_)
     ·obtain ⟨r3b2, ⟨⟩⟩ := r
      dsimp only
      exact trivial
     ·obtain ⟨t3l0, t3n3, t3n4, ⟨⟩⟩ := t
      dsimp only
      obtain ⟨rfl, rfl⟩ := ht
      obtain ⟨t3n4, rfl⟩ : ∃ y : Int, y = t3n4 := ⟨_, rfl⟩
      refine yR ?_ ?_
      ·exact ink (by omega) (by omega)
      ·exact show (0 ≤ (n3 + (1 : Int))) ∧ (l0.length : Int) - (n3 + (1 : Int)) < (l0.length : Int) - n3 ∧ 0 < (l0.length : Int) - n3 from ⟨by (first | omega | rfl | assumption | (simp <;> omega)), by (first | omega | (simp only [List.length_set]; omega)), by (first | omega | (simp only [List.length_set]; omega))⟩
 ·replace h3 : ¬ (n3 < (l0.length : Int)) := of_decide_eq_false h3
  exact trivial)
def zJs (a0 : List (El zP)) : Tr (Bool × Unit) := .lp zDI (a0, (0 : Int), ()) (fun r4 => .v (r4.1, ())) (fun t4 => .v (decide ((t4.1.length : Int) ≤ (30 : Int)), ()))
def zHJ a0 := (zJs a0).val
@[reducible] def zQq : FnD := ⟨[vd (.lst zP)], [vd .bool], true, fun _ => none, fun a => zHJ a.1⟩
theorem zbw (a0 : List (El zP)) (_ : xG zQq.args (a0, ())) : (zJs a0).ok := by
 unfold zJs
 refine zI ?_ ?_
 ·exact zSo _ (by (dsimp only <;> first | omega | rfl | assumption | (simp <;> omega)))
 ·simp
def zct : Con Tryz.prog := yD mo g0 [zcU, zPD] [zDI, vO] 56 zQq (fn := Tryz.f56) ⟨lk, lk, trivial⟩ (fun a hw _ => yT (by kernel_rfl) (zbw a.1 hw) rfl)
@[reducible] def zEn : LB := ⟨[], ⟨27, [.d zH, .d zt], [(2, .pt 0 0), (3, .pt 1 0), (5, vd .int)]⟩, ⟨27, [], [(4, vd .int)]⟩, 0, fun x => (fun (w0 : El zH) (w1 : El zt) (n5 : Int) => (bif decide (n5 < (w0.1.length : Int)) then (.ix n5 w0.1 (bif (yC (zB zD w0.1 n5).2 w1).1 then (.ix n5 w0.1 (.v (.ret ((zB zD w0.1 n5).1, ())))) else (.ik (n5 + (1 : Int)) (.v (.go (w0, w1, (), (), (n5 + (1 : Int)), ())))))) else (.v (.brk (w0, w1, (), (), n5, ()))) : Tr (St _ _))) x.1 x.2.1 x.2.2.2.2.1⟩
theorem zag (w0 : El zH) (w1 : El zt) : LB.run zEn (w0, w1, (), (), (0 : Int), ()) = zCY (yt (fun _ x => bif (yC x.2 w1).1 then (some (x.1, ())) else none) 0 w0.1) (w0, w1, (), (), (w0.1.length : Int), ()) := LB.run_scan (l := zEn) (fun i => (w0, w1, (), (), (i : Int), ())) (fun i x h => by
  simp only [LB.b, zEn, zi, zQ, zR, cond_true, yM h, zG h]
  cases (yC x.2 w1).1 <;> rfl) (by simp only [LB.b, zEn, xl]; rfl)
theorem zaJ : SF zEn fun x : El zH × El zt × Unit × Unit × Int × Unit => (0 ≤ x.2.2.2.2.1, (x.1.1.length : Int) - x.2.2.2.2.1) := xz (by
 rintro ⟨(w0 : El zH), (w1 : El zt), ⟨⟩, ⟨⟩, (n5 : Int), ⟨⟩⟩ hI hw
 have _ : (w0.1.length : Int) ≤ 16777216 := zE (hw.1.1.1)
 simp [zEn] at hI ⊢
 repeat' first | intro _ | apply And.intro
 all_goals omega)
def zPz (a0 : El zH) (a1 : El zt) : Tr (Int × Unit) := .lp zEn (a0, a1, (), (), (0 : Int), ()) (fun r2 => .v (r2.1, ())) (fun _ => .v ((0 : Int), ()))
def zD4 a0 a1 := (zPz a0 a1).val
@[reducible] def zdq : FnD := ⟨[va zH, va zt], [vd .int], true, fun _ => none, fun a => zD4 a.1 a.2.1⟩
theorem zkc (a0 : El zH) (a1 : El zt) (_ : xG zdq.args (a0, a1, ())) : (zPz a0 a1).ok := by
 unfold zPz
 refine zI ?_ ?_
 ·exact zaJ _ (by (dsimp only <;> omega))
 ·simp
def zlc : Con Tryz.prog := yD mo g0 [zPD] [zEn] 102 zdq (fn := Tryz.f102) ⟨lk, trivial⟩ (fun a hw _ => yT (by kernel_rfl) (zkc a.1 a.2.1 hw) rfl)
theorem zkq (a0 : El zH) (a1 : El zt) : zD4 a0 a1 = zCh (yt (fun _ x => bif (yC x.2 a1).1 then (some (x.1, ())) else none) 0 a0.1) (fun (r1 : zEn.r.T) => (r1.1, ())) ((0 : Int), ()) := by
 simp only [zD4, zPz, zR, zx, zQ]
 rw [zag, xI] <;> rfl
@[reducible] def zBc : LB := ⟨[], ⟨68, [.d zH], [(1, .pt 0 0), (3, vd .int)]⟩, ⟨68, [], [(2, vd .bool)]⟩, 0, fun x => (fun (w0 : El zH) (n3 : Int) => (bif decide (n3 < (w0.1.length : Int)) then (.ix n3 w0.1 (bif (!(zAH (zB zD w0.1 n3).2).1) then (.v (.ret (false, ()))) else (bif decide ((zB zD w0.1 n3).1 < (1 : Int)) then (.v (.ret (false, ()))) else (bif decide ((zB zD w0.1 n3).1 ≥ w0.2) then (.v (.ret (false, ()))) else (bif decide (n3 > (0 : Int)) then (.ik (n3 - (1 : Int)) (.ix (n3 - (1 : Int)) w0.1 (bif decide ((zB zD w0.1 (n3 - (1 : Int))).1 ≥ (zB zD w0.1 n3).1) then (.v (.ret (false, ()))) else (bif ((zD4 w0 (zB zD w0.1 n3).2).1 != (zB zD w0.1 n3).1) then (.v (.ret (false, ()))) else (.ik (n3 + (1 : Int)) (.v (.go (w0, (), (n3 + (1 : Int)), ())))))))) else (bif ((zD4 w0 (zB zD w0.1 n3).2).1 != (zB zD w0.1 n3).1) then (.v (.ret (false, ()))) else (.ik (n3 + (1 : Int)) (.v (.go (w0, (), (n3 + (1 : Int)), ())))))))))) else (.v (.brk (w0, (), n3, ()))) : Tr (St _ _))) x.1 x.2.2.1⟩
theorem zTW (w0 : El zH) : LB.run zBc (w0, (), (0 : Int), ()) = bif zd (fun i x => bif (!(zAH x.2).1) then false else (bif (decide (x.1 < (1 : Int))) then false else (bif (decide (x.1 ≥ w0.2)) then false else (bif (decide ((i : Int) > (0 : Int))) then (bif (decide ((zB zD w0.1 ((i : Int) - (1 : Int))).1 ≥ x.1)) then false else (bif ((zD4 w0 x.2).1 != x.1) then false else true)) else (bif ((zD4 w0 x.2).1 != x.1) then false else true))))) 0 w0.1 then .brk (w0, (), (w0.1.length : Int), ()) else .ret (false, ()) := LB.run_all (l := zBc) (fun i => (w0, (), (i : Int), ())) (fun i x h => by
  simp only [LB.b, zBc, zi, zQ, zR, cond_true, yM h, zG h]
  cases (!(zAH x.2).1)
  ·cases (decide (x.1 < (1 : Int)))
   ·cases (decide (x.1 ≥ w0.2))
    ·cases (decide ((i : Int) > (0 : Int)))
     ·cases ((zD4 w0 x.2).1 != x.1) <;> rfl
     ·cases (decide ((zB zD w0.1 ((i : Int) - (1 : Int))).1 ≥ x.1))
      ·cases ((zD4 w0 x.2).1 != x.1) <;> rfl
      ·rfl
    ·rfl
   ·rfl
  ·rfl) (by simp only [LB.b, zBc, xl]; rfl)
theorem zSm : SF zBc fun x : El zH × Unit × Int × Unit => (0 ≤ x.2.2.1, (x.1.1.length : Int) - x.2.2.1) := xz (by
 rintro ⟨(w0 : El zH), ⟨⟩, (n3 : Int), ⟨⟩⟩ hI hw
 have _ : (w0.1.length : Int) ≤ 16777216 := zE (hw.1.1.1)
 simp [zBc] at hI ⊢
 repeat' first | intro _ | apply And.intro
 all_goals omega)
def zG4 (a0 : El zH) : Tr (Bool × Unit) := bif (!(yB a0.2 (1 : Int) (1000000 : Int)).1) then (.v (false, ())) else (bif decide ((a0.1.length : Int) > (40 : Int)) then (.v (false, ())) else (.lp zBc (a0, (), (0 : Int), ()) (fun r16 => .v (r16.1, ())) (fun _ => .v (true, ()))))
def zDS a0 := (zG4 a0).val
@[reducible] def zSN : FnD := ⟨[va zH], [vd .bool], true, fun _ => none, fun a => zDS a.1⟩
theorem zck (a0 : El zH) (_ : xG zSN.args (a0, ())) : (zG4 a0).ok := by
 unfold zG4
 refine zp (fun _ => trivial) (fun h1 => ?_)
 replace h1 := vQ h1
 replace h1 := zJq h1
 refine zp (fun _ => trivial) (fun h2 => ?_)
 replace h2 : ¬ ((a0.1.length : Int) > (40 : Int)) := of_decide_eq_false h2
 refine zI ?_ ?_
 ·exact zSm _ (by (dsimp only <;> omega))
 ·simp
def zaq : Con Tryz.prog := yD mo g0 [zAx, zLJ, zlc] [zBc] 55 zSN (fn := Tryz.f55) ⟨lk, trivial⟩ (fun a hw _ => yT (by kernel_rfl) (zck a.1 hw) rfl)
theorem zcw (a0 : El zH) : zDS a0 = bif (!(yB a0.2 (1 : Int) (1000000 : Int)).1) then (false, ()) else (bif (decide ((a0.1.length : Int) > (40 : Int))) then (false, ()) else (bif zd (fun i x => bif (!(zAH x.2).1) then false else (bif (decide (x.1 < (1 : Int))) then false else (bif (decide (x.1 ≥ a0.2)) then false else (bif (decide ((i : Int) > (0 : Int))) then (bif (decide ((zB zD a0.1 ((i : Int) - (1 : Int))).1 ≥ x.1)) then false else (bif ((zD4 a0 x.2).1 != x.1) then false else true)) else (bif ((zD4 a0 x.2).1 != x.1) then false else true))))) 0 a0.1 then (true, ()) else (false, ()))) := by
 simp only [zDS, zG4, zR, zi, zx, zQ]
 rw [zTW, z7] <;> rfl
theorem zap {s : El zH} (h : (zDS s).1 = true) : s.1.length ≤ 40 := by
 simp only [zDS, zG4, zi, zQ, zR, zx, z6, zAY] at h
 have := of_decide_eq_false h.2.1
 omega
def zI2 (a0 : El zN) (a1 : El yf) : Tr (Bool × Unit) := .ck (zKc a0) (bif (!(zCx a0).1) then (.v (false, ())) else (bif (!(zDS a1.1).1) then (.v (false, ())) else (bif (!(zHJ a1.2.2.1).1) then (.v (false, ())) else (bif (!(zF3 a1.2.2.2.1).1) then (.v (false, ())) else (bif (!(zHF a1.2.2.2.2.1).1) then (.v (false, ())) else (bif (!(yB a1.2.2.2.2.2.1 (1 : Int) (6 : Int)).1) then (.v (false, ())) else (bif (!(yB a1.2.2.2.2.2.2 (0 : Int) (1000000000 : Int)).1) then (.v (false, ())) else (bif (!(zFx a0 a1).1) then (.v (false, ())) else (bif (zQI a1).1 then (bif (zHa a1.2.2.1).1 then (.v (false, ())) else (bif decide ((a1.2.2.2.1.length : Int) > (0 : Int)) then (.v (false, ())) else (bif (!(zFg a1).1) then (.v (true, ())) else (.v (decide ((a1.2.2.2.2.1.length : Int) > (0 : Int)), ()))))) else (bif (!(zFg a1).1) then (.v (true, ())) else (.v (decide ((a1.2.2.2.2.1.length : Int) > (0 : Int)), ()))))))))))))
def zBA a0 a1 := (zI2 a0 a1).val
def zMU (a0 : El zN) (_a1 : El yf) : Prop := ∀ r ∈ a0.2, SzR r
@[reducible] def zUT : FnD := ⟨[va zN, va yf], [vd .bool], true, fun a => some (zMU a.1 a.2.1), fun a => zBA a.1 a.2.1⟩
theorem zeX (a0 : El zN) (a1 : El yf) (_ : xG zUT.args (a0, a1, ())) (hp : zMU a0 a1) : (zI2 a0 a1).ok := by
 unfold zMU at hp
 unfold zI2
 refine zI ?_ ?_
 ·exact hp
 ·simp
def zhc : Con Tryz.prog := yD mo g0 [zYl, zjO, zdN, zSj, zYt, zAx, zbR, zZi, zct, zaq] [] 33 zUT (fn := Tryz.f33) trivial (fun a hw h => yT (by kernel_rfl) (zeX a.1 a.2.1 hw h) rfl)
theorem zhS {d : El zN} {x : El yf} (h : (zBA d x).1 = true) : (zCx d).1 = true ∧ (zDS x.1).1 = true := by
 simp only [zBA, zI2, zi, zQ, zR, z6, zAY] at h
 exact ⟨vQ h.1, vQ h.2.1⟩
theorem zfl {d : El zN} {x : El yf} (h : (zBA d x).1 = true) : zkX d x.1 := by
 obtain ⟨h1, h2⟩ := zhS h
 obtain ⟨h3, h4⟩ := zh1 h1
 exact ⟨zap h2, h3, fun r hr => zeh (h4 r hr)⟩
@[reducible] def zB1 : LB := ⟨[], ⟨22, [.d zO], [(1, vd .str), (2, .pt 0 0), (5, vd .int)]⟩, ⟨22, [], [(4, vd .int)]⟩, 0, fun x => (fun (w0 : El zO) (s1 : ByteArray) (n5 : Int) => (bif decide (n5 < (w0.2.1.length : Int)) then (.ix n5 w0.2.1 (bif ((zB ze w0.2.1 n5).1.toList == s1.toList) then (.v (.ret (n5, ()))) else (.ik (n5 + (1 : Int)) (.v (.go (w0, s1, (), (n5 + (1 : Int)), ())))))) else (.v (.brk (w0, s1, (), n5, ()))) : Tr (St _ _))) x.1 x.2.1 x.2.2.2.1⟩
theorem zVr (w0 : El zO) (s1 : ByteArray) : LB.run zB1 (w0, s1, (), (0 : Int), ()) = zCY (yt (fun i x => bif (x.1.toList == s1.toList) then (some ((i : Int), ())) else none) 0 w0.2.1) (w0, s1, (), (w0.2.1.length : Int), ()) := LB.run_scan (l := zB1) (fun i => (w0, s1, (), (i : Int), ())) (fun i x h => by
  simp only [LB.b, zB1, zi, zQ, zR, cond_true, yM h, zG h]
  cases (x.1.toList == s1.toList) <;> rfl) (by simp only [LB.b, zB1, xl]; rfl)
theorem zXO : SF zB1 fun x : El zO × ByteArray × Unit × Int × Unit => (0 ≤ x.2.2.2.1, (x.1.2.1.length : Int) - x.2.2.2.1) := xz (by
 rintro ⟨(w0 : El zO), (s1 : ByteArray), ⟨⟩, (n5 : Int), ⟨⟩⟩ hI hw
 have _ : (w0.2.1.length : Int) ≤ 16777216 := zE (hw.1.2.1.1)
 simp [zB1] at hI ⊢
 repeat' first | intro _ | apply And.intro
 all_goals omega)
def zLw (a0 : El zO) (a1 : ByteArray) : Tr (Int × Unit) := .lp zB1 (a0, a1, (), (0 : Int), ()) (fun r1 => .v (r1.1, ())) (fun _ => .v ((-1 : Int), ()))
def zEJ a0 a1 := (zLw a0 a1).val
@[reducible] def zUU : FnD := ⟨[va zO, vd .str], [vd .int], true, fun _ => none, fun a => zEJ a.1 a.2.1⟩
theorem zf4 (a0 : El zO) (a1 : ByteArray) (_ : xG zUU.args (a0, a1, ())) : (zLw a0 a1).ok := by
 unfold zLw
 refine zI ?_ ?_
 ·exact zXO _ (by (dsimp only <;> omega))
 ·simp
def zd5 : Con Tryz.prog := yD mo g0 [] [zB1] 32 zUU (fn := Tryz.f32) ⟨lk, trivial⟩ (fun a hw _ => yT (by kernel_rfl) (zf4 a.1 a.2.1 hw) rfl)
theorem zhP (a0 : El zO) (a1 : ByteArray) : zEJ a0 a1 = zCh (yt (fun i x => bif (x.1.toList == a1.toList) then (some ((i : Int), ())) else none) 0 a0.2.1) (fun (r1 : zB1.r.T) => (r1.1, ())) ((-1 : Int), ()) := by
 simp only [zEJ, zLw, zR, zx, zQ]
 rw [zVr, xI] <;> rfl
@[reducible] def zDO : LB := ⟨[], ⟨109, [.d zO], [(1, .pt 0 0), (3, vd .int)]⟩, ⟨109, [], [(2, vd .bool)]⟩, 0, fun x => (fun (w0 : El zO) (n3 : Int) => (bif decide (n3 < (w0.1.length : Int)) then (.ix n3 w0.1 (.ck (zKc (zB zN w0.1 n3)) (bif (!(zCx (zB zN w0.1 n3)).1) then (.v (.ret (false, ()))) else (.ix n3 w0.1 (bif ((xQ w0 (zB zN w0.1 n3).1).1 != n3) then (.v (.ret (false, ()))) else (.ik (n3 + (1 : Int)) (.v (.go (w0, (), (n3 + (1 : Int)), ()))))))))) else (.v (.brk (w0, (), n3, ()))) : Tr (St _ _))) x.1 x.2.2.1⟩
theorem zNa (w0 : El zO) : LB.run zDO (w0, (), (0 : Int), ()) = bif zd (fun i x => bif (!(zCx x).1) then false else (bif ((xQ w0 x.1).1 != (i : Int)) then false else true)) 0 w0.1 then .brk (w0, (), (w0.1.length : Int), ()) else .ret (false, ()) := LB.run_all (l := zDO) (fun i => (w0, (), (i : Int), ())) (fun i x h => by
  simp only [LB.b, zDO, zi, zQ, zR, cond_true, yM h, zG h]
  cases (!(zCx x).1)
  ·cases ((xQ w0 x.1).1 != (i : Int)) <;> rfl
  ·rfl) (by simp only [LB.b, zDO, xl]; rfl)
theorem zWP : SF zDO fun x : El zO × Unit × Int × Unit => (0 ≤ x.2.2.1 ∧ ∀ d ∈ x.1.1, ∀ r ∈ d.2, SzR r, (x.1.1.length : Int) - x.2.2.1) := xz (by
 rintro ⟨(w0 : El zO), ⟨⟩, (n3 : Int), ⟨⟩⟩ hI hw
 obtain ⟨i0, k0⟩ := hI
 dsimp only at i0 k0
 have _ : (w0.1.length : Int) ≤ 16777216 := zE (hw.1.1.1)
 simp [zDO, -Prod.forall]
 repeat' first | exact k0 _ (z4 (by omega)) | assumption | intro _ | apply And.intro
 all_goals omega)
@[reducible] def zDE : LB := ⟨[], ⟨109, [.d zO], [(1, .pt 0 0), (4, vd .int)]⟩, ⟨109, [], [(2, vd .bool)]⟩, 2, fun x => (fun (w0 : El zO) (n4 : Int) => (bif decide (n4 < (w0.2.1.length : Int)) then (.ix n4 w0.2.1 (let y4 := (xQ w0 (zB ze w0.2.1 n4).2.1); bif (!(yQ (zB ze w0.2.1 n4).1).1) then (.v (.ret (false, ()))) else (bif ((zEJ w0 (zB ze w0.2.1 n4).1).1 != n4) then (.v (.ret (false, ()))) else (bif decide (y4.1 < (0 : Int)) then (.v (.ret (false, ()))) else (.ix y4.1 w0.1 (.ck (zMU (zB zN w0.1 y4.1) (zB ze w0.2.1 n4).2.2) (bif (!(zBA (zB zN w0.1 y4.1) (zB ze w0.2.1 n4).2.2).1) then (.v (.ret (false, ()))) else (bif decide ((zB ze w0.2.1 n4).2.2.2.2.2.2.2.2 > w0.2.2.1) then (.v (.ret (false, ()))) else (.ik (n4 + (1 : Int)) (.v (.go (w0, (), (n4 + (1 : Int)), ())))))))))))) else (.v (.brk (w0, (), n4, ()))) : Tr (St _ _))) x.1 x.2.2.1⟩
theorem zWZ (w0 : El zO) : LB.run zDE (w0, (), (0 : Int), ()) = bif zd (fun i x => bif (!(yQ x.1).1) then false else (bif ((zEJ w0 x.1).1 != (i : Int)) then false else (bif (decide ((xQ w0 x.2.1).1 < (0 : Int))) then false else (bif (!(zBA (zB zN w0.1 (xQ w0 x.2.1).1) x.2.2).1) then false else (bif (decide (x.2.2.2.2.2.2.2.2 > w0.2.2.1)) then false else true))))) 0 w0.2.1 then .brk (w0, (), (w0.2.1.length : Int), ()) else .ret (false, ()) := LB.run_all (l := zDE) (fun i => (w0, (), (i : Int), ())) (fun i x h => by
  simp only [LB.b, zDE, zi, zQ, zR, cond_true, yM h, zG h]
  cases (!(yQ x.1).1)
  ·cases ((zEJ w0 x.1).1 != (i : Int))
   ·cases (decide ((xQ w0 x.2.1).1 < (0 : Int)))
    ·cases (!(zBA (zB zN w0.1 (xQ w0 x.2.1).1) x.2.2).1)
     ·cases (decide (x.2.2.2.2.2.2.2.2 > w0.2.2.1)) <;> rfl
     ·rfl
    ·rfl
   ·rfl
  ·rfl) (by simp only [LB.b, zDE, xl]; rfl)
theorem zVy : SF zDE fun x : El zO × Unit × Int × Unit => (0 ≤ x.2.2.1 ∧ ∀ d ∈ x.1.1, ∀ r ∈ d.2, SzR r, (x.1.2.1.length : Int) - x.2.2.1) := xz (by
 rintro ⟨(w0 : El zO), ⟨⟩, (n4 : Int), ⟨⟩⟩ hI hw
 obtain ⟨i0, k0⟩ := hI
 dsimp only at i0 k0
 have _ : (w0.2.1.length : Int) ≤ 16777216 := zE (hw.1.2.1.1)
 have _ := zZH w0 (zB ze w0.2.1 n4).2.1
 simp [zDE, -Prod.forall]
 repeat' first | exact k0 _ (z4 (by omega)) | assumption | intro _ | apply And.intro
 all_goals omega)
def zLP (a0 : El zO) : Tr (Bool × Unit) := bif decide ((a0.1.length : Int) > (8 : Int)) then (.v (false, ())) else (bif decide ((a0.2.1.length : Int) > (10 : Int)) then (.v (false, ())) else (bif (!(yB a0.2.2.1 (0 : Int) (1000000000 : Int)).1) then (.v (false, ())) else (bif (!(yB a0.2.2.2 (0 : Int) (a0.2.1.length : Int)).1) then (.v (false, ())) else (.lp zDO (a0, (), (0 : Int), ()) (fun r30 => .v (r30.1, ())) (fun t30 => .lp zDE (t30.1, (), (0 : Int), ()) (fun r31 => .v (r31.1, ())) (fun _ => .v (true, ())))))))
def vC a0 := (zLP a0).val
def zI8 (a0 : El zO) : Prop := ∀ d ∈ a0.1, ∀ r ∈ d.2, SzR r
@[reducible] def zU7 : FnD := ⟨[va zO], [vd .bool], true, fun a => some (zI8 a.1), fun a => vC a.1⟩
theorem zfu (a0 : El zO) (_ : xG zU7.args (a0, ())) (hp : zI8 a0) : (zLP a0).ok := by
 unfold zI8 at hp
 unfold zLP
 refine zp (fun _ => trivial) (fun h1 => ?_)
 replace h1 : ¬ ((a0.1.length : Int) > (8 : Int)) := of_decide_eq_false h1
 refine zp (fun _ => trivial) (fun h2 => ?_)
 replace h2 : ¬ ((a0.2.1.length : Int) > (10 : Int)) := of_decide_eq_false h2
 refine zp (fun _ => trivial) (fun h3 => ?_)
 replace h3 := vQ h3
 replace h3 := zJq h3
 refine zp (fun _ => trivial) (fun h4 => ?_)
 replace h4 := vQ h4
 replace h4 := zJq h4
 refine zI ?_ ?_
 ·exact zWP _ ⟨by (dsimp only <;> first | omega | assumption | (simp <;> omega)), by (dsimp only <;> first | omega | assumption | (simp <;> omega))⟩
 ·refine zWL (zNa a0) ?_ trivial
  try dsimp only
  refine zI ?_ ?_
  ·exact zVy _ ⟨by (dsimp only <;> first | omega | assumption | (simp <;> omega)), by (dsimp only <;> first | omega | assumption | (simp <;> omega))⟩
  ·simp
def zgS : Con Tryz.prog := yD mo g0 [zYl, zZc, zFY, zhc, zd5, zAx] [zDO, zDE] 17 zU7 (fn := Tryz.f17) ⟨lk, lk, trivial⟩ (fun a hw h => yT (by kernel_rfl) (zfu a.1 hw h) rfl)
theorem zLi (a0 : El zO) : vC a0 = bif (decide ((a0.1.length : Int) > (8 : Int))) then (false, ()) else (bif (decide ((a0.2.1.length : Int) > (10 : Int))) then (false, ()) else (bif (!(yB a0.2.2.1 (0 : Int) (1000000000 : Int)).1) then (false, ()) else (bif (!(yB a0.2.2.2 (0 : Int) (a0.2.1.length : Int)).1) then (false, ()) else (bif zd (fun i x => bif (!(zCx x).1) then false else (bif ((xQ a0 x.1).1 != (i : Int)) then false else true)) 0 a0.1 then (bif zd (fun i x => bif (!(yQ x.1).1) then false else (bif ((zEJ a0 x.1).1 != (i : Int)) then false else (bif (decide ((xQ a0 x.2.1).1 < (0 : Int))) then false else (bif (!(zBA (zB zN a0.1 (xQ a0 x.2.1).1) x.2.2).1) then false else (bif (decide (x.2.2.2.2.2.2.2.2 > a0.2.2.1)) then false else true))))) 0 a0.2.1 then (true, ()) else (false, ())) else (false, ()))))) := by
 simp only [vC, zLP, zR, zi, zx, zQ]
 rw [zNa, z7, zWZ, z7] <;> rfl
theorem zU4 {b : El zO} (h : (vC b).1 = true) {i : Int} (hi : 0 ≤ i ∧ i < (b.2.1.length : Int)) : 0 ≤ (xQ b (zB ze b.2.1 i).2.1).1 ∧ (zBA (zB zN b.1 (xQ b (zB ze b.2.1 i).2.1).1) (zB ze b.2.1 i).2.2).1 = true := by
 rw [zLi] at h
 simp only [z6, zAY, zIT] at h
 obtain ⟨h1, h2, h3, h4, h5, h6, _⟩ := h
 rw [zr] at h6
 have := h6 i.toNat _ (zY4 hi)
 simp only [zAY] at this
 obtain ⟨g1, g2, g3, g4, g5⟩ := this
 have g3 := of_decide_eq_false g3
 exact ⟨by omega, vQ g4⟩
theorem zOw {b : El zO} (h : (vC b).1 = true) : @LE.le Int _ 0 b.2.2.2 ∧ @LE.le Int _ b.2.2.2 (b.2.1.length : Int) ∧ (b.2.1.length : Int) ≤ 10 := by
 rw [zLi] at h
 simp only [z6, zAY, zIT] at h
 obtain ⟨h1, h2, h3, h4, h5, h6, _⟩ := h
 have h2 := of_decide_eq_false h2
 have h4 := zJq (vQ h4)
 omega
def zI0 (a0 : El zO) (a1 : Int) : Tr (El zN × Unit) := .ix a1 a0.2.1 (let y1 := (xQ a0 (zB ze a0.2.1 a1).2.1); .ix y1.1 a0.1 (.v ((zB zN a0.1 y1.1), ())))
def zER a0 a1 := (zI0 a0 a1).val
def zLb (a0 : El zO) (a1 : Int) : Prop := (0 ≤ a1 ∧ a1 < (a0.2.1.length : Int)) ∧ 0 ≤ (xQ a0 (zB ze a0.2.1 a1).2.1).1
@[reducible] def zUX : FnD := ⟨[va zO, vd .int], [va zN], false, fun a => some (zLb a.1 a.2.1), fun a => zER a.1 a.2.1⟩
theorem zhg (a0 : El zO) (a1 : Int) (_ : xG zUX.args (a0, a1, ())) (hp : zLb a0 a1) : (zI0 a0 a1).ok := by
 unfold zLb at hp
 unfold zI0
 refine zI ?_ ?_
 ·first | omega | (simp <;> omega)
 ·refine zI ?_ ?_
  ·have _ := zZH a0 (zB ze a0.2.1 a1).2.1; first | omega | (simp <;> omega)
  ·trivial
def zfg : Con Tryz.prog := yD mo g0 [zZc] [] 35 zUX (fn := Tryz.f35) trivial (fun a hw h => yT (by kernel_rfl) (zhg a.1 a.2.1 hw h) rfl)
@[reducible] def zB2 : LB := ⟨[], ⟨26, [.d zK], [(0, vd (.lst zF)), (1, vd .str), (4, .pt 0 0), (6, vd .int)]⟩, ⟨26, [.d zK], [(4, .pt 0 0), (5, vd .bool)]⟩, 0, fun x => (fun (w0 : El zK) (l0 : List (El zF)) (s1 : ByteArray) (n6 : Int) => (bif decide (n6 < (l0.length : Int)) then (.ix n6 l0 (bif ((zB zF l0 n6).1.toList == s1.toList) then (.ix n6 l0 (.v (.ret ((zB zF l0 n6).2, (), true, ())))) else (.ik (n6 + (1 : Int)) (.v (.go (w0, l0, s1, (), (n6 + (1 : Int)), ())))))) else (.v (.brk (w0, l0, s1, (), n6, ()))) : Tr (St _ _))) x.1 x.2.1 x.2.2.1 x.2.2.2.2.1⟩
theorem zVS (w0 : El zK) (l0 : List (El zF)) (s1 : ByteArray) : LB.run zB2 (w0, l0, s1, (), (0 : Int), ()) = zCY (yt (fun _ x => bif (x.1.toList == s1.toList) then (some (x.2, (), true, ())) else none) 0 l0) (w0, l0, s1, (), (l0.length : Int), ()) := LB.run_scan (l := zB2) (fun i => (w0, l0, s1, (), (i : Int), ())) (fun i x h => by
  simp only [LB.b, zB2, zi, zQ, zR, cond_true, yM h, zG h]
  cases (x.1.toList == s1.toList) <;> rfl) (by simp only [LB.b, zB2, xl]; rfl)
theorem zXc : SF zB2 fun x : El zK × List (El zF) × ByteArray × Unit × Int × Unit => (0 ≤ x.2.2.2.2.1, (x.2.1.length : Int) - x.2.2.2.2.1) := xz (by
 rintro ⟨(w0 : El zK), (l0 : List (El zF)), (s1 : ByteArray), ⟨⟩, (n6 : Int), ⟨⟩⟩ hI hw
 have _ : (l0.length : Int) ≤ 16777216 := zE (hw.2.1.1)
 simp [zB2] at hI ⊢
 repeat' first | intro _ | apply And.intro
 all_goals omega)
def zLa (a0 : List (El zF)) (a1 : ByteArray) : Tr (El zK × Bool × Unit) := .lp zB2 (((0 : Int), ((0 : Int), (⟨#[]⟩ : ByteArray))), a0, a1, (), (0 : Int), ()) (fun r1 => .v (r1.1, r1.2.2.1, ())) (fun _ => .v (((0 : Int), ((0 : Int), (⟨#[]⟩ : ByteArray))), false, ()))
def xY a0 a1 := (zLa a0 a1).val
@[reducible] def zVI : FnD := ⟨[vd (.lst zF), vd .str], [va zK, vd .bool], true, fun _ => none, fun a => xY a.1 a.2.1⟩
theorem zee (a0 : List (El zF)) (a1 : ByteArray) (_ : xG zVI.args (a0, a1, ())) : (zLa a0 a1).ok := by
 unfold zLa
 refine zI ?_ ?_
 ·exact zXc _ (by (dsimp only <;> omega))
 ·simp
def zVA : Con Tryz.prog := yD mo g0 [] [zB2] 258 zVI (fn := Tryz.f258) ⟨lk, trivial⟩ (fun a hw _ => yT (by kernel_rfl) (zee a.1 a.2.1 hw) rfl)
theorem zfc (a0 : List (El zF)) (a1 : ByteArray) : xY a0 a1 = zCh (yt (fun _ x => bif (x.1.toList == a1.toList) then (some (x.2, (), true, ())) else none) 0 a0) (fun (r1 : zB2.r.T) => (r1.1, r1.2.2.1, ())) (((0 : Int), ((0 : Int), (⟨#[]⟩ : ByteArray))), false, ()) := by
 simp only [xY, zLa, zR, zx, zQ]
 rw [zVS, xI] <;> rfl
end
end Go.Proofs.YtipbfgknaihifaaGreat
namespace Go.Proofs.YtipbfgknaihifaaGreat
open Go.RowKit
noncomputable section
@[reducible] def xZ : LB := ⟨[], ⟨102, [.d zJ, .d zt], [(2, vd (.lst zF)), (3, .pt 0 0), (4, .pt 1 0), (8, vo zF), (9, vd .int)]⟩, ⟨102, [], [(6, vo zF), (7, vd .bool)]⟩, 0, fun x => (fun (w0 : El zJ) (w1 : El zt) (l2 : List (El zF)) (l8 : List (El zF)) (n9 : Int) => (bif decide (n9 < (w0.2.1.length : Int)) then (.ix n9 w0.2.1 (let y1 := (xY l8 (zB zo w0.2.1 n9).2.1); bif ((zB zo w0.2.1 n9).1 == (2 : Int)) then (.ix n9 w1.2 (bif (!(((zB zo w0.2.1 n9).2.2.1 == (zB zK w1.2 n9).1) && (((zB zo w0.2.1 n9).2.2.2.1 == (zB zK w1.2 n9).2.1) && (((zB zo w0.2.1 n9).2.2.2.2.toList == (zB zK w1.2 n9).2.2.toList) && true)))) then (.ck ((l2.length : Int) ≤ 16777216) (.v (.ret (l2, false, ())))) else (bif ((zB zo w0.2.1 n9).1 == (1 : Int)) then (bif y1.2.1 then (.ix n9 w1.2 (bif (!((y1.1.1 == (zB zK w1.2 n9).1) && ((y1.1.2.1 == (zB zK w1.2 n9).2.1) && ((y1.1.2.2.toList == (zB zK w1.2 n9).2.2.toList) && true)))) then (.ck ((l2.length : Int) ≤ 16777216) (.v (.ret (l2, false, ())))) else (bif ((zB zo w0.2.1 n9).1 == (1 : Int)) then (bif (!y1.2.1) then (.ix n9 w1.2 (.ck (((l8.length + [((zB zo w0.2.1 n9).2.1, (zB zK w1.2 n9))].length : Nat) : Int) ≤ 16777216) (.ik (n9 + (1 : Int)) (.v (.go (w0, w1, l2, (), (), (l8 ++ [((zB zo w0.2.1 n9).2.1, (zB zK w1.2 n9))]), (n9 + (1 : Int)), ())))))) else (.ik (n9 + (1 : Int)) (.v (.go (w0, w1, l2, (), (), l8, (n9 + (1 : Int)), ()))))) else (.ik (n9 + (1 : Int)) (.v (.go (w0, w1, l2, (), (), l8, (n9 + (1 : Int)), ()))))))) else (bif ((zB zo w0.2.1 n9).1 == (1 : Int)) then (bif (!y1.2.1) then (.ix n9 w1.2 (.ck (((l8.length + [((zB zo w0.2.1 n9).2.1, (zB zK w1.2 n9))].length : Nat) : Int) ≤ 16777216) (.ik (n9 + (1 : Int)) (.v (.go (w0, w1, l2, (), (), (l8 ++ [((zB zo w0.2.1 n9).2.1, (zB zK w1.2 n9))]), (n9 + (1 : Int)), ())))))) else (.ik (n9 + (1 : Int)) (.v (.go (w0, w1, l2, (), (), l8, (n9 + (1 : Int)), ()))))) else (.ik (n9 + (1 : Int)) (.v (.go (w0, w1, l2, (), (), l8, (n9 + (1 : Int)), ())))))) else (bif ((zB zo w0.2.1 n9).1 == (1 : Int)) then (bif (!y1.2.1) then (.ix n9 w1.2 (.ck (((l8.length + [((zB zo w0.2.1 n9).2.1, (zB zK w1.2 n9))].length : Nat) : Int) ≤ 16777216) (.ik (n9 + (1 : Int)) (.v (.go (w0, w1, l2, (), (), (l8 ++ [((zB zo w0.2.1 n9).2.1, (zB zK w1.2 n9))]), (n9 + (1 : Int)), ())))))) else (.ik (n9 + (1 : Int)) (.v (.go (w0, w1, l2, (), (), l8, (n9 + (1 : Int)), ()))))) else (.ik (n9 + (1 : Int)) (.v (.go (w0, w1, l2, (), (), l8, (n9 + (1 : Int)), ())))))))) else (bif ((zB zo w0.2.1 n9).1 == (1 : Int)) then (bif y1.2.1 then (.ix n9 w1.2 (bif (!((y1.1.1 == (zB zK w1.2 n9).1) && ((y1.1.2.1 == (zB zK w1.2 n9).2.1) && ((y1.1.2.2.toList == (zB zK w1.2 n9).2.2.toList) && true)))) then (.ck ((l2.length : Int) ≤ 16777216) (.v (.ret (l2, false, ())))) else (bif ((zB zo w0.2.1 n9).1 == (1 : Int)) then (bif (!y1.2.1) then (.ix n9 w1.2 (.ck (((l8.length + [((zB zo w0.2.1 n9).2.1, (zB zK w1.2 n9))].length : Nat) : Int) ≤ 16777216) (.ik (n9 + (1 : Int)) (.v (.go (w0, w1, l2, (), (), (l8 ++ [((zB zo w0.2.1 n9).2.1, (zB zK w1.2 n9))]), (n9 + (1 : Int)), ())))))) else (.ik (n9 + (1 : Int)) (.v (.go (w0, w1, l2, (), (), l8, (n9 + (1 : Int)), ()))))) else (.ik (n9 + (1 : Int)) (.v (.go (w0, w1, l2, (), (), l8, (n9 + (1 : Int)), ()))))))) else (bif ((zB zo w0.2.1 n9).1 == (1 : Int)) then (bif (!y1.2.1) then (.ix n9 w1.2 (.ck (((l8.length + [((zB zo w0.2.1 n9).2.1, (zB zK w1.2 n9))].length : Nat) : Int) ≤ 16777216) (.ik (n9 + (1 : Int)) (.v (.go (w0, w1, l2, (), (), (l8 ++ [((zB zo w0.2.1 n9).2.1, (zB zK w1.2 n9))]), (n9 + (1 : Int)), ())))))) else (.ik (n9 + (1 : Int)) (.v (.go (w0, w1, l2, (), (), l8, (n9 + (1 : Int)), ()))))) else (.ik (n9 + (1 : Int)) (.v (.go (w0, w1, l2, (), (), l8, (n9 + (1 : Int)), ())))))) else (bif ((zB zo w0.2.1 n9).1 == (1 : Int)) then (bif (!y1.2.1) then (.ix n9 w1.2 (.ck (((l8.length + [((zB zo w0.2.1 n9).2.1, (zB zK w1.2 n9))].length : Nat) : Int) ≤ 16777216) (.ik (n9 + (1 : Int)) (.v (.go (w0, w1, l2, (), (), (l8 ++ [((zB zo w0.2.1 n9).2.1, (zB zK w1.2 n9))]), (n9 + (1 : Int)), ())))))) else (.ik (n9 + (1 : Int)) (.v (.go (w0, w1, l2, (), (), l8, (n9 + (1 : Int)), ()))))) else (.ik (n9 + (1 : Int)) (.v (.go (w0, w1, l2, (), (), l8, (n9 + (1 : Int)), ())))))))) else (.v (.brk (w0, w1, l2, (), (), l8, n9, ()))) : Tr (St _ _))) x.1 x.2.1 x.2.2.1 x.2.2.2.2.2.1 x.2.2.2.2.2.2.1⟩
theorem zQs (w00 : El zJ) (w10 : El zt) (l20 : List (El zF)) (l80 : List (El zF)) (n90 : Int) (p0 : (l80.length : Int) ≤ (l20.length : Int) + n90 ∧ n90 ≤ (w00.2.1.length : Int)) : (LB.run xZ (w00, w10, l20, (), (), l80, n90, ())).all (fun r => (r.1.length : Int) ≤ (l20.length : Int)) (fun (w0, w1, l2, _, _, l8, n9, _) => w00 = w0 ∧ w10 = w1 ∧ l20 = l2 ∧ ((l8.length : Int) ≤ (l2.length : Int) + n9 ∧ n9 ≤ (w0.2.1.length : Int))) (fun (w0, w1, l2, _, _, l8, n9, _) => w00 = w0 ∧ w10 = w1 ∧ l20 = l2 ∧ ((l8.length : Int) ≤ (l2.length : Int) + n9 ∧ n9 ≤ (w0.2.1.length : Int))) := by
 have H : ∀ (w0 : El zJ) (w1 : El zt) (l2 : List (El zF)) (l8 : List (El zF)) (n9 : Int), (w00 = w0 ∧ w10 = w1 ∧ l20 = l2 ∧ ((l8.length : Int) ≤ (l2.length : Int) + n9 ∧ n9 ≤ (w0.2.1.length : Int))) → St.all (fun r => (r.1.length : Int) ≤ (l20.length : Int)) (fun (w0, w1, l2, _, _, l8, n9, _) => w00 = w0 ∧ w10 = w1 ∧ l20 = l2 ∧ ((l8.length : Int) ≤ (l2.length : Int) + n9 ∧ n9 ≤ (w0.2.1.length : Int))) (fun (w0, w1, l2, _, _, l8, n9, _) => w00 = w0 ∧ w10 = w1 ∧ l20 = l2 ∧ ((l8.length : Int) ≤ (l2.length : Int) + n9 ∧ n9 ≤ (w0.2.1.length : Int))) (xZ.b (w0, w1, l2, (), (), l8, n9, ())) := by
  intro w0 w1 l2 l8 n9 hI
  obtain ⟨eq0, eq1, eq2, eq3⟩ := hI
  simp only [LB.b, xZ, zi, zQ, zR]
  refine zj (fun h1 => ?_) (fun h1 => ?_)
  ·replace h1 : n9 < (w0.2.1.length : Int) := of_decide_eq_true h1
   refine zj (fun h2 => ?_) (fun h2 => ?_)
   ·replace h2 := zIe h2
    refine zj (fun h3 => ?_) (fun h3 => ?_)
    ·exact zKS (by subst_vars; dsimp only; omega)
    ·refine zj (fun h4 => ?_) (fun h4 => ?_)
     ·replace h4 := zIe h4
      refine zj (fun h5 => ?_) (fun h5 => ?_)
      ·refine zj (fun h6 => ?_) (fun h6 => ?_)
       ·exact zKS (by subst_vars; dsimp only; omega)
       ·refine zj (fun h7 => ?_) (fun h7 => ?_)
        ·replace h7 := zIe h7
         refine zj (fun h8 => ?_) (fun h8 => ?_)
         ·exact yg (show w00 = w0 ∧ w10 = w1 ∧ l20 = l2 ∧ (((l8 ++ [((zB zo w0.2.1 n9).2.1, (zB zK w1.2 n9))]).length : Int) ≤ (l2.length : Int) + (n9 + (1 : Int)) ∧ (n9 + (1 : Int)) ≤ (w0.2.1.length : Int)) from ⟨eq0, eq1, eq2, by first | omega | rfl | assumption | (simp <;> omega)⟩)
         ·exact yg (show w00 = w0 ∧ w10 = w1 ∧ l20 = l2 ∧ ((l8.length : Int) ≤ (l2.length : Int) + (n9 + (1 : Int)) ∧ (n9 + (1 : Int)) ≤ (w0.2.1.length : Int)) from ⟨eq0, eq1, eq2, by first | omega | rfl | assumption | (simp <;> omega)⟩)
        ·replace h7 := zIw h7
         exact yg (show w00 = w0 ∧ w10 = w1 ∧ l20 = l2 ∧ ((l8.length : Int) ≤ (l2.length : Int) + (n9 + (1 : Int)) ∧ (n9 + (1 : Int)) ≤ (w0.2.1.length : Int)) from ⟨eq0, eq1, eq2, by first | omega | rfl | assumption | (simp <;> omega)⟩)
      ·refine zj (fun h9 => ?_) (fun h9 => ?_)
       ·replace h9 := zIe h9
        refine zj (fun h10 => ?_) (fun h10 => ?_)
        ·exact yg (show w00 = w0 ∧ w10 = w1 ∧ l20 = l2 ∧ (((l8 ++ [((zB zo w0.2.1 n9).2.1, (zB zK w1.2 n9))]).length : Int) ≤ (l2.length : Int) + (n9 + (1 : Int)) ∧ (n9 + (1 : Int)) ≤ (w0.2.1.length : Int)) from ⟨eq0, eq1, eq2, by first | omega | rfl | assumption | (simp <;> omega)⟩)
        ·exact yg (show w00 = w0 ∧ w10 = w1 ∧ l20 = l2 ∧ ((l8.length : Int) ≤ (l2.length : Int) + (n9 + (1 : Int)) ∧ (n9 + (1 : Int)) ≤ (w0.2.1.length : Int)) from ⟨eq0, eq1, eq2, by first | omega | rfl | assumption | (simp <;> omega)⟩)
       ·replace h9 := zIw h9
        exact yg (show w00 = w0 ∧ w10 = w1 ∧ l20 = l2 ∧ ((l8.length : Int) ≤ (l2.length : Int) + (n9 + (1 : Int)) ∧ (n9 + (1 : Int)) ≤ (w0.2.1.length : Int)) from ⟨eq0, eq1, eq2, by first | omega | rfl | assumption | (simp <;> omega)⟩)
     ·replace h4 := zIw h4
      refine zj (fun h11 => ?_) (fun h11 => ?_)
      ·replace h11 := zIe h11
       refine zj (fun h12 => ?_) (fun h12 => ?_)
       ·exact yg (show w00 = w0 ∧ w10 = w1 ∧ l20 = l2 ∧ (((l8 ++ [((zB zo w0.2.1 n9).2.1, (zB zK w1.2 n9))]).length : Int) ≤ (l2.length : Int) + (n9 + (1 : Int)) ∧ (n9 + (1 : Int)) ≤ (w0.2.1.length : Int)) from ⟨eq0, eq1, eq2, by first | omega | rfl | assumption | (simp <;> omega)⟩)
       ·exact yg (show w00 = w0 ∧ w10 = w1 ∧ l20 = l2 ∧ ((l8.length : Int) ≤ (l2.length : Int) + (n9 + (1 : Int)) ∧ (n9 + (1 : Int)) ≤ (w0.2.1.length : Int)) from ⟨eq0, eq1, eq2, by first | omega | rfl | assumption | (simp <;> omega)⟩)
      ·replace h11 := zIw h11
       exact yg (show w00 = w0 ∧ w10 = w1 ∧ l20 = l2 ∧ ((l8.length : Int) ≤ (l2.length : Int) + (n9 + (1 : Int)) ∧ (n9 + (1 : Int)) ≤ (w0.2.1.length : Int)) from ⟨eq0, eq1, eq2, by first | omega | rfl | assumption | (simp <;> omega)⟩)
   ·replace h2 := zIw h2
    refine zj (fun h13 => ?_) (fun h13 => ?_)
    ·replace h13 := zIe h13
     refine zj (fun h14 => ?_) (fun h14 => ?_)
     ·refine zj (fun h15 => ?_) (fun h15 => ?_)
      ·exact zKS (by subst_vars; dsimp only; omega)
      ·refine zj (fun h16 => ?_) (fun h16 => ?_)
       ·replace h16 := zIe h16
        refine zj (fun h17 => ?_) (fun h17 => ?_)
        ·exact yg (show w00 = w0 ∧ w10 = w1 ∧ l20 = l2 ∧ (((l8 ++ [((zB zo w0.2.1 n9).2.1, (zB zK w1.2 n9))]).length : Int) ≤ (l2.length : Int) + (n9 + (1 : Int)) ∧ (n9 + (1 : Int)) ≤ (w0.2.1.length : Int)) from ⟨eq0, eq1, eq2, by first | omega | rfl | assumption | (simp <;> omega)⟩)
        ·exact yg (show w00 = w0 ∧ w10 = w1 ∧ l20 = l2 ∧ ((l8.length : Int) ≤ (l2.length : Int) + (n9 + (1 : Int)) ∧ (n9 + (1 : Int)) ≤ (w0.2.1.length : Int)) from ⟨eq0, eq1, eq2, by first | omega | rfl | assumption | (simp <;> omega)⟩)
       ·replace h16 := zIw h16
        exact yg (show w00 = w0 ∧ w10 = w1 ∧ l20 = l2 ∧ ((l8.length : Int) ≤ (l2.length : Int) + (n9 + (1 : Int)) ∧ (n9 + (1 : Int)) ≤ (w0.2.1.length : Int)) from ⟨eq0, eq1, eq2, by first | omega | rfl | assumption | (simp <;> omega)⟩)
     ·refine zj (fun h18 => ?_) (fun h18 => ?_)
      ·replace h18 := zIe h18
       refine zj (fun h19 => ?_) (fun h19 => ?_)
       ·exact yg (show w00 = w0 ∧ w10 = w1 ∧ l20 = l2 ∧ (((l8 ++ [((zB zo w0.2.1 n9).2.1, (zB zK w1.2 n9))]).length : Int) ≤ (l2.length : Int) + (n9 + (1 : Int)) ∧ (n9 + (1 : Int)) ≤ (w0.2.1.length : Int)) from ⟨eq0, eq1, eq2, by first | omega | rfl | assumption | (simp <;> omega)⟩)
       ·exact yg (show w00 = w0 ∧ w10 = w1 ∧ l20 = l2 ∧ ((l8.length : Int) ≤ (l2.length : Int) + (n9 + (1 : Int)) ∧ (n9 + (1 : Int)) ≤ (w0.2.1.length : Int)) from ⟨eq0, eq1, eq2, by first | omega | rfl | assumption | (simp <;> omega)⟩)
      ·replace h18 := zIw h18
       exact yg (show w00 = w0 ∧ w10 = w1 ∧ l20 = l2 ∧ ((l8.length : Int) ≤ (l2.length : Int) + (n9 + (1 : Int)) ∧ (n9 + (1 : Int)) ≤ (w0.2.1.length : Int)) from ⟨eq0, eq1, eq2, by first | omega | rfl | assumption | (simp <;> omega)⟩)
    ·replace h13 := zIw h13
     refine zj (fun h20 => ?_) (fun h20 => ?_)
     ·replace h20 := zIe h20
      refine zj (fun h21 => ?_) (fun h21 => ?_)
      ·exact yg (show w00 = w0 ∧ w10 = w1 ∧ l20 = l2 ∧ (((l8 ++ [((zB zo w0.2.1 n9).2.1, (zB zK w1.2 n9))]).length : Int) ≤ (l2.length : Int) + (n9 + (1 : Int)) ∧ (n9 + (1 : Int)) ≤ (w0.2.1.length : Int)) from ⟨eq0, eq1, eq2, by first | omega | rfl | assumption | (simp <;> omega)⟩)
      ·exact yg (show w00 = w0 ∧ w10 = w1 ∧ l20 = l2 ∧ ((l8.length : Int) ≤ (l2.length : Int) + (n9 + (1 : Int)) ∧ (n9 + (1 : Int)) ≤ (w0.2.1.length : Int)) from ⟨eq0, eq1, eq2, by first | omega | rfl | assumption | (simp <;> omega)⟩)
     ·replace h20 := zIw h20
      exact yg (show w00 = w0 ∧ w10 = w1 ∧ l20 = l2 ∧ ((l8.length : Int) ≤ (l2.length : Int) + (n9 + (1 : Int)) ∧ (n9 + (1 : Int)) ≤ (w0.2.1.length : Int)) from ⟨eq0, eq1, eq2, by first | omega | rfl | assumption | (simp <;> omega)⟩)
  ·replace h1 : ¬ (n9 < (w0.2.1.length : Int)) := of_decide_eq_false h1
   exact zCd (show w00 = w0 ∧ w10 = w1 ∧ l20 = l2 ∧ ((l8.length : Int) ≤ (l2.length : Int) + n9 ∧ n9 ≤ (w0.2.1.length : Int)) from ⟨eq0, eq1, eq2, by first | omega | rfl | assumption | (simp <;> omega)⟩)
 exact LB.post (l := xZ) (A := fun r => (r.1.length : Int) ≤ (l20.length : Int)) (fun (w0, w1, l2, _, _, l8, n9, _) => w00 = w0 ∧ w10 = w1 ∧ l20 = l2 ∧ ((l8.length : Int) ≤ (l2.length : Int) + n9 ∧ n9 ≤ (w0.2.1.length : Int))) (fun ⟨w0, w1, l2, ⟨⟩, ⟨⟩, l8, n9, ⟨⟩⟩ hx => H w0 w1 l2 l8 n9 hx) ⟨rfl, rfl, rfl, p0⟩
theorem zQ2 : SF xZ fun x : El zJ × El zt × List (El zF) × Unit × Unit × List (El zF) × Int × Unit => (0 ≤ x.2.2.2.2.2.2.1 ∧ (x.1.2.1.length : Int) ≤ (x.2.1.2.length : Int) ∧ (x.2.2.2.2.2.1.length : Int) ≤ (x.2.2.1.length : Int) + x.2.2.2.2.2.2.1 ∧ (x.2.2.1.length : Int) + (x.1.2.1.length : Int) ≤ 16777216, (x.1.2.1.length : Int) - x.2.2.2.2.2.2.1) := xz (by
 rintro ⟨(w0 : El zJ), (w1 : El zt), (l2 : List (El zF)), ⟨⟩, ⟨⟩, (l8 : List (El zF)), (n9 : Int), ⟨⟩⟩ hI hw
 obtain ⟨i0, i1, k0, k1⟩ := hI
 dsimp only at i0 i1 k0 k1
 have _ : (w0.2.1.length : Int) ≤ 16777216 := zE (hw.1.2.1.1)
 have _ : (l2.length : Int) ≤ 16777216 := zE (hw.2.2.1.1)
 have _ : (l8.length : Int) ≤ 16777216 := zE (hw.2.2.2.2.2.1.1)
 simp [xZ]
 repeat' first | intro _ | apply And.intro
 all_goals omega)
def zGF (a0 : El zJ) (a1 : El zt) (a2 : List (El zF)) : Tr (List (El zF) × Bool × Unit) := .ck ((a2.length : Int) ≤ 16777216) (bif (!(a0.1.toList == a1.1.toList)) then (.v (a2, false, ())) else (bif ((a0.2.1.length : Int) != (a1.2.length : Int)) then (.v (a2, false, ())) else (.lp xZ (a0, a1, a2, (), (), a2, (0 : Int), ()) (fun r3 => .v (r3.1, r3.2.1, ())) (fun t3 => .v (t3.2.2.2.2.2.1, true, ())))))
def yI a0 a1 a2 := (zGF a0 a1 a2).val
def zGH (a0 : El zJ) (_a1 : El zt) (a2 : List (El zF)) : Prop := (a2.length : Int) + (a0.2.1.length : Int) ≤ 16777216
@[reducible] def zPd : FnD := ⟨[va zJ, va zt, vd (.lst zF)], [vo zF, vd .bool], true, fun a => some (zGH a.1 a.2.1 a.2.2.1), fun a => yI a.1 a.2.1 a.2.2.1⟩
theorem zYR (a0 : El zJ) (a1 : El zt) (a2 : List (El zF)) (hw : xG zPd.args (a0, a1, a2, ())) (hp : zGH a0 a1 a2) : (zGF a0 a1 a2).ok := by
 unfold zGH at hp
 unfold zGF
 refine zI ?_ ?_
 ·have _ : (a2.length : Int) ≤ 16777216 := zE (hw.2.2.1.1); first | omega | (simp <;> omega)
 ·refine zp (fun _ => trivial) (fun h22 => ?_)
  refine zp (fun _ => trivial) (fun h23 => ?_)
  replace h23 := zAp h23
  refine zI ?_ ?_
  ·exact zQ2 _ ⟨by (dsimp only <;> first | omega | assumption | (simp <;> omega)), by (dsimp only <;> first | omega | assumption | (simp <;> omega)), by (dsimp only <;> first | omega | assumption | (simp <;> omega)), by (dsimp only <;> first | omega | assumption | (simp <;> omega))⟩
  ·simp
def zPC : Con Tryz.prog := yD mo g0 [zVA] [xZ] 222 zPd (fn := Tryz.f222) ⟨lk, trivial⟩ (fun a hw h => yT (by kernel_rfl) (zYR a.1 a.2.1 a.2.2.1 hw h) rfl)
theorem zZl (p : El zJ) (f : El zt) (l : List (El zF)) : ((yI p f l).1.length : Int) ≤ (l.length : Int) + (p.2.1.length : Int) := by
 simp only [yI, zGF, zi, zQ, zR, zx]
 cases h1 : (!(p.1.toList == f.1.toList)) with
 | true => show (l.length : Int) ≤ _; omega
 | false =>
  cases h2 : ((p.2.1.length : Int) != (f.2.length : Int)) with
  | true => show (l.length : Int) ≤ _; omega
  | false =>
   have := zQs p f l l (0 : Int) (by constructor <;> omega)
   revert this
   cases (LB.run xZ (p, f, l, (), (), l, (0 : Int), ())) with
   | ret r => obtain ⟨r1, r2, ⟨⟩⟩ := r; intro h; have h : (r1.length : Int) ≤ (l.length : Int) := h; show (r1.length : Int) ≤ _; omega
   | brk t => obtain ⟨t0, t1, t2, ⟨⟩, ⟨⟩, t8, n, ⟨⟩⟩ := t; rintro ⟨rfl, rfl, rfl, h3, h4⟩; obtain ⟨n, rfl⟩ : ∃ y : Int, y = n := ⟨_, rfl⟩; replace h3 : (t8.length : Int) ≤ (l.length : Int) + n := h3; replace h4 : n ≤ (p.2.1.length : Int) := h4; show (t8.length : Int) ≤ _; omega
   | go t => obtain ⟨t0, t1, t2, ⟨⟩, ⟨⟩, t8, n, ⟨⟩⟩ := t; rintro ⟨rfl, rfl, rfl, h3, h4⟩; obtain ⟨n, rfl⟩ : ∃ y : Int, y = n := ⟨_, rfl⟩; replace h3 : (t8.length : Int) ≤ (l.length : Int) + n := h3; replace h4 : n ≤ (p.2.1.length : Int) := h4; show (t8.length : Int) ≤ _; omega
@[reducible] def xO : LB := ⟨[], ⟨50, [.d zC, .d zH], [(2, vd (.lst zF)), (3, .pt 0 0), (4, .pt 1 0), (7, vd .int), (8, vd .int)]⟩, ⟨50, [], [(6, vd .bool)]⟩, 2, fun x => (fun (w0 : El zC) (w1 : El zH) (l2 : List (El zF)) (n7 : Int) (n8 : Int) => (bif decide (n8 < (w1.1.length : Int)) then (.ix n7 w0.2.2.1 (bif (zB zJ w0.2.2.1 n7).2.2 then (.ix n7 w0.2.2.1 (.ix n8 w1.1 (.ck (zGH (zB zJ w0.2.2.1 n7) (zB zD w1.1 n8).2 l2) (bif (yI (zB zJ w0.2.2.1 n7) (zB zD w1.1 n8).2 l2).2.1 then (.v (.ret (true, ()))) else (.ik (n8 + (1 : Int)) (.v (.go (w0, w1, l2, (), (), n7, (n8 + (1 : Int)), ())))))))) else (.v (.brk (w0, w1, l2, (), (), n7, n8, ()))))) else (.v (.brk (w0, w1, l2, (), (), n7, n8, ()))) : Tr (St _ _))) x.1 x.2.1 x.2.2.1 x.2.2.2.2.2.1 x.2.2.2.2.2.2.1⟩
theorem zTi (w00 : El zC) (w10 : El zH) (l20 : List (El zF)) (n70 : Int) (n80 : Int)  : (LB.run xO (w00, w10, l20, (), (), n70, n80, ())).all (fun _ => True) (fun (w0, w1, l2, _, _, n7, _) => w00 = w0 ∧ w10 = w1 ∧ l20 = l2 ∧ n70 = n7) (fun (w0, w1, l2, _, _, n7, _) => w00 = w0 ∧ w10 = w1 ∧ l20 = l2 ∧ n70 = n7) := by
 have H : ∀ (w0 : El zC) (w1 : El zH) (l2 : List (El zF)) (n7 : Int) (n8 : Int), (w00 = w0 ∧ w10 = w1 ∧ l20 = l2 ∧ n70 = n7) → St.all (fun _ => True) (fun (w0, w1, l2, _, _, n7, _) => w00 = w0 ∧ w10 = w1 ∧ l20 = l2 ∧ n70 = n7) (fun (w0, w1, l2, _, _, n7, _) => w00 = w0 ∧ w10 = w1 ∧ l20 = l2 ∧ n70 = n7) (xO.b (w0, w1, l2, (), (), n7, n8, ())) := by
  intro w0 w1 l2 n7 n8 hI
  obtain ⟨eq0, eq1, eq2, eq3⟩ := hI
  simp only [LB.b, xO, zi, zQ, zR]
  refine zj (fun h1 => ?_) (fun h1 => ?_)
  ·replace h1 : n8 < (w1.1.length : Int) := of_decide_eq_true h1
   refine zj (fun h2 => ?_) (fun h2 => ?_)
   ·refine zj (fun h3 => ?_) (fun h3 => ?_)
    ·exact trivial
    ·exact ⟨eq0, eq1, eq2, eq3⟩
   ·exact ⟨eq0, eq1, eq2, eq3⟩
  ·replace h1 : ¬ (n8 < (w1.1.length : Int)) := of_decide_eq_false h1
   exact ⟨eq0, eq1, eq2, eq3⟩
 exact LB.post (l := xO) (A := fun _ => True) (fun (w0, w1, l2, _, _, n7, _) => w00 = w0 ∧ w10 = w1 ∧ l20 = l2 ∧ n70 = n7) (fun ⟨w0, w1, l2, ⟨⟩, ⟨⟩, n7, n8, ⟨⟩⟩ hx => H w0 w1 l2 n7 n8 hx) ⟨rfl, rfl, rfl, rfl⟩
theorem zS2 : SF xO fun x : El zC × El zH × List (El zF) × Unit × Unit × Int × Int × Unit => (0 ≤ x.2.2.2.2.2.2.1 ∧ (0 ≤ x.2.2.2.2.2.1 ∧ x.2.2.2.2.2.1 < (x.1.2.2.1.length : Int)) ∧ ∀ p ∈ x.1.2.2.1, (x.2.2.1.length : Int) + (p.2.1.length : Int) ≤ 16777216, (x.2.1.1.length : Int) - x.2.2.2.2.2.2.1) := xz (by
 rintro ⟨(w0 : El zC), (w1 : El zH), (l2 : List (El zF)), ⟨⟩, ⟨⟩, (n7 : Int), (n8 : Int), ⟨⟩⟩ hI hw
 obtain ⟨i0, i1, k0⟩ := hI
 dsimp only at i0 i1 k0
 have _ : -9223372036854775808 ≤ n7 ∧ n7 ≤ 9223372036854775807 := zw hw.2.2.2.2.2.1
 have _ : (w1.1.length : Int) ≤ 16777216 := zE (hw.2.1.1.1)
 have _ : (w0.2.2.1.length : Int) ≤ 16777216 := zE (hw.1.2.2.1.1)
 simp [xO, -Prod.forall]
 repeat' first | exact k0 _ (z4 (by omega)) | assumption | intro _ | apply And.intro
 all_goals omega)
@[reducible] def zDY : LB := ⟨[], ⟨50, [.d zC, .d zH], [(2, vd (.lst zF)), (3, .pt 0 0), (4, .pt 1 0), (7, vd .int)]⟩, ⟨50, [], [(6, vd .bool)]⟩, 0, fun x => (fun (w0 : El zC) (w1 : El zH) (l2 : List (El zF)) (n7 : Int) => (bif decide (n7 < (w0.2.2.1.length : Int)) then (.lp xO (w0, w1, l2, (), (), n7, (0 : Int), ()) (fun r3 => .v (.ret (r3.1, ()))) (fun t3 => .ik (t3.2.2.2.2.2.1 + (1 : Int)) (.v (.go (t3.1, t3.2.1, t3.2.2.1, (), (), (t3.2.2.2.2.2.1 + (1 : Int)), ()))))) else (.v (.brk (w0, w1, l2, (), (), n7, ()))) : Tr (St _ _))) x.1 x.2.1 x.2.2.1 x.2.2.2.2.2.1⟩
theorem zTu : SF zDY fun x : El zC × El zH × List (El zF) × Unit × Unit × Int × Unit => (0 ≤ x.2.2.2.2.2.1 ∧ ∀ p ∈ x.1.2.2.1, (x.2.2.1.length : Int) + (p.2.1.length : Int) ≤ 16777216, (x.1.2.2.1.length : Int) - x.2.2.2.2.2.1) := xz (by
 rintro ⟨(w0 : El zC), (w1 : El zH), (l2 : List (El zF)), ⟨⟩, ⟨⟩, (n7 : Int), ⟨⟩⟩ hI hw
 dsimp only at hI ⊢
 obtain ⟨i0, k0⟩ := hI
 have hb : (w0.2.2.1.length : Int) ≤ 16777216 := zE (hw.1.2.2.1.1)
 refine ⟨by omega, ?_⟩
 refine xM (fun h4 => ?_) (fun h4 => ?_)
 ·replace h4 : n7 < (w0.2.2.1.length : Int) := of_decide_eq_true h4
  refine yR ?_ ?_
  ·exact zS2 _ ⟨by (dsimp only <;> first | omega | assumption | (simp <;> omega)), by (dsimp only <;> first | omega | assumption | (simp <;> omega)), by (dsimp only <;> first | omega | assumption | (simp <;> omega))⟩
  ·refine zNC (A' := fun _ => True) (B' := fun (t3w0, t3w1, t3l2, _, _, t3n7, t3n8, _) => w0 = t3w0 ∧ w1 = t3w1 ∧ l2 = t3l2 ∧ n7 = t3n7) (zTi w0 w1 l2 n7 (0 : Int)) (fun r _ => ?_) (fun t ht => ?_)
   ·obtain ⟨r3b6, ⟨⟩⟩ := r
    dsimp only
    exact trivial
   ·obtain ⟨t3w0, t3w1, t3l2, ⟨⟩, ⟨⟩, t3n7, t3n8, ⟨⟩⟩ := t
    dsimp only
    obtain ⟨rfl, rfl, rfl, rfl⟩ := ht
    obtain ⟨t3n8, rfl⟩ : ∃ y : Int, y = t3n8 := ⟨_, rfl⟩
    refine yR ?_ ?_
    ·exact ink (by omega) (by omega)
    ·exact show (0 ≤ (n7 + (1 : Int)) ∧ ∀ p ∈ w0.2.2.1, (l2.length : Int) + (p.2.1.length : Int) ≤ 16777216) ∧ (w0.2.2.1.length : Int) - (n7 + (1 : Int)) < (w0.2.2.1.length : Int) - n7 ∧ 0 < (w0.2.2.1.length : Int) - n7 from ⟨⟨by (first | omega | rfl | assumption | (simp <;> omega)), by (first | omega | rfl | assumption | (simp <;> omega))⟩, by (first | omega | (simp only [List.length_set]; omega)), by (first | omega | (simp only [List.length_set]; omega))⟩
 ·replace h4 : ¬ (n7 < (w0.2.2.1.length : Int)) := of_decide_eq_false h4
  exact trivial)
def zJV (a0 : El zC) (a1 : El zH) (a2 : List (El zF)) : Tr (Bool × Unit) := .lp zDY (a0, a1, a2, (), (), (0 : Int), ()) (fun r4 => .v (r4.1, ())) (fun _ => .v (false, ()))
def zFO a0 a1 a2 := (zJV a0 a1 a2).val
def zKW (a0 : El zC) (_a1 : El zH) (a2 : List (El zF)) : Prop := ∀ p ∈ a0.2.2.1, (a2.length : Int) + (p.2.1.length : Int) ≤ 16777216
@[reducible] def zQh : FnD := ⟨[va zC, va zH, vd (.lst zF)], [vd .bool], true, fun a => some (zKW a.1 a.2.1 a.2.2.1), fun a => zFO a.1 a.2.1 a.2.2.1⟩
theorem zcn (a0 : El zC) (a1 : El zH) (a2 : List (El zF)) (_ : xG zQh.args (a0, a1, a2, ())) (hp : zKW a0 a1 a2) : (zJV a0 a1 a2).ok := by
 unfold zKW at hp
 unfold zJV
 refine zI ?_ ?_
 ·exact zTu _ ⟨by (dsimp only <;> first | omega | rfl | assumption | (simp <;> omega)), by (dsimp only <;> first | omega | rfl | assumption | (simp <;> omega))⟩
 ·simp
def zcS : Con Tryz.prog := yD mo g0 [zPC] [zDY, xO] 220 zQh (fn := Tryz.f220) ⟨lk, lk, trivial⟩ (fun a hw h => yT (by kernel_rfl) (zcn a.1 a.2.1 a.2.2.1 hw h) rfl)
def zLc (a0 : El zo) (a1 : List (El zF)) : Tr (El zK × Bool × Unit) := bif (a0.1 == (2 : Int)) then (.v (a0.2.2, true, ())) else (bif (a0.1 == (1 : Int)) then (.v ((xY a1 a0.2.1).1, (xY a1 a0.2.1).2.1, ())) else (.v (((0 : Int), ((0 : Int), (⟨#[]⟩ : ByteArray))), false, ())))
def xW a0 a1 := (zLc a0 a1).val
@[reducible] def zfZ : FnD := ⟨[va zo, vd (.lst zF)], [va zK, vd .bool], true, fun _ => none, fun a => xW a.1 a.2.1⟩
def zgM : Con Tryz.prog := yD mo g0 [zVA] [] 276 zfZ (fn := Tryz.f276) trivial (fun a _ _ => yT (t' := zLc a.1 a.2.1) (by kernel_rfl) (by simp [zLc]) rfl)
def zJM (a0 : El zK) (a1 : El zK) : Tr (Bool × Unit) := bif (a0.1 != a1.1) then (.v (decide (a0.1 < a1.1), ())) else (bif (a0.2.1 != a1.2.1) then (.v (decide (a0.2.1 < a1.2.1), ())) else (.v ((Op.bytesLess a0.2.2.toList a1.2.2.toList), ())))
def zJh a0 a1 := (zJM a0 a1).val
@[reducible] def zaQ : FnD := ⟨[va zK, va zK], [vd .bool], true, fun _ => none, fun a => zJh a.1 a.2.1⟩
def zcE : Con Tryz.prog := yD mo g0 [] [] 277 zaQ (fn := Tryz.f277) trivial (fun a _ _ => yT (t' := zJM a.1 a.2.1) (by kernel_rfl) (by simp [zJM]) rfl)
def zOI (a0 : El zS) (a1 : List (El zF)) : Tr (Bool × Unit) := bif (!(xW a0.2.1 a1).2.1) then (.v (false, ())) else (bif (!(xW a0.2.2 a1).2.1) then (.v (false, ())) else (bif (a0.1 == (1 : Int)) then (.v ((((xW a0.2.1 a1).1.1 == (xW a0.2.2 a1).1.1) && (((xW a0.2.1 a1).1.2.1 == (xW a0.2.2 a1).1.2.1) && (((xW a0.2.1 a1).1.2.2.toList == (xW a0.2.2 a1).1.2.2.toList) && true))), ())) else (bif (a0.1 == (2 : Int)) then (.v ((!(((xW a0.2.1 a1).1.1 == (xW a0.2.2 a1).1.1) && (((xW a0.2.1 a1).1.2.1 == (xW a0.2.2 a1).1.2.1) && (((xW a0.2.1 a1).1.2.2.toList == (xW a0.2.2 a1).1.2.2.toList) && true)))), ())) else (bif (a0.1 == (3 : Int)) then (.v ((zJh (xW a0.2.1 a1).1 (xW a0.2.2 a1).1).1, ())) else (.v (false, ()))))))
def zHd a0 a1 := (zOI a0 a1).val
@[reducible] def zja : FnD := ⟨[va zS, vd (.lst zF)], [vd .bool], true, fun _ => none, fun a => zHd a.1 a.2.1⟩
def zjs : Con Tryz.prog := yD mo g0 [zgM, zcE] [] 257 zja (fn := Tryz.f257) trivial (fun a _ _ => yT (t' := zOI a.1 a.2.1) (by kernel_rfl) (by simp [zOI]) rfl)
@[reducible] def zBl : LB := ⟨[], ⟨19, [], [(0, vd (.lst zS)), (1, vd (.lst zF)), (5, vd .int)]⟩, ⟨19, [], [(4, vd .bool)]⟩, 0, fun x => (fun (l0 : List (El zS)) (l1 : List (El zF)) (n5 : Int) => (bif decide (n5 < (l0.length : Int)) then (.ix n5 l0 (bif (!(zHd (zB zS l0 n5) l1).1) then (.v (.ret (false, ()))) else (.ik (n5 + (1 : Int)) (.v (.go (l0, l1, (n5 + (1 : Int)), ())))))) else (.v (.brk (l0, l1, n5, ()))) : Tr (St _ _))) x.1 x.2.1 x.2.2.1⟩
theorem zSr (l0 : List (El zS)) (l1 : List (El zF)) : LB.run zBl (l0, l1, (0 : Int), ()) = bif zd (fun _ x => bif (!(zHd x l1).1) then false else true) 0 l0 then .brk (l0, l1, (l0.length : Int), ()) else .ret (false, ()) := LB.run_all (l := zBl) (fun i => (l0, l1, (i : Int), ())) (fun i x h => by
  simp only [LB.b, zBl, zi, zQ, zR, cond_true, yM h, zG h]
  cases (!(zHd x l1).1) <;> rfl) (by simp only [LB.b, zBl, xl]; rfl)
theorem zTf : SF zBl fun x : List (El zS) × List (El zF) × Int × Unit => (0 ≤ x.2.2.1, (x.1.length : Int) - x.2.2.1) := xz (by
 rintro ⟨(l0 : List (El zS)), (l1 : List (El zF)), (n5 : Int), ⟨⟩⟩ hI hw
 have _ : (l0.length : Int) ≤ 16777216 := zE (hw.1.1)
 simp [zBl] at hI ⊢
 repeat' first | intro _ | apply And.intro
 all_goals omega)
def zJF (a0 : List (El zS)) (a1 : List (El zF)) : Tr (Bool × Unit) := .lp zBl (a0, a1, (0 : Int), ()) (fun r2 => .v (r2.1, ())) (fun _ => .v (true, ()))
def zFC a0 a1 := (zJF a0 a1).val
@[reducible] def zSU : FnD := ⟨[vd (.lst zS), vd (.lst zF)], [vd .bool], true, fun _ => none, fun a => zFC a.1 a.2.1⟩
theorem zdL (a0 : List (El zS)) (a1 : List (El zF)) (_ : xG zSU.args (a0, a1, ())) : (zJF a0 a1).ok := by
 unfold zJF
 refine zI ?_ ?_
 ·exact zTf _ (by (dsimp only <;> omega))
 ·simp
def zc4 : Con Tryz.prog := yD mo g0 [zjs] [zBl] 221 zSU (fn := Tryz.f221) ⟨lk, trivial⟩ (fun a hw _ => yT (by kernel_rfl) (zdL a.1 a.2.1 hw) rfl)
theorem zcc (a0 : List (El zS)) (a1 : List (El zF)) : zFC a0 a1 = bif zd (fun _ x => bif (!(zHd x a1).1) then false else true) 0 a0 then (true, ()) else (false, ()) := by
 simp only [zFC, zJF, zR, zx, zQ]
 rw [zSr, z7] <;> rfl
@[reducible] def yO (F : List (El zA) → El zC → El zH → List (El .int) → List (El zF) → List (El zA) × Unit) (Q : List (El zA) → El zC → El zH → List (El .int) → List (El zF) → Prop) : LB := ⟨[0, 2, 3], ⟨84, [.o (.d zA), .d zC, .d zH], [(0, .pt 0 0), (3, vd (.lst .int)), (4, vd (.lst zF)), (6, .pt 1 0), (7, .pt 2 0), (10, vd .int)]⟩, ⟨84, [.o (.d zA)], []⟩, 0, fun x => (fun (w0 : List (El zA)) (w1 : El zC) (w2 : El zH) (l3 : List (El .int)) (l4 : List (El zF)) (n10 : Int) => (bif decide (n10 < (w2.1.length : Int)) then (.ix (l3.length : Int) w1.2.2.1 (.ix n10 w2.1 (.ck (zGH (zB zJ w1.2.2.1 (l3.length : Int)) (zB zD w2.1 n10).2 l4) (let y2 := (yI (zB zJ w1.2.2.1 (l3.length : Int)) (zB zD w2.1 n10).2 l4); bif y2.2.1 then (.ck ((l3.length : Int) ≤ 16777216) (.ix n10 w2.1 (.ck (((l3.length + [(zB zD w2.1 n10).1].length : Nat) : Int) ≤ 16777216) (.ck (Q w0 w1 w2 (l3 ++ [(zB zD w2.1 n10).1]) y2.1) (.ik (n10 + (1 : Int)) (.v (.go ((F w0 w1 w2 (l3 ++ [(zB zD w2.1 n10).1]) y2.1).1, w1, w2, (), l3, l4, (), (), (n10 + (1 : Int)), ())))))))) else (.ik (n10 + (1 : Int)) (.v (.go (w0, w1, w2, (), l3, l4, (), (), (n10 + (1 : Int)), ())))))))) else (.v (.brk (w0, w1, w2, (), l3, l4, (), (), n10, ()))) : Tr (St _ _))) x.1 x.2.1 x.2.2.1 x.2.2.2.2.1 x.2.2.2.2.2.1 x.2.2.2.2.2.2.2.2.1⟩
def vT (F : List (El zA) → El zC → El zH → List (El .int) → List (El zF) → List (El zA) × Unit) (Q : List (El zA) → El zC → El zH → List (El .int) → List (El zF) → Prop) (a0 : List (El zA)) (a1 : El zC) (a2 : El zH) (a3 : List (El .int)) (a4 : List (El zF)) : Tr (List (El zA) × Unit) := bif ((a3.length : Int) == (xP a1).1) then (.ck (zKW a1 a2 a4) (bif (!(zFO a1 a2 a4).1) then (bif (zFC a1.2.2.2.1 a4).1 then (.ck ((a3.length : Int) ≤ 16777216) (.ck ((a4.length : Int) ≤ 16777216) (.ck (((a0.length + [((0 : Int), (a3, a4))].length : Nat) : Int) ≤ 16777216) (.v ((a0 ++ [((0 : Int), (a3, a4))]), ()))))) else (.v (a0, ()))) else (.v (a0, ())))) else (.lp (yO F Q) (a0, a1, a2, (), a3, a4, (), (), (0 : Int), ()) (fun r4 => .v (r4.1, ())) (fun t4 => .v (t4.1, ())))
def zEF : Nat → (List (El zA) → El zC → El zH → List (El .int) → List (El zF) → List (El zA) × Unit) × (List (El zA) → El zC → El zH → List (El .int) → List (El zF) → Prop)
 | 0 => (fun _ _ _ _ _ => default, fun _ _ _ _ _ => False)
 | n + 1 => (fun a0 a1 a2 a3 a4 => (vT (zEF n).1 (zEF n).2 a0 a1 a2 a3 a4).val, fun a0 a1 a2 a3 a4 => (vT (zEF n).1 (zEF n).2 a0 a1 a2 a3 a4).ok)
def xC (n : Nat) : List (El zA) → El zC → El zH → List (El .int) → List (El zF) → List (El zA) × Unit := (zEF n).1
def xv (n : Nat) : List (El zA) → El zC → El zH → List (El .int) → List (El zF) → Prop := (zEF n).2
@[reducible] def zHC (n : Nat) : FnD := ⟨[.ref (.o (.d zA)), va zC, va zH, vd (.lst .int), vd (.lst zF)], [.ref (.o (.d zA))], false, fun a => some (xv n a.1 a.2.1 a.2.2.1 a.2.2.2.1 a.2.2.2.2.1), fun a => xC n a.1 a.2.1 a.2.2.1 a.2.2.2.1 a.2.2.2.2.1⟩
def zcH (n : Nat) (ih : FnOk Tryz.prog 171 (zHC n)) : List (Con Tryz.prog) := ⟨171, zHC n, ih⟩ :: [zKx, zcS, zc4, zPC]
theorem zPN : ∀ n, FnOk Tryz.prog 171 (zHC n)
 | 0 => znP (by kernel_rfl) (fn := Tryz.f171) (by kernel_rfl) (c := (Tryz.f171.body.getD .skip)) (by kernel_rfl) (by kernel_rfl) fun _ h => h
 | n + 1 => zbN mo g0 (zcH n (zPN n)) [yO (xC n) (xv n)] (fn := Tryz.f171) (by kernel_rfl) (c := (Tryz.f171.body.getD .skip)) (by kernel_rfl) (by kernel_rfl) (zHC (n + 1)) (by kernel_rfl) ⟨lk, trivial⟩ (fun a _ h => yT (t' := vT (xC n) (xv n) a.1 a.2.1 a.2.2.1 a.2.2.2.1 a.2.2.2.2.1) (by kernel_rfl) h rfl)
def zdQ : Con Tryz.prog := ⟨171, zHC 64, zPN 64⟩
theorem zSc {F : List (El zA) → El zC → El zH → List (El .int) → List (El zF) → List (El zA) × Unit} {Q : List (El zA) → El zC → El zH → List (El .int) → List (El zF) → Prop} {r : El zC} {s : El zH} {ids : List (El .int)} {l : List (El zF)} {k : Nat}
  (hF : ∀ (w : List (El zA)) (x : Int) (y : List (El zF)), w.length + k ≤ 16777216 → (y.length : Int) ≤ 5 * (ids.length : Int) + 5 → Q w r s (ids ++ [x]) y ∧ (F w r s (ids ++ [x]) y).1.length ≤ w.length + k)
  (hpos : ids.length < r.2.2.1.length) (hargs : ∀ p ∈ r.2.2.1, p.2.1.length ≤ 5) (hl : l.length ≤ 5 * ids.length) (hids : ids.length ≤ 3) (hit : s.1.length ≤ 40) (w0 : List (El zA)) (h0 : w0.length + 40 * k ≤ 16777216) :
  LB.sf (yO F Q) (w0, r, s, (), ids, l, (), (), (0 : Int), ()) ∧ (LB.run (yO F Q) (w0, r, s, (), ids, l, (), (), (0 : Int), ())).all (fun t => t.1.length ≤ w0.length + 40 * k) (fun t => t.1.length ≤ w0.length + 40 * k) (fun t => t.1.length ≤ w0.length + 40 * k) := by
 have step : ∀ (w : List (El zA)) (n : Int), 0 ≤ n → n ≤ (s.1.length : Int) → w.length ≤ w0.length + n.toNat * k → ((yO F Q).T (w, r, s, (), ids, l, (), (), n, ())).ok ∧
   St.all (fun (t : (yO F Q).r.T) => (t.1 : List (El zA)).length ≤ w0.length + 40 * k) (fun (t : (yO F Q).d.T) => (t.1 : List (El zA)).length ≤ w0.length + 40 * k) (fun y => n < (s.1.length : Int) ∧ ∃ w' : List (El zA), y = (w', r, s, (), ids, l, (), (), (n + 1), ()) ∧ w'.length ≤ w0.length + (n + 1).toNat * k) ((yO F Q).b (w, r, s, (), ids, l, (), (), n, ())) := by
  intro w n h1 h2 h3
  have hmem := z4 (t := zJ) (l := r.2.2.1) (i := (ids.length : Int)) (by omega)
  have ha := hargs _ hmem
  have key : n < (s.1.length : Int) → n.toNat * k + k ≤ 40 * k ∧ (n + 1).toNat * k = n.toNat * k + k := fun h => by
   constructor
   ·rw [← Nat.succ_mul]; exact Nat.mul_le_mul_right k (by omega)
   ·rw [show (n + 1).toNat = n.toNat + 1 by omega, Nat.succ_mul]
  have hm : ∀ x : El zt, ((((yI (zB zJ r.2.2.1 (ids.length : Int)) x l).1.length : Nat)) : Int) ≤ 5 * (ids.length : Int) + 5 := fun x => by have := zZl (zB zJ r.2.2.1 (ids.length : Int)) x l; omega
  constructor
  ·dsimp only [yO]
   refine zp (fun h => ?_) (fun _ => trivial)
   replace h : n < (s.1.length : Int) := of_decide_eq_true h
   obtain ⟨k1, k2⟩ := key h
   have hq := hF w (zB zD s.1 n).1 _ (by omega) (hm (zB zD s.1 n).2)
   refine zI ⟨by omega, by omega⟩ (zI ⟨h1, h⟩ (zI ?_ (zp (fun _ => zI ?_ (zI ⟨h1, h⟩ (zI ?_ (zI hq.1 (zI (ink (by omega) (by omega)) trivial))))) (fun _ => zI (ink (by omega) (by omega)) trivial))))
   ·show (l.length : Int) + ((zB zJ r.2.2.1 (ids.length : Int)).2.1.length : Int) ≤ 16777216
    omega
   ·omega
   ·show (((ids.length + 1 : Nat)) : Int) ≤ 16777216
    omega
  ·simp only [LB.b, yO, zi, zQ, zR]
   refine zj (fun h => ?_) (fun h => ?_)
   ·replace h : n < (s.1.length : Int) := of_decide_eq_true h
    obtain ⟨k1, k2⟩ := key h
    have hq := hF w (zB zD s.1 n).1 _ (by omega) (hm (zB zD s.1 n).2)
    refine zj (fun _ => ?_) (fun _ => ?_)
    ·exact yg ⟨h, _, rfl, by have := hq.2; omega⟩
    ·exact yg ⟨h, _, rfl, by omega⟩
   ·refine zCd ?_
    have : n.toNat * k ≤ 40 * k := Nat.mul_le_mul_right k (by omega)
    show w.length ≤ _
    omega
 have I0 : ∃ (w : List (El zA)) (n : Int), (w0, r, s, (), ids, l, (), (), (0 : Int), ()) = ((w, r, s, (), ids, l, (), (), n, ()) : (yO F Q).d.T) ∧ 0 ≤ n ∧ n ≤ (s.1.length : Int) ∧ w.length ≤ w0.length + n.toNat * k := ⟨w0, 0, rfl, by omega, by omega, by omega⟩
 constructor
 ·refine LB.safe' (l := yO F Q) (fun x => ∃ (w : List (El zA)) (n : Int), x = (w, r, s, (), ids, l, (), (), n, ()) ∧ 0 ≤ n ∧ n ≤ (s.1.length : Int) ∧ w.length ≤ w0.length + n.toNat * k) (fun x => ((s.1.length : Int) - x.2.2.2.2.2.2.2.2.1).toNat) (fun x hx _ => ?_) I0 (fun _ => ?_)
  ·obtain ⟨w, n, rfl, h1, h2, h3⟩ := hx
   obtain ⟨g1, g2⟩ := step w n h1 h2 h3
   refine ⟨g1, ?_⟩
   show St.all _ _ _ ((yO F Q).b (w, r, s, (), ids, l, (), (), n, ()))
   revert g2
   cases ((yO F Q).b (w, r, s, (), ids, l, (), (), n, ())) with
   | ret t => intro _; exact trivial
   | brk t => intro _; exact trivial
   | go y =>
    rintro ⟨h4, w', rfl, h5⟩
    exact ⟨⟨w', n + 1, rfl, by omega, by omega, h5⟩, by show ((s.1.length : Int) - (n + 1)).toNat < ((s.1.length : Int) - n).toNat; omega⟩
  ·show ((s.1.length : Int) - 0).toNat < 18446744073709551616
   omega
 ·refine LB.post3 (l := yO F Q) (fun x => ∃ (w : List (El zA)) (n : Int), x = (w, r, s, (), ids, l, (), (), n, ()) ∧ 0 ≤ n ∧ n ≤ (s.1.length : Int) ∧ w.length ≤ w0.length + n.toNat * k) (fun x hx => ?_) (fun x hx => ?_) I0
  ·obtain ⟨w, n, rfl, h1, h2, h3⟩ := hx
   obtain ⟨g1, g2⟩ := step w n h1 h2 h3
   show St.all _ _ _ ((yO F Q).b (w, r, s, (), ids, l, (), (), n, ()))
   revert g2
   cases ((yO F Q).b (w, r, s, (), ids, l, (), (), n, ())) with
   | ret t => intro h; exact h
   | brk t => intro h; exact h
   | go y =>
    rintro ⟨h4, w', rfl, h5⟩
    exact ⟨w', n + 1, rfl, by omega, by omega, h5⟩
  ·obtain ⟨w, n, rfl, h1, h2, h3⟩ := hx
   have : n.toNat * k ≤ 40 * k := Nat.mul_le_mul_right k (by omega)
   show w.length ≤ _
   omega
theorem zMd {r : El zC} {s : El zH} (hit : s.1.length ≤ 40) (hargs : ∀ p ∈ r.2.2.1, p.2.1.length ≤ 5) (hnp : (r.2.2.1.filter (fun p => !p.2.2)).length ≤ 3) : ∀ (n : Nat) (out : List (El zA)) (ids : List (El .int)) (l : List (El zF)), ids.length ≤ (r.2.2.1.filter (fun p => !p.2.2)).length → (r.2.2.1.filter (fun p => !p.2.2)).length - ids.length < n → l.length ≤ 5 * ids.length → out.length + 40 ^ ((r.2.2.1.filter (fun p => !p.2.2)).length - ids.length) ≤ 16777216 →
  xv n out r s ids l ∧ (xC n out r s ids l).1.length ≤ out.length + 40 ^ ((r.2.2.1.filter (fun p => !p.2.2)).length - ids.length) := by
 intro n
 induction n with
 | zero => intro out ids l h1 h2; omega
 | succ n ih =>
  intro out ids l h1 h2 h3 h4
  skip
  by_cases he : ids.length = (r.2.2.1.filter (fun p => !p.2.2)).length
  ·have hc : ((ids.length : Int) == (xP r).1) = true := by rw [zFk]; simp [he]
   have hz : 40 ^ ((r.2.2.1.filter (fun p => !p.2.2)).length - ids.length) = 1 := by rw [he, Nat.sub_self]
   rw [hz] at h4 ⊢
   constructor
   ·show (vT (xC n) (xv n) out r s ids l).ok
    unfold vT
    rw [hc]
    refine zI ?_ (zp (fun _ => zp (fun _ => zI ?_ (zI ?_ (zI ?_ trivial))) (fun _ => trivial)) (fun _ => trivial))
    ·intro p hp; have := hargs p hp; omega
    ·omega
    ·omega
    ·show (((out.length + 1 : Nat)) : Int) ≤ 16777216
     omega
   ·show (vT (xC n) (xv n) out r s ids l).val.1.length ≤ _
    simp only [vT, zi, zQ, zR, zx]
    rw [hc]
    show ((bif _ then _ else _ : List (El zA) × Unit)).1.length ≤ _
    cases (!(zFO r s l).1) with
    | false => show out.length ≤ _; omega
    | true =>
     cases (zFC r.2.2.2.1 l).1 with
     | false => show out.length ≤ _; omega
     | true => show (out ++ [((0 : Int), (ids, l))]).length ≤ _; simp
  ·have hlt : ids.length < (r.2.2.1.filter (fun p => !p.2.2)).length := by omega
   have hc : ((ids.length : Int) == (xP r).1) = false := by rw [zFk]; simp; omega
   have hd : (r.2.2.1.filter (fun p => !p.2.2)).length - ids.length = ((r.2.2.1.filter (fun p => !p.2.2)).length - (ids.length + 1)) + 1 := by omega
   have hp : 40 ^ ((r.2.2.1.filter (fun p => !p.2.2)).length - ids.length) = 40 * 40 ^ ((r.2.2.1.filter (fun p => !p.2.2)).length - (ids.length + 1)) := by rw [hd, Nat.pow_succ, Nat.mul_comm]
   rw [hp] at h4 ⊢
   have L := zSc (F := xC n) (Q := xv n) (r := r) (s := s) (ids := ids) (l := l) (k := 40 ^ ((r.2.2.1.filter (fun p => !p.2.2)).length - (ids.length + 1))) (fun w x y hw hy => by
    have hl1 : (ids ++ [x]).length = ids.length + 1 := by simp
    have := ih w (ids ++ [x]) y (by omega) (by omega) (by omega) (by rw [hl1]; exact hw)
    rw [hl1] at this; exact this) (by have := List.length_filter_le (fun (p : El zJ) => !p.2.2) r.2.2.1; omega) hargs h3 (by omega) hit out h4
   constructor
   ·show (vT (xC n) (xv n) out r s ids l).ok
    unfold vT
    rw [hc]
    exact zI L.1 (zIQ (zZY _) (fun _ _ => trivial) (fun _ _ => trivial))
   ·show (vT (xC n) (xv n) out r s ids l).val.1.length ≤ _
    simp only [vT, zi, zQ, zR, zx]
    rw [hc]
    have L2 := L.2
    revert L2
    cases (LB.run (yO (xC n) (xv n)) (out, r, s, (), ids, l, (), (), (0 : Int), ())) with
    | ret t => intro h; exact h
    | brk t => intro h; exact h
    | go t => intro h; exact h
theorem zX8 {r : El zC} {s : El zH} (h1 : s.1.length ≤ 40) (h2 : ∀ p ∈ r.2.2.1, p.2.1.length ≤ 5) (h3 : (r.2.2.1.filter (fun p => !p.2.2)).length ≤ 3) : xv 64 [] r s [] [] := by
 have hb : 40 ^ ((r.2.2.1.filter (fun p => !p.2.2)).length - 0) ≤ 64000 := Nat.le_trans (Nat.pow_le_pow_right (by decide) (show (r.2.2.1.filter (fun p => !p.2.2)).length - 0 ≤ 3 by omega)) (by decide)
 exact (zMd h1 h2 h3 64 [] [] [] (by simp) (by simp only [List.length_nil]; omega) (by simp) (by simp only [List.length_nil]; omega)).1
def zNk (a0 : El zC) (a1 : El zH) : Tr (List (El zA) × Unit) := .ck (xv 64 ([] : List (El zA)) a0 a1 ([] : List (El .int)) ([] : List (El zF))) (.v ((xC 64 ([] : List (El zA)) a0 a1 ([] : List (El .int)) ([] : List (El zF))).1, ()))
def zE2 a0 a1 := (zNk a0 a1).val
def zNm (a0 : El zC) (a1 : El zH) : Prop := a1.1.length ≤ 40 ∧ (∀ p ∈ a0.2.2.1, p.2.1.length ≤ 5) ∧ (a0.2.2.1.filter (fun p => !p.2.2)).length ≤ 3
@[reducible] def zY6 : FnD := ⟨[va zC, va zH], [vo zA], false, fun a => some (zNm a.1 a.2.1), fun a => zE2 a.1 a.2.1⟩
theorem zh8 (a0 : El zC) (a1 : El zH) (_ : xG zY6.args (a0, a1, ())) (hp : zNm a0 a1) : (zNk a0 a1).ok := by
 unfold zNm at hp
 unfold zNk
 refine zI ?_ ?_
 ·exact zX8 hp.1 hp.2.1 hp.2.2
 ·simp
def zi3 : Con Tryz.prog := yD mo g0 [zdQ] [] 111 zY6 (fn := Tryz.f111) trivial (fun a hw h => yT (by kernel_rfl) (zh8 a.1 a.2.1 hw h) rfl)
theorem zLA {r : El zC} {s : El zH} (h1 : s.1.length ≤ 40) (h2 : ∀ p ∈ r.2.2.1, p.2.1.length ≤ 5) (h3 : (r.2.2.1.filter (fun p => !p.2.2)).length ≤ 3) : ((zE2 r s).1.length : Int) ≤ 64000 := by
 have hb : 40 ^ ((r.2.2.1.filter (fun p => !p.2.2)).length - 0) ≤ 64000 := Nat.le_trans (Nat.pow_le_pow_right (by decide) (show (r.2.2.1.filter (fun p => !p.2.2)).length - 0 ≤ 3 by omega)) (by decide)
 have := (zMd h1 h2 h3 64 [] [] [] (by simp) (by simp only [List.length_nil]; omega) (by simp) (by simp only [List.length_nil]; omega)).2
 simp only [List.length_nil] at this
 show ((xC 64 [] r s [] []).1.length : Int) ≤ 64000
 omega
@[reducible] def xc : LB := ⟨[], ⟨43, [.d zN, .d zH], [(2, .pt 0 0), (3, .pt 1 0), (5, vo zA), (6, vd .int), (7, vo zA), (8, vd .int)]⟩, ⟨43, [], []⟩, 2, fun x => (fun (w0 : El zN) (w1 : El zH) (l5 : List (El zA)) (n6 : Int) (l7 : List (El zA)) (n8 : Int) => (bif decide (n8 < (l7.length : Int)) then (.ix n8 l7 (.ix n8 (List.set l7 (Int.toNat n8) (n6, (zB zA l7 n8).2)) (.ck (((l5.length + [(zB zA (List.set l7 (Int.toNat n8) (n6, (zB zA l7 n8).2)) n8)].length : Nat) : Int) ≤ 16777216) (.ik (n8 + (1 : Int)) (.v (.go (w0, w1, (), (), (l5 ++ [(zB zA (List.set l7 (Int.toNat n8) (n6, (zB zA l7 n8).2)) n8)]), n6, (List.set l7 (Int.toNat n8) (n6, (zB zA l7 n8).2)), (n8 + (1 : Int)), ()))))))) else (.v (.brk (w0, w1, (), (), l5, n6, l7, n8, ()))) : Tr (St _ _))) x.1 x.2.1 x.2.2.2.2.1 x.2.2.2.2.2.1 x.2.2.2.2.2.2.1 x.2.2.2.2.2.2.2.1⟩
theorem zWi (w00 : El zN) (w10 : El zH) (l50 : List (El zA)) (n60 : Int) (l70 : List (El zA)) (n80 : Int)  : (LB.run xc (w00, w10, (), (), l50, n60, l70, n80, ())).all (fun _ => False) (fun (w0, w1, _, _, _, n6, _) => w00 = w0 ∧ w10 = w1 ∧ n60 = n6) (fun (w0, w1, _, _, _, n6, _) => w00 = w0 ∧ w10 = w1 ∧ n60 = n6) := by
 have H : ∀ (w0 : El zN) (w1 : El zH) (l5 : List (El zA)) (n6 : Int) (l7 : List (El zA)) (n8 : Int), (w00 = w0 ∧ w10 = w1 ∧ n60 = n6) → St.all (fun _ => False) (fun (w0, w1, _, _, _, n6, _) => w00 = w0 ∧ w10 = w1 ∧ n60 = n6) (fun (w0, w1, _, _, _, n6, _) => w00 = w0 ∧ w10 = w1 ∧ n60 = n6) (xc.b (w0, w1, (), (), l5, n6, l7, n8, ())) := by
  intro w0 w1 l5 n6 l7 n8 hI
  obtain ⟨eq0, eq1, eq2⟩ := hI
  simp only [LB.b, xc, zi, zQ, zR]
  refine zj (fun h1 => ?_) (fun h1 => ?_)
  ·replace h1 : n8 < (l7.length : Int) := of_decide_eq_true h1
   exact ⟨eq0, eq1, eq2⟩
  ·replace h1 : ¬ (n8 < (l7.length : Int)) := of_decide_eq_false h1
   exact ⟨eq0, eq1, eq2⟩
 exact LB.post (l := xc) (A := fun _ => False) (fun (w0, w1, _, _, _, n6, _) => w00 = w0 ∧ w10 = w1 ∧ n60 = n6) (fun ⟨w0, w1, ⟨⟩, ⟨⟩, l5, n6, l7, n8, ⟨⟩⟩ hx => H w0 w1 l5 n6 l7 n8 hx) ⟨rfl, rfl, rfl⟩
theorem zWj (w00 : El zN) (w10 : El zH) (l50 : List (El zA)) (n60 : Int) (l70 : List (El zA)) (n80 : Int) (p0 : (l50.length : Int) ≤ 64000 * n60 + n80 ∧ n80 ≤ (l70.length : Int) ∧ (l70.length : Int) ≤ 64000) : (LB.run xc (w00, w10, (), (), l50, n60, l70, n80, ())).all (fun _ => False) (fun (w0, w1, _, _, l5, n6, l7, n8, _) => w00 = w0 ∧ w10 = w1 ∧ n60 = n6 ∧ ((l5.length : Int) ≤ 64000 * n6 + n8 ∧ n8 ≤ (l7.length : Int) ∧ (l7.length : Int) ≤ 64000)) (fun (w0, w1, _, _, l5, n6, l7, n8, _) => w00 = w0 ∧ w10 = w1 ∧ n60 = n6 ∧ ((l5.length : Int) ≤ 64000 * n6 + n8 ∧ n8 ≤ (l7.length : Int) ∧ (l7.length : Int) ≤ 64000)) := by
 have H : ∀ (w0 : El zN) (w1 : El zH) (l5 : List (El zA)) (n6 : Int) (l7 : List (El zA)) (n8 : Int), (w00 = w0 ∧ w10 = w1 ∧ n60 = n6 ∧ ((l5.length : Int) ≤ 64000 * n6 + n8 ∧ n8 ≤ (l7.length : Int) ∧ (l7.length : Int) ≤ 64000)) → St.all (fun _ => False) (fun (w0, w1, _, _, l5, n6, l7, n8, _) => w00 = w0 ∧ w10 = w1 ∧ n60 = n6 ∧ ((l5.length : Int) ≤ 64000 * n6 + n8 ∧ n8 ≤ (l7.length : Int) ∧ (l7.length : Int) ≤ 64000)) (fun (w0, w1, _, _, l5, n6, l7, n8, _) => w00 = w0 ∧ w10 = w1 ∧ n60 = n6 ∧ ((l5.length : Int) ≤ 64000 * n6 + n8 ∧ n8 ≤ (l7.length : Int) ∧ (l7.length : Int) ≤ 64000)) (xc.b (w0, w1, (), (), l5, n6, l7, n8, ())) := by
  intro w0 w1 l5 n6 l7 n8 hI
  obtain ⟨eq0, eq1, eq2, eq3⟩ := hI
  simp only [LB.b, xc, zi, zQ, zR]
  refine zj (fun h2 => ?_) (fun h2 => ?_)
  ·replace h2 : n8 < (l7.length : Int) := of_decide_eq_true h2
   exact yg (show w00 = w0 ∧ w10 = w1 ∧ n60 = n6 ∧ (((l5 ++ [(zB zA (List.set l7 (Int.toNat n8) (n6, (zB zA l7 n8).2)) n8)]).length : Int) ≤ 64000 * n6 + (n8 + (1 : Int)) ∧ (n8 + (1 : Int)) ≤ ((List.set l7 (Int.toNat n8) (n6, (zB zA l7 n8).2)).length : Int) ∧ ((List.set l7 (Int.toNat n8) (n6, (zB zA l7 n8).2)).length : Int) ≤ 64000) from ⟨eq0, eq1, eq2, by first | omega | rfl | assumption | (simp <;> omega)⟩)
  ·replace h2 : ¬ (n8 < (l7.length : Int)) := of_decide_eq_false h2
   exact zCd (show w00 = w0 ∧ w10 = w1 ∧ n60 = n6 ∧ ((l5.length : Int) ≤ 64000 * n6 + n8 ∧ n8 ≤ (l7.length : Int) ∧ (l7.length : Int) ≤ 64000) from ⟨eq0, eq1, eq2, by first | omega | rfl | assumption | (simp <;> omega)⟩)
 exact LB.post (l := xc) (A := fun _ => False) (fun (w0, w1, _, _, l5, n6, l7, n8, _) => w00 = w0 ∧ w10 = w1 ∧ n60 = n6 ∧ ((l5.length : Int) ≤ 64000 * n6 + n8 ∧ n8 ≤ (l7.length : Int) ∧ (l7.length : Int) ≤ 64000)) (fun ⟨w0, w1, ⟨⟩, ⟨⟩, l5, n6, l7, n8, ⟨⟩⟩ hx => H w0 w1 l5 n6 l7 n8 hx) ⟨rfl, rfl, rfl, p0⟩
theorem zXI : SF xc fun x : El zN × El zH × Unit × Unit × List (El zA) × Int × List (El zA) × Int × Unit => (0 ≤ x.2.2.2.2.2.2.2.1 ∧ (x.2.2.2.2.1.length : Int) ≤ 64000 * x.2.2.2.2.2.1 + x.2.2.2.2.2.2.2.1 ∧ (x.2.2.2.2.2.2.1.length : Int) ≤ 64000 ∧ (0 ≤ x.2.2.2.2.2.1 ∧ x.2.2.2.2.2.1 < 12), (x.2.2.2.2.2.2.1.length : Int) - x.2.2.2.2.2.2.2.1) := xz (by
 rintro ⟨(w0 : El zN), (w1 : El zH), ⟨⟩, ⟨⟩, (l5 : List (El zA)), (n6 : Int), (l7 : List (El zA)), (n8 : Int), ⟨⟩⟩ hI hw
 obtain ⟨i0, k0, k1, k2⟩ := hI
 dsimp only at i0 k0 k1 k2
 have _ : -9223372036854775808 ≤ n6 ∧ n6 ≤ 9223372036854775807 := zw hw.2.2.2.2.2.1
 have _ : (l7.length : Int) ≤ 16777216 := zE (hw.2.2.2.2.2.2.1.1)
 have _ : (l5.length : Int) ≤ 16777216 := zE (hw.2.2.2.2.1.1)
 simp [xc]
 repeat' first | intro _ | apply And.intro
 all_goals omega)
@[reducible] def zAP : LB := ⟨[], ⟨43, [.d zN, .d zH], [(2, .pt 0 0), (3, .pt 1 0), (5, vo zA), (6, vd .int)]⟩, ⟨43, [], []⟩, 0, fun x => (fun (w0 : El zN) (w1 : El zH) (l5 : List (El zA)) (n6 : Int) => (bif decide (n6 < (w0.2.length : Int)) then (.ix n6 w0.2 (.ck (zNm (zB zC w0.2 n6) w1) (.lp xc (w0, w1, (), (), l5, n6, (zE2 (zB zC w0.2 n6) w1).1, (0 : Int), ()) (fun _ => .v (.ret ())) (fun t2 => .ik (t2.2.2.2.2.2.1 + (1 : Int)) (.v (.go (t2.1, t2.2.1, (), (), t2.2.2.2.2.1, (t2.2.2.2.2.2.1 + (1 : Int)), ()))))))) else (.v (.brk (w0, w1, (), (), l5, n6, ()))) : Tr (St _ _))) x.1 x.2.1 x.2.2.2.2.1 x.2.2.2.2.2.1⟩
theorem zV1 (w00 : El zN) (w10 : El zH) (l50 : List (El zA)) (n60 : Int)  : (LB.run zAP (w00, w10, (), (), l50, n60, ())).all (fun _ => False) (fun (w0, w1, _) => w00 = w0 ∧ w10 = w1) (fun (w0, w1, _) => w00 = w0 ∧ w10 = w1) := by
 have H : ∀ (w0 : El zN) (w1 : El zH) (l5 : List (El zA)) (n6 : Int), (w00 = w0 ∧ w10 = w1) → St.all (fun _ => False) (fun (w0, w1, _) => w00 = w0 ∧ w10 = w1) (fun (w0, w1, _) => w00 = w0 ∧ w10 = w1) (zAP.b (w0, w1, (), (), l5, n6, ())) := by
  intro w0 w1 l5 n6 hI
  obtain ⟨eq0, eq1⟩ := hI
  simp only [LB.b, zAP, zi, zQ, zR, zx]
  refine zj (fun h3 => ?_) (fun h3 => ?_)
  ·replace h3 : n6 < (w0.2.length : Int) := of_decide_eq_true h3
   refine zP7 (A' := fun _ => False) (B' := fun (t2w0, t2w1, _, _, t2l5, t2n6, t2l7, t2n8, _) => w0 = t2w0 ∧ w1 = t2w1 ∧ n6 = t2n6) (zWi w0 w1 l5 n6 (zE2 (zB zC w0.2 n6) w1).1 (0 : Int)) (fun _ h => h.elim) (fun t ht => ?_)
   obtain ⟨t2w0, t2w1, ⟨⟩, ⟨⟩, t2l5, t2n6, t2l7, t2n8, ⟨⟩⟩ := t
   dsimp only
   obtain ⟨rfl, rfl, rfl⟩ := ht
   obtain ⟨t2n8, rfl⟩ : ∃ y : Int, y = t2n8 := ⟨_, rfl⟩
   exact ⟨eq0, eq1⟩
  ·replace h3 : ¬ (n6 < (w0.2.length : Int)) := of_decide_eq_false h3
   exact ⟨eq0, eq1⟩
 exact LB.post (l := zAP) (A := fun _ => False) (fun (w0, w1, _) => w00 = w0 ∧ w10 = w1) (fun ⟨w0, w1, ⟨⟩, ⟨⟩, l5, n6, ⟨⟩⟩ hx => H w0 w1 l5 n6 hx) ⟨rfl, rfl⟩
theorem zXL : SF zAP fun x : El zN × El zH × Unit × Unit × List (El zA) × Int × Unit => (0 ≤ x.2.2.2.2.2.1 ∧ (x.2.2.2.2.1.length : Int) ≤ 64000 * x.2.2.2.2.2.1 ∧ x.2.1.1.length ≤ 40 ∧ x.1.2.length ≤ 12 ∧ (∀ r ∈ x.1.2, (∀ p ∈ r.2.2.1, p.2.1.length ≤ 5) ∧ (r.2.2.1.filter (fun p => !p.2.2)).length ≤ 3), (x.1.2.length : Int) - x.2.2.2.2.2.1) := xz (by
 rintro ⟨(w0 : El zN), (w1 : El zH), ⟨⟩, ⟨⟩, (l5 : List (El zA)), (n6 : Int), ⟨⟩⟩ hI hw
 dsimp only at hI ⊢
 obtain ⟨i0, k0, k1, k2, k3⟩ := hI
 have hb : (w0.2.length : Int) ≤ 16777216 := zE (hw.1.2.1)
 refine ⟨by omega, ?_⟩
 refine xM (fun h4 => ?_) (fun h4 => ?_)
 ·replace h4 : n6 < (w0.2.length : Int) := of_decide_eq_true h4
  refine yR ?_ ?_
  ·first | omega | (simp <;> omega)
  ·refine yR ?_ ?_
   ·exact ⟨k1, (k3 _ (z4 (by omega))).1, (k3 _ (z4 (by omega))).2⟩
   ·refine yR ?_ ?_
    ·exact zXI _ ⟨by (have _ := zLA (r := zB zC w0.2 n6) (s := w1) k1 (k3 _ (z4 (by omega))).1 (k3 _ (z4 (by omega))).2; dsimp only <;> first | omega | assumption | (simp <;> omega)), by (have _ := zLA (r := zB zC w0.2 n6) (s := w1) k1 (k3 _ (z4 (by omega))).1 (k3 _ (z4 (by omega))).2; dsimp only <;> first | omega | assumption | (simp <;> omega)), by (have _ := zLA (r := zB zC w0.2 n6) (s := w1) k1 (k3 _ (z4 (by omega))).1 (k3 _ (z4 (by omega))).2; dsimp only <;> first | omega | assumption | (simp <;> omega)), by (have _ := zLA (r := zB zC w0.2 n6) (s := w1) k1 (k3 _ (z4 (by omega))).1 (k3 _ (z4 (by omega))).2; dsimp only <;> first | omega | assumption | (simp <;> omega))⟩
    ·refine zNC (A' := fun _ => False) (B' := fun (t2w0, t2w1, _, _, t2l5, t2n6, t2l7, t2n8, _) => w0 = t2w0 ∧ w1 = t2w1 ∧ n6 = t2n6 ∧ ((t2l5.length : Int) ≤ 64000 * t2n6 + t2n8 ∧ t2n8 ≤ (t2l7.length : Int) ∧ (t2l7.length : Int) ≤ 64000)) (zWj w0 w1 l5 n6 (zE2 (zB zC w0.2 n6) w1).1 (0 : Int) (by (have _ := zLA (r := zB zC w0.2 n6) (s := w1) k1 (k3 _ (z4 (by omega))).1 (k3 _ (z4 (by omega))).2; first | omega | rfl | assumption | (simp <;> omega) | (refine ⟨?_, ?_, ?_⟩ <;> first | omega | rfl | (simp <;> omega)) | (refine ⟨?_, ?_⟩ <;> first | omega | rfl | (simp <;> omega))))) (fun _ h => h.elim) (fun t ht => ?_)
     obtain ⟨t2w0, t2w1, ⟨⟩, ⟨⟩, t2l5, t2n6, t2l7, t2n8, ⟨⟩⟩ := t
     dsimp only
     obtain ⟨rfl, rfl, rfl, hth5⟩ := ht
     obtain ⟨t2n8, rfl⟩ : ∃ y : Int, y = t2n8 := ⟨_, rfl⟩
     replace hth5 : (t2l5.length : Int) ≤ 64000 * n6 + t2n8 ∧ t2n8 ≤ (t2l7.length : Int) ∧ (t2l7.length : Int) ≤ 64000 := hth5
     refine yR ?_ ?_
     ·exact ink (by omega) (by omega)
     ·exact show (0 ≤ (n6 + (1 : Int)) ∧ (t2l5.length : Int) ≤ 64000 * (n6 + (1 : Int)) ∧ w1.1.length ≤ 40 ∧ w0.2.length ≤ 12 ∧ (∀ r ∈ w0.2, (∀ p ∈ r.2.2.1, p.2.1.length ≤ 5) ∧ (r.2.2.1.filter (fun p => !p.2.2)).length ≤ 3)) ∧ (w0.2.length : Int) - (n6 + (1 : Int)) < (w0.2.length : Int) - n6 ∧ 0 < (w0.2.length : Int) - n6 from ⟨⟨by (first | omega | rfl | assumption | (simp <;> omega)), by (first | omega | rfl | assumption | (simp <;> omega)), by (first | omega | rfl | assumption | (simp <;> omega)), by (first | omega | rfl | assumption | (simp <;> omega)), by (first | omega | rfl | assumption | (simp <;> omega))⟩, by (first | omega | (simp only [List.length_set]; omega)), by (first | omega | (simp only [List.length_set]; omega))⟩
 ·replace h4 : ¬ (n6 < (w0.2.length : Int)) := of_decide_eq_false h4
  exact trivial)
def zLL (a0 : El zN) (a1 : El zH) : Tr (List (El zA) × Unit) := .lp zAP (a0, a1, (), (), ([] : List (El zA)), (0 : Int), ()) (fun _ => .bad) (fun t3 => .v (t3.2.2.2.2.1, ()))
def zIv a0 a1 := (zLL a0 a1).val
def zMJ (a0 : El zN) (a1 : El zH) : Prop := zkX a0 a1
@[reducible] def zUL : FnD := ⟨[va zN, va zH], [vo zA], false, fun a => some (zMJ a.1 a.2.1), fun a => zIv a.1 a.2.1⟩
theorem zgu (a0 : El zN) (a1 : El zH) (_ : xG zUL.args (a0, a1, ())) (hp : zMJ a0 a1) : (zLL a0 a1).ok := by
 unfold zMJ at hp
 obtain ⟨hp1, hp2, hp3⟩ := hp
 unfold zLL
 refine zI ?_ ?_
 ·exact zXL _ ⟨by (dsimp only <;> first | omega | rfl | assumption | (simp <;> omega)), by (dsimp only <;> first | omega | rfl | assumption | (simp <;> omega)), by (dsimp only <;> first | omega | rfl | assumption | (simp <;> omega)), by (dsimp only <;> first | omega | rfl | assumption | (simp <;> omega)), by (dsimp only <;> first | omega | rfl | assumption | (simp <;> omega))⟩
 ·refine zIQ (A' := fun _ => False) (B' := fun (t3w0, t3w1, _, _, t3l5, t3n6, _) => a0 = t3w0 ∧ a1 = t3w1) (zV1 a0 a1 ([] : List (El zA)) (0 : Int)) (fun _ h => h.elim) (fun t ht => ?_)
  obtain ⟨t3w0, t3w1, ⟨⟩, ⟨⟩, t3l5, t3n6, ⟨⟩⟩ := t
  dsimp only
  obtain ⟨rfl, rfl⟩ := ht
  obtain ⟨t3n6, rfl⟩ : ∃ y : Int, y = t3n6 := ⟨_, rfl⟩
  trivial
def zd4 : Con Tryz.prog := yD mo g0 [zi3] [zAP, xc] 64 zUL (fn := Tryz.f64) ⟨lk, lk, trivial⟩ (fun a hw h => yT (by kernel_rfl) (zgu a.1 a.2.1 hw h) rfl)
@[reducible] def zBn : LB := ⟨[], ⟨26, [], [(0, vd (.lst .int)), (1, vd (.lst .int)), (5, vd .int)]⟩, ⟨26, [], [(4, vd .bool)]⟩, 0, fun x => (fun (l0 : List (El .int)) (l1 : List (El .int)) (n5 : Int) => (bif decide (n5 < (l0.length : Int)) then (.ix n5 l0 (.ix n5 l1 (bif ((zB .int l0 n5) != (zB .int l1 n5)) then (.v (.ret (false, ()))) else (.ik (n5 + (1 : Int)) (.v (.go (l0, l1, (n5 + (1 : Int)), ()))))))) else (.v (.brk (l0, l1, n5, ()))) : Tr (St _ _))) x.1 x.2.1 x.2.2.1⟩
theorem zTt (l0 : List (El .int)) (l1 : List (El .int)) : LB.run zBn (l0, l1, (0 : Int), ()) = bif zd (fun i x => bif (x != (zB .int l1 (i : Int))) then false else true) 0 l0 then .brk (l0, l1, (l0.length : Int), ()) else .ret (false, ()) := LB.run_all (l := zBn) (fun i => (l0, l1, (i : Int), ())) (fun i x h => by
  simp only [LB.b, zBn, zi, zQ, zR, cond_true, yM h, zG h]
  cases (x != (zB .int l1 (i : Int))) <;> rfl) (by simp only [LB.b, zBn, xl]; rfl)
theorem zS6 : SF zBn fun x : List (El .int) × List (El .int) × Int × Unit => (0 ≤ x.2.2.1 ∧ (x.1.length : Int) ≤ (x.2.1.length : Int), (x.1.length : Int) - x.2.2.1) := xz (by
 rintro ⟨(l0 : List (El .int)), (l1 : List (El .int)), (n5 : Int), ⟨⟩⟩ hI hw
 have _ : (l0.length : Int) ≤ 16777216 := zE (hw.1.1)
 simp [zBn] at hI ⊢
 repeat' first | intro _ | apply And.intro
 all_goals omega)
def zKA (a0 : List (El .int)) (a1 : List (El .int)) : Tr (Bool × Unit) := bif ((a0.length : Int) != (a1.length : Int)) then (.v (false, ())) else (.lp zBn (a0, a1, (0 : Int), ()) (fun r1 => .v (r1.1, ())) (fun _ => .v (true, ())))
def zJp a0 a1 := (zKA a0 a1).val
@[reducible] def zQM : FnD := ⟨[vd (.lst .int), vd (.lst .int)], [vd .bool], true, fun _ => none, fun a => zJp a.1 a.2.1⟩
theorem zbY (a0 : List (El .int)) (a1 : List (El .int)) (_ : xG zQM.args (a0, a1, ())) : (zKA a0 a1).ok := by
 unfold zKA
 refine zp (fun _ => trivial) (fun h1 => ?_)
 replace h1 := zAp h1
 refine zI ?_ ?_
 ·exact zS6 _ ⟨by (dsimp only <;> omega), by (dsimp only <;> omega)⟩
 ·simp
def zay : Con Tryz.prog := yD mo g0 [] [zBn] 219 zQM (fn := Tryz.f219) ⟨lk, trivial⟩ (fun a hw _ => yT (by kernel_rfl) (zbY a.1 a.2.1 hw) rfl)
theorem zcT (a0 : List (El .int)) (a1 : List (El .int)) : zJp a0 a1 = bif ((a0.length : Int) != (a1.length : Int)) then (false, ()) else (bif zd (fun i x => bif (x != (zB .int a1 (i : Int))) then false else true) 0 a0 then (true, ()) else (false, ())) := by
 simp only [zJp, zKA, zR, zi, zx, zQ]
 rw [zTt, z7] <;> rfl
def zGa (a0 : El zA) (a1 : El zA) : Tr (Bool × Unit) := bif (a0.1 == a1.1) then (.v ((zJp a0.2.1 a1.2.1).1, ())) else (.v (false, ()))
def zAB a0 a1 := (zGa a0 a1).val
@[reducible] def zVl : FnD := ⟨[va zA, va zA], [vd .bool], true, fun _ => none, fun a => zAB a.1 a.2.1⟩
def zWY : Con Tryz.prog := yD mo g0 [zay] [] 169 zVl (fn := Tryz.f169) trivial (fun a _ _ => yT (t' := zGa a.1 a.2.1) (by kernel_rfl) (by simp [zGa]) rfl)
@[reducible] def zAo : LB := ⟨[], ⟨18, [.d zA], [(0, vd (.lst zA)), (3, .pt 0 0), (5, vd .int)]⟩, ⟨18, [], [(4, vd .bool)]⟩, 0, fun x => (fun (w0 : El zA) (l0 : List (El zA)) (n5 : Int) => (bif decide (n5 < (l0.length : Int)) then (.ix n5 l0 (bif (zAB (zB zA l0 n5) w0).1 then (.v (.ret (true, ()))) else (.ik (n5 + (1 : Int)) (.v (.go (w0, l0, (), (n5 + (1 : Int)), ())))))) else (.v (.brk (w0, l0, (), n5, ()))) : Tr (St _ _))) x.1 x.2.1 x.2.2.2.1⟩
theorem zSS (w0 : El zA) (l0 : List (El zA)) : LB.run zAo (w0, l0, (), (0 : Int), ()) = bif zd (fun _ x => bif (zAB x w0).1 then false else true) 0 l0 then .brk (w0, l0, (), (l0.length : Int), ()) else .ret (true, ()) := LB.run_all (l := zAo) (fun i => (w0, l0, (), (i : Int), ())) (fun i x h => by
  simp only [LB.b, zAo, zi, zQ, zR, cond_true, yM h, zG h]
  cases (zAB x w0).1 <;> rfl) (by simp only [LB.b, zAo, xl]; rfl)
theorem zQ4 : SF zAo fun x : El zA × List (El zA) × Unit × Int × Unit => (0 ≤ x.2.2.2.1, (x.2.1.length : Int) - x.2.2.2.1) := xz (by
 rintro ⟨(w0 : El zA), (l0 : List (El zA)), ⟨⟩, (n5 : Int), ⟨⟩⟩ hI hw
 have _ : (l0.length : Int) ≤ 16777216 := zE (hw.2.1.1)
 simp [zAo] at hI ⊢
 repeat' first | intro _ | apply And.intro
 all_goals omega)
def zH1 (a0 : List (El zA)) (a1 : El zA) : Tr (Bool × Unit) := .lp zAo (a1, a0, (), (0 : Int), ()) (fun r2 => .v (r2.1, ())) (fun _ => .v (false, ()))
def vM a0 a1 := (zH1 a0 a1).val
@[reducible] def zPg : FnD := ⟨[vd (.lst zA), va zA], [vd .bool], true, fun _ => none, fun a => vM a.1 a.2.1⟩
theorem zYh (a0 : List (El zA)) (a1 : El zA) (_ : xG zPg.args (a0, a1, ())) : (zH1 a0 a1).ok := by
 unfold zH1
 refine zI ?_ ?_
 ·exact zQ4 _ (by (dsimp only <;> omega))
 ·simp
def zZ2 : Con Tryz.prog := yD mo g0 [zWY] [zAo] 108 zPg (fn := Tryz.f108) ⟨lk, trivial⟩ (fun a hw _ => yT (by kernel_rfl) (zYh a.1 a.2.1 hw) rfl)
theorem zZX (a0 : List (El zA)) (a1 : El zA) : vM a0 a1 = bif zd (fun _ x => bif (zAB x a1).1 then false else true) 0 a0 then (false, ()) else (true, ()) := by
 simp only [vM, zH1, zR, zx, zQ]
 rw [zSS, z7] <;> rfl
@[reducible] def vc : LB := ⟨[], ⟨61, [.d zA, .d zA], [(2, .pt 0 0), (3, .pt 1 0), (5, vd .int)]⟩, ⟨61, [], [(4, vd .bool)]⟩, 1, fun x => (fun (w0 : El zA) (w1 : El zA) (n5 : Int) => (bif decide (n5 < (w0.2.1.length : Int)) then (.ix n5 w0.2.1 (.ix n5 w1.2.1 (bif ((zB .int w0.2.1 n5) != (zB .int w1.2.1 n5)) then (.ix n5 w0.2.1 (.ix n5 w1.2.1 (.v (.ret (decide ((zB .int w0.2.1 n5) < (zB .int w1.2.1 n5)), ()))))) else (.ik (n5 + (1 : Int)) (.v (.go (w0, w1, (), (), (n5 + (1 : Int)), ()))))))) else (.v (.brk (w0, w1, (), (), n5, ()))) : Tr (St _ _))) x.1 x.2.1 x.2.2.2.2.1⟩
theorem zPn (w0 : El zA) (w1 : El zA) : LB.run vc (w0, w1, (), (), (0 : Int), ()) = zCY (yt (fun i x => bif (x != (zB .int w1.2.1 (i : Int))) then (some (decide (x < (zB .int w1.2.1 (i : Int))), ())) else none) 0 w0.2.1) (w0, w1, (), (), (w0.2.1.length : Int), ()) := LB.run_scan (l := vc) (fun i => (w0, w1, (), (), (i : Int), ())) (fun i x h => by
  simp only [LB.b, vc, zi, zQ, zR, cond_true, yM h, zG h]
  cases (x != (zB .int w1.2.1 (i : Int))) <;> rfl) (by simp only [LB.b, vc, xl]; rfl)
theorem zPt : SF vc fun x : El zA × El zA × Unit × Unit × Int × Unit => (0 ≤ x.2.2.2.2.1 ∧ (x.1.2.1.length : Int) ≤ (x.2.1.2.1.length : Int), (x.1.2.1.length : Int) - x.2.2.2.2.1) := xz (by
 rintro ⟨(w0 : El zA), (w1 : El zA), ⟨⟩, ⟨⟩, (n5 : Int), ⟨⟩⟩ hI hw
 have _ : (w0.2.1.length : Int) ≤ 16777216 := zE (hw.1.2.1.1)
 simp [vc] at hI ⊢
 repeat' first | intro _ | apply And.intro
 all_goals omega)
def zGQ (a0 : El zA) (a1 : El zA) : Tr (Bool × Unit) := bif (a0.1 != a1.1) then (.v (decide (a0.1 < a1.1), ())) else (bif ((a0.2.1.length : Int) != (a1.2.1.length : Int)) then (.v (decide ((a0.2.1.length : Int) < (a1.2.1.length : Int)), ())) else (.lp vc (a0, a1, (), (), (0 : Int), ()) (fun r1 => .v (r1.1, ())) (fun _ => .v (false, ()))))
def zEw a0 a1 := (zGQ a0 a1).val
@[reducible] def zNg : FnD := ⟨[va zA, va zA], [vd .bool], true, fun _ => none, fun a => zEw a.1 a.2.1⟩
theorem zWI (a0 : El zA) (a1 : El zA) (_ : xG zNg.args (a0, a1, ())) : (zGQ a0 a1).ok := by
 unfold zGQ
 refine zp (fun _ => trivial) (fun h1 => ?_)
 refine zp (fun _ => trivial) (fun h2 => ?_)
 replace h2 := zAp h2
 refine zI ?_ ?_
 ·exact zPt _ ⟨by (dsimp only <;> omega), by (dsimp only <;> omega)⟩
 ·simp
def zVn : Con Tryz.prog := yD mo g0 [] [vc] 170 zNg (fn := Tryz.f170) ⟨lk, trivial⟩ (fun a hw _ => yT (by kernel_rfl) (zWI a.1 a.2.1 hw) rfl)
theorem zXb (a0 : El zA) (a1 : El zA) : zEw a0 a1 = bif (a0.1 != a1.1) then (decide (a0.1 < a1.1), ()) else (bif ((a0.2.1.length : Int) != (a1.2.1.length : Int)) then (decide ((a0.2.1.length : Int) < (a1.2.1.length : Int)), ()) else (zCh (yt (fun i x => bif (x != (zB .int a1.2.1 (i : Int))) then (some (decide (x < (zB .int a1.2.1 (i : Int))), ())) else none) 0 a0.2.1) (fun (r1 : vc.r.T) => (r1.1, ())) (false, ()))) := by
 simp only [zEw, zGQ, zR, zi, zx, zQ]
 rw [zPn, xI] <;> rfl
def zLW (a0 : El zN) (a1 : El zA) (a2 : El zA) : Tr (Bool × Unit) := bif (!(y5 a0 a1).1) then (.v (false, ())) else (bif (!(y5 a0 a2).1) then (.v (false, ())) else (.ix a1.1 a0.2 (.ix a2.1 a0.2 (bif decide ((zB zC a0.2 a1.1).2.1 > (zB zC a0.2 a2.1).2.1) then (.v (true, ())) else (bif ((zB zC a0.2 a1.1).2.1 == (zB zC a0.2 a2.1).2.1) then (.v ((zEw a1 a2).1, ())) else (.v (false, ())))))))
def zBF a0 a1 a2 := (zLW a0 a1 a2).val
@[reducible] def zUC : FnD := ⟨[va zN, va zA, va zA], [vd .bool], true, fun _ => none, fun a => zBF a.1 a.2.1 a.2.2.1⟩
theorem zfS (a0 : El zN) (a1 : El zA) (a2 : El zA) (_ : xG zUC.args (a0, a1, a2, ())) : (zLW a0 a1 a2).ok := by
 unfold zLW
 refine zp (fun _ => trivial) (fun h1 => ?_)
 replace h1 := vQ h1
 replace h1 := zGw h1
 refine zp (fun _ => trivial) (fun h2 => ?_)
 replace h2 := vQ h2
 replace h2 := zGw h2
 refine zI ?_ ?_
 ·first | omega | (simp <;> omega)
 ·refine zI ?_ ?_
  ·first | omega | (simp <;> omega)
  ·simp
def zgs : Con Tryz.prog := yD mo g0 [zND, zVn] [] 109 zUC (fn := Tryz.f109) trivial (fun a hw _ => yT (by kernel_rfl) (zfS a.1 a.2.1 a.2.2.1 hw) rfl)
def zD3 (a0 : El zA) : Tr (El zA × Unit) := .ck ((a0.2.1.length : Int) ≤ 16777216) (.ck ((a0.2.2.length : Int) ≤ 16777216) (.v (a0, ())))
def zD2 a0 := (zD3 a0).val
@[reducible] def zKZ : FnD := ⟨[va zA], [.val true (.pr (.d .int) (.pr (.o (.d .int)) (.o (.d zF))))], true, fun _ => none, fun a => zD2 a.1⟩
theorem zPy (a0 : El zA) (hw : xG zKZ.args (a0, ())) : (zD3 a0).ok := by
 unfold zD3
 refine zI ?_ ?_
 ·have _ : (a0.2.1.length : Int) ≤ 16777216 := zE (hw.1.2.1.1); first | omega | (simp <;> omega)
 ·refine zI ?_ ?_
  ·have _ : (a0.2.2.length : Int) ≤ 16777216 := zE (hw.1.2.2.1); first | omega | (simp <;> omega)
  ·trivial
def zPo : Con Tryz.prog := yD mo g0 [] [] 110 zKZ (fn := Tryz.f110) trivial (fun a hw _ => yT (by kernel_rfl) (zPy a.1 hw) rfl)
@[reducible] def xT : LB := ⟨[1, 0], ⟨56, [.pr (.d .int) (.pr (.o (.d .int)) (.o (.d zF))), .d zN], [(1, vd (.lst zA)), (2, vd (.lst zA)), (3, .pt 1 0), (6, .pt 0 0), (8, vd .int), (9, vd .int)]⟩, ⟨56, [], []⟩, 0, fun x => (fun (w0 : El zA) (w1 : El zN) (l1 : List (El zA)) (l2 : List (El zA)) (n8 : Int) (n9 : Int) => (bif decide (n9 < (l1.length : Int)) then (.ix n9 l1 (bif (y5 w1 (zB zA l1 n9)).1 then (.ix n9 l1 (bif (!(vM l2 (zB zA l1 n9)).1) then (bif decide (n8 < (0 : Int)) then (.ik (n9 + (1 : Int)) (.v (.go (w0, w1, l1, l2, (), (), n9, (n9 + (1 : Int)), ())))) else (.ix n9 l1 (.ix n8 l1 (bif (zBF w1 (zB zA l1 n9) (zB zA l1 n8)).1 then (.ik (n9 + (1 : Int)) (.v (.go (w0, w1, l1, l2, (), (), n9, (n9 + (1 : Int)), ())))) else (.ik (n9 + (1 : Int)) (.v (.go (w0, w1, l1, l2, (), (), n8, (n9 + (1 : Int)), ())))))))) else (.ik (n9 + (1 : Int)) (.v (.go (w0, w1, l1, l2, (), (), n8, (n9 + (1 : Int)), ())))))) else (.ik (n9 + (1 : Int)) (.v (.go (w0, w1, l1, l2, (), (), n8, (n9 + (1 : Int)), ())))))) else (.v (.brk (w0, w1, l1, l2, (), (), n8, n9, ()))) : Tr (St _ _))) x.1 x.2.1 x.2.2.1 x.2.2.2.1 x.2.2.2.2.2.2.1 x.2.2.2.2.2.2.2.1⟩
theorem zPx (w0 : El zA) (w1 : El zN) (l1 : List (El zA)) (l2 : List (El zA)) (n8 : Int) : LB.run xT (w0, w1, l1, l2, (), (), n8, (0 : Int), ()) = .brk (w0, w1, l1, l2, (), (), (zg (fun i x (s : Int) => bif (y5 w1 x).1 then (bif (!(vM l2 x).1) then (bif (decide (s < (0 : Int))) then (i : Int) else (bif (zBF w1 x (zB zA l1 s)).1 then (i : Int) else s)) else s) else s) 0 l1 n8), (l1.length : Int), ()) := LB.run_fold (l := xT) (fun i s => (w0, w1, l1, l2, (), (), s, (i : Int), ())) (fun i x s h => by
  simp only [LB.b, xT, zi, zQ, zR, cond_true, yM h, zG h]
  cases (y5 w1 x).1
  ·rfl
  ·cases (!(vM l2 x).1)
   ·rfl
   ·cases (decide (s < (0 : Int)))
    ·cases (zBF w1 x (zB zA l1 s)).1 <;> rfl
    ·rfl) (fun s => by simp only [LB.b, xT, xl]; rfl)
theorem zPj (w00 : El zA) (w10 : El zN) (l10 : List (El zA)) (l20 : List (El zA)) (n80 : Int) (n90 : Int) (p0 : -1 ≤ n80 ∧ n80 < (l10.length : Int) ∧ 0 ≤ n90) : (LB.run xT (w00, w10, l10, l20, (), (), n80, n90, ())).all (fun _ => False) (fun (w0, w1, l1, l2, _, _, n8, n9, _) => w00 = w0 ∧ w10 = w1 ∧ l10 = l1 ∧ l20 = l2 ∧ (-1 ≤ n8 ∧ n8 < (l1.length : Int) ∧ 0 ≤ n9)) (fun (w0, w1, l1, l2, _, _, n8, n9, _) => w00 = w0 ∧ w10 = w1 ∧ l10 = l1 ∧ l20 = l2 ∧ (-1 ≤ n8 ∧ n8 < (l1.length : Int) ∧ 0 ≤ n9)) := by
 have H : ∀ (w0 : El zA) (w1 : El zN) (l1 : List (El zA)) (l2 : List (El zA)) (n8 : Int) (n9 : Int), (w00 = w0 ∧ w10 = w1 ∧ l10 = l1 ∧ l20 = l2 ∧ (-1 ≤ n8 ∧ n8 < (l1.length : Int) ∧ 0 ≤ n9)) → St.all (fun _ => False) (fun (w0, w1, l1, l2, _, _, n8, n9, _) => w00 = w0 ∧ w10 = w1 ∧ l10 = l1 ∧ l20 = l2 ∧ (-1 ≤ n8 ∧ n8 < (l1.length : Int) ∧ 0 ≤ n9)) (fun (w0, w1, l1, l2, _, _, n8, n9, _) => w00 = w0 ∧ w10 = w1 ∧ l10 = l1 ∧ l20 = l2 ∧ (-1 ≤ n8 ∧ n8 < (l1.length : Int) ∧ 0 ≤ n9)) (xT.b (w0, w1, l1, l2, (), (), n8, n9, ())) := by
  intro w0 w1 l1 l2 n8 n9 hI
  obtain ⟨eq0, eq1, eq2, eq3, eq4⟩ := hI
  simp only [LB.b, xT, zi, zQ, zR]
  refine zj (fun h6 => ?_) (fun h6 => ?_)
  ·replace h6 : n9 < (l1.length : Int) := of_decide_eq_true h6
   refine zj (fun h7 => ?_) (fun h7 => ?_)
   ·replace h7 := zGw h7
    refine zj (fun h8 => ?_) (fun h8 => ?_)
    ·refine zj (fun h9 => ?_) (fun h9 => ?_)
     ·replace h9 : n8 < (0 : Int) := of_decide_eq_true h9
      exact yg (show w00 = w0 ∧ w10 = w1 ∧ l10 = l1 ∧ l20 = l2 ∧ (-1 ≤ n9 ∧ n9 < (l1.length : Int) ∧ 0 ≤ (n9 + (1 : Int))) from ⟨eq0, eq1, eq2, eq3, by first | omega | rfl | assumption | (simp <;> omega)⟩)
     ·replace h9 : ¬ (n8 < (0 : Int)) := of_decide_eq_false h9
      refine zj (fun h10 => ?_) (fun h10 => ?_)
      ·exact yg (show w00 = w0 ∧ w10 = w1 ∧ l10 = l1 ∧ l20 = l2 ∧ (-1 ≤ n9 ∧ n9 < (l1.length : Int) ∧ 0 ≤ (n9 + (1 : Int))) from ⟨eq0, eq1, eq2, eq3, by first | omega | rfl | assumption | (simp <;> omega)⟩)
      ·exact yg (show w00 = w0 ∧ w10 = w1 ∧ l10 = l1 ∧ l20 = l2 ∧ (-1 ≤ n8 ∧ n8 < (l1.length : Int) ∧ 0 ≤ (n9 + (1 : Int))) from ⟨eq0, eq1, eq2, eq3, by first | omega | rfl | assumption | (simp <;> omega)⟩)
    ·exact yg (show w00 = w0 ∧ w10 = w1 ∧ l10 = l1 ∧ l20 = l2 ∧ (-1 ≤ n8 ∧ n8 < (l1.length : Int) ∧ 0 ≤ (n9 + (1 : Int))) from ⟨eq0, eq1, eq2, eq3, by first | omega | rfl | assumption | (simp <;> omega)⟩)
   ·exact yg (show w00 = w0 ∧ w10 = w1 ∧ l10 = l1 ∧ l20 = l2 ∧ (-1 ≤ n8 ∧ n8 < (l1.length : Int) ∧ 0 ≤ (n9 + (1 : Int))) from ⟨eq0, eq1, eq2, eq3, by first | omega | rfl | assumption | (simp <;> omega)⟩)
  ·replace h6 : ¬ (n9 < (l1.length : Int)) := of_decide_eq_false h6
   exact zCd (show w00 = w0 ∧ w10 = w1 ∧ l10 = l1 ∧ l20 = l2 ∧ (-1 ≤ n8 ∧ n8 < (l1.length : Int) ∧ 0 ≤ n9) from ⟨eq0, eq1, eq2, eq3, by first | omega | rfl | assumption | (simp <;> omega)⟩)
 exact LB.post (l := xT) (A := fun _ => False) (fun (w0, w1, l1, l2, _, _, n8, n9, _) => w00 = w0 ∧ w10 = w1 ∧ l10 = l1 ∧ l20 = l2 ∧ (-1 ≤ n8 ∧ n8 < (l1.length : Int) ∧ 0 ≤ n9)) (fun ⟨w0, w1, l1, l2, ⟨⟩, ⟨⟩, n8, n9, ⟨⟩⟩ hx => H w0 w1 l1 l2 n8 n9 hx) ⟨rfl, rfl, rfl, rfl, p0⟩
theorem zPr : SF xT fun x : El zA × El zN × List (El zA) × List (El zA) × Unit × Unit × Int × Int × Unit => (0 ≤ x.2.2.2.2.2.2.2.1 ∧ (-1 ≤ x.2.2.2.2.2.2.1 ∧ x.2.2.2.2.2.2.1 < (x.2.2.1.length : Int)), (x.2.2.1.length : Int) - x.2.2.2.2.2.2.2.1) := xz (by
 rintro ⟨(w0 : El zA), (w1 : El zN), (l1 : List (El zA)), (l2 : List (El zA)), ⟨⟩, ⟨⟩, (n8 : Int), (n9 : Int), ⟨⟩⟩ hI hw
 obtain ⟨i0, k0⟩ := hI
 dsimp only at i0 k0
 have _ : -9223372036854775808 ≤ n8 ∧ n8 ≤ 9223372036854775807 := zw hw.2.2.2.2.2.2.1
 have _ : (l1.length : Int) ≤ 16777216 := zE (hw.2.2.1.1)
 have _ := fun h : (y5 w1 (zB zA l1 n9)).1 = true => zGw h
 simp [xT]
 repeat' first | intro _ | apply And.intro
 all_goals omega)
def zGX (a0 : El zN) (a1 : List (El zA)) (a2 : List (El zA)) : Tr (El zA × Bool × Unit) := .lp xT (((0 : Int), (([] : List (El .int)), ([] : List (El zF)))), a0, a1, a2, (), (), (-1 : Int), (0 : Int), ()) (fun _ => .bad) (fun t5 => bif decide (t5.2.2.2.2.2.2.1 < (0 : Int)) then (.v (((0 : Int), (([] : List (El .int)), ([] : List (El zF)))), false, ())) else (.ix t5.2.2.2.2.2.2.1 t5.2.2.1 (.v ((zD2 (zB zA t5.2.2.1 t5.2.2.2.2.2.2.1)).1, true, ()))))
def zEh a0 a1 a2 := (zGX a0 a1 a2).val
@[reducible] def zNW : FnD := ⟨[va zN, vd (.lst zA), vd (.lst zA)], [.val true (.pr (.d .int) (.pr (.o (.d .int)) (.o (.d zF)))), vd .bool], true, fun _ => none, fun a => zEh a.1 a.2.1 a.2.2.1⟩
theorem zXg (a0 : El zN) (a1 : List (El zA)) (a2 : List (El zA)) (_ : xG zNW.args (a0, a1, a2, ())) : (zGX a0 a1 a2).ok := by
 unfold zGX
 refine zI ?_ ?_
 ·exact zPr _ ⟨by (dsimp only <;> first | omega | assumption | (simp <;> omega)), by (dsimp only <;> first | omega | assumption | (simp <;> omega))⟩
 ·refine zIQ (A' := fun _ => False) (B' := fun (t5w0, t5w1, t5l1, t5l2, _, _, t5n8, t5n9, _) => ((0 : Int), (([] : List (El .int)), ([] : List (El zF)))) = t5w0 ∧ a0 = t5w1 ∧ a1 = t5l1 ∧ a2 = t5l2 ∧ (-1 ≤ t5n8 ∧ t5n8 < (t5l1.length : Int) ∧ 0 ≤ t5n9)) (zPj ((0 : Int), (([] : List (El .int)), ([] : List (El zF)))) a0 a1 a2 (-1 : Int) (0 : Int) (by (first | omega | rfl | assumption | (simp <;> omega) | (refine ⟨?_, ?_, ?_⟩ <;> first | omega | rfl | (simp <;> omega)) | (refine ⟨?_, ?_⟩ <;> first | omega | rfl | (simp <;> omega))))) (fun _ h => h.elim) (fun t ht => ?_)
  obtain ⟨t5w0, t5w1, t5l1, t5l2, ⟨⟩, ⟨⟩, t5n8, t5n9, ⟨⟩⟩ := t
  dsimp only
  obtain ⟨rfl, rfl, rfl, rfl, hth11⟩ := ht
  obtain ⟨t5n8, rfl⟩ : ∃ y : Int, y = t5n8 := ⟨_, rfl⟩
  obtain ⟨t5n9, rfl⟩ : ∃ y : Int, y = t5n9 := ⟨_, rfl⟩
  replace hth11 : -1 ≤ t5n8 ∧ t5n8 < (a1.length : Int) ∧ 0 ≤ t5n9 := hth11
  refine zp (fun _ => trivial) (fun h12 => ?_)
  replace h12 : ¬ (t5n8 < (0 : Int)) := of_decide_eq_false h12
  refine zI ?_ ?_
  ·show (0 ≤ t5n8 ∧ t5n8 < (a1.length : Int)); first | omega | (simp <;> omega)
  ·simp
def zWv : Con Tryz.prog := yD mo g0 [zND, zZ2, zgs, zPo] [xT] 63 zNW (fn := Tryz.f63) ⟨lk, trivial⟩ (fun a hw _ => yT (by kernel_rfl) (zXg a.1 a.2.1 a.2.2.1 hw) rfl)
theorem zXe (a0 : El zN) (a1 : List (El zA)) (a2 : List (El zA)) : zEh a0 a1 a2 = bif (decide ((zg (fun i x (s : Int) => bif (y5 a0 x).1 then (bif (!(vM a2 x).1) then (bif (decide (s < (0 : Int))) then (i : Int) else (bif (zBF a0 x (zB zA a1 s)).1 then (i : Int) else s)) else s) else s) 0 a1 (-1 : Int)) < (0 : Int))) then (((0 : Int), (([] : List (El .int)), ([] : List (El zF)))), false, ()) else ((zD2 (zB zA a1 (zg (fun i x (s : Int) => bif (y5 a0 x).1 then (bif (!(vM a2 x).1) then (bif (decide (s < (0 : Int))) then (i : Int) else (bif (zBF a0 x (zB zA a1 s)).1 then (i : Int) else s)) else s) else s) 0 a1 (-1 : Int)))).1, true, ()) := by
 simp only [zEh, zGX, zR, zi, zx, zQ]
 rw [zPx, xf] <;> rfl
def zKG (a0 : El zN) (a1 : El yf) : Tr (El zA × Bool × Unit) := .ck (zMJ a0 a1.1) (let y1 := (zEh a0 (zIv a0 a1.1).1 a1.2.1); .v (y1.1, y1.2.1, ()))
def zNA a0 a1 := (zKG a0 a1).val
def zJ3 (a0 : El zN) (a1 : El yf) : Prop := zkX a0 a1.1
@[reducible] def zQT : FnD := ⟨[va zN, va yf], [.val true (.pr (.d .int) (.pr (.o (.d .int)) (.o (.d zF)))), vd .bool], true, fun a => some (zJ3 a.1 a.2.1), fun a => zNA a.1 a.2.1⟩
theorem zah (a0 : El zN) (a1 : El yf) (_ : xG zQT.args (a0, a1, ())) (hp : zJ3 a0 a1) : (zKG a0 a1).ok := by
 unfold zJ3 at hp
 unfold zKG
 refine zI ?_ ?_
 ·exact hp
 ·simp
def zc2 : Con Tryz.prog := yD mo g0 [zd4, zWv] [] 34 zQT (fn := Tryz.f34) trivial (fun a hw h => yT (by kernel_rfl) (zah a.1 a.2.1 hw h) rfl)
def zMM (a0 : El zO) (a1 : Int) : Tr (Bool × Unit) := bif decide (a1 < (0 : Int)) then (.v (false, ())) else (bif decide (a1 ≥ (a0.2.1.length : Int)) then (.v (false, ())) else (.ix a1 a0.2.1 (bif ((zB ze a0.2.1 a1).2.2.2.2.2.2.2.1 != (1 : Int)) then (.v (false, ())) else (.ck (zLb a0 a1) (.ix a1 a0.2.1 (.ck (zJ3 (zER a0 a1).1 (zB ze a0.2.1 a1).2.2) (.v ((zNA (zER a0 a1).1 (zB ze a0.2.1 a1).2.2).2.1, ()))))))))
def vF a0 a1 := (zMM a0 a1).val
def zIz (a0 : El zO) (a1 : Int) : Prop := 0 ≤ a1 → a1 < (a0.2.1.length : Int) → 0 ≤ (xQ a0 (zB ze a0.2.1 a1).2.1).1 ∧ zkX (zER a0 a1).1 (zB ze a0.2.1 a1).2.2.1
@[reducible] def zUQ : FnD := ⟨[va zO, vd .int], [vd .bool], true, fun a => some (zIz a.1 a.2.1), fun a => vF a.1 a.2.1⟩
theorem zgT (a0 : El zO) (a1 : Int) (_ : xG zUQ.args (a0, a1, ())) (hp : zIz a0 a1) : (zMM a0 a1).ok := by
 unfold zIz at hp
 unfold zMM
 refine zp (fun _ => trivial) (fun h1 => ?_)
 replace h1 : ¬ (a1 < (0 : Int)) := of_decide_eq_false h1
 refine zp (fun _ => trivial) (fun h2 => ?_)
 replace h2 : ¬ (a1 ≥ (a0.2.1.length : Int)) := of_decide_eq_false h2
 refine zI ?_ ?_
 ·first | omega | (simp <;> omega)
 ·refine zp (fun _ => trivial) (fun h3 => ?_)
  replace h3 := zAp h3
  refine zI ?_ ?_
  ·exact ⟨⟨by omega, by omega⟩, (hp (by omega) (by omega)).1⟩
  ·refine zI ?_ ?_
   ·first | omega | (simp <;> omega)
   ·refine zI ?_ ?_
    ·exact (hp (by omega) (by omega)).2
    ·simp
def zfr : Con Tryz.prog := yD mo g0 [zfg, zc2] [] 18 zUQ (fn := Tryz.f18) trivial (fun a hw h => yT (by kernel_rfl) (zgT a.1 a.2.1 hw h) rfl)
def zJl (a0 : El zO) (a1 : Int) : Tr (Bool × Unit) := .ck (zI8 a0) (bif (vC a0).1 then (.ck (zIz a0 a1) (.v ((vF a0 a1).1, ()))) else (.v (false, ())))
def zJx a0 a1 := (zJl a0 a1).val
def zHI (a0 : El zN) (a1 : ByteArray) : Bool × Unit := ((a0.1.toList == a1.toList), ())
@[reducible] def zaU : FnD := ⟨[va zN, .bx .str 0], [vd .bool], true, fun _ => none, fun a => zHI a.1 a.2.1⟩
def zaW : Con Tryz.prog := yD mo g0 [] [] 70 zaU (fn := Tryz.f70) trivial (fun _ _ _ => okv (by kernel_rfl))
@[reducible] def zM : LB := ⟨[], ⟨19, [], [(0, vd (.lst zN)), (1, .fn 70 [.str]), (7, vd .int), (8, vd .int)]⟩, ⟨19, [], [(4, vd .int)]⟩, 0, fun x => (fun (l0 : List (El zN)) (f1 : TyL [.str]) (n7 : Int) (n8 : Int) => (bif decide (n8 < n7) then (.ix n8 l0 (bif (zHI (zB zN l0 n8) f1.1).1 then (.v (.ret (n8, ()))) else (.ik (n8 + (1 : Int)) (.v (.go (l0, (f1.1, ()), n7, (n8 + (1 : Int)), ())))))) else (.v (.brk (l0, (f1.1, ()), n7, n8, ()))) : Tr (St _ _))) x.1 x.2.1 x.2.2.1 x.2.2.2.1⟩
theorem zCg (l0 : List (El zN)) (f1 : TyL [.str]) : LB.run zM (l0, f1, (l0.length : Int), (0 : Int), ()) = zCY (yt (fun i x => bif (zHI x f1.1).1 then (some ((i : Int), ())) else none) 0 l0) (l0, f1, (l0.length : Int), (l0.length : Int), ()) := LB.run_scan (l := zM) (fun i => (l0, f1, (l0.length : Int), (i : Int), ())) (fun i x h => by
  simp only [LB.b, zM, zi, zQ, zR, cond_true, yM h, zG h]
  cases (zHI x f1.1).1 <;> rfl) (by simp only [LB.b, zM, xl]; rfl)
theorem zCf (l00 : List (El zN)) (f10 : TyL [.str]) (n70 : Int) (n80 : Int) (p0 : n70 = (l00.length : Int)) : (LB.run zM (l00, f10, n70, n80, ())).all (fun r => r.1 < (l00.length : Int)) (fun (l0, f1, n7, _) => l00 = l0 ∧ f10 = f1 ∧ n70 = n7 ∧ n7 = (l0.length : Int)) (fun (l0, f1, n7, _) => l00 = l0 ∧ f10 = f1 ∧ n70 = n7 ∧ n7 = (l0.length : Int)) := by
 have H : ∀ (l0 : List (El zN)) (f1 : TyL [.str]) (n7 : Int) (n8 : Int), (l00 = l0 ∧ f10 = f1 ∧ n70 = n7 ∧ n7 = (l0.length : Int)) → St.all (fun r => r.1 < (l00.length : Int)) (fun (l0, f1, n7, _) => l00 = l0 ∧ f10 = f1 ∧ n70 = n7 ∧ n7 = (l0.length : Int)) (fun (l0, f1, n7, _) => l00 = l0 ∧ f10 = f1 ∧ n70 = n7 ∧ n7 = (l0.length : Int)) (zM.b (l0, f1, n7, n8, ())) := by
  intro l0 f1 n7 n8 hI
  obtain ⟨eq0, eq1, eq2, eq3⟩ := hI
  simp only [LB.b, zM, zi, zQ, zR]
  refine zj (fun h1 => ?_) (fun h1 => ?_)
  ·replace h1 : n8 < n7 := of_decide_eq_true h1
   refine zj (fun h2 => ?_) (fun h2 => ?_)
   ·exact zKS (by subst_vars; dsimp only; omega)
   ·exact yg (show l00 = l0 ∧ f10 = f1 ∧ n70 = n7 ∧ n7 = (l0.length : Int) from ⟨eq0, eq1, eq2, by first | omega | rfl | assumption | (simp <;> omega)⟩)
  ·replace h1 : ¬ (n8 < n7) := of_decide_eq_false h1
   exact zCd (show l00 = l0 ∧ f10 = f1 ∧ n70 = n7 ∧ n7 = (l0.length : Int) from ⟨eq0, eq1, eq2, by first | omega | rfl | assumption | (simp <;> omega)⟩)
 exact LB.post (l := zM) (A := fun r => r.1 < (l00.length : Int)) (fun (l0, f1, n7, _) => l00 = l0 ∧ f10 = f1 ∧ n70 = n7 ∧ n7 = (l0.length : Int)) (fun ⟨l0, f1, n7, n8, ⟨⟩⟩ hx => H l0 f1 n7 n8 hx) ⟨rfl, rfl, rfl, p0⟩
theorem zCe : SF zM fun x : List (El zN) × TyL [.str] × Int × Int × Unit => (0 ≤ x.2.2.2.1 ∧ x.2.2.1 = (x.1.length : Int), x.2.2.1 - x.2.2.2.1) := xz (by
 rintro ⟨(l0 : List (El zN)), (f1 : TyL [.str]), (n7 : Int), (n8 : Int), ⟨⟩⟩ hI hw
 have _ : -9223372036854775808 ≤ n7 ∧ n7 ≤ 9223372036854775807 := zw hw.2.2.1
 have _ : (l0.length : Int) ≤ 16777216 := zE (hw.1.1)
 simp [zM] at hI ⊢
 repeat' first | intro _ | apply And.intro
 all_goals omega)
def yP (a0 : List (El zN)) (a1 : TyL [.str]) : Tr (Int × Unit) := .lp zM (a0, (a1.1, ()), (a0.length : Int), (0 : Int), ()) (fun r2 => .v (r2.1, ())) (fun _ => .v ((-1 : Int), ()))
def yE a0 a1 := (yP a0 a1).val
@[reducible] def vy : FnD := ⟨[vd (.lst zN), .fn 70 [.str]], [vd .int], true, fun _ => none, fun a => yE a.1 a.2.1⟩
theorem zDq (a0 : List (El zN)) (a1 : TyL [.str]) (_ : xG vy.args (a0, a1, ())) : (yP a0 a1).ok := by
 unfold yP
 refine zI ?_ ?_
 ·exact zCe _ ⟨by (dsimp only <;> omega), by (dsimp only <;> omega)⟩
 ·simp
def zDs : Con Tryz.prog := yD mo g0 [zaW] [zM] 69 vy (fn := Tryz.f69) ⟨lk, trivial⟩ (fun a hw _ => yT (by kernel_rfl) (zDq a.1 a.2.1 hw) rfl)
theorem zDp (a0 : List (El zN)) (a1 : TyL [.str]) : yE a0 a1 = zCh (yt (fun i x => bif (zHI x (a1.1, ()).1).1 then (some ((i : Int), ())) else none) 0 a0) (fun (r1 : zM.r.T) => (r1.1, ())) ((-1 : Int), ()) := by
 simp only [yE, yP, zR, zx, zQ]
 rw [zCg, xI] <;> rfl
theorem zbL (l : List (El zN)) (f : TyL [.str]) : (yE l f).1 < (l.length : Int) := by
 simp only [yE, yP, zQ, zR, zx]
 have := zCf l (f.1, ()) (l.length : Int) (0 : Int) rfl
 revert this
 cases (LB.run zM (l, (f.1, ()), (l.length : Int), (0 : Int), ())) with
 | ret r => intro h; exact h
 | brk t => intro _; show (-1 : Int) < _; omega
 | go t => intro _; show (-1 : Int) < _; omega
def x6 (a0 : El zO) (a1 : ByteArray) : Int × Unit := ((yE a0.1 (a1, ())).1, ())
@[reducible] def zh9 : FnD := ⟨[va zO, vd .str], [vd .int], true, fun _ => none, fun a => x6 a.1 a.2.1⟩
def zZk : Con Tryz.prog := yD mo g0 [zDs] [] 41 zh9 (fn := Tryz.f41) trivial (fun _ _ _ => okv (by kernel_rfl))
theorem zZL (b : El zO) (s : ByteArray) : (x6 b s).1 < (b.1.length : Int) := zbL b.1 (s, ())
def zDl (a0 : El zO) (a1 : Int) : Tr (El zN × Unit) := .ix a1 a0.2.1 (let y1 := (x6 a0 (zB ze a0.2.1 a1).2.1); .ix y1.1 a0.1 (.v ((zB zN a0.1 y1.1), ())))
def vX a0 a1 := (zDl a0 a1).val
def zDo (a0 : El zO) (a1 : Int) : Prop := (0 ≤ a1 ∧ a1 < (a0.2.1.length : Int)) ∧ 0 ≤ (x6 a0 (zB ze a0.2.1 a1).2.1).1
@[reducible] def zIW : FnD := ⟨[.bx zO 0, vd .int], [va zN], false, fun a => some (zDo a.1 a.2.1), fun a => vX a.1 a.2.1⟩
theorem zO4 (a0 : El zO) (a1 : Int) (_ : xG zIW.args (a0, a1, ())) (hp : zDo a0 a1) : (zDl a0 a1).ok := by
 unfold zDo at hp
 unfold zDl
 refine zI ?_ ?_
 ·first | omega | (simp <;> omega)
 ·refine zI ?_ ?_
  ·have _ := zZL a0 (zB ze a0.2.1 a1).2.1; first | omega | (simp <;> omega)
  ·trivial
def zO6 : Con Tryz.prog := yD mo g0 [zZk] [] 45 zIW (fn := Tryz.f45) trivial (fun a hw h => yT (by kernel_rfl) (zO4 a.1 a.2.1 hw h) rfl)
@[reducible] def zFt : LB := ⟨[], ⟨25, [], [(1, vd .bool), (5, vo zJ), (9, vd (.lst zJ)), (10, vd .int), (11, vd .int)]⟩, ⟨25, [], []⟩, 0, fun x => (fun (b1 : Bool) (l5 : List (El zJ)) (l9 : List (El zJ)) (n10 : Int) (n11 : Int) => (bif decide (n11 < n10) then (.ix n11 l9 (bif ((zB zJ l9 n11).2.2 == b1) then (.ck (((l5.length + [(zB zJ l9 n11)].length : Nat) : Int) ≤ 16777216) (.ik (n11 + (1 : Int)) (.v (.go (b1, (l5 ++ [(zB zJ l9 n11)]), l9, n10, (n11 + (1 : Int)), ()))))) else (.ik (n11 + (1 : Int)) (.v (.go (b1, l5, l9, n10, (n11 + (1 : Int)), ())))))) else (.v (.brk (b1, l5, l9, n10, n11, ()))) : Tr (St _ _))) x.1 x.2.1 x.2.2.1 x.2.2.2.1 x.2.2.2.2.1⟩
theorem zM7 (b1 : Bool) (l9 : List (El zJ)) (l5 : List (El zJ)) : LB.run zFt (b1, l5, l9, (l9.length : Int), (0 : Int), ()) = .brk (b1, (zg (fun _ x (s : (List (El zJ))) => bif (x.2.2 == b1) then (s ++ [x]) else s) 0 l9 l5), l9, (l9.length : Int), (l9.length : Int), ()) := LB.run_fold (l := zFt) (fun i s => (b1, s, l9, (l9.length : Int), (i : Int), ())) (fun i x s h => by
  simp only [LB.b, zFt, zi, zQ, zR, cond_true, yM h, zG h]
  cases (x.2.2 == b1) <;> rfl) (fun s => by simp only [LB.b, zFt, xl]; rfl)
theorem zat : SF zFt fun x : Bool × List (El zJ) × List (El zJ) × Int × Int × Unit => (0 ≤ x.2.2.2.2.1 ∧ x.2.2.2.1 = (x.2.2.1.length : Int) ∧ (x.2.1.length : Int) ≤ x.2.2.2.2.1, x.2.2.2.1 - x.2.2.2.2.1) := xz (by
 rintro ⟨(b1 : Bool), (l5 : List (El zJ)), (l9 : List (El zJ)), (n10 : Int), (n11 : Int), ⟨⟩⟩ hI hw
 have _ : -9223372036854775808 ≤ n10 ∧ n10 ≤ 9223372036854775807 := zw hw.2.2.2.1
 have _ : (l9.length : Int) ≤ 16777216 := zE (hw.2.2.1.1)
 have _ : (l5.length : Int) ≤ 16777216 := zE (hw.2.1.1)
 simp [zFt] at hI ⊢
 repeat' first | intro _ | apply And.intro
 all_goals omega)
def zOA (a0 : El zC) (a1 : Bool) : Tr (List (El zJ) × Unit) := .lp zFt (a1, ([] : List (El zJ)), a0.2.2.1, (a0.2.2.1.length : Int), (0 : Int), ()) (fun _ => .bad) (fun t1 => .v (t1.2.1, ()))
def yV a0 a1 := (zOA a0 a1).val
@[reducible] def zdc : FnD := ⟨[va zC, vd .bool], [vo zJ], false, fun _ => none, fun a => yV a.1 a.2.1⟩
theorem zkp (a0 : El zC) (a1 : Bool) (_ : xG zdc.args (a0, a1, ())) : (zOA a0 a1).ok := by
 unfold zOA
 refine zI ?_ ?_
 ·exact zat _ ⟨by simp, by simp, by simp⟩
 ·refine vP (zM7 a1 a0.2.2.1 ([] : List (El zJ))) ?_
  try dsimp only
  trivial
def zle : Con Tryz.prog := yD mo g0 [] [zFt] 196 zdc (fn := Tryz.f196) ⟨lk, trivial⟩ (fun a hw _ => yT (by kernel_rfl) (zkp a.1 a.2.1 hw) rfl)
theorem zlo (a0 : El zC) (a1 : Bool) : yV a0 a1 = ((zg (fun _ x (s : (List (El zJ))) => bif (x.2.2 == a1) then (s ++ [x]) else s) 0 a0.2.2.1 ([] : List (El zJ))), ()) := by
 simp only [yV, zOA, zR, zx, zQ]
 rw [zM7, xf] <;> rfl
theorem zNi (r : El zC) (b : Bool) : (yV r b).1 = r.2.2.1.filter (fun p => p.2.2 == b) := by
 simp only [yV, zOA, zQ, zR, zx]
 rw [zM7]
 show zg (fun i x (s : (List (El zJ))) => bif (x.2.2 == b) then (s ++ [x]) else s) 0 r.2.2.1 [] = _
 rw [zJ9]; rfl
theorem zf0 {r : El zC} {b : Bool} {p : El zJ} (h : p ∈ (yV r b).1) : p ∈ r.2.2.1 := by
 rw [zNi] at h; exact (List.mem_filter.1 h).1
def znA (d : El zN) (s : El zH) : Prop := s.1.length ≤ 40 ∧ d.2.length ≤ 12 ∧ ∀ r ∈ d.2, (∀ p ∈ r.2.2.1, p.2.1.length ≤ 5) ∧ (yV r false).1.length ≤ 3
def xy : Con Tryz.prog := ⟨142, zHO zF false, zQ3 mo (fn := Tryz.f142) (t := 43) (u := 4) (e := 191) (p0 := "slices.go:355") (p1 := "slices.go:357") (p2 := "slices.go:358") (p3 := "slices.go:362") (by kernel_rfl) (by kernel_rfl) (by kernel_rfl) (by kernel_rfl) (by kernel_rfl) zF false (by kernel_rfl) (fun l => by kernel_rfl) (.inr rfl)⟩
@[reducible] def zBu : LB := ⟨[], ⟨22, [.d zK], [(1, vd .str), (4, .pt 0 0), (8, vd (.lst zF)), (9, vd .int), (10, vd .int)]⟩, ⟨22, [.d zK], [(4, .pt 0 0), (5, vd .bool)]⟩, 0, fun x => (fun (w0 : El zK) (s1 : ByteArray) (l8 : List (El zF)) (n9 : Int) (n10 : Int) => (bif decide (n10 < n9) then (.ix n10 l8 (bif ((zB zF l8 n10).1.toList == s1.toList) then (.v (.ret ((zB zF l8 n10).2, (), true, ()))) else (.ik (n10 + (1 : Int)) (.v (.go (w0, s1, (), l8, n9, (n10 + (1 : Int)), ())))))) else (.v (.brk (w0, s1, (), l8, n9, n10, ()))) : Tr (St _ _))) x.1 x.2.1 x.2.2.2.1 x.2.2.2.2.1 x.2.2.2.2.2.1⟩
theorem zWu (w0 : El zK) (s1 : ByteArray) (l8 : List (El zF)) : LB.run zBu (w0, s1, (), l8, (l8.length : Int), (0 : Int), ()) = zCY (yt (fun _ x => bif (x.1.toList == s1.toList) then (some (x.2, (), true, ())) else none) 0 l8) (w0, s1, (), l8, (l8.length : Int), (l8.length : Int), ()) := LB.run_scan (l := zBu) (fun i => (w0, s1, (), l8, (l8.length : Int), (i : Int), ())) (fun i x h => by
  simp only [LB.b, zBu, zi, zQ, zR, cond_true, yM h, zG h]
  cases (x.1.toList == s1.toList) <;> rfl) (by simp only [LB.b, zBu, xl]; rfl)
theorem zWT : SF zBu fun x : El zK × ByteArray × Unit × List (El zF) × Int × Int × Unit => (0 ≤ x.2.2.2.2.2.1 ∧ x.2.2.2.2.1 = (x.2.2.2.1.length : Int), x.2.2.2.2.1 - x.2.2.2.2.2.1) := xz (by
 rintro ⟨(w0 : El zK), (s1 : ByteArray), ⟨⟩, (l8 : List (El zF)), (n9 : Int), (n10 : Int), ⟨⟩⟩ hI hw
 have _ : -9223372036854775808 ≤ n9 ∧ n9 ≤ 9223372036854775807 := zw hw.2.2.2.2.1
 have _ : (l8.length : Int) ≤ 16777216 := zE (hw.2.2.2.1.1)
 simp [zBu] at hI ⊢
 repeat' first | intro _ | apply And.intro
 all_goals omega)
def zLd (a0 : List (El zF)) (a1 : ByteArray) : Tr (El zK × Bool × Unit) := .lp zBu (((0 : Int), ((0 : Int), (⟨#[]⟩ : ByteArray))), a1, (), a0, (a0.length : Int), (0 : Int), ()) (fun r1 => .v (r1.1, r1.2.2.1, ())) (fun _ => .v (((0 : Int), ((0 : Int), (⟨#[]⟩ : ByteArray))), false, ()))
def zFL a0 a1 := (zLd a0 a1).val
@[reducible] def zUD : FnD := ⟨[vd (.lst zF), vd .str], [va zK, vd .bool], true, fun _ => none, fun a => zFL a.1 a.2.1⟩
theorem zeN (a0 : List (El zF)) (a1 : ByteArray) (_ : xG zUD.args (a0, a1, ())) : (zLd a0 a1).ok := by
 unfold zLd
 refine zI ?_ ?_
 ·exact zWT _ ⟨by (dsimp only <;> omega), by (dsimp only <;> omega)⟩
 ·simp
def zUK : Con Tryz.prog := yD mo g0 [] [zBu] 241 zUD (fn := Tryz.f241) ⟨lk, trivial⟩ (fun a hw _ => yT (by kernel_rfl) (zeN a.1 a.2.1 hw) rfl)
theorem zek (a0 : List (El zF)) (a1 : ByteArray) : zFL a0 a1 = zCh (yt (fun _ x => bif (x.1.toList == a1.toList) then (some (x.2, (), true, ())) else none) 0 a0) (fun (r1 : zBu.r.T) => (r1.1, r1.2.2.1, ())) (((0 : Int), ((0 : Int), (⟨#[]⟩ : ByteArray))), false, ()) := by
 simp only [zFL, zLd, zR, zx, zQ]
 rw [zWu, xI] <;> rfl
@[reducible] def xa : LB := ⟨[1], ⟨83, [.d zt], [(2, vd (.lst zF)), (4, .pt 0 0), (8, vo zF), (33, vd (.lst zo)), (34, vd .int), (35, vd .int)]⟩, ⟨83, [], [(6, vo zF), (7, vd .bool)]⟩, 0, fun x => (fun (w0 : El zt) (l2 : List (El zF)) (l8 : List (El zF)) (l33 : List (El zo)) (n34 : Int) (n35 : Int) => (bif decide (n35 < n34) then (.ix n35 l33 (.ix n35 w0.2 (bif ((zB zo l33 n35).1 == (2 : Int)) then (bif (!(((zB zo l33 n35).2.2.1 == (zB zK w0.2 n35).1) && (((zB zo l33 n35).2.2.2.1 == (zB zK w0.2 n35).2.1) && (((zB zo l33 n35).2.2.2.2.toList == (zB zK w0.2 n35).2.2.toList) && true)))) then (.v (.ret (l2, false, ()))) else (.ik (n35 + (1 : Int)) (.v (.go (w0, l2, (), l8, l33, n34, (n35 + (1 : Int)), ()))))) else (bif ((zB zo l33 n35).1 == (1 : Int)) then (let y1 := (zFL l8 (zB zo l33 n35).2.1); bif y1.2.1 then (bif (!((y1.1.1 == (zB zK w0.2 n35).1) && ((y1.1.2.1 == (zB zK w0.2 n35).2.1) && ((y1.1.2.2.toList == (zB zK w0.2 n35).2.2.toList) && true)))) then (.v (.ret (l2, false, ()))) else (bif (!y1.2.1) then (.ck (((l8.length + [((zB zo l33 n35).2.1, (zB zK w0.2 n35))].length : Nat) : Int) ≤ 16777216) (.ik (n35 + (1 : Int)) (.v (.go (w0, l2, (), (l8 ++ [((zB zo l33 n35).2.1, (zB zK w0.2 n35))]), l33, n34, (n35 + (1 : Int)), ()))))) else (.ik (n35 + (1 : Int)) (.v (.go (w0, l2, (), l8, l33, n34, (n35 + (1 : Int)), ())))))) else (bif (!y1.2.1) then (.ck (((l8.length + [((zB zo l33 n35).2.1, (zB zK w0.2 n35))].length : Nat) : Int) ≤ 16777216) (.ik (n35 + (1 : Int)) (.v (.go (w0, l2, (), (l8 ++ [((zB zo l33 n35).2.1, (zB zK w0.2 n35))]), l33, n34, (n35 + (1 : Int)), ()))))) else (.ik (n35 + (1 : Int)) (.v (.go (w0, l2, (), l8, l33, n34, (n35 + (1 : Int)), ())))))) else (.ik (n35 + (1 : Int)) (.v (.go (w0, l2, (), l8, l33, n34, (n35 + (1 : Int)), ())))))))) else (.v (.brk (w0, l2, (), l8, l33, n34, n35, ()))) : Tr (St _ _))) x.1 x.2.1 x.2.2.2.1 x.2.2.2.2.1 x.2.2.2.2.2.1 x.2.2.2.2.2.2.1⟩
theorem zQa (w00 : El zt) (l20 : List (El zF)) (l80 : List (El zF)) (l330 : List (El zo)) (n340 : Int) (n350 : Int) (p0 : (l80.length : Int) ≤ (l20.length : Int) + n350 ∧ n350 ≤ n340) : (LB.run xa (w00, l20, (), l80, l330, n340, n350, ())).all (fun r => (r.1.length : Int) ≤ (l20.length : Int)) (fun (w0, l2, _, l8, l33, n34, n35, _) => w00 = w0 ∧ l20 = l2 ∧ l330 = l33 ∧ n340 = n34 ∧ ((l8.length : Int) ≤ (l2.length : Int) + n35 ∧ n35 ≤ n34)) (fun (w0, l2, _, l8, l33, n34, n35, _) => w00 = w0 ∧ l20 = l2 ∧ l330 = l33 ∧ n340 = n34 ∧ ((l8.length : Int) ≤ (l2.length : Int) + n35 ∧ n35 ≤ n34)) := by
 have H : ∀ (w0 : El zt) (l2 : List (El zF)) (l8 : List (El zF)) (l33 : List (El zo)) (n34 : Int) (n35 : Int), (w00 = w0 ∧ l20 = l2 ∧ l330 = l33 ∧ n340 = n34 ∧ ((l8.length : Int) ≤ (l2.length : Int) + n35 ∧ n35 ≤ n34)) → St.all (fun r => (r.1.length : Int) ≤ (l20.length : Int)) (fun (w0, l2, _, l8, l33, n34, n35, _) => w00 = w0 ∧ l20 = l2 ∧ l330 = l33 ∧ n340 = n34 ∧ ((l8.length : Int) ≤ (l2.length : Int) + n35 ∧ n35 ≤ n34)) (fun (w0, l2, _, l8, l33, n34, n35, _) => w00 = w0 ∧ l20 = l2 ∧ l330 = l33 ∧ n340 = n34 ∧ ((l8.length : Int) ≤ (l2.length : Int) + n35 ∧ n35 ≤ n34)) (xa.b (w0, l2, (), l8, l33, n34, n35, ())) := by
  intro w0 l2 l8 l33 n34 n35 hI
  obtain ⟨eq0, eq1, eq2, eq3, eq4⟩ := hI
  simp only [LB.b, xa, zi, zQ, zR]
  refine zj (fun h1 => ?_) (fun h1 => ?_)
  ·replace h1 : n35 < n34 := of_decide_eq_true h1
   refine zj (fun h2 => ?_) (fun h2 => ?_)
   ·replace h2 := zIe h2
    refine zj (fun h3 => ?_) (fun h3 => ?_)
    ·exact zKS (by subst_vars; dsimp only; omega)
    ·exact yg (show w00 = w0 ∧ l20 = l2 ∧ l330 = l33 ∧ n340 = n34 ∧ ((l8.length : Int) ≤ (l2.length : Int) + (n35 + (1 : Int)) ∧ (n35 + (1 : Int)) ≤ n34) from ⟨eq0, eq1, eq2, eq3, by first | omega | rfl | assumption | (simp <;> omega)⟩)
   ·replace h2 := zIw h2
    refine zj (fun h4 => ?_) (fun h4 => ?_)
    ·replace h4 := zIe h4
     refine zj (fun h5 => ?_) (fun h5 => ?_)
     ·refine zj (fun h6 => ?_) (fun h6 => ?_)
      ·exact zKS (by subst_vars; dsimp only; omega)
      ·refine zj (fun h7 => ?_) (fun h7 => ?_)
       ·exact yg (show w00 = w0 ∧ l20 = l2 ∧ l330 = l33 ∧ n340 = n34 ∧ (((l8 ++ [((zB zo l33 n35).2.1, (zB zK w0.2 n35))]).length : Int) ≤ (l2.length : Int) + (n35 + (1 : Int)) ∧ (n35 + (1 : Int)) ≤ n34) from ⟨eq0, eq1, eq2, eq3, by first | omega | rfl | assumption | (simp <;> omega)⟩)
       ·exact yg (show w00 = w0 ∧ l20 = l2 ∧ l330 = l33 ∧ n340 = n34 ∧ ((l8.length : Int) ≤ (l2.length : Int) + (n35 + (1 : Int)) ∧ (n35 + (1 : Int)) ≤ n34) from ⟨eq0, eq1, eq2, eq3, by first | omega | rfl | assumption | (simp <;> omega)⟩)
     ·refine zj (fun h8 => ?_) (fun h8 => ?_)
      ·exact yg (show w00 = w0 ∧ l20 = l2 ∧ l330 = l33 ∧ n340 = n34 ∧ (((l8 ++ [((zB zo l33 n35).2.1, (zB zK w0.2 n35))]).length : Int) ≤ (l2.length : Int) + (n35 + (1 : Int)) ∧ (n35 + (1 : Int)) ≤ n34) from ⟨eq0, eq1, eq2, eq3, by first | omega | rfl | assumption | (simp <;> omega)⟩)
      ·exact yg (show w00 = w0 ∧ l20 = l2 ∧ l330 = l33 ∧ n340 = n34 ∧ ((l8.length : Int) ≤ (l2.length : Int) + (n35 + (1 : Int)) ∧ (n35 + (1 : Int)) ≤ n34) from ⟨eq0, eq1, eq2, eq3, by first | omega | rfl | assumption | (simp <;> omega)⟩)
    ·replace h4 := zIw h4
     exact yg (show w00 = w0 ∧ l20 = l2 ∧ l330 = l33 ∧ n340 = n34 ∧ ((l8.length : Int) ≤ (l2.length : Int) + (n35 + (1 : Int)) ∧ (n35 + (1 : Int)) ≤ n34) from ⟨eq0, eq1, eq2, eq3, by first | omega | rfl | assumption | (simp <;> omega)⟩)
  ·replace h1 : ¬ (n35 < n34) := of_decide_eq_false h1
   exact zCd (show w00 = w0 ∧ l20 = l2 ∧ l330 = l33 ∧ n340 = n34 ∧ ((l8.length : Int) ≤ (l2.length : Int) + n35 ∧ n35 ≤ n34) from ⟨eq0, eq1, eq2, eq3, by first | omega | rfl | assumption | (simp <;> omega)⟩)
 exact LB.post (l := xa) (A := fun r => (r.1.length : Int) ≤ (l20.length : Int)) (fun (w0, l2, _, l8, l33, n34, n35, _) => w00 = w0 ∧ l20 = l2 ∧ l330 = l33 ∧ n340 = n34 ∧ ((l8.length : Int) ≤ (l2.length : Int) + n35 ∧ n35 ≤ n34)) (fun ⟨w0, l2, ⟨⟩, l8, l33, n34, n35, ⟨⟩⟩ hx => H w0 l2 l8 l33 n34 n35 hx) ⟨rfl, rfl, rfl, rfl, p0⟩
theorem zQv : SF xa fun x : El zt × List (El zF) × Unit × List (El zF) × List (El zo) × Int × Int × Unit => (0 ≤ x.2.2.2.2.2.2.1 ∧ x.2.2.2.2.2.1 = (x.2.2.2.2.1.length : Int) ∧ x.2.2.2.2.2.1 ≤ (x.1.2.length : Int) ∧ (x.2.2.2.1.length : Int) ≤ (x.2.1.length : Int) + x.2.2.2.2.2.2.1 ∧ (x.2.1.length : Int) + (x.2.2.2.2.1.length : Int) ≤ 16777216, x.2.2.2.2.2.1 - x.2.2.2.2.2.2.1) := xz (by
 rintro ⟨(w0 : El zt), (l2 : List (El zF)), ⟨⟩, (l8 : List (El zF)), (l33 : List (El zo)), (n34 : Int), (n35 : Int), ⟨⟩⟩ hI hw
 obtain ⟨i0, i1, i2, k0, k1⟩ := hI
 dsimp only at i0 i1 i2 k0 k1
 have _ : -9223372036854775808 ≤ n34 ∧ n34 ≤ 9223372036854775807 := zw hw.2.2.2.2.2.1
 have _ : (l33.length : Int) ≤ 16777216 := zE (hw.2.2.2.2.1.1)
 have _ : (l8.length : Int) ≤ 16777216 := zE (hw.2.2.2.1.1)
 simp [xa]
 repeat' first | intro _ | apply And.intro
 all_goals omega)
def zF6 (a0 : El zJ) (a1 : El zt) (a2 : List (El zF)) : Tr (List (El zF) × Bool × Unit) := bif (!(a1.1.toList == a0.1.toList)) then (.v (a2, false, ())) else (bif ((a1.2.length : Int) != (a0.2.1.length : Int)) then (.v (a2, false, ())) else (.lp xa (a1, a2, (), a2, a0.2.1, (a0.2.1.length : Int), (0 : Int), ()) (fun r3 => .v (r3.1, r3.2.1, ())) (fun t3 => .v (t3.2.2.2.1, true, ()))))
def vi a0 a1 a2 := (zF6 a0 a1 a2).val
def zFq (a0 : El zJ) (_a1 : El zt) (a2 : List (El zF)) : Prop := (a2.length : Int) + (a0.2.1.length : Int) ≤ 16777216
@[reducible] def zPQ : FnD := ⟨[va zJ, va zt, vd (.lst zF)], [vo zF, vd .bool], true, fun a => some (zFq a.1 a.2.1 a.2.2.1), fun a => vi a.1 a.2.1 a.2.2.1⟩
theorem zaB (a0 : El zJ) (a1 : El zt) (a2 : List (El zF)) (_ : xG zPQ.args (a0, a1, a2, ())) (hp : zFq a0 a1 a2) : (zF6 a0 a1 a2).ok := by
 unfold zFq at hp
 unfold zF6
 refine zp (fun _ => trivial) (fun h9 => ?_)
 refine zp (fun _ => trivial) (fun h10 => ?_)
 replace h10 := zAp h10
 refine zI ?_ ?_
 ·exact zQv _ ⟨by (dsimp only <;> first | omega | assumption | (simp <;> omega)), by (dsimp only <;> first | omega | assumption | (simp <;> omega)), by (dsimp only <;> first | omega | assumption | (simp <;> omega)), by (dsimp only <;> first | omega | assumption | (simp <;> omega)), by (dsimp only <;> first | omega | assumption | (simp <;> omega))⟩
 ·simp
def zPX : Con Tryz.prog := yD mo g0 [xy, zUK] [xa] 199 zPQ (fn := Tryz.f199) ⟨lk, trivial⟩ (fun a hw h => yT (by kernel_rfl) (zaB a.1 a.2.1 a.2.2.1 hw h) rfl)
theorem zZn (p : El zJ) (f : El zt) (l : List (El zF)) : ((vi p f l).1.length : Int) ≤ (l.length : Int) + (p.2.1.length : Int) := by
 simp only [vi, zF6, zi, zQ, zR, zx]
 cases h1 : (!(f.1.toList == p.1.toList)) with
 | true => show (l.length : Int) ≤ _; omega
 | false =>
  cases h2 : ((f.2.length : Int) != (p.2.1.length : Int)) with
  | true => show (l.length : Int) ≤ _; omega
  | false =>
   have := zQa f l l p.2.1 (p.2.1.length : Int) (0 : Int) (by constructor <;> omega)
   revert this
   cases (LB.run xa (f, l, (), l, p.2.1, (p.2.1.length : Int), (0 : Int), ())) with
   | ret r => obtain ⟨r1, r2, ⟨⟩⟩ := r; intro h; have h : (r1.length : Int) ≤ (l.length : Int) := h; show (r1.length : Int) ≤ _; omega
   | brk t => obtain ⟨t0, t1, ⟨⟩, t8, t9, t10, n, ⟨⟩⟩ := t; rintro ⟨rfl, rfl, rfl, rfl, h3, h4⟩; obtain ⟨n, rfl⟩ : ∃ y : Int, y = n := ⟨_, rfl⟩; replace h3 : (t8.length : Int) ≤ (l.length : Int) + n := h3; replace h4 : n ≤ (p.2.1.length : Int) := h4; show (t8.length : Int) ≤ _; omega
   | go t => obtain ⟨t0, t1, ⟨⟩, t8, t9, t10, n, ⟨⟩⟩ := t; rintro ⟨rfl, rfl, rfl, rfl, h3, h4⟩; obtain ⟨n, rfl⟩ : ∃ y : Int, y = n := ⟨_, rfl⟩; replace h3 : (t8.length : Int) ≤ (l.length : Int) + n := h3; replace h4 : n ≤ (p.2.1.length : Int) := h4; show (t8.length : Int) ≤ _; omega
@[reducible] def zDd : LB := ⟨[], ⟨32, [.d zJ], [(2, vd (.lst zF)), (3, .pt 0 0), (7, vd .int), (13, vd (.lst zD)), (14, vd .int), (15, vd .int)]⟩, ⟨32, [], []⟩, 0, fun x => (fun (w0 : El zJ) (l2 : List (El zF)) (n7 : Int) (l13 : List (El zD)) (n14 : Int) (n15 : Int) => (bif decide (n15 < n14) then (.ix n15 l13 (.ck (zFq w0 (zB zD l13 n15).2 l2) (bif (vi w0 (zB zD l13 n15).2 l2).2.1 then (.ik (n7 + (1 : Int)) (.ik (n15 + (1 : Int)) (.v (.go (w0, l2, (), (n7 + (1 : Int)), l13, n14, (n15 + (1 : Int)), ()))))) else (.ik (n15 + (1 : Int)) (.v (.go (w0, l2, (), n7, l13, n14, (n15 + (1 : Int)), ()))))))) else (.v (.brk (w0, l2, (), n7, l13, n14, n15, ()))) : Tr (St _ _))) x.1 x.2.1 x.2.2.2.1 x.2.2.2.2.1 x.2.2.2.2.2.1 x.2.2.2.2.2.2.1⟩
theorem zNh (w0 : El zJ) (l2 : List (El zF)) (l13 : List (El zD)) (n7 : Int) : LB.run zDd (w0, l2, (), n7, l13, (l13.length : Int), (0 : Int), ()) = .brk (w0, l2, (), (zg (fun _ x (s : Int) => bif (vi w0 x.2 l2).2.1 then (s + (1 : Int)) else s) 0 l13 n7), l13, (l13.length : Int), (l13.length : Int), ()) := LB.run_fold (l := zDd) (fun i s => (w0, l2, (), s, l13, (l13.length : Int), (i : Int), ())) (fun i x s h => by
  simp only [LB.b, zDd, zi, zQ, zR, cond_true, yM h, zG h]
  cases (vi w0 x.2 l2).2.1 <;> rfl) (fun s => by simp only [LB.b, zDd, xl]; rfl)
theorem zVk : SF zDd fun x : El zJ × List (El zF) × Unit × Int × List (El zD) × Int × Int × Unit => (0 ≤ x.2.2.2.2.2.2.1 ∧ x.2.2.2.2.2.1 = (x.2.2.2.2.1.length : Int) ∧ (0 ≤ x.2.2.2.1 ∧ x.2.2.2.1 ≤ x.2.2.2.2.2.2.1) ∧ (x.2.1.length : Int) + (x.1.2.1.length : Int) ≤ 16777216, x.2.2.2.2.2.1 - x.2.2.2.2.2.2.1) := xz (by
 rintro ⟨(w0 : El zJ), (l2 : List (El zF)), ⟨⟩, (n7 : Int), (l13 : List (El zD)), (n14 : Int), (n15 : Int), ⟨⟩⟩ hI hw
 obtain ⟨i0, i1, i2, k0⟩ := hI
 dsimp only at i0 i1 i2 k0
 have _ : -9223372036854775808 ≤ n7 ∧ n7 ≤ 9223372036854775807 := zw hw.2.2.2.1
 have _ : -9223372036854775808 ≤ n14 ∧ n14 ≤ 9223372036854775807 := zw hw.2.2.2.2.2.1
 have _ : (l13.length : Int) ≤ 16777216 := zE (hw.2.2.2.2.1.1)
 simp [zDd]
 repeat' first | exact k0 | assumption | intro _ | apply And.intro
 all_goals omega)
def zLN (a0 : El zJ) (a1 : El zH) (a2 : List (El zF)) : Tr (Int × Unit) := .lp zDd (a0, a2, (), (0 : Int), a1.1, (a1.1.length : Int), (0 : Int), ()) (fun _ => .bad) (fun t2 => .v (t2.2.2.2.1, ()))
def zEI a0 a1 a2 := (zLN a0 a1 a2).val
def zLn (a0 : El zJ) (_a1 : El zH) (a2 : List (El zF)) : Prop := (a2.length : Int) + (a0.2.1.length : Int) ≤ 16777216
@[reducible] def zVB : FnD := ⟨[va zJ, va zH, vd (.lst zF)], [vd .int], true, fun a => some (zLn a.1 a.2.1 a.2.2.1), fun a => zEI a.1 a.2.1 a.2.2.1⟩
theorem zgN (a0 : El zJ) (a1 : El zH) (a2 : List (El zF)) (_ : xG zVB.args (a0, a1, a2, ())) (hp : zLn a0 a1 a2) : (zLN a0 a1 a2).ok := by
 unfold zLn at hp
 unfold zLN
 refine zI ?_ ?_
 ·exact zVk _ ⟨by (dsimp only <;> first | omega | assumption | (simp <;> omega)), by (dsimp only <;> first | omega | assumption | (simp <;> omega)), by (dsimp only <;> first | omega | assumption | (simp <;> omega)), by (dsimp only <;> first | omega | assumption | (simp <;> omega))⟩
 ·refine vP (zNh a0 a2 a1.1 (0 : Int)) ?_
  try dsimp only
  trivial
def zg0 : Con Tryz.prog := yD mo g0 [zPX] [zDd] 239 zVB (fn := Tryz.f239) ⟨lk, trivial⟩ (fun a hw h => yT (by kernel_rfl) (zgN a.1 a.2.1 a.2.2.1 hw h) rfl)
theorem zft (a0 : El zJ) (a1 : El zH) (a2 : List (El zF)) : zEI a0 a1 a2 = ((zg (fun _ x (s : Int) => bif (vi a0 x.2 a2).2.1 then (s + (1 : Int)) else s) 0 a1.1 (0 : Int)), ()) := by
 simp only [zEI, zLN, zR, zx, zQ]
 rw [zNh, xf] <;> rfl
@[reducible] def zBf : LB := ⟨[1], ⟨26, [.d zH], [(2, vd (.lst zF)), (4, .pt 0 0), (10, vd (.lst zJ)), (11, vd .int), (12, vd .int)]⟩, ⟨26, [], [(6, vd .bool)]⟩, 0, fun x => (fun (w0 : El zH) (l2 : List (El zF)) (l10 : List (El zJ)) (n11 : Int) (n12 : Int) => (bif decide (n12 < n11) then (.ix n12 l10 (bif (zB zJ l10 n12).2.2 then (.ck (zLn (zB zJ l10 n12) w0 l2) (bif decide ((zEI (zB zJ l10 n12) w0 l2).1 > (0 : Int)) then (.v (.ret (true, ()))) else (.ik (n12 + (1 : Int)) (.v (.go (w0, l2, (), l10, n11, (n12 + (1 : Int)), ())))))) else (.ik (n12 + (1 : Int)) (.v (.go (w0, l2, (), l10, n11, (n12 + (1 : Int)), ())))))) else (.v (.brk (w0, l2, (), l10, n11, n12, ()))) : Tr (St _ _))) x.1 x.2.1 x.2.2.2.1 x.2.2.2.2.1 x.2.2.2.2.2.1⟩
theorem zTq (w0 : El zH) (l2 : List (El zF)) (l10 : List (El zJ)) : LB.run zBf (w0, l2, (), l10, (l10.length : Int), (0 : Int), ()) = bif zd (fun _ x => bif x.2.2 then (bif (decide ((zEI x w0 l2).1 > (0 : Int))) then false else true) else true) 0 l10 then .brk (w0, l2, (), l10, (l10.length : Int), (l10.length : Int), ()) else .ret (true, ()) := LB.run_all (l := zBf) (fun i => (w0, l2, (), l10, (l10.length : Int), (i : Int), ())) (fun i x h => by
  simp only [LB.b, zBf, zi, zQ, zR, cond_true, yM h, zG h]
  cases x.2.2
  ·rfl
  ·cases (decide ((zEI x w0 l2).1 > (0 : Int))) <;> rfl) (by simp only [LB.b, zBf, xl]; rfl)
theorem zS3 : SF zBf fun x : El zH × List (El zF) × Unit × List (El zJ) × Int × Int × Unit => (0 ≤ x.2.2.2.2.2.1 ∧ x.2.2.2.2.1 = (x.2.2.2.1.length : Int) ∧ ∀ p ∈ x.2.2.2.1, (x.2.1.length : Int) + (p.2.1.length : Int) ≤ 16777216, x.2.2.2.2.1 - x.2.2.2.2.2.1) := xz (by
 rintro ⟨(w0 : El zH), (l2 : List (El zF)), ⟨⟩, (l10 : List (El zJ)), (n11 : Int), (n12 : Int), ⟨⟩⟩ hI hw
 obtain ⟨i0, i1, k0⟩ := hI
 dsimp only at i0 i1 k0
 have _ : -9223372036854775808 ≤ n11 ∧ n11 ≤ 9223372036854775807 := zw hw.2.2.2.2.1
 have _ : (l10.length : Int) ≤ 16777216 := zE (hw.2.2.2.1.1)
 simp [zBf, -Prod.forall]
 repeat' first | exact k0 _ (z4 (by omega)) | assumption | intro _ | apply And.intro
 all_goals omega)
def zKT (a0 : El zC) (a1 : El zH) (a2 : List (El zF)) : Tr (Bool × Unit) := .lp zBf (a1, a2, (), a0.2.2.1, (a0.2.2.1.length : Int), (0 : Int), ()) (fun r2 => .v (r2.1, ())) (fun _ => .v (false, ()))
def zFH a0 a1 a2 := (zKT a0 a1 a2).val
def zJf (a0 : El zC) (_a1 : El zH) (a2 : List (El zF)) : Prop := ∀ p ∈ a0.2.2.1, (a2.length : Int) + (p.2.1.length : Int) ≤ 16777216
@[reducible] def zRf : FnD := ⟨[va zC, va zH, vd (.lst zF)], [vd .bool], true, fun a => some (zJf a.1 a.2.1 a.2.2.1), fun a => zFH a.1 a.2.1 a.2.2.1⟩
theorem za9 (a0 : El zC) (a1 : El zH) (a2 : List (El zF)) (_ : xG zRf.args (a0, a1, a2, ())) (hp : zJf a0 a1 a2) : (zKT a0 a1 a2).ok := by
 unfold zJf at hp
 unfold zKT
 refine zI ?_ ?_
 ·exact zS3 _ ⟨by (dsimp only <;> first | omega | assumption | (simp <;> omega)), by (dsimp only <;> first | omega | assumption | (simp <;> omega)), by (dsimp only <;> first | omega | assumption | (simp <;> omega))⟩
 ·simp
def zcp : Con Tryz.prog := yD mo g0 [zg0] [zBf] 197 zRf (fn := Tryz.f197) ⟨lk, trivial⟩ (fun a hw h => yT (by kernel_rfl) (za9 a.1 a.2.1 a.2.2.1 hw h) rfl)
theorem zbT (a0 : El zC) (a1 : El zH) (a2 : List (El zF)) : zFH a0 a1 a2 = bif zd (fun _ x => bif x.2.2 then (bif (decide ((zEI x a1 a2).1 > (0 : Int))) then false else true) else true) 0 a0.2.2.1 then (false, ()) else (true, ()) := by
 simp only [zFH, zKT, zR, zx, zQ]
 rw [zTq, z7] <;> rfl
def zLF (a0 : El zo) (a1 : List (El zF)) : Tr (El zK × Bool × Unit) := bif (a0.1 == (2 : Int)) then (.v (a0.2.2, true, ())) else (bif (a0.1 == (1 : Int)) then (.v ((zFL a1 a0.2.1).1, (zFL a1 a0.2.1).2.1, ())) else (.v (((0 : Int), ((0 : Int), (⟨#[]⟩ : ByteArray))), false, ())))
def xb a0 a1 := (zLF a0 a1).val
@[reducible] def zd2 : FnD := ⟨[va zo, vd (.lst zF)], [va zK, vd .bool], true, fun _ => none, fun a => xb a.1 a.2.1⟩
def zgY : Con Tryz.prog := yD mo g0 [zUK] [] 266 zd2 (fn := Tryz.f266) trivial (fun a _ _ => yT (t' := zLF a.1 a.2.1) (by kernel_rfl) (by simp [zLF]) rfl)
def zB3 (a0 : Int) : Bool × Unit := ((a0 != a0), ())
@[reducible] def zPw : FnD := ⟨[vd .int], [vd .bool], true, fun _ => none, fun a => zB3 a.1⟩
def zPl : Con Tryz.prog := yD mo g0 [] [] 265 zPw (fn := Tryz.f265) trivial (fun _ _ _ => okv (by kernel_rfl))
def zCc (a0 : Int) (a1 : Int) : Tr (Int × Unit) := bif (zB3 a0).1 then (bif (zB3 a1).1 then (.v ((0 : Int), ())) else (.v ((-1 : Int), ()))) else (bif (zB3 a1).1 then (.v ((1 : Int), ())) else (bif decide (a0 < a1) then (.v ((-1 : Int), ())) else (bif decide (a0 > a1) then (.v ((1 : Int), ())) else (.v ((0 : Int), ())))))
def z0 a0 a1 := (zCc a0 a1).val
@[reducible] def zN9 : FnD := ⟨[vd .int, vd .int], [vd .int], true, fun _ => none, fun a => z0 a.1 a.2.1⟩
def zEr : Con Tryz.prog := yD mo g0 [zPl] [] 237 zN9 (fn := Tryz.f237) trivial (fun a _ _ => yT (t' := zCc a.1 a.2.1) (by kernel_rfl) (by simp [zCc]) rfl)
def zAS (a0 : ByteArray) : Bool × Unit := ((!(a0.toList == a0.toList)), ())
@[reducible] def zM9 : FnD := ⟨[vd .str], [vd .bool], true, fun _ => none, fun a => zAS a.1⟩
def zM4 : Con Tryz.prog := yD mo g0 [] [] 283 zM9 (fn := Tryz.f283) trivial (fun _ _ _ => okv (by kernel_rfl))
def zAg (a0 : ByteArray) (a1 : ByteArray) : Tr (Int × Unit) := bif (zAS a0).1 then (bif (zAS a1).1 then (.v ((0 : Int), ())) else (.v ((-1 : Int), ()))) else (bif (zAS a1).1 then (.v ((1 : Int), ())) else (bif (Op.bytesLess a0.toList a1.toList) then (.v ((-1 : Int), ())) else (bif (!((Op.bytesLess a0.toList a1.toList) || (a0.toList == a1.toList))) then (.v ((1 : Int), ())) else (.v ((0 : Int), ())))))
def zAn a0 a1 := (zAg a0 a1).val
@[reducible] def zKn : FnD := ⟨[vd .str, vd .str], [vd .int], true, fun _ => none, fun a => zAn a.1 a.2.1⟩
def zK6 : Con Tryz.prog := yD mo g0 [zM4] [] 282 zKn (fn := Tryz.f282) trivial (fun a _ _ => yT (t' := zAg a.1 a.2.1) (by kernel_rfl) (by simp [zAg]) rfl)
@[reducible] def vf : LB := ⟨[], ⟨18, [], [(3, vd .int), (6, vd (.lst .int)), (7, vd .int), (8, vd .int)]⟩, ⟨18, [], [(2, vd .int)]⟩, 0, fun x => (fun (n3 : Int) (l6 : List (El .int)) (n7 : Int) (n8 : Int) => (bif decide (n8 < n7) then (.ix n8 l6 (bif ((zB .int l6 n8) != n3) then (.v (.ret ((zB .int l6 n8), ()))) else (.ik (n8 + (1 : Int)) (.v (.go (n3, l6, n7, (n8 + (1 : Int)), ())))))) else (.v (.brk (n3, l6, n7, n8, ()))) : Tr (St _ _))) x.1 x.2.1 x.2.2.1 x.2.2.2.1⟩
theorem zPp (n3 : Int) (l6 : List (El .int)) : LB.run vf (n3, l6, (l6.length : Int), (0 : Int), ()) = zCY (yt (fun _ x => bif (x != n3) then (some (x, ())) else none) 0 l6) (n3, l6, (l6.length : Int), (l6.length : Int), ()) := LB.run_scan (l := vf) (fun i => (n3, l6, (l6.length : Int), (i : Int), ())) (fun i x h => by
  simp only [LB.b, vf, zi, zQ, zR, cond_true, yM h, zG h]
  cases (x != n3) <;> rfl) (by simp only [LB.b, vf, xl]; rfl)
theorem zPs : SF vf fun x : Int × List (El .int) × Int × Int × Unit => (0 ≤ x.2.2.2.1 ∧ x.2.2.1 = (x.2.1.length : Int), x.2.2.1 - x.2.2.2.1) := xz (by
 rintro ⟨(n3 : Int), (l6 : List (El .int)), (n7 : Int), (n8 : Int), ⟨⟩⟩ hI hw
 have _ : -9223372036854775808 ≤ n3 ∧ n3 ≤ 9223372036854775807 := zw hw.1
 have _ : -9223372036854775808 ≤ n7 ∧ n7 ≤ 9223372036854775807 := zw hw.2.2.1
 have _ : (l6.length : Int) ≤ 16777216 := zE (hw.2.1.1)
 simp [vf] at hI ⊢
 repeat' first | intro _ | apply And.intro
 all_goals omega)
def zGZ (a0 : List (El .int)) : Tr (Int × Unit) := .lp vf ((0 : Int), a0, (a0.length : Int), (0 : Int), ()) (fun r1 => .v (r1.1, ())) (fun t1 => .v (t1.1, ()))
def zAA a0 := (zGZ a0).val
@[reducible] def zOX : FnD := ⟨[vd (.lst .int)], [vd .int], true, fun _ => none, fun a => zAA a.1⟩
theorem zVi (a0 : List (El .int)) (_ : xG zOX.args (a0, ())) : (zGZ a0).ok := by
 unfold zGZ
 refine zI ?_ ?_
 ·exact zPs _ ⟨by (dsimp only <;> omega), by (dsimp only <;> omega)⟩
 ·simp
def zNj : Con Tryz.prog := yD mo g0 [] [vf] 236 zOX (fn := Tryz.f236) ⟨lk, trivial⟩ (fun a hw _ => yT (by kernel_rfl) (zVi a.1 hw) rfl)
theorem zNS (a0 : List (El .int)) : zAA a0 = zCh (yt (fun _ x => bif (x != (0 : Int)) then (some (x, ())) else none) 0 a0) (fun (r1 : vf.r.T) => (r1.1, ())) ((0 : Int), ()) := by
 simp only [zAA, zGZ, zR, zx, zQ]
 rw [zPp, xI] <;> rfl
def zHS (a0 : El zK) (a1 : El zK) : Int × Unit := ((zAA [(z0 a0.1 a1.1).1, (z0 a0.2.1 a1.2.1).1, (zAn a0.2.2 a1.2.2).1]).1, ())
@[reducible] def zQe : FnD := ⟨[va zK, va zK], [vd .int], true, fun _ => none, fun a => zHS a.1 a.2.1⟩
def zSW : Con Tryz.prog := yD mo g0 [zEr, zK6, zNj] [] 280 zQe (fn := Tryz.f280) trivial (fun _ _ _ => okv (by kernel_rfl))
def zJj (a0 : El zK) (a1 : El zK) : Bool × Unit := (decide ((zHS a0 a1).1 < (0 : Int)), ())
@[reducible] def zbE : FnD := ⟨[va zK, va zK], [vd .bool], true, fun _ => none, fun a => zJj a.1 a.2.1⟩
def zcz : Con Tryz.prog := yD mo g0 [zSW] [] 267 zbE (fn := Tryz.f267) trivial (fun _ _ _ => okv (by kernel_rfl))
def zNu (a0 : El zS) (a1 : List (El zF)) : Tr (Bool × Unit) := bif (!(xb a0.2.1 a1).2.1) then (.v (false, ())) else (bif (!(xb a0.2.2 a1).2.1) then (.v (false, ())) else (bif (a0.1 == (1 : Int)) then (.v ((((xb a0.2.1 a1).1.1 == (xb a0.2.2 a1).1.1) && (((xb a0.2.1 a1).1.2.1 == (xb a0.2.2 a1).1.2.1) && (((xb a0.2.1 a1).1.2.2.toList == (xb a0.2.2 a1).1.2.2.toList) && true))), ())) else (bif (a0.1 == (2 : Int)) then (.v ((!(((xb a0.2.1 a1).1.1 == (xb a0.2.2 a1).1.1) && (((xb a0.2.1 a1).1.2.1 == (xb a0.2.2 a1).1.2.1) && (((xb a0.2.1 a1).1.2.2.toList == (xb a0.2.2 a1).1.2.2.toList) && true)))), ())) else (bif (a0.1 == (3 : Int)) then (.v ((zJj (xb a0.2.1 a1).1 (xb a0.2.2 a1).1).1, ())) else (.v (false, ()))))))
def zHX a0 a1 := (zNu a0 a1).val
@[reducible] def ziq : FnD := ⟨[va zS, vd (.lst zF)], [vd .bool], true, fun _ => none, fun a => zHX a.1 a.2.1⟩
def zit : Con Tryz.prog := yD mo g0 [zgY, zcz] [] 240 ziq (fn := Tryz.f240) trivial (fun a _ _ => yT (t' := zNu a.1 a.2.1) (by kernel_rfl) (by simp [zNu]) rfl)
@[reducible] def zBQ : LB := ⟨[], ⟨18, [], [(1, vd (.lst zF)), (7, vd (.lst zS)), (8, vd .int), (9, vd .int)]⟩, ⟨18, [], [(4, vd .bool)]⟩, 0, fun x => (fun (l1 : List (El zF)) (l7 : List (El zS)) (n8 : Int) (n9 : Int) => (bif decide (n9 < n8) then (.ix n9 l7 (bif (!(zHX (zB zS l7 n9) l1).1) then (.v (.ret (false, ()))) else (.ik (n9 + (1 : Int)) (.v (.go (l1, l7, n8, (n9 + (1 : Int)), ())))))) else (.v (.brk (l1, l7, n8, n9, ()))) : Tr (St _ _))) x.1 x.2.1 x.2.2.1 x.2.2.2.1⟩
theorem zTH (l1 : List (El zF)) (l7 : List (El zS)) : LB.run zBQ (l1, l7, (l7.length : Int), (0 : Int), ()) = bif zd (fun _ x => bif (!(zHX x l1).1) then false else true) 0 l7 then .brk (l1, l7, (l7.length : Int), (l7.length : Int), ()) else .ret (false, ()) := LB.run_all (l := zBQ) (fun i => (l1, l7, (l7.length : Int), (i : Int), ())) (fun i x h => by
  simp only [LB.b, zBQ, zi, zQ, zR, cond_true, yM h, zG h]
  cases (!(zHX x l1).1) <;> rfl) (by simp only [LB.b, zBQ, xl]; rfl)
theorem zTU : SF zBQ fun x : List (El zF) × List (El zS) × Int × Int × Unit => (0 ≤ x.2.2.2.1 ∧ x.2.2.1 = (x.2.1.length : Int), x.2.2.1 - x.2.2.2.1) := xz (by
 rintro ⟨(l1 : List (El zF)), (l7 : List (El zS)), (n8 : Int), (n9 : Int), ⟨⟩⟩ hI hw
 have _ : -9223372036854775808 ≤ n8 ∧ n8 ≤ 9223372036854775807 := zw hw.2.2.1
 have _ : (l7.length : Int) ≤ 16777216 := zE (hw.2.1.1)
 simp [zBQ] at hI ⊢
 repeat' first | intro _ | apply And.intro
 all_goals omega)
def zKY (a0 : List (El zS)) (a1 : List (El zF)) : Tr (Bool × Unit) := .lp zBQ (a1, a0, (a0.length : Int), (0 : Int), ()) (fun r2 => .v (r2.1, ())) (fun _ => .v (true, ()))
def zFS a0 a1 := (zKY a0 a1).val
@[reducible] def zQn : FnD := ⟨[vd (.lst zS), vd (.lst zF)], [vd .bool], true, fun _ => none, fun a => zFS a.1 a.2.1⟩
theorem zb7 (a0 : List (El zS)) (a1 : List (El zF)) (_ : xG zQn.args (a0, a1, ())) : (zKY a0 a1).ok := by
 unfold zKY
 refine zI ?_ ?_
 ·exact zTU _ ⟨by (dsimp only <;> omega), by (dsimp only <;> omega)⟩
 ·simp
def zbg : Con Tryz.prog := yD mo g0 [zit] [zBQ] 198 zQn (fn := Tryz.f198) ⟨lk, trivial⟩ (fun a hw _ => yT (by kernel_rfl) (zb7 a.1 a.2.1 hw) rfl)
theorem zco (a0 : List (El zS)) (a1 : List (El zF)) : zFS a0 a1 = bif zd (fun _ x => bif (!(zHX x a1).1) then false else true) 0 a0 then (true, ()) else (false, ()) := by
 simp only [zFS, zKY, zR, zx, zQ]
 rw [zTH, z7] <;> rfl
def zEo : Con Tryz.prog := ⟨141, zHO .int false, zQ3 mo (fn := Tryz.f141) (t := 42) (u := 4) (e := 3) (p0 := "slices.go:355") (p1 := "slices.go:357") (p2 := "slices.go:358") (p3 := "slices.go:362") (by kernel_rfl) (by kernel_rfl) (by kernel_rfl) (by kernel_rfl) (by kernel_rfl) .int false (by kernel_rfl) (fun l => by kernel_rfl) (.inr rfl)⟩
@[reducible] def yN (F : List (El zA) → El zC → El zH → List (El .int) → List (El zF) → List (El zA) × Unit) (Q : List (El zA) → El zC → El zH → List (El .int) → List (El zF) → Prop) : LB := ⟨[0, 2, 3], ⟨77, [.o (.d zA), .d zC, .d zH], [(0, .pt 0 0), (3, vd (.lst .int)), (4, vd (.lst zF)), (6, .pt 1 0), (7, .pt 2 0), (10, vo zJ), (46, vd (.lst zD)), (47, vd .int), (48, vd .int)]⟩, ⟨77, [.o (.d zA)], []⟩, 0, fun x => (fun (w0 : List (El zA)) (w1 : El zC) (w2 : El zH) (l3 : List (El .int)) (l4 : List (El zF)) (l10 : List (El zJ)) (l46 : List (El zD)) (n47 : Int) (n48 : Int) => (bif decide (n48 < n47) then (.ix n48 l46 (.ix (l3.length : Int) l10 (.ck (zFq (zB zJ l10 (l3.length : Int)) (zB zD l46 n48).2 l4) (let y2 := (vi (zB zJ l10 (l3.length : Int)) (zB zD l46 n48).2 l4); bif y2.2.1 then (.ck (((l3.length + [(zB zD l46 n48).1].length : Nat) : Int) ≤ 16777216) (.ck (Q w0 w1 w2 (l3 ++ [(zB zD l46 n48).1]) y2.1) (.ik (n48 + (1 : Int)) (.v (.go ((F w0 w1 w2 (l3 ++ [(zB zD l46 n48).1]) y2.1).1, w1, w2, (), l3, l4, (), (), l10, l46, n47, (n48 + (1 : Int)), ())))))) else (.ik (n48 + (1 : Int)) (.v (.go (w0, w1, w2, (), l3, l4, (), (), l10, l46, n47, (n48 + (1 : Int)), ())))))))) else (.v (.brk (w0, w1, w2, (), l3, l4, (), (), l10, l46, n47, n48, ()))) : Tr (St _ _))) x.1 x.2.1 x.2.2.1 x.2.2.2.2.1 x.2.2.2.2.2.1 x.2.2.2.2.2.2.2.2.1 x.2.2.2.2.2.2.2.2.2.1 x.2.2.2.2.2.2.2.2.2.2.1 x.2.2.2.2.2.2.2.2.2.2.2.1⟩
def vU (F : List (El zA) → El zC → El zH → List (El .int) → List (El zF) → List (El zA) × Unit) (Q : List (El zA) → El zC → El zH → List (El .int) → List (El zF) → Prop) (a0 : List (El zA)) (a1 : El zC) (a2 : El zH) (a3 : List (El .int)) (a4 : List (El zF)) : Tr (List (El zA) × Unit) := bif ((a3.length : Int) == ((yV a1 false).1.length : Int)) then (.ck (zJf a1 a2 a4) (bif (!(zFH a1 a2 a4).1) then (bif (zFS a1.2.2.2.1 a4).1 then (.ck (((a0.length + [((0 : Int), (a3, a4))].length : Nat) : Int) ≤ 16777216) (.v ((a0 ++ [((0 : Int), (a3, a4))]), ()))) else (.v (a0, ()))) else (.v (a0, ())))) else (.lp (yN F Q) (a0, a1, a2, (), a3, a4, (), (), (yV a1 false).1, a2.1, (a2.1.length : Int), (0 : Int), ()) (fun r4 => .v (r4.1, ())) (fun t4 => .v (t4.1, ())))
def zEY : Nat → (List (El zA) → El zC → El zH → List (El .int) → List (El zF) → List (El zA) × Unit) × (List (El zA) → El zC → El zH → List (El .int) → List (El zF) → Prop)
 | 0 => (fun _ _ _ _ _ => default, fun _ _ _ _ _ => False)
 | n + 1 => (fun a0 a1 a2 a3 a4 => (vU (zEY n).1 (zEY n).2 a0 a1 a2 a3 a4).val, fun a0 a1 a2 a3 a4 => (vU (zEY n).1 (zEY n).2 a0 a1 a2 a3 a4).ok)
def xd (n : Nat) : List (El zA) → El zC → El zH → List (El .int) → List (El zF) → List (El zA) × Unit := (zEY n).1
def xu (n : Nat) : List (El zA) → El zC → El zH → List (El .int) → List (El zF) → Prop := (zEY n).2
@[reducible] def zGu (n : Nat) : FnD := ⟨[.ref (.o (.d zA)), va zC, va zH, vd (.lst .int), vd (.lst zF)], [.ref (.o (.d zA))], false, fun a => some (xu n a.1 a.2.1 a.2.2.1 a.2.2.2.1 a.2.2.2.2.1), fun a => xd n a.1 a.2.1 a.2.2.1 a.2.2.2.1 a.2.2.2.2.1⟩
def zb4 (n : Nat) (ih : FnOk Tryz.prog 143 (zGu n)) : List (Con Tryz.prog) := ⟨143, zGu n, ih⟩ :: [zle, zcp, zbg, zEo, xy, zPX]
theorem zPI : ∀ n, FnOk Tryz.prog 143 (zGu n)
 | 0 => znP (by kernel_rfl) (fn := Tryz.f143) (by kernel_rfl) (c := (Tryz.f143.body.getD .skip)) (by kernel_rfl) (by kernel_rfl) fun _ h => h
 | n + 1 => zbN mo g0 (zb4 n (zPI n)) [yN (xd n) (xu n)] (fn := Tryz.f143) (by kernel_rfl) (c := (Tryz.f143.body.getD .skip)) (by kernel_rfl) (by kernel_rfl) (zGu (n + 1)) (by kernel_rfl) ⟨lk, trivial⟩ (fun a _ h => yT (t' := vU (xd n) (xu n) a.1 a.2.1 a.2.2.1 a.2.2.2.1 a.2.2.2.2.1) (by kernel_rfl) h rfl)
def zaf : Con Tryz.prog := ⟨143, zGu 64, zPI 64⟩
theorem zTB {F : List (El zA) → El zC → El zH → List (El .int) → List (El zF) → List (El zA) × Unit} {Q : List (El zA) → El zC → El zH → List (El .int) → List (El zF) → Prop} {r : El zC} {s : El zH} {ids : List (El .int)} {l : List (El zF)} {pos : List (El zJ)} {k : Nat}
  (hF : ∀ (w : List (El zA)) (x : Int) (y : List (El zF)), w.length + k ≤ 16777216 → (y.length : Int) ≤ 5 * (ids.length : Int) + 5 → Q w r s (ids ++ [x]) y ∧ (F w r s (ids ++ [x]) y).1.length ≤ w.length + k)
  (hpos : ids.length < pos.length) (hargs : ∀ p ∈ pos, p.2.1.length ≤ 5) (hl : l.length ≤ 5 * ids.length) (hids : ids.length ≤ 3) (hit : s.1.length ≤ 40) (w0 : List (El zA)) (h0 : w0.length + 40 * k ≤ 16777216) :
  LB.sf (yN F Q) (w0, r, s, (), ids, l, (), (), pos, s.1, (s.1.length : Int), (0 : Int), ()) ∧ (LB.run (yN F Q) (w0, r, s, (), ids, l, (), (), pos, s.1, (s.1.length : Int), (0 : Int), ())).all (fun t => t.1.length ≤ w0.length + 40 * k) (fun t => t.1.length ≤ w0.length + 40 * k) (fun t => t.1.length ≤ w0.length + 40 * k) := by
 have step : ∀ (w : List (El zA)) (n : Int), 0 ≤ n → n ≤ (s.1.length : Int) → w.length ≤ w0.length + n.toNat * k → ((yN F Q).T (w, r, s, (), ids, l, (), (), pos, s.1, (s.1.length : Int), n, ())).ok ∧
   St.all (fun (t : (yN F Q).r.T) => (t.1 : List (El zA)).length ≤ w0.length + 40 * k) (fun (t : (yN F Q).d.T) => (t.1 : List (El zA)).length ≤ w0.length + 40 * k) (fun y => n < (s.1.length : Int) ∧ ∃ w' : List (El zA), y = (w', r, s, (), ids, l, (), (), pos, s.1, (s.1.length : Int), (n + 1), ()) ∧ w'.length ≤ w0.length + (n + 1).toNat * k) ((yN F Q).b (w, r, s, (), ids, l, (), (), pos, s.1, (s.1.length : Int), n, ())) := by
  intro w n h1 h2 h3
  have hmem := z4 (t := zJ) (l := pos) (i := (ids.length : Int)) (by omega)
  have ha := hargs _ hmem
  have key : n < (s.1.length : Int) → n.toNat * k + k ≤ 40 * k ∧ (n + 1).toNat * k = n.toNat * k + k := fun h => by
   constructor
   ·rw [← Nat.succ_mul]; exact Nat.mul_le_mul_right k (by omega)
   ·rw [show (n + 1).toNat = n.toNat + 1 by omega, Nat.succ_mul]
  have hm : ∀ x : El zt, ((((vi (zB zJ pos (ids.length : Int)) x l).1.length : Nat)) : Int) ≤ 5 * (ids.length : Int) + 5 := fun x => by have := zZn (zB zJ pos (ids.length : Int)) x l; omega
  constructor
  ·dsimp only [yN]
   refine zp (fun h => ?_) (fun _ => trivial)
   replace h : n < (s.1.length : Int) := of_decide_eq_true h
   obtain ⟨k1, k2⟩ := key h
   have hq := hF w (zB zD s.1 n).1 _ (by omega) (hm (zB zD s.1 n).2)
   refine zI ⟨h1, h⟩ (zI ⟨by omega, by omega⟩ (zI ?_ (zp (fun _ => zI ?_ (zI hq.1 (zI (ink (by omega) (by omega)) trivial))) (fun _ => zI (ink (by omega) (by omega)) trivial))))
   ·show (l.length : Int) + ((zB zJ pos (ids.length : Int)).2.1.length : Int) ≤ 16777216
    omega
   ·show (((ids.length + 1 : Nat)) : Int) ≤ 16777216
    omega
  ·simp only [LB.b, yN, zi, zQ, zR]
   refine zj (fun h => ?_) (fun h => ?_)
   ·replace h : n < (s.1.length : Int) := of_decide_eq_true h
    obtain ⟨k1, k2⟩ := key h
    have hq := hF w (zB zD s.1 n).1 _ (by omega) (hm (zB zD s.1 n).2)
    refine zj (fun _ => ?_) (fun _ => ?_)
    ·exact yg ⟨h, _, rfl, by have := hq.2; omega⟩
    ·exact yg ⟨h, _, rfl, by omega⟩
   ·refine zCd ?_
    have : n.toNat * k ≤ 40 * k := Nat.mul_le_mul_right k (by omega)
    show w.length ≤ _
    omega
 have I0 : ∃ (w : List (El zA)) (n : Int), (w0, r, s, (), ids, l, (), (), pos, s.1, (s.1.length : Int), (0 : Int), ()) = ((w, r, s, (), ids, l, (), (), pos, s.1, (s.1.length : Int), n, ()) : (yN F Q).d.T) ∧ 0 ≤ n ∧ n ≤ (s.1.length : Int) ∧ w.length ≤ w0.length + n.toNat * k := ⟨w0, 0, rfl, by omega, by omega, by omega⟩
 constructor
 ·refine LB.safe' (l := yN F Q) (fun x => ∃ (w : List (El zA)) (n : Int), x = (w, r, s, (), ids, l, (), (), pos, s.1, (s.1.length : Int), n, ()) ∧ 0 ≤ n ∧ n ≤ (s.1.length : Int) ∧ w.length ≤ w0.length + n.toNat * k) (fun x => ((s.1.length : Int) - x.2.2.2.2.2.2.2.2.2.2.2.1).toNat) (fun x hx _ => ?_) I0 (fun _ => ?_)
  ·obtain ⟨w, n, rfl, h1, h2, h3⟩ := hx
   obtain ⟨g1, g2⟩ := step w n h1 h2 h3
   refine ⟨g1, ?_⟩
   show St.all _ _ _ ((yN F Q).b (w, r, s, (), ids, l, (), (), pos, s.1, (s.1.length : Int), n, ()))
   revert g2
   cases ((yN F Q).b (w, r, s, (), ids, l, (), (), pos, s.1, (s.1.length : Int), n, ())) with
   | ret t => intro _; exact trivial
   | brk t => intro _; exact trivial
   | go y =>
    rintro ⟨h4, w', rfl, h5⟩
    exact ⟨⟨w', n + 1, rfl, by omega, by omega, h5⟩, by show ((s.1.length : Int) - (n + 1)).toNat < ((s.1.length : Int) - n).toNat; omega⟩
  ·show ((s.1.length : Int) - 0).toNat < 18446744073709551616
   omega
 ·refine LB.post3 (l := yN F Q) (fun x => ∃ (w : List (El zA)) (n : Int), x = (w, r, s, (), ids, l, (), (), pos, s.1, (s.1.length : Int), n, ()) ∧ 0 ≤ n ∧ n ≤ (s.1.length : Int) ∧ w.length ≤ w0.length + n.toNat * k) (fun x hx => ?_) (fun x hx => ?_) I0
  ·obtain ⟨w, n, rfl, h1, h2, h3⟩ := hx
   obtain ⟨g1, g2⟩ := step w n h1 h2 h3
   show St.all _ _ _ ((yN F Q).b (w, r, s, (), ids, l, (), (), pos, s.1, (s.1.length : Int), n, ()))
   revert g2
   cases ((yN F Q).b (w, r, s, (), ids, l, (), (), pos, s.1, (s.1.length : Int), n, ())) with
   | ret t => intro h; exact h
   | brk t => intro h; exact h
   | go y =>
    rintro ⟨h4, w', rfl, h5⟩
    exact ⟨w', n + 1, rfl, by omega, by omega, h5⟩
  ·obtain ⟨w, n, rfl, h1, h2, h3⟩ := hx
   have : n.toNat * k ≤ 40 * k := Nat.mul_le_mul_right k (by omega)
   show w.length ≤ _
   omega
theorem zMw {r : El zC} {s : El zH} (hit : s.1.length ≤ 40) (hargs : ∀ p ∈ r.2.2.1, p.2.1.length ≤ 5) (hnp : (yV r false).1.length ≤ 3) : ∀ (n : Nat) (out : List (El zA)) (ids : List (El .int)) (l : List (El zF)), ids.length ≤ (yV r false).1.length → (yV r false).1.length - ids.length < n → l.length ≤ 5 * ids.length → out.length + 40 ^ ((yV r false).1.length - ids.length) ≤ 16777216 →
  xu n out r s ids l ∧ (xd n out r s ids l).1.length ≤ out.length + 40 ^ ((yV r false).1.length - ids.length) := by
 intro n
 induction n with
 | zero => intro out ids l h1 h2; omega
 | succ n ih =>
  intro out ids l h1 h2 h3 h4
  skip
  by_cases he : ids.length = (yV r false).1.length
  ·have hc : ((ids.length : Int) == ((yV r false).1.length : Int)) = true := by simp [he]
   have hz : 40 ^ ((yV r false).1.length - ids.length) = 1 := by rw [he, Nat.sub_self]
   rw [hz] at h4 ⊢
   constructor
   ·show (vU (xd n) (xu n) out r s ids l).ok
    unfold vU
    rw [hc]
    refine zI ?_ (zp (fun _ => zp (fun _ => zI ?_ trivial) (fun _ => trivial)) (fun _ => trivial))
    ·intro p hp; have := hargs p hp; omega
    ·show (((out.length + 1 : Nat)) : Int) ≤ 16777216
     omega
   ·show (vU (xd n) (xu n) out r s ids l).val.1.length ≤ _
    simp only [vU, zi, zQ, zR, zx]
    rw [hc]
    show ((bif _ then _ else _ : List (El zA) × Unit)).1.length ≤ _
    cases (!(zFH r s l).1) with
    | false => show out.length ≤ _; omega
    | true =>
     cases (zFS r.2.2.2.1 l).1 with
     | false => show out.length ≤ _; omega
     | true => show (out ++ [((0 : Int), (ids, l))]).length ≤ _; simp
  ·have hlt : ids.length < (yV r false).1.length := by omega
   have hc : ((ids.length : Int) == ((yV r false).1.length : Int)) = false := by simp; omega
   have hd : (yV r false).1.length - ids.length = ((yV r false).1.length - (ids.length + 1)) + 1 := by omega
   have hp : 40 ^ ((yV r false).1.length - ids.length) = 40 * 40 ^ ((yV r false).1.length - (ids.length + 1)) := by rw [hd, Nat.pow_succ, Nat.mul_comm]
   rw [hp] at h4 ⊢
   have L := zTB (F := xd n) (Q := xu n) (r := r) (s := s) (ids := ids) (l := l) (k := 40 ^ ((yV r false).1.length - (ids.length + 1))) (fun w x y hw hy => by
    have hl1 : (ids ++ [x]).length = ids.length + 1 := by simp
    have := ih w (ids ++ [x]) y (by omega) (by omega) (by omega) (by rw [hl1]; exact hw)
    rw [hl1] at this; exact this) hlt (fun p hp => hargs p (zf0 hp)) h3 (by omega) hit out h4
   constructor
   ·show (vU (xd n) (xu n) out r s ids l).ok
    unfold vU
    rw [hc]
    exact zI L.1 (zIQ (zZY _) (fun _ _ => trivial) (fun _ _ => trivial))
   ·show (vU (xd n) (xu n) out r s ids l).val.1.length ≤ _
    simp only [vU, zi, zQ, zR, zx]
    rw [hc]
    have L2 := L.2
    revert L2
    cases (LB.run (yN (xd n) (xu n)) (out, r, s, (), ids, l, (), (), (yV r false).1, s.1, (s.1.length : Int), (0 : Int), ())) with
    | ret t => intro h; exact h
    | brk t => intro h; exact h
    | go t => intro h; exact h
theorem zPv {r : El zC} {s : El zH} (h1 : s.1.length ≤ 40) (h2 : ∀ p ∈ r.2.2.1, p.2.1.length ≤ 5) (h3 : (yV r false).1.length ≤ 3) : xu 64 [] r s [] [] := by
 have hb : 40 ^ ((yV r false).1.length - 0) ≤ 64000 := Nat.le_trans (Nat.pow_le_pow_right (by decide) (show (yV r false).1.length - 0 ≤ 3 by omega)) (by decide)
 exact (zMw h1 h2 h3 64 [] [] [] (by simp) (by simp only [List.length_nil]; omega) (by simp) (by simp only [List.length_nil]; omega)).1
def zGT (a0 : El zC) (a1 : El zH) : Tr (List (El zA) × Unit) := .ck (xu 64 ([] : List (El zA)) a0 a1 ([] : List (El .int)) ([] : List (El zF))) (.v ((xd 64 ([] : List (El zA)) a0 a1 ([] : List (El .int)) ([] : List (El zF))).1, ()))
def yw a0 a1 := (zGT a0 a1).val
def zGS (a0 : El zC) (a1 : El zH) : Prop := a1.1.length ≤ 40 ∧ (∀ p ∈ a0.2.2.1, p.2.1.length ≤ 5) ∧ (yV a0 false).1.length ≤ 3
@[reducible] def zOV : FnD := ⟨[va zC, va zH], [vo zA], false, fun a => some (zGS a.1 a.2.1), fun a => yw a.1 a.2.1⟩
theorem zW7 (a0 : El zC) (a1 : El zH) (_ : xG zOV.args (a0, a1, ())) (hp : zGS a0 a1) : (zGT a0 a1).ok := by
 unfold zGS at hp
 unfold zGT
 refine zI ?_ ?_
 ·exact zPv hp.1 hp.2.1 hp.2.2
 ·simp
def zVV : Con Tryz.prog := yD mo g0 [zaf] [] 87 zOV (fn := Tryz.f87) trivial (fun a hw h => yT (by kernel_rfl) (zW7 a.1 a.2.1 hw h) rfl)
theorem xp {r : El zC} {s : El zH} (h1 : s.1.length ≤ 40) (h2 : ∀ p ∈ r.2.2.1, p.2.1.length ≤ 5) (h3 : (yV r false).1.length ≤ 3) : ((yw r s).1.length : Int) ≤ 64000 := by
 have hb : 40 ^ ((yV r false).1.length - 0) ≤ 64000 := Nat.le_trans (Nat.pow_le_pow_right (by decide) (show (yV r false).1.length - 0 ≤ 3 by omega)) (by decide)
 have := (zMw h1 h2 h3 64 [] [] [] (by simp) (by simp only [List.length_nil]; omega) (by simp) (by simp only [List.length_nil]; omega)).2
 simp only [List.length_nil] at this
 show ((xd 64 [] r s [] []).1.length : Int) ≤ 64000
 omega
end
end Go.Proofs.YtipbfgknaihifaaGreat
