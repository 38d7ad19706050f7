/- Parts of a proof. -/
import Derived.Test.YtipbfgknaihifaaGreatZc
import Derived.Test.YtipbfgknaihifaaGreatProg
import Derived.Eval
namespace Go.Proofs.YtipbfgknaihifaaGreat
open Go.RowKit
noncomputable section
theorem mo : Tryz.prog.follows .mixedOrders = true := by kernel_rfl
@[reducible] def zEH : LB := ⟨[], ⟨18, [], [(0, vd (.lst .str)), (1, vd .str), (5, vd .int)]⟩, ⟨18, [], [(4, vd .bool)]⟩, 0, fun x => (fun (l0 : List (El .str)) (s1 : ByteArray) (n5 : Int) => (bif decide (n5 < (l0.length : Int)) then (.ix n5 l0 (bif ((zB .str l0 n5).toList == s1.toList) then (.v (.ret (true, ()))) else (.ik (n5 + (1 : Int)) (.v (.go (l0, s1, (n5 + (1 : Int)), ())))))) else (.v (.brk (l0, s1, n5, ()))) : Tr (St _ _))) x.1 x.2.1 x.2.2.1⟩
theorem zX6 (l0 : List (El .str)) (s1 : ByteArray) : LB.run zEH (l0, s1, (0 : Int), ()) = bif ze (fun _ x => bif (x.toList == s1.toList) then false else true) 0 l0 then .brk (l0, s1, (l0.length : Int), ()) else .ret (true, ()) := LB.run_all (l := zEH) (fun i => (l0, s1, (i : Int), ())) (fun i x h => by
  simp only [LB.b, zEH, zi, zQ, zR, cond_true, yQ h, zG h]
  cases (x.toList == s1.toList) <;> rfl) (by simp only [LB.b, zEH, xo]; rfl)
theorem zYv : SF zEH fun x : List (El .str) × ByteArray × Int × Unit => (0 ≤ x.2.2.1, (x.1.length : Int) - x.2.2.1) := x5 (by
 rintro ⟨(l0 : List (El .str)), (s1 : ByteArray), (n5 : Int), ⟨⟩⟩ hI hw
 have _ : (l0.length : Int) ≤ 16777216 := zE (hw.1.1)
 simp [zEH] at hI ⊢
 repeat' first | intro _ | apply And.intro
 all_goals omega)
def zNF (a0 : List (El .str)) (a1 : ByteArray) : Tr (Bool × Unit) := .lp zEH (a0, a1, (0 : Int), ()) (fun r1 => .v (r1.1, ())) (fun _ => .v (false, ()))
def vq a0 a1 := (zNF a0 a1).val
@[reducible] def zXX : FnD := ⟨[vd (.lst .str), vd .str], [vd .bool], true, fun _ => none, fun a => vq a.1 a.2.1⟩
theorem zhV (a0 : List (El .str)) (a1 : ByteArray) (_ : xH zXX.args (a0, a1, ())) : (zNF a0 a1).ok := by
 unfold zNF
 refine zJ ?_ ?_
 ·exact zYv _ (by (dsimp only <;> omega))
 ·simp
def zQj : Con Tryz.prog := yE mo g0 [] [zEH] 159 zXX (fn := Tryz.f159) ⟨lk, trivial⟩ (fun a hw _ => yX (by kernel_rfl) (zhV a.1 a.2.1 hw) rfl)
theorem zi5 (a0 : List (El .str)) (a1 : ByteArray) : vq a0 a1 = bif ze (fun _ x => bif (x.toList == a1.toList) then false else true) 0 a0 then (false, ()) else (true, ()) := by
 simp only [vq, zNF, zR, zy, zQ]
 rw [zX6, z6] <;> rfl
@[reducible] def vP : LB := ⟨[], ⟨41, [.d zI], [(1, .pt 0 0), (3, vo .str), (4, vd .int)]⟩, ⟨41, [], []⟩, 0, fun x => (fun (w0 : El zI) (l3 : List (El .str)) (n4 : Int) => (bif decide (n4 < (w0.2.1.length : Int)) then (.ix n4 w0.2.1 (bif ((zB zj w0.2.1 n4).1 == (1 : Int)) then (.ix n4 w0.2.1 (bif (!(vq l3 (zB zj w0.2.1 n4).2.1).1) then (.ix n4 w0.2.1 (.ck (((l3.length + [(zB zj w0.2.1 n4).2.1].length : Nat) : Int) ≤ 16777216) (.ik (n4 + (1 : Int)) (.v (.go (w0, (), (l3 ++ [(zB zj w0.2.1 n4).2.1]), (n4 + (1 : Int)), ())))))) else (.ik (n4 + (1 : Int)) (.v (.go (w0, (), l3, (n4 + (1 : Int)), ())))))) else (.ik (n4 + (1 : Int)) (.v (.go (w0, (), l3, (n4 + (1 : Int)), ())))))) else (.v (.brk (w0, (), l3, n4, ()))) : Tr (St _ _))) x.1 x.2.2.1 x.2.2.2.1⟩
theorem zWB (w0 : El zI) (l3 : List (El .str)) : LB.run vP (w0, (), l3, (0 : Int), ()) = .brk (w0, (), (zc (fun _ x (s : (List (El .str))) => bif (x.1 == (1 : Int)) then (bif (!(vq s x.2.1).1) then (s ++ [x.2.1]) else s) else s) 0 w0.2.1 l3), (w0.2.1.length : Int), ()) := LB.run_fold (l := vP) (fun i s => (w0, (), s, (i : Int), ())) (fun i x s h => by
  simp only [LB.b, vP, zi, zQ, zR, cond_true, yQ h, zG h]
  cases (x.1 == (1 : Int))
  ·rfl
  ·cases (!(vq s x.2.1).1) <;> rfl) (fun s => by simp only [LB.b, vP, xo]; rfl)
theorem zNq (w00 : El zI) (l30 : List (El .str)) (n40 : Int) (p0 : (l30.length : Int) ≤ n40 ∧ n40 ≤ (w00.2.1.length : Int)) : (LB.run vP (w00, (), l30, n40, ())).all (fun _ => False) (fun (w0, _, l3, n4, _) => w00 = w0 ∧ ((l3.length : Int) ≤ n4 ∧ n4 ≤ (w0.2.1.length : Int))) (fun (w0, _, l3, n4, _) => w00 = w0 ∧ ((l3.length : Int) ≤ n4 ∧ n4 ≤ (w0.2.1.length : Int))) := by
 have H : ∀ (w0 : El zI) (l3 : List (El .str)) (n4 : Int), (w00 = w0 ∧ ((l3.length : Int) ≤ n4 ∧ n4 ≤ (w0.2.1.length : Int))) → St.all (fun _ => False) (fun (w0, _, l3, n4, _) => w00 = w0 ∧ ((l3.length : Int) ≤ n4 ∧ n4 ≤ (w0.2.1.length : Int))) (fun (w0, _, l3, n4, _) => w00 = w0 ∧ ((l3.length : Int) ≤ n4 ∧ n4 ≤ (w0.2.1.length : Int))) (vP.b (w0, (), l3, n4, ())) := by
  intro w0 l3 n4 hI
  obtain ⟨eq0, eq1⟩ := hI
  simp only [LB.b, vP, zi, zQ, zR]
  refine zd (fun h4 => ?_) (fun h4 => ?_)
  ·replace h4 : n4 < (w0.2.1.length : Int) := of_decide_eq_true h4
   refine zd (fun h5 => ?_) (fun h5 => ?_)
   ·replace h5 := zIZ h5
    refine zd (fun h6 => ?_) (fun h6 => ?_)
    ·exact yf (show w00 = w0 ∧ (((l3 ++ [(zB zj w0.2.1 n4).2.1]).length : Int) ≤ (n4 + (1 : Int)) ∧ (n4 + (1 : Int)) ≤ (w0.2.1.length : Int)) from ⟨eq0, by first | omega | rfl | assumption | (simp <;> omega)⟩)
    ·exact yf (show w00 = w0 ∧ ((l3.length : Int) ≤ (n4 + (1 : Int)) ∧ (n4 + (1 : Int)) ≤ (w0.2.1.length : Int)) from ⟨eq0, by first | omega | rfl | assumption | (simp <;> omega)⟩)
   ·replace h5 := zIp h5
    exact yf (show w00 = w0 ∧ ((l3.length : Int) ≤ (n4 + (1 : Int)) ∧ (n4 + (1 : Int)) ≤ (w0.2.1.length : Int)) from ⟨eq0, by first | omega | rfl | assumption | (simp <;> omega)⟩)
  ·replace h4 : ¬ (n4 < (w0.2.1.length : Int)) := of_decide_eq_false h4
   exact zCP (show w00 = w0 ∧ ((l3.length : Int) ≤ n4 ∧ n4 ≤ (w0.2.1.length : Int)) from ⟨eq0, by first | omega | rfl | assumption | (simp <;> omega)⟩)
 exact LB.post (l := vP) (A := fun _ => False) (fun (w0, _, l3, n4, _) => w00 = w0 ∧ ((l3.length : Int) ≤ n4 ∧ n4 ≤ (w0.2.1.length : Int))) (fun ⟨w0, ⟨⟩, l3, n4, ⟨⟩⟩ hx => H w0 l3 n4 hx) ⟨rfl, p0⟩
theorem zVa : SF vP fun x : El zI × Unit × List (El .str) × Int × Unit => (0 ≤ x.2.2.2.1 ∧ (x.2.2.1.length : Int) ≤ x.2.2.2.1, (x.1.2.1.length : Int) - x.2.2.2.1) := x5 (by
 rintro ⟨(w0 : El zI), ⟨⟩, (l3 : List (El .str)), (n4 : Int), ⟨⟩⟩ hI hw
 have _ : (w0.2.1.length : Int) ≤ 16777216 := zE (hw.1.2.1.1)
 have _ : (l3.length : Int) ≤ 16777216 := zE (hw.2.2.1.1)
 simp [vP] at hI ⊢
 repeat' first | intro _ | apply And.intro
 all_goals omega)
def zIk (a0 : El zI) : Tr (List (El .str) × Unit) := .lp vP (a0, (), ([] : List (El .str)), (0 : Int), ()) (fun _ => .bad) (fun t2 => .v (t2.2.2.1, ()))
def xf a0 := (zIk a0).val
@[reducible] def zT6 : FnD := ⟨[va zI], [vo .str], true, fun _ => none, fun a => xf a.1⟩
theorem zdE (a0 : El zI) (_ : xH zT6.args (a0, ())) : (zIk a0).ok := by
 unfold zIk
 refine zJ ?_ ?_
 ·exact zVa _ ⟨by simp, by simp⟩
 ·refine zID (A' := fun _ => False) (B' := fun (t2w0, _, t2l3, t2n4, _) => a0 = t2w0 ∧ ((t2l3.length : Int) ≤ t2n4 ∧ t2n4 ≤ (t2w0.2.1.length : Int))) (zNq a0 ([] : List (El .str)) (0 : Int) (by (first | omega | rfl | assumption | (simp <;> omega) | (refine ⟨?_, ?_, ?_⟩ <;> first | omega | rfl | (simp <;> omega)) | (refine ⟨?_, ?_⟩ <;> first | omega | rfl | (simp <;> omega))))) (fun _ h => h.elim) (fun t ht => ?_)
  obtain ⟨t2w0, ⟨⟩, t2l3, t2n4, ⟨⟩⟩ := t
  dsimp only
  obtain ⟨rfl, hth7⟩ := ht
  obtain ⟨t2n4, rfl⟩ : ∃ y : Int, y = t2n4 := ⟨_, rfl⟩
  replace hth7 : (t2l3.length : Int) ≤ t2n4 ∧ t2n4 ≤ (a0.2.1.length : Int) := hth7
  trivial
def zfQ : Con Tryz.prog := yE mo g0 [zQj] [vP] 158 zT6 (fn := Tryz.f158) ⟨lk, trivial⟩ (fun a hw _ => yX (by kernel_rfl) (zdE a.1 hw) rfl)
theorem ze0 (a0 : El zI) : xf a0 = ((zc (fun _ x (s : (List (El .str))) => bif (x.1 == (1 : Int)) then (bif (!(vq s x.2.1).1) then (s ++ [x.2.1]) else s) else s) 0 a0.2.1 ([] : List (El .str))), ()) := by
 simp only [xf, zIk, zR, zy, zQ]
 rw [zWB, xa] <;> rfl
theorem zIN (p : El zI) : ((xf p).1.length : Int) ≤ (p.2.1.length : Int) := by
 simp only [xf, zIk, zQ, zR, zy]
 have := zNq p [] (0 : Int) (by refine ⟨?_, ?_⟩ <;> simp)
 revert this
 cases (LB.run vP (p, (), ([] : List (El .str)), (0 : Int), ())) with
 | ret r => intro h; exact h.elim
 | brk t => obtain ⟨t0, ⟨⟩, t1, t2, ⟨⟩⟩ := t; rintro ⟨rfl, h1, h2⟩; obtain ⟨t2, rfl⟩ : ∃ y : Int, y = t2 := ⟨_, rfl⟩; replace h1 : (t1.length : Int) ≤ t2 := h1; replace h2 : t2 ≤ (p.2.1.length : Int) := h2; show (t1.length : Int) ≤ _; omega
 | go t => obtain ⟨t0, ⟨⟩, t1, t2, ⟨⟩⟩ := t; rintro ⟨rfl, h1, h2⟩; obtain ⟨t2, rfl⟩ : ∃ y : Int, y = t2 := ⟨_, rfl⟩; replace h1 : (t1.length : Int) ≤ t2 := h1; replace h2 : t2 ≤ (p.2.1.length : Int) := h2; show (t1.length : Int) ≤ _; omega
@[reducible] def yu : LB := ⟨[], ⟨51, [.d zC], [(1, .pt 0 0), (3, vo .str), (4, vd .int), (5, vo .str), (6, vd .int)]⟩, ⟨51, [], []⟩, 2, fun x => (fun (w0 : El zC) (l3 : List (El .str)) (n4 : Int) (l5 : List (El .str)) (n6 : Int) => (bif decide (n6 < (l5.length : Int)) then (.ix n4 w0.2.2.1 (bif (!(zB zI w0.2.2.1 n4).2.2) then (.ix n6 l5 (bif (!(vq l3 (zB .str l5 n6)).1) then (.ix n6 l5 (.ck (((l3.length + [(zB .str l5 n6)].length : Nat) : Int) ≤ 16777216) (.ik (n6 + (1 : Int)) (.v (.go (w0, (), (l3 ++ [(zB .str l5 n6)]), n4, l5, (n6 + (1 : Int)), ())))))) else (.ik (n6 + (1 : Int)) (.v (.go (w0, (), l3, n4, l5, (n6 + (1 : Int)), ())))))) else (.v (.brk (w0, (), l3, n4, l5, n6, ()))))) else (.v (.brk (w0, (), l3, n4, l5, n6, ()))) : Tr (St _ _))) x.1 x.2.2.1 x.2.2.2.1 x.2.2.2.2.1 x.2.2.2.2.2.1⟩
theorem zSw (w00 : El zC) (l30 : List (El .str)) (n40 : Int) (l50 : List (El .str)) (n60 : Int)  : (LB.run yu (w00, (), l30, n40, l50, n60, ())).all (fun _ => False) (fun (w0, _, _, n4, l5, _) => w00 = w0 ∧ n40 = n4 ∧ l50 = l5) (fun (w0, _, _, n4, l5, _) => w00 = w0 ∧ n40 = n4 ∧ l50 = l5) := by
 have H : ∀ (w0 : El zC) (l3 : List (El .str)) (n4 : Int) (l5 : List (El .str)) (n6 : Int), (w00 = w0 ∧ n40 = n4 ∧ l50 = l5) → St.all (fun _ => False) (fun (w0, _, _, n4, l5, _) => w00 = w0 ∧ n40 = n4 ∧ l50 = l5) (fun (w0, _, _, n4, l5, _) => w00 = w0 ∧ n40 = n4 ∧ l50 = l5) (yu.b (w0, (), l3, n4, l5, n6, ())) := by
  intro w0 l3 n4 l5 n6 hI
  obtain ⟨eq0, eq1, eq2⟩ := hI
  simp only [LB.b, yu, zi, zQ, zR]
  refine zd (fun h1 => ?_) (fun h1 => ?_)
  ·replace h1 : n6 < (l5.length : Int) := of_decide_eq_true h1
   refine zd (fun h2 => ?_) (fun h2 => ?_)
   ·refine zd (fun h3 => ?_) (fun h3 => ?_)
    ·exact ⟨eq0, eq1, eq2⟩
    ·exact ⟨eq0, eq1, eq2⟩
   ·exact ⟨eq0, eq1, eq2⟩
  ·replace h1 : ¬ (n6 < (l5.length : Int)) := of_decide_eq_false h1
   exact ⟨eq0, eq1, eq2⟩
 exact LB.post (l := yu) (A := fun _ => False) (fun (w0, _, _, n4, l5, _) => w00 = w0 ∧ n40 = n4 ∧ l50 = l5) (fun ⟨w0, ⟨⟩, l3, n4, l5, n6, ⟨⟩⟩ hx => H w0 l3 n4 l5 n6 hx) ⟨rfl, rfl, rfl⟩
theorem zS3 (w00 : El zC) (l30 : List (El .str)) (n40 : Int) (l50 : List (El .str)) (n60 : Int) (p0 : (l30.length : Int) + (l50.length : Int) - n60 + zAZ w00.2.2.1 (n40 + 1) ≤ 16777216 ∧ n60 ≤ (l50.length : Int)) : (LB.run yu (w00, (), l30, n40, l50, n60, ())).all (fun _ => False) (fun (w0, _, l3, n4, l5, n6, _) => w00 = w0 ∧ n40 = n4 ∧ l50 = l5 ∧ ((l3.length : Int) + (l5.length : Int) - n6 + zAZ w0.2.2.1 (n4 + 1) ≤ 16777216 ∧ n6 ≤ (l5.length : Int))) (fun (w0, _, l3, n4, l5, n6, _) => w00 = w0 ∧ n40 = n4 ∧ l50 = l5 ∧ ((l3.length : Int) + (l5.length : Int) - n6 + zAZ w0.2.2.1 (n4 + 1) ≤ 16777216 ∧ n6 ≤ (l5.length : Int))) := by
 have H : ∀ (w0 : El zC) (l3 : List (El .str)) (n4 : Int) (l5 : List (El .str)) (n6 : Int), (w00 = w0 ∧ n40 = n4 ∧ l50 = l5 ∧ ((l3.length : Int) + (l5.length : Int) - n6 + zAZ w0.2.2.1 (n4 + 1) ≤ 16777216 ∧ n6 ≤ (l5.length : Int))) → St.all (fun _ => False) (fun (w0, _, l3, n4, l5, n6, _) => w00 = w0 ∧ n40 = n4 ∧ l50 = l5 ∧ ((l3.length : Int) + (l5.length : Int) - n6 + zAZ w0.2.2.1 (n4 + 1) ≤ 16777216 ∧ n6 ≤ (l5.length : Int))) (fun (w0, _, l3, n4, l5, n6, _) => w00 = w0 ∧ n40 = n4 ∧ l50 = l5 ∧ ((l3.length : Int) + (l5.length : Int) - n6 + zAZ w0.2.2.1 (n4 + 1) ≤ 16777216 ∧ n6 ≤ (l5.length : Int))) (yu.b (w0, (), l3, n4, l5, n6, ())) := by
  intro w0 l3 n4 l5 n6 hI
  obtain ⟨eq0, eq1, eq2, eq3⟩ := hI
  simp only [LB.b, yu, zi, zQ, zR]
  refine zd (fun h4 => ?_) (fun h4 => ?_)
  ·replace h4 : n6 < (l5.length : Int) := of_decide_eq_true h4
   refine zd (fun h5 => ?_) (fun h5 => ?_)
   ·refine zd (fun h6 => ?_) (fun h6 => ?_)
    ·exact yf (show w00 = w0 ∧ n40 = n4 ∧ l50 = l5 ∧ (((l3 ++ [(zB .str l5 n6)]).length : Int) + (l5.length : Int) - (n6 + (1 : Int)) + zAZ w0.2.2.1 (n4 + 1) ≤ 16777216 ∧ (n6 + (1 : Int)) ≤ (l5.length : Int)) from ⟨eq0, eq1, eq2, by have _ := zEq w0.2.2.1 (n4 + 1); first | omega | rfl | assumption | (simp <;> omega)⟩)
    ·exact yf (show w00 = w0 ∧ n40 = n4 ∧ l50 = l5 ∧ ((l3.length : Int) + (l5.length : Int) - (n6 + (1 : Int)) + zAZ w0.2.2.1 (n4 + 1) ≤ 16777216 ∧ (n6 + (1 : Int)) ≤ (l5.length : Int)) from ⟨eq0, eq1, eq2, by have _ := zEq w0.2.2.1 (n4 + 1); first | omega | rfl | assumption | (simp <;> omega)⟩)
   ·exact zCP (show w00 = w0 ∧ n40 = n4 ∧ l50 = l5 ∧ ((l3.length : Int) + (l5.length : Int) - n6 + zAZ w0.2.2.1 (n4 + 1) ≤ 16777216 ∧ n6 ≤ (l5.length : Int)) from ⟨eq0, eq1, eq2, by first | omega | rfl | assumption | (simp <;> omega)⟩)
  ·replace h4 : ¬ (n6 < (l5.length : Int)) := of_decide_eq_false h4
   exact zCP (show w00 = w0 ∧ n40 = n4 ∧ l50 = l5 ∧ ((l3.length : Int) + (l5.length : Int) - n6 + zAZ w0.2.2.1 (n4 + 1) ≤ 16777216 ∧ n6 ≤ (l5.length : Int)) from ⟨eq0, eq1, eq2, by first | omega | rfl | assumption | (simp <;> omega)⟩)
 exact LB.post (l := yu) (A := fun _ => False) (fun (w0, _, l3, n4, l5, n6, _) => w00 = w0 ∧ n40 = n4 ∧ l50 = l5 ∧ ((l3.length : Int) + (l5.length : Int) - n6 + zAZ w0.2.2.1 (n4 + 1) ≤ 16777216 ∧ n6 ≤ (l5.length : Int))) (fun ⟨w0, ⟨⟩, l3, n4, l5, n6, ⟨⟩⟩ hx => H w0 l3 n4 l5 n6 hx) ⟨rfl, rfl, rfl, p0⟩
theorem zTA : SF yu fun x : El zC × Unit × List (El .str) × Int × List (El .str) × Int × Unit => (0 ≤ x.2.2.2.2.2.1 ∧ (0 ≤ x.2.2.2.1 ∧ x.2.2.2.1 < (x.1.2.2.1.length : Int)) ∧ (x.2.2.1.length : Int) + (x.2.2.2.2.1.length : Int) - x.2.2.2.2.2.1 + zAZ x.1.2.2.1 (x.2.2.2.1 + 1) ≤ 16777216, (x.2.2.2.2.1.length : Int) - x.2.2.2.2.2.1) := x5 (by
 rintro ⟨(w0 : El zC), ⟨⟩, (l3 : List (El .str)), (n4 : Int), (l5 : List (El .str)), (n6 : Int), ⟨⟩⟩ hI hw
 dsimp only at hI ⊢
 obtain ⟨i0, i1, k0⟩ := hI
 have _ : -9223372036854775808 ≤ n4 ∧ n4 ≤ 9223372036854775807 := z0 hw.2.2.2.1
 have hb : (l5.length : Int) ≤ 16777216 := zE (hw.2.2.2.2.1.1)
 have hb0 : (w0.2.2.1.length : Int) ≤ 16777216 := zE (hw.1.2.2.1.1)
 refine ⟨by omega, ?_⟩
 refine x4 (fun h7 => ?_) (fun h7 => ?_)
 ·replace h7 : n6 < (l5.length : Int) := of_decide_eq_true h7
  refine yt ?_ ?_
  ·first | omega | (simp <;> omega)
  ·refine x4 (fun h8 => ?_) (fun h8 => ?_)
   ·refine yt ?_ ?_
    ·first | omega | (simp <;> omega)
    ·refine x4 (fun h9 => ?_) (fun h9 => ?_)
     ·refine yt ?_ ?_
      ·first | omega | (simp <;> omega)
      ·refine yt ?_ ?_
       ·have _ := zEq w0.2.2.1 (n4 + 1); have _ : (l3.length : Int) ≤ 16777216 := zE (hw.2.2.1.1); first | omega | (simp <;> omega)
       ·refine yt ?_ ?_
        ·exact ink (by omega) (by omega)
        ·exact show (0 ≤ (n6 + (1 : Int)) ∧ (0 ≤ n4 ∧ n4 < (w0.2.2.1.length : Int)) ∧ ((l3 ++ [(zB .str l5 n6)]).length : Int) + (l5.length : Int) - (n6 + (1 : Int)) + zAZ w0.2.2.1 (n4 + 1) ≤ 16777216) ∧ (l5.length : Int) - (n6 + (1 : Int)) < (l5.length : Int) - n6 ∧ 0 < (l5.length : Int) - n6 from ⟨⟨by (have _ := zEq w0.2.2.1 (n4 + 1); first | omega | rfl | assumption | (simp <;> omega)), by (have _ := zEq w0.2.2.1 (n4 + 1); first | omega | rfl | assumption | (simp <;> omega)), by (have _ := zEq w0.2.2.1 (n4 + 1); first | omega | rfl | assumption | (simp <;> omega))⟩, by (first | omega | (simp only [List.length_set]; omega)), by (first | omega | (simp only [List.length_set]; omega))⟩
     ·refine yt ?_ ?_
      ·exact ink (by omega) (by omega)
      ·exact show (0 ≤ (n6 + (1 : Int)) ∧ (0 ≤ n4 ∧ n4 < (w0.2.2.1.length : Int)) ∧ (l3.length : Int) + (l5.length : Int) - (n6 + (1 : Int)) + zAZ w0.2.2.1 (n4 + 1) ≤ 16777216) ∧ (l5.length : Int) - (n6 + (1 : Int)) < (l5.length : Int) - n6 ∧ 0 < (l5.length : Int) - n6 from ⟨⟨by (have _ := zEq w0.2.2.1 (n4 + 1); first | omega | rfl | assumption | (simp <;> omega)), by (have _ := zEq w0.2.2.1 (n4 + 1); first | omega | rfl | assumption | (simp <;> omega)), by (have _ := zEq w0.2.2.1 (n4 + 1); first | omega | rfl | assumption | (simp <;> omega))⟩, by (first | omega | (simp only [List.length_set]; omega)), by (first | omega | (simp only [List.length_set]; omega))⟩
   ·exact trivial
 ·replace h7 : ¬ (n6 < (l5.length : Int)) := of_decide_eq_false h7
  exact trivial)
@[reducible] def vh : LB := ⟨[], ⟨51, [.d zC], [(1, .pt 0 0), (3, vo .str), (4, vd .int)]⟩, ⟨51, [], []⟩, 0, fun x => (fun (w0 : El zC) (l3 : List (El .str)) (n4 : Int) => (bif decide (n4 < (w0.2.2.1.length : Int)) then (.ix n4 w0.2.2.1 (.lp yu (w0, (), l3, n4, (xf (zB zI w0.2.2.1 n4)).1, (0 : Int), ()) (fun _ => .v (.ret ())) (fun t4 => .ik (t4.2.2.2.1 + (1 : Int)) (.v (.go (t4.1, (), t4.2.2.1, (t4.2.2.2.1 + (1 : Int)), ())))))) else (.v (.brk (w0, (), l3, n4, ()))) : Tr (St _ _))) x.1 x.2.2.1 x.2.2.2.1⟩
theorem zSb (w00 : El zC) (l30 : List (El .str)) (n40 : Int)  : (LB.run vh (w00, (), l30, n40, ())).all (fun _ => False) (fun (w0, _) => w00 = w0) (fun (w0, _) => w00 = w0) := by
 have H : ∀ (w0 : El zC) (l3 : List (El .str)) (n4 : Int), (w00 = w0) → St.all (fun _ => False) (fun (w0, _) => w00 = w0) (fun (w0, _) => w00 = w0) (vh.b (w0, (), l3, n4, ())) := by
  intro w0 l3 n4 hI
  have eq0 := hI
  simp only [LB.b, vh, zi, zQ, zR, zy]
  refine zd (fun h10 => ?_) (fun h10 => ?_)
  ·replace h10 : n4 < (w0.2.2.1.length : Int) := of_decide_eq_true h10
   refine zPc (A' := fun _ => False) (B' := fun (t4w0, _, t4l3, t4n4, t4l5, t4n6, _) => w0 = t4w0 ∧ n4 = t4n4 ∧ (xf (zB zI w0.2.2.1 n4)).1 = t4l5) (zSw w0 l3 n4 (xf (zB zI w0.2.2.1 n4)).1 (0 : Int)) (fun _ h => h.elim) (fun t ht => ?_)
   obtain ⟨t4w0, ⟨⟩, t4l3, t4n4, t4l5, t4n6, ⟨⟩⟩ := t
   dsimp only
   obtain ⟨rfl, rfl, rfl⟩ := ht
   obtain ⟨t4n6, rfl⟩ : ∃ y : Int, y = t4n6 := ⟨_, rfl⟩
   exact eq0
  ·replace h10 : ¬ (n4 < (w0.2.2.1.length : Int)) := of_decide_eq_false h10
   exact eq0
 exact LB.post (l := vh) (A := fun _ => False) (fun (w0, _) => w00 = w0) (fun ⟨w0, ⟨⟩, l3, n4, ⟨⟩⟩ hx => H w0 l3 n4 hx) rfl
theorem zSl : SF vh fun x : El zC × Unit × List (El .str) × Int × Unit => (0 ≤ x.2.2.2.1 ∧ (x.2.2.1.length : Int) + zAZ x.1.2.2.1 x.2.2.2.1 ≤ 16777216, (x.1.2.2.1.length : Int) - x.2.2.2.1) := x5 (by
 rintro ⟨(w0 : El zC), ⟨⟩, (l3 : List (El .str)), (n4 : Int), ⟨⟩⟩ hI hw
 dsimp only at hI ⊢
 obtain ⟨i0, k0⟩ := hI
 have hb : (w0.2.2.1.length : Int) ≤ 16777216 := zE (hw.1.2.2.1.1)
 refine ⟨by omega, ?_⟩
 refine x4 (fun h11 => ?_) (fun h11 => ?_)
 ·replace h11 : n4 < (w0.2.2.1.length : Int) := of_decide_eq_true h11
  refine yt ?_ ?_
  ·first | omega | (simp <;> omega)
  ·refine yt ?_ ?_
   ·have _ := zIN (zB zI w0.2.2.1 n4); exact zTA _ ⟨by (have _ := zIN (zB zI w0.2.2.1 n4); have _ := zAJ w0.2.2.1 n4 (by omega); dsimp only <;> first | omega | rfl | assumption | (simp <;> omega)), by (have _ := zIN (zB zI w0.2.2.1 n4); have _ := zAJ w0.2.2.1 n4 (by omega); dsimp only <;> first | omega | rfl | assumption | (simp <;> omega)), by (have _ := zIN (zB zI w0.2.2.1 n4); have _ := zAJ w0.2.2.1 n4 (by omega); dsimp only <;> first | omega | rfl | assumption | (simp <;> omega))⟩
   ·refine zMd (A' := fun _ => False) (B' := fun (t4w0, _, t4l3, t4n4, t4l5, t4n6, _) => w0 = t4w0 ∧ n4 = t4n4 ∧ (xf (zB zI w0.2.2.1 n4)).1 = t4l5 ∧ ((t4l3.length : Int) + (t4l5.length : Int) - t4n6 + zAZ t4w0.2.2.1 (t4n4 + 1) ≤ 16777216 ∧ t4n6 ≤ (t4l5.length : Int))) (zS3 w0 l3 n4 (xf (zB zI w0.2.2.1 n4)).1 (0 : Int) (by (have _ := zIN (zB zI w0.2.2.1 n4); have _ := zAJ w0.2.2.1 n4 (by omega); first | omega | rfl | assumption | (simp <;> omega) | (refine ⟨?_, ?_, ?_⟩ <;> first | omega | rfl | (simp <;> omega)) | (refine ⟨?_, ?_⟩ <;> first | omega | rfl | (simp <;> omega))))) (fun _ h => h.elim) (fun t ht => ?_)
    obtain ⟨t4w0, ⟨⟩, t4l3, t4n4, t4l5, t4n6, ⟨⟩⟩ := t
    dsimp only
    obtain ⟨rfl, rfl, rfl, hth12⟩ := ht
    obtain ⟨t4n6, rfl⟩ : ∃ y : Int, y = t4n6 := ⟨_, rfl⟩
    replace hth12 : (t4l3.length : Int) + ((xf (zB zI w0.2.2.1 n4)).1.length : Int) - t4n6 + zAZ w0.2.2.1 (n4 + 1) ≤ 16777216 ∧ t4n6 ≤ ((xf (zB zI w0.2.2.1 n4)).1.length : Int) := hth12
    refine yt ?_ ?_
    ·exact ink (by omega) (by omega)
    ·exact show (0 ≤ (n4 + (1 : Int)) ∧ (t4l3.length : Int) + zAZ w0.2.2.1 (n4 + (1 : Int)) ≤ 16777216) ∧ (w0.2.2.1.length : Int) - (n4 + (1 : Int)) < (w0.2.2.1.length : Int) - n4 ∧ 0 < (w0.2.2.1.length : Int) - n4 from ⟨⟨by (first | omega | rfl | assumption | (simp <;> omega)), by (first | omega | rfl | assumption | (simp <;> omega))⟩, by (first | omega | (simp only [List.length_set]; omega)), by (first | omega | (simp only [List.length_set]; omega))⟩
 ·replace h11 : ¬ (n4 < (w0.2.2.1.length : Int)) := of_decide_eq_false h11
  exact trivial)
def zJx (a0 : El zC) : Tr (List (El .str) × Unit) := .lp vh (a0, (), ([] : List (El .str)), (0 : Int), ()) (fun _ => .bad) (fun t5 => .v (t5.2.2.1, ()))
def zDx a0 := (zJx a0).val
def zJL (a0 : El zC) : Prop := SzR a0
@[reducible] def zQE : FnD := ⟨[va zC], [vo .str], true, fun a => some (zJL a.1), fun a => zDx a.1⟩
theorem zam (a0 : El zC) (_ : xH zQE.args (a0, ())) (hp : zJL a0) : (zJx a0).ok := by
 unfold zJL at hp
 unfold zJx
 refine zJ ?_ ?_
 ·exact zSl _ ⟨by (have _ := hp.1; dsimp only <;> first | omega | rfl | assumption | (simp <;> omega)), by (have _ := hp.1; dsimp only <;> first | omega | rfl | assumption | (simp <;> omega))⟩
 ·refine zID (A' := fun _ => False) (B' := fun (t5w0, _, t5l3, t5n4, _) => a0 = t5w0) (zSb a0 ([] : List (El .str)) (0 : Int)) (fun _ h => h.elim) (fun t ht => ?_)
  obtain ⟨t5w0, ⟨⟩, t5l3, t5n4, ⟨⟩⟩ := t
  dsimp only
  obtain rfl := ht
  obtain ⟨t5n4, rfl⟩ : ∃ y : Int, y = t5n4 := ⟨_, rfl⟩
  trivial
def zb7 : Con Tryz.prog := yE mo g0 [zfQ, zQj] [vh, yu] 96 zQE (fn := Tryz.f96) ⟨lk, lk, trivial⟩ (fun a hw h => yX (by kernel_rfl) (zam a.1 hw h) rfl)
def zJ3 (a0 : Int) (a1 : Int) (a2 : Int) : Tr (Bool × Unit) := bif decide (a0 ≥ a1) then (.v (decide (a0 ≤ a2), ())) else (.v (false, ()))
def yB a0 a1 a2 := (zJ3 a0 a1 a2).val
@[reducible] def zjk : FnD := ⟨[vd .int, vd .int, vd .int], [vd .bool], true, fun _ => none, fun a => yB a.1 a.2.1 a.2.2.1⟩
def zAV : Con Tryz.prog := yE mo g0 [] [] 28 zjk (fn := Tryz.f28) trivial (fun a _ _ => yX (t' := zJ3 a.1 a.2.1 a.2.2.1) (by kernel_rfl) (by simp [zJ3]) rfl)
theorem zK3 {x a b : Int} (h : (yB x a b).1 = true) : a ≤ x ∧ x ≤ b := by
 simp only [yB, zJ3, zi, zR] at h
 cases e : decide (x ≥ a) with
 | false => rw [e] at h; cases h
 | true =>
  rw [e] at h
  exact ⟨of_decide_eq_true e, of_decide_eq_true h⟩
def zHp (a0 : Int) : Tr (Bool × Unit) := .ik a0 (bif (yB a0 (97 : Int) (122 : Int)).1 then (.v (true, ())) else (.ik a0 (bif (yB a0 (48 : Int) (57 : Int)).1 then (.v (true, ())) else (.v ((a0 == (95 : Int)), ())))))
def yx a0 := (zHp a0).val
@[reducible] def zPC : FnD := ⟨[vd .u8], [vd .bool], true, fun _ => none, fun a => yx a.1⟩
theorem zX9 (a0 : Int) (hw : xH zPC.args (a0, ())) : (zHp a0).ok := by
 have _ : 0 ≤ a0 ∧ a0 ≤ 255 := zc7 hw.1
 unfold zHp
 refine zJ ?_ ?_
 ·exact ink (by omega) (by omega)
 ·refine zo (fun _ => trivial) (fun h1 => ?_)
  refine zJ ?_ ?_
  ·exact ink (by omega) (by omega)
  ·simp
def zKi : Con Tryz.prog := yE mo g0 [zAV] [] 54 zPC (fn := Tryz.f54) trivial (fun a hw _ => yX (by kernel_rfl) (zX9 a.1 hw) rfl)
@[reducible] def zBh : LB := ⟨[], ⟨30, [], [(0, vd .str), (3, vd .int)]⟩, ⟨30, [], [(2, vd .bool)]⟩, 0, fun x => (fun (s0 : ByteArray) (n3 : Int) => (bif decide (n3 < (s0.size : Int)) then (.is n3 s0 (bif (!(yx ((bt s0 n3).toNat : Int)).1) then (.v (.ret (false, ()))) else (bif (n3 == (0 : Int)) then (.is n3 s0 (.ik ((bt s0 n3).toNat : Int) (bif (!(yB ((bt s0 n3).toNat : Int) (97 : Int) (122 : Int)).1) then (.v (.ret (false, ()))) else (.ik (n3 + (1 : Int)) (.v (.go (s0, (n3 + (1 : Int)), ()))))))) else (.ik (n3 + (1 : Int)) (.v (.go (s0, (n3 + (1 : Int)), ()))))))) else (.v (.brk (s0, n3, ()))) : Tr (St _ _))) x.1 x.2.1⟩
theorem zWV (s0 : ByteArray) : LB.run zBh (s0, (0 : Int), ()) = bif ze (fun i x => bif (!(yx (x.toNat : Int)).1) then false else (bif ((i : Int) == (0 : Int)) then (bif (!(yB (x.toNat : Int) (97 : Int) (122 : Int)).1) then false else true) else true)) 0 s0.data.toList then .brk (s0, (s0.size : Int), ()) else .ret (false, ()) := LB.run_all (l := zBh) (fun i => (s0, (i : Int), ())) (fun i x h => by
  simp only [LB.b, zBh, zi, zQ, zR, cond_true, zjC h, zUZ h]
  cases (!(yx (x.toNat : Int)).1)
  ·cases ((i : Int) == (0 : Int))
   ·rfl
   ·cases (!(yB (x.toNat : Int) (97 : Int) (122 : Int)).1) <;> rfl
  ·rfl) (by show LB.b zBh (s0, (s0.size : Int), ()) = _; simp only [LB.b, zBh, xo]; rfl)
theorem zVK : SF zBh fun x : ByteArray × Int × Unit => (0 ≤ x.2.1, (x.1.size : Int) - x.2.1) := x5 (by
 rintro ⟨(s0 : ByteArray), (n3 : Int), ⟨⟩⟩ hI hw
 have _ : (s0.size : Int) ≤ 9223372036854775807 := zNd (hw.1)
 have _ := fun h : (yB ((bt s0 n3).toNat : Int) (97 : Int) (122 : Int)).1 = true => zK3 h
 have _ := zmj s0 n3
 simp [zBh] at hI ⊢
 repeat' first | intro _ | apply And.intro
 all_goals omega)
def zLf (a0 : ByteArray) : Tr (Bool × Unit) := .lp zBh (a0, (0 : Int), ()) (fun r3 => .v (r3.1, ())) (fun t3 => .v ((yB (t3.1.size : Int) (1 : Int) (12 : Int)).1, ()))
def yP a0 := (zLf a0).val
@[reducible] def zUB : FnD := ⟨[vd .str], [vd .bool], true, fun _ => none, fun a => yP a.1⟩
theorem zgn (a0 : ByteArray) (_ : xH zUB.args (a0, ())) : (zLf a0).ok := by
 unfold zLf
 refine zJ ?_ ?_
 ·exact zVK _ (by (dsimp only <;> omega))
 ·simp
def zFE : Con Tryz.prog := yE mo g0 [zKi, zAV] [zBh] 31 zUB (fn := Tryz.f31) ⟨lk, trivial⟩ (fun a hw _ => yX (by kernel_rfl) (zgn a.1 hw) rfl)
theorem zeI (a0 : ByteArray) : yP a0 = bif ze (fun i x => bif (!(yx (x.toNat : Int)).1) then false else (bif ((i : Int) == (0 : Int)) then (bif (!(yB (x.toNat : Int) (97 : Int) (122 : Int)).1) then false else true) else true)) 0 a0.data.toList then ((yB (a0.size : Int) (1 : Int) (12 : Int)).1, ()) else (false, ()) := by
 simp only [yP, zLf, zR, zy, zQ]
 rw [zWV, z6] <;> rfl
def zI7 (a0 : Int) : Tr (Bool × Unit) := .ik a0 (.v ((yB a0 (65 : Int) (90 : Int)).1, ()))
def zDy a0 := (zI7 a0).val
@[reducible] def zRi : FnD := ⟨[vd .u8], [vd .bool], true, fun _ => none, fun a => zDy a.1⟩
theorem zbg (a0 : Int) (hw : xH zRi.args (a0, ())) : (zI7 a0).ok := by
 have _ : 0 ≤ a0 ∧ a0 ≤ 255 := zc7 hw.1
 unfold zI7
 refine zJ ?_ ?_
 ·exact ink (by omega) (by omega)
 ·simp
def zZT : Con Tryz.prog := yE mo g0 [zAV] [] 274 zRi (fn := Tryz.f274) trivial (fun a hw _ => yX (by kernel_rfl) (zbg a.1 hw) rfl)
@[reducible] def zAb : LB := ⟨[], ⟨29, [], [(0, vd .str), (3, vd .int)]⟩, ⟨29, [], [(2, vd .bool)]⟩, 0, fun x => (fun (s0 : ByteArray) (n3 : Int) => (bif decide (n3 < (s0.size : Int)) then (.is n3 s0 (bif (!(zDy ((bt s0 n3).toNat : Int)).1) then (bif (n3 == (0 : Int)) then (.v (.ret (false, ()))) else (.is n3 s0 (bif (!(yx ((bt s0 n3).toNat : Int)).1) then (.v (.ret (false, ()))) else (.ik (n3 + (1 : Int)) (.v (.go (s0, (n3 + (1 : Int)), ()))))))) else (.ik (n3 + (1 : Int)) (.v (.go (s0, (n3 + (1 : Int)), ())))))) else (.v (.brk (s0, n3, ()))) : Tr (St _ _))) x.1 x.2.1⟩
theorem zTJ (s0 : ByteArray) : LB.run zAb (s0, (0 : Int), ()) = bif ze (fun i x => bif (!(zDy (x.toNat : Int)).1) then (bif ((i : Int) == (0 : Int)) then false else (bif (!(yx (x.toNat : Int)).1) then false else true)) else true) 0 s0.data.toList then .brk (s0, (s0.size : Int), ()) else .ret (false, ()) := LB.run_all (l := zAb) (fun i => (s0, (i : Int), ())) (fun i x h => by
  simp only [LB.b, zAb, zi, zQ, zR, cond_true, zjC h, zUZ h]
  cases (!(zDy (x.toNat : Int)).1)
  ·rfl
  ·cases ((i : Int) == (0 : Int))
   ·cases (!(yx (x.toNat : Int)).1) <;> rfl
   ·rfl) (by show LB.b zAb (s0, (s0.size : Int), ()) = _; simp only [LB.b, zAb, xo]; rfl)
theorem zSY : SF zAb fun x : ByteArray × Int × Unit => (0 ≤ x.2.1, (x.1.size : Int) - x.2.1) := x5 (by
 rintro ⟨(s0 : ByteArray), (n3 : Int), ⟨⟩⟩ hI hw
 have _ : (s0.size : Int) ≤ 9223372036854775807 := zNd (hw.1)
 simp [zAb] at hI ⊢
 repeat' first | intro _ | apply And.intro
 all_goals omega)
def zJm (a0 : ByteArray) : Tr (Bool × Unit) := .lp zAb (a0, (0 : Int), ()) (fun r3 => .v (r3.1, ())) (fun t3 => .v ((yB (t3.1.size : Int) (1 : Int) (12 : Int)).1, ()))
def zGj a0 := (zJm a0).val
@[reducible] def zPn : FnD := ⟨[vd .str], [vd .bool], true, fun _ => none, fun a => zGj a.1⟩
theorem zZa (a0 : ByteArray) (_ : xH zPn.args (a0, ())) : (zJm a0).ok := by
 unfold zJm
 refine zJ ?_ ?_
 ·exact zSY _ (by (dsimp only <;> omega))
 ·simp
def zbl : Con Tryz.prog := yE mo g0 [zZT, zKi, zAV] [zAb] 255 zPn (fn := Tryz.f255) ⟨lk, trivial⟩ (fun a hw _ => yX (by kernel_rfl) (zZa a.1 hw) rfl)
theorem zZW (a0 : ByteArray) : zGj a0 = bif ze (fun i x => bif (!(zDy (x.toNat : Int)).1) then (bif ((i : Int) == (0 : Int)) then false else (bif (!(yx (x.toNat : Int)).1) then false else true)) else true) 0 a0.data.toList then ((yB (a0.size : Int) (1 : Int) (12 : Int)).1, ()) else (false, ()) := by
 simp only [zGj, zJm, zR, zy, zQ]
 rw [zTJ, z6] <;> rfl
@[reducible] def zAn : LB := ⟨[], ⟨18, [], [(0, vd .str), (3, vd .int)]⟩, ⟨18, [], [(2, vd .bool)]⟩, 0, fun x => (fun (s0 : ByteArray) (n3 : Int) => (bif decide (n3 < (s0.size : Int)) then (.is n3 s0 (bif (!(yx ((bt s0 n3).toNat : Int)).1) then (.v (.ret (false, ()))) else (.ik (n3 + (1 : Int)) (.v (.go (s0, (n3 + (1 : Int)), ())))))) else (.v (.brk (s0, n3, ()))) : Tr (St _ _))) x.1 x.2.1⟩
theorem zS2 (s0 : ByteArray) : LB.run zAn (s0, (0 : Int), ()) = bif ze (fun _ x => bif (!(yx (x.toNat : Int)).1) then false else true) 0 s0.data.toList then .brk (s0, (s0.size : Int), ()) else .ret (false, ()) := LB.run_all (l := zAn) (fun i => (s0, (i : Int), ())) (fun i x h => by
  simp only [LB.b, zAn, zi, zQ, zR, cond_true, zjC h, zUZ h]
  cases (!(yx (x.toNat : Int)).1) <;> rfl) (by show LB.b zAn (s0, (s0.size : Int), ()) = _; simp only [LB.b, zAn, xo]; rfl)
theorem zS8 : SF zAn fun x : ByteArray × Int × Unit => (0 ≤ x.2.1, (x.1.size : Int) - x.2.1) := x5 (by
 rintro ⟨(s0 : ByteArray), (n3 : Int), ⟨⟩⟩ hI hw
 have _ : (s0.size : Int) ≤ 9223372036854775807 := zNd (hw.1)
 simp [zAn] at hI ⊢
 repeat' first | intro _ | apply And.intro
 all_goals omega)
def zJ8 (a0 : ByteArray) : Tr (Bool × Unit) := .lp zAn (a0, (0 : Int), ()) (fun r2 => .v (r2.1, ())) (fun t2 => .v (decide ((t2.1.size : Int) ≤ (20 : Int)), ()))
def zE6 a0 := (zJ8 a0).val
@[reducible] def zPu : FnD := ⟨[vd .str], [vd .bool], true, fun _ => none, fun a => zE6 a.1⟩
theorem zZg (a0 : ByteArray) (_ : xH zPu.args (a0, ())) : (zJ8 a0).ok := by
 unfold zJ8
 refine zJ ?_ ?_
 ·exact zS8 _ (by (dsimp only <;> omega))
 ·simp
def zZy : Con Tryz.prog := yE mo g0 [zKi] [zAn] 218 zPu (fn := Tryz.f218) ⟨lk, trivial⟩ (fun a hw _ => yX (by kernel_rfl) (zZg a.1 hw) rfl)
theorem zbX (a0 : ByteArray) : zE6 a0 = bif ze (fun _ x => bif (!(yx (x.toNat : Int)).1) then false else true) 0 a0.data.toList then (decide ((a0.size : Int) ≤ (20 : Int)), ()) else (false, ()) := by
 simp only [zE6, zJ8, zR, zy, zQ]
 rw [zS2, z6] <;> rfl
def zNf (a0 : El zK) : Tr (Bool × Unit) := bif (a0.1 == (1 : Int)) then (bif (yB a0.2.1 (-1000000000 : Int) (1000000000 : Int)).1 then (.v ((a0.2.2.toList == (⟨#[]⟩ : ByteArray).toList), ())) else (.v (false, ()))) else (bif (a0.1 == (2 : Int)) then (bif (zE6 a0.2.2).1 then (.v ((a0.2.1 == (0 : Int)), ())) else (.v (false, ()))) else (.v (false, ())))
def zEk a0 := (zNf a0).val
@[reducible] def zhE : FnD := ⟨[va zK], [vd .bool], true, fun _ => none, fun a => zEk a.1⟩
def zRT : Con Tryz.prog := yE mo g0 [zAV, zZy] [] 166 zhE (fn := Tryz.f166) trivial (fun a _ _ => yX (t' := zNf a.1) (by kernel_rfl) (by simp [zNf]) rfl)
def zNo (a0 : El zj) : Tr (Bool × Unit) := bif (a0.1 == (1 : Int)) then (bif (zGj a0.2.1).1 then (.v (((a0.2.2.1 == (0 : Int)) && ((a0.2.2.2.1 == (0 : Int)) && ((a0.2.2.2.2.toList == (⟨#[]⟩ : ByteArray).toList) && true))), ())) else (.v (false, ()))) else (bif (a0.1 == (2 : Int)) then (bif (zEk a0.2.2).1 then (.v ((a0.2.1.toList == (⟨#[]⟩ : ByteArray).toList), ())) else (.v (false, ()))) else (bif (a0.1 == (3 : Int)) then (bif (a0.2.1.toList == (⟨#[]⟩ : ByteArray).toList) then (.v (((a0.2.2.1 == (0 : Int)) && ((a0.2.2.2.1 == (0 : Int)) && ((a0.2.2.2.2.toList == (⟨#[]⟩ : ByteArray).toList) && true))), ())) else (.v (false, ()))) else (.v (false, ()))))
def zDh a0 := (zNo a0).val
@[reducible] def zh9 : FnD := ⟨[va zj], [vd .bool], true, fun _ => none, fun a => zDh a.1⟩
def zPs : Con Tryz.prog := yE mo g0 [zbl, zRT] [] 216 zh9 (fn := Tryz.f216) trivial (fun a _ _ => yX (t' := zNo a.1) (by kernel_rfl) (by simp [zNo]) rfl)
@[reducible] def zD3 : LB := ⟨[], ⟨27, [.d zI], [(1, .pt 0 0), (3, vd .int)]⟩, ⟨27, [], [(2, vd .bool)]⟩, 0, fun x => (fun (w0 : El zI) (n3 : Int) => (bif decide (n3 < (w0.2.1.length : Int)) then (.ix n3 w0.2.1 (bif (!(zDh (zB zj w0.2.1 n3)).1) then (.v (.ret (false, ()))) else (.ik (n3 + (1 : Int)) (.v (.go (w0, (), (n3 + (1 : Int)), ())))))) else (.v (.brk (w0, (), n3, ()))) : Tr (St _ _))) x.1 x.2.2.1⟩
theorem zXF (w0 : El zI) : LB.run zD3 (w0, (), (0 : Int), ()) = bif ze (fun _ x => bif (!(zDh x).1) then false else true) 0 w0.2.1 then .brk (w0, (), (w0.2.1.length : Int), ()) else .ret (false, ()) := LB.run_all (l := zD3) (fun i => (w0, (), (i : Int), ())) (fun i x h => by
  simp only [LB.b, zD3, zi, zQ, zR, cond_true, yQ h, zG h]
  cases (!(zDh x).1) <;> rfl) (by simp only [LB.b, zD3, xo]; rfl)
theorem zZN : SF zD3 fun x : El zI × Unit × Int × Unit => (0 ≤ x.2.2.1, (x.1.2.1.length : Int) - x.2.2.1) := x5 (by
 rintro ⟨(w0 : El zI), ⟨⟩, (n3 : Int), ⟨⟩⟩ hI hw
 have _ : (w0.2.1.length : Int) ≤ 16777216 := zE (hw.1.2.1.1)
 simp [zD3] at hI ⊢
 repeat' first | intro _ | apply And.intro
 all_goals omega)
def zNR (a0 : El zI) : Tr (Bool × Unit) := .lp zD3 (a0, (), (0 : Int), ()) (fun r2 => .v (r2.1, ())) (fun t2 => bif (yP t2.1.1).1 then (.v (decide ((t2.1.2.1.length : Int) ≤ (5 : Int)), ())) else (.v (false, ())))
def zAi a0 := (zNR a0).val
@[reducible] def zZC : FnD := ⟨[va zI], [vd .bool], true, fun _ => none, fun a => zAi a.1⟩
theorem zjJ (a0 : El zI) (_ : xH zZC.args (a0, ())) : (zNR a0).ok := by
 unfold zNR
 refine zJ ?_ ?_
 ·exact zZN _ (by (dsimp only <;> omega))
 ·simp
def zhn : Con Tryz.prog := yE mo g0 [zPs, zFE] [zD3] 160 zZC (fn := Tryz.f160) ⟨lk, trivial⟩ (fun a hw _ => yX (by kernel_rfl) (zjJ a.1 hw) rfl)
theorem zYK (a0 : El zI) : zAi a0 = bif ze (fun _ x => bif (!(zDh x).1) then false else true) 0 a0.2.1 then (bif (yP a0.1).1 then (decide ((a0.2.1.length : Int) ≤ (5 : Int)), ()) else (false, ())) else (false, ()) := by
 simp only [zAi, zNR, zR, zi, zy, zQ]
 rw [zXF, z6] <;> rfl
theorem ziZ {p : El zI} (h : (zAi p).1 = true) : p.2.1.length ≤ 5 := by
 rw [zYK] at h
 simp only [z8, zKH] at h
 have := of_decide_eq_true h.2.2
 omega
@[reducible] def zDL : LB := ⟨[], ⟨60, [], [(0, vd (.lst zI)), (3, vd .int)]⟩, ⟨60, [], [(2, vd .bool)]⟩, 0, fun x => (fun (l0 : List (El zI)) (n3 : Int) => (bif decide (n3 < (l0.length : Int)) then (bif decide (n3 > (2 : Int)) then (.ix n3 l0 (bif (!(zB zI l0 n3).2.2) then (.v (.ret (false, ()))) else (.ix n3 l0 (bif (!(zAi (zB zI l0 n3)).1) then (.v (.ret (false, ()))) else (bif (n3 == (0 : Int)) then (.ix n3 l0 (bif (zB zI l0 n3).2.2 then (.v (.ret (false, ()))) else (bif decide (n3 > (0 : Int)) then (.ik (n3 - (1 : Int)) (.ix (n3 - (1 : Int)) l0 (bif (zB zI l0 (n3 - (1 : Int))).2.2 then (.ix n3 l0 (bif (!(zB zI l0 n3).2.2) then (.v (.ret (false, ()))) else (.ik (n3 + (1 : Int)) (.v (.go (l0, (n3 + (1 : Int)), ())))))) else (.ik (n3 + (1 : Int)) (.v (.go (l0, (n3 + (1 : Int)), ()))))))) else (.ik (n3 + (1 : Int)) (.v (.go (l0, (n3 + (1 : Int)), ()))))))) else (bif decide (n3 > (0 : Int)) then (.ik (n3 - (1 : Int)) (.ix (n3 - (1 : Int)) l0 (bif (zB zI l0 (n3 - (1 : Int))).2.2 then (.ix n3 l0 (bif (!(zB zI l0 n3).2.2) then (.v (.ret (false, ()))) else (.ik (n3 + (1 : Int)) (.v (.go (l0, (n3 + (1 : Int)), ())))))) else (.ik (n3 + (1 : Int)) (.v (.go (l0, (n3 + (1 : Int)), ()))))))) else (.ik (n3 + (1 : Int)) (.v (.go (l0, (n3 + (1 : Int)), ())))))))))) else (.ix n3 l0 (bif (!(zAi (zB zI l0 n3)).1) then (.v (.ret (false, ()))) else (bif (n3 == (0 : Int)) then (.ix n3 l0 (bif (zB zI l0 n3).2.2 then (.v (.ret (false, ()))) else (bif decide (n3 > (0 : Int)) then (.ik (n3 - (1 : Int)) (.ix (n3 - (1 : Int)) l0 (bif (zB zI l0 (n3 - (1 : Int))).2.2 then (.ix n3 l0 (bif (!(zB zI l0 n3).2.2) then (.v (.ret (false, ()))) else (.ik (n3 + (1 : Int)) (.v (.go (l0, (n3 + (1 : Int)), ())))))) else (.ik (n3 + (1 : Int)) (.v (.go (l0, (n3 + (1 : Int)), ()))))))) else (.ik (n3 + (1 : Int)) (.v (.go (l0, (n3 + (1 : Int)), ()))))))) else (bif decide (n3 > (0 : Int)) then (.ik (n3 - (1 : Int)) (.ix (n3 - (1 : Int)) l0 (bif (zB zI l0 (n3 - (1 : Int))).2.2 then (.ix n3 l0 (bif (!(zB zI l0 n3).2.2) then (.v (.ret (false, ()))) else (.ik (n3 + (1 : Int)) (.v (.go (l0, (n3 + (1 : Int)), ())))))) else (.ik (n3 + (1 : Int)) (.v (.go (l0, (n3 + (1 : Int)), ()))))))) else (.ik (n3 + (1 : Int)) (.v (.go (l0, (n3 + (1 : Int)), ()))))))))) else (.v (.brk (l0, n3, ()))) : Tr (St _ _))) x.1 x.2.1⟩
theorem zVQ (l0 : List (El zI)) : LB.run zDL (l0, (0 : Int), ()) = bif ze (fun i x => bif (decide ((i : Int) > (2 : Int))) then (bif (!x.2.2) then false else (bif (!(zAi x).1) then false else (bif ((i : Int) == (0 : Int)) then (bif x.2.2 then false else (bif (decide ((i : Int) > (0 : Int))) then (bif (zB zI l0 ((i : Int) - (1 : Int))).2.2 then (bif (!x.2.2) then false else true) else true) else true)) else (bif (decide ((i : Int) > (0 : Int))) then (bif (zB zI l0 ((i : Int) - (1 : Int))).2.2 then (bif (!x.2.2) then false else true) else true) else true)))) else (bif (!(zAi x).1) then false else (bif ((i : Int) == (0 : Int)) then (bif x.2.2 then false else (bif (decide ((i : Int) > (0 : Int))) then (bif (zB zI l0 ((i : Int) - (1 : Int))).2.2 then (bif (!x.2.2) then false else true) else true) else true)) else (bif (decide ((i : Int) > (0 : Int))) then (bif (zB zI l0 ((i : Int) - (1 : Int))).2.2 then (bif (!x.2.2) then false else true) else true) else true)))) 0 l0 then .brk (l0, (l0.length : Int), ()) else .ret (false, ()) := LB.run_all (l := zDL) (fun i => (l0, (i : Int), ())) (fun i x h => by
  simp only [LB.b, zDL, zi, zQ, zR, cond_true, yQ h, zG h]
  cases (decide ((i : Int) > (2 : Int)))
  ·cases (!(zAi x).1)
   ·cases ((i : Int) == (0 : Int))
    ·cases (decide ((i : Int) > (0 : Int)))
     ·rfl
     ·cases (zB zI l0 ((i : Int) - (1 : Int))).2.2
      ·rfl
      ·cases (!x.2.2) <;> rfl
    ·cases x.2.2
     ·cases (decide ((i : Int) > (0 : Int)))
      ·rfl
      ·cases (zB zI l0 ((i : Int) - (1 : Int))).2.2
       ·rfl
       ·cases (!x.2.2) <;> rfl
     ·rfl
   ·rfl
  ·cases (!x.2.2)
   ·cases (!(zAi x).1)
    ·cases ((i : Int) == (0 : Int))
     ·cases (decide ((i : Int) > (0 : Int)))
      ·rfl
      ·cases (zB zI l0 ((i : Int) - (1 : Int))).2.2
       ·rfl
       ·cases (!x.2.2) <;> rfl
     ·cases x.2.2
      ·cases (decide ((i : Int) > (0 : Int)))
       ·rfl
       ·cases (zB zI l0 ((i : Int) - (1 : Int))).2.2
        ·rfl
        ·cases (!x.2.2) <;> rfl
      ·rfl
    ·rfl
   ·rfl) (by simp only [LB.b, zDL, xo]; rfl)
theorem zV6 : SF zDL fun x : List (El zI) × Int × Unit => (0 ≤ x.2.1, (x.1.length : Int) - x.2.1) := x5 (by
 rintro ⟨(l0 : List (El zI)), (n3 : Int), ⟨⟩⟩ hI hw
 have _ : (l0.length : Int) ≤ 16777216 := zE (hw.1.1)
 simp [zDL] at hI ⊢
 repeat' first | intro _ | apply And.intro
 all_goals omega)
def zK1 (a0 : List (El zI)) : Tr (Bool × Unit) := .lp zDL (a0, (0 : Int), ()) (fun r3 => .v (r3.1, ())) (fun t3 => .v ((yB (t3.1.length : Int) (1 : Int) (6 : Int)).1, ()))
def zFI a0 := (zK1 a0).val
@[reducible] def zTr : FnD := ⟨[vd (.lst zI)], [vd .bool], true, fun _ => none, fun a => zFI a.1⟩
theorem zgO (a0 : List (El zI)) (_ : xH zTr.args (a0, ())) : (zK1 a0).ok := by
 unfold zK1
 refine zJ ?_ ?_
 ·exact zV6 _ (by (dsimp only <;> omega))
 ·simp
def zdQ : Con Tryz.prog := yE mo g0 [zhn, zAV] [zDL] 97 zTr (fn := Tryz.f97) ⟨lk, trivial⟩ (fun a hw _ => yX (by kernel_rfl) (zgO a.1 hw) rfl)
theorem zOL (a0 : List (El zI)) : zFI a0 = bif ze (fun i x => bif (decide ((i : Int) > (2 : Int))) then (bif (!x.2.2) then false else (bif (!(zAi x).1) then false else (bif ((i : Int) == (0 : Int)) then (bif x.2.2 then false else (bif (decide ((i : Int) > (0 : Int))) then (bif (zB zI a0 ((i : Int) - (1 : Int))).2.2 then (bif (!x.2.2) then false else true) else true) else true)) else (bif (decide ((i : Int) > (0 : Int))) then (bif (zB zI a0 ((i : Int) - (1 : Int))).2.2 then (bif (!x.2.2) then false else true) else true) else true)))) else (bif (!(zAi x).1) then false else (bif ((i : Int) == (0 : Int)) then (bif x.2.2 then false else (bif (decide ((i : Int) > (0 : Int))) then (bif (zB zI a0 ((i : Int) - (1 : Int))).2.2 then (bif (!x.2.2) then false else true) else true) else true)) else (bif (decide ((i : Int) > (0 : Int))) then (bif (zB zI a0 ((i : Int) - (1 : Int))).2.2 then (bif (!x.2.2) then false else true) else true) else true)))) 0 a0 then ((yB (a0.length : Int) (1 : Int) (6 : Int)).1, ()) else (false, ()) := by
 simp only [zFI, zK1, zR, zy, zQ]
 rw [zVQ, z6] <;> rfl
theorem zgT {l : List (El zI)} (h : (zFI l).1 = true) : (∀ p ∈ l, p.2.1.length ≤ 5) ∧ (l.filter (fun p => !p.2.2)).length ≤ 3 := by
 rw [zOL] at h
 simp only [z8, zKH] at h
 obtain ⟨h3, _⟩ := h
 rw [zw] at h3
 have key : ∀ i p, l[i]? = some p → (zAi p).1 = true ∧ (2 < i → p.2.2 = true) := by
  intro i p hp
  have := h3 i p hp
  by_cases hi : 2 < i
  ·rw [decide_eq_true (show ((0 + i : Nat) : Int) > (2 : Int) by omega)] at this
   simp only [cond_true, zA1] at this
   exact ⟨vj this.2.1, fun _ => vj this.1⟩
  ·rw [decide_eq_false (show ¬ ((0 + i : Nat) : Int) > (2 : Int) by omega)] at this
   simp only [cond_false, zA1] at this
   exact ⟨vj this.1, fun h => absurd h hi⟩
 constructor
 ·intro p hp
  obtain ⟨i, hi⟩ := List.mem_iff_getElem?.1 hp
  exact ziZ (key i p hi).1
 ·have e : (l.drop 3).filter (fun p => !p.2.2) = [] := by
   rw [List.filter_eq_nil_iff]
   intro p hp
   obtain ⟨i, hi⟩ := List.mem_iff_getElem?.1 hp
   rw [List.getElem?_drop] at hi
   rw [(key _ p hi).2 (by omega)]; simp
  have : l.filter (fun p => !p.2.2) = (l.take 3).filter (fun p => !p.2.2) ++ (l.drop 3).filter (fun p => !p.2.2) := by rw [← List.filter_append, List.take_append_drop]
  rw [this, e, List.append_nil]
  have h1 := List.length_filter_le (fun (p : El zI) => !p.2.2) (l.take 3)
  have h2 := List.length_take_le 3 l
  omega
def zK8 (a0 : El zP) : Tr (Bool × Unit) := bif (yB a0.1 (1 : Int) (3 : Int)).1 then (bif (zDh a0.2.1).1 then (bif (zDh a0.2.2).1 then (bif (a0.2.1.1 != (3 : Int)) then (.v ((a0.2.2.1 != (3 : Int)), ())) else (.v (false, ()))) else (.v (false, ()))) else (.v (false, ()))) else (.v (false, ()))
def zE3 a0 := (zK8 a0).val
@[reducible] def zfU : FnD := ⟨[va zP], [vd .bool], true, fun _ => none, fun a => zE3 a.1⟩
def zgt : Con Tryz.prog := yE mo g0 [zAV, zPs] [] 161 zfU (fn := Tryz.f161) trivial (fun a _ _ => yX (t' := zK8 a.1) (by kernel_rfl) (by simp [zK8]) rfl)
def zIw (a0 : El zj) (a1 : List (El .str)) : Tr (Bool × Unit) := bif (a0.1 != (1 : Int)) then (.v (true, ())) else (.v ((vq a1 a0.2.1).1, ()))
def yr a0 a1 := (zIw a0 a1).val
@[reducible] def zax : FnD := ⟨[va zj, vd (.lst .str)], [vd .bool], true, fun _ => none, fun a => yr a.1 a.2.1⟩
def zPv : Con Tryz.prog := yE mo g0 [zQj] [] 162 zax (fn := Tryz.f162) trivial (fun a _ _ => yX (t' := zIw a.1 a.2.1) (by kernel_rfl) (by simp [zIw]) rfl)
@[reducible] def zBP : LB := ⟨[], ⟨41, [], [(0, vd (.lst zP)), (1, vd (.lst .str)), (5, vd .int)]⟩, ⟨41, [], [(4, vd .bool)]⟩, 0, fun x => (fun (l0 : List (El zP)) (l1 : List (El .str)) (n5 : Int) => (bif decide (n5 < (l0.length : Int)) then (.ix n5 l0 (bif (!(zE3 (zB zP l0 n5)).1) then (.v (.ret (false, ()))) else (.ix n5 l0 (bif (!(yr (zB zP l0 n5).2.1 l1).1) then (.v (.ret (false, ()))) else (.ix n5 l0 (bif (!(yr (zB zP l0 n5).2.2 l1).1) then (.v (.ret (false, ()))) else (.ik (n5 + (1 : Int)) (.v (.go (l0, l1, (n5 + (1 : Int)), ())))))))))) else (.v (.brk (l0, l1, n5, ()))) : Tr (St _ _))) x.1 x.2.1 x.2.2.1⟩
theorem zTF (l0 : List (El zP)) (l1 : List (El .str)) : LB.run zBP (l0, l1, (0 : Int), ()) = bif ze (fun _ x => bif (!(zE3 x).1) then false else (bif (!(yr x.2.1 l1).1) then false else (bif (!(yr x.2.2 l1).1) then false else true))) 0 l0 then .brk (l0, l1, (l0.length : Int), ()) else .ret (false, ()) := LB.run_all (l := zBP) (fun i => (l0, l1, (i : Int), ())) (fun i x h => by
  simp only [LB.b, zBP, zi, zQ, zR, cond_true, yQ h, zG h]
  cases (!(zE3 x).1)
  ·cases (!(yr x.2.1 l1).1)
   ·cases (!(yr x.2.2 l1).1) <;> rfl
   ·rfl
  ·rfl) (by simp only [LB.b, zBP, xo]; rfl)
theorem zTC : SF zBP fun x : List (El zP) × List (El .str) × Int × Unit => (0 ≤ x.2.2.1, (x.1.length : Int) - x.2.2.1) := x5 (by
 rintro ⟨(l0 : List (El zP)), (l1 : List (El .str)), (n5 : Int), ⟨⟩⟩ hI hw
 have _ : (l0.length : Int) ≤ 16777216 := zE (hw.1.1)
 simp [zBP] at hI ⊢
 repeat' first | intro _ | apply And.intro
 all_goals omega)
def zI9 (a0 : List (El zP)) (a1 : List (El .str)) : Tr (Bool × Unit) := .lp zBP (a0, a1, (0 : Int), ()) (fun r5 => .v (r5.1, ())) (fun t5 => .v (decide ((t5.1.length : Int) ≤ (6 : Int)), ()))
def zJa a0 a1 := (zI9 a0 a1).val
@[reducible] def zRd : FnD := ⟨[vd (.lst zP), vd (.lst .str)], [vd .bool], true, fun _ => none, fun a => zJa a.1 a.2.1⟩
theorem zbT (a0 : List (El zP)) (a1 : List (El .str)) (_ : xH zRd.args (a0, a1, ())) : (zI9 a0 a1).ok := by
 unfold zI9
 refine zJ ?_ ?_
 ·exact zTC _ (by (dsimp only <;> omega))
 ·simp
def zcX : Con Tryz.prog := yE mo g0 [zgt, zPv] [zBP] 98 zRd (fn := Tryz.f98) ⟨lk, trivial⟩ (fun a hw _ => yX (by kernel_rfl) (zbT a.1 a.2.1 hw) rfl)
theorem zcN (a0 : List (El zP)) (a1 : List (El .str)) : zJa a0 a1 = bif ze (fun _ x => bif (!(zE3 x).1) then false else (bif (!(yr x.2.1 a1).1) then false else (bif (!(yr x.2.2 a1).1) then false else true))) 0 a0 then (decide ((a0.length : Int) ≤ (6 : Int)), ()) else (false, ()) := by
 simp only [zJa, zI9, zR, zy, zQ]
 rw [zTF, z6] <;> rfl
@[reducible] def zAY : LB := ⟨[], ⟨22, [.d zC], [(1, .pt 0 0), (3, vd .int), (4, vd .int)]⟩, ⟨22, [], []⟩, 0, fun x => (fun (w0 : El zC) (n3 : Int) (n4 : Int) => (bif decide (n4 < (w0.2.2.1.length : Int)) then (.ix n4 w0.2.2.1 (bif (!(zB zI w0.2.2.1 n4).2.2) then (.ik (n3 + (1 : Int)) (.ik (n4 + (1 : Int)) (.v (.go (w0, (), (n3 + (1 : Int)), (n4 + (1 : Int)), ()))))) else (.ik (n4 + (1 : Int)) (.v (.go (w0, (), n3, (n4 + (1 : Int)), ())))))) else (.v (.brk (w0, (), n3, n4, ()))) : Tr (St _ _))) x.1 x.2.2.1 x.2.2.2.1⟩
theorem zHW (w0 : El zC) (n3 : Int) : LB.run zAY (w0, (), n3, (0 : Int), ()) = .brk (w0, (), (zc (fun _ x (s : Int) => bif (!x.2.2) then (s + (1 : Int)) else s) 0 w0.2.2.1 n3), (w0.2.2.1.length : Int), ()) := LB.run_fold (l := zAY) (fun i s => (w0, (), s, (i : Int), ())) (fun i x s h => by
  simp only [LB.b, zAY, zi, zQ, zR, cond_true, yQ h, zG h]
  cases (!x.2.2) <;> rfl) (fun s => by simp only [LB.b, zAY, xo]; rfl)
theorem zQC : SF zAY fun x : El zC × Unit × Int × Int × Unit => (0 ≤ x.2.2.2.1 ∧ (0 ≤ x.2.2.1 ∧ x.2.2.1 ≤ x.2.2.2.1), (x.1.2.2.1.length : Int) - x.2.2.2.1) := x5 (by
 rintro ⟨(w0 : El zC), ⟨⟩, (n3 : Int), (n4 : Int), ⟨⟩⟩ hI hw
 have _ : -9223372036854775808 ≤ n3 ∧ n3 ≤ 9223372036854775807 := z0 hw.2.2.1
 have _ : (w0.2.2.1.length : Int) ≤ 16777216 := zE (hw.1.2.2.1.1)
 simp [zAY] at hI ⊢
 repeat' first | intro _ | apply And.intro
 all_goals omega)
def zFn (a0 : El zC) : Tr (Int × Unit) := .lp zAY (a0, (), (0 : Int), (0 : Int), ()) (fun _ => .bad) (fun t1 => .v (t1.2.2.1, ()))
def xG a0 := (zFn a0).val
@[reducible] def zOm : FnD := ⟨[va zC], [vd .int], true, fun _ => none, fun a => xG a.1⟩
theorem zYq (a0 : El zC) (_ : xH zOm.args (a0, ())) : (zFn a0).ok := by
 unfold zFn
 refine zJ ?_ ?_
 ·exact zQC _ ⟨by (dsimp only <;> omega), by (dsimp only <;> omega)⟩
 ·refine vJ (zHW a0 (0 : Int)) ?_
  try dsimp only
  trivial
def zKQ : Con Tryz.prog := yE mo g0 [] [zAY] 100 zOm (fn := Tryz.f100) ⟨lk, trivial⟩ (fun a hw _ => yX (by kernel_rfl) (zYq a.1 hw) rfl)
theorem zXb (a0 : El zC) : xG a0 = ((zc (fun _ x (s : Int) => bif (!x.2.2) then (s + (1 : Int)) else s) 0 a0.2.2.1 (0 : Int)), ()) := by
 simp only [xG, zFn, zR, zy, zQ]
 rw [zHW, xa] <;> rfl
theorem zFc (r : El zC) : (xG r).1 = ((r.2.2.1.filter (fun p => !p.2.2)).length : Int) := by
 simp only [xG, zFn, zQ, zR, zy]
 rw [zHW]
 show zc (fun i x (s : Int) => bif (!x.2.2) then (s + (1 : Int)) else s) 0 r.2.2.1 (0 : Int) = _
 rw [zH1]; simp
def zkG (d : El zN) (s : El zH) : Prop := s.1.length ≤ 40 ∧ d.2.length ≤ 12 ∧ ∀ r ∈ d.2, (∀ p ∈ r.2.2.1, p.2.1.length ≤ 5) ∧ (r.2.2.1.filter (fun p => !p.2.2)).length ≤ 3
def zG8 (a0 : El zj) : Tr (Bool × Unit) := bif (zDh a0).1 then (.v ((a0.1 != (3 : Int)), ())) else (.v (false, ()))
def zBg a0 := (zG8 a0).val
@[reducible] def zaz : FnD := ⟨[va zj], [vd .bool], true, fun _ => none, fun a => zBg a.1⟩
def za1 : Con Tryz.prog := yE mo g0 [zPs] [] 275 zaz (fn := Tryz.f275) trivial (fun a _ _ => yX (t' := zG8 a.1) (by kernel_rfl) (by simp [zG8]) rfl)
def zKv (a0 : El zq) : Tr (Bool × Unit) := bif (a0.1.toList == (⟨#[]⟩ : ByteArray).toList) then (bif (zBg a0.2.1).1 then (.v (((a0.2.2.1 == (0 : Int)) && ((a0.2.2.2.1.toList == (⟨#[]⟩ : ByteArray).toList) && (((a0.2.2.2.2.1 == (0 : Int)) && ((a0.2.2.2.2.2.1 == (0 : Int)) && ((a0.2.2.2.2.2.2.toList == (⟨#[]⟩ : ByteArray).toList) && true))) && true))), ())) else (.v (false, ()))) else (bif (a0.1.toList == (⟨#[43]⟩ : ByteArray).toList) then (bif (a0.1.toList == (⟨#[43]⟩ : ByteArray).toList) then (bif (zBg a0.2.1).1 then (.v ((zBg a0.2.2).1, ())) else (.v (false, ()))) else (.v (false, ()))) else (bif (a0.1.toList == (⟨#[45]⟩ : ByteArray).toList) then (bif (zBg a0.2.1).1 then (.v ((zBg a0.2.2).1, ())) else (.v (false, ()))) else (.v (false, ()))))
def zE5 a0 := (zKv a0).val
@[reducible] def zdP : FnD := ⟨[va zq], [vd .bool], true, fun _ => none, fun a => zE5 a.1⟩
def zde : Con Tryz.prog := yE mo g0 [za1] [] 256 zdP (fn := Tryz.f256) trivial (fun a _ _ => yX (t' := zKv a.1) (by kernel_rfl) (by simp [zKv]) rfl)
@[reducible] def zDH : LB := ⟨[], ⟨19, [], [(0, vd (.lst zq)), (3, vd .int)]⟩, ⟨19, [], [(2, vd .bool)]⟩, 0, fun x => (fun (l0 : List (El zq)) (n3 : Int) => (bif decide (n3 < (l0.length : Int)) then (.ix n3 l0 (bif (!(zE5 (zB zq l0 n3)).1) then (.v (.ret (false, ()))) else (.ik (n3 + (1 : Int)) (.v (.go (l0, (n3 + (1 : Int)), ())))))) else (.v (.brk (l0, n3, ()))) : Tr (St _ _))) x.1 x.2.1⟩
theorem zWK (l0 : List (El zq)) : LB.run zDH (l0, (0 : Int), ()) = bif ze (fun _ x => bif (!(zE5 x).1) then false else true) 0 l0 then .brk (l0, (l0.length : Int), ()) else .ret (false, ()) := LB.run_all (l := zDH) (fun i => (l0, (i : Int), ())) (fun i x h => by
  simp only [LB.b, zDH, zi, zQ, zR, cond_true, yQ h, zG h]
  cases (!(zE5 x).1) <;> rfl) (by simp only [LB.b, zDH, xo]; rfl)
theorem zWf : SF zDH fun x : List (El zq) × Int × Unit => (0 ≤ x.2.1, (x.1.length : Int) - x.2.1) := x5 (by
 rintro ⟨(l0 : List (El zq)), (n3 : Int), ⟨⟩⟩ hI hw
 have _ : (l0.length : Int) ≤ 16777216 := zE (hw.1.1)
 simp [zDH] at hI ⊢
 repeat' first | intro _ | apply And.intro
 all_goals omega)
def zLN (a0 : List (El zq)) : Tr (Bool × Unit) := .lp zDH (a0, (0 : Int), ()) (fun r2 => .v (r2.1, ())) (fun t2 => .v (decide ((t2.1.length : Int) ≤ (5 : Int)), ()))
def zAB a0 := (zLN a0).val
@[reducible] def zUJ : FnD := ⟨[vd (.lst zq)], [vd .bool], true, fun _ => none, fun a => zAB a.1⟩
theorem zeP (a0 : List (El zq)) (_ : xH zUJ.args (a0, ())) : (zLN a0).ok := by
 unfold zLN
 refine zJ ?_ ?_
 ·exact zWf _ (by (dsimp only <;> omega))
 ·simp
def zgs : Con Tryz.prog := yE mo g0 [zde] [zDH] 217 zUJ (fn := Tryz.f217) ⟨lk, trivial⟩ (fun a hw _ => yX (by kernel_rfl) (zeP a.1 hw) rfl)
theorem zeL (a0 : List (El zq)) : zAB a0 = bif ze (fun _ x => bif (!(zE5 x).1) then false else true) 0 a0 then (decide ((a0.length : Int) ≤ (5 : Int)), ()) else (false, ()) := by
 simp only [zAB, zLN, zR, zy, zQ]
 rw [zWK, z6] <;> rfl
def zND (a0 : El z5) : Tr (Bool × Unit) := bif (a0.2.1.toList == (⟨#[]⟩ : ByteArray).toList) then (bif ((a0.2.2.1.length : Int) == (0 : Int)) then (bif (a0.1 == (1 : Int)) then (bif (yP a0.2.1).1 then (bif (zAB a0.2.2.1).1 then (bif (a0.2.2.2.1 == (0 : Int)) then (.v ((a0.2.2.2.2.toList == (⟨#[]⟩ : ByteArray).toList), ())) else (.v (false, ()))) else (.v (false, ()))) else (.v (false, ()))) else (bif (a0.1 == (3 : Int)) then (bif (yP a0.2.1).1 then (bif (zAB a0.2.2.1).1 then (bif (a0.2.2.2.1 == (0 : Int)) then (bif (a0.2.2.2.2.toList == (⟨#[]⟩ : ByteArray).toList) then (.v (true, ())) else (.v ((yP a0.2.2.2.2).1, ()))) else (.v (false, ()))) else (.v (false, ()))) else (.v (false, ()))) else (bif (a0.1 == (4 : Int)) then (bif (yP a0.2.1).1 then (bif (zAB a0.2.2.1).1 then (bif (yB a0.2.2.2.1 (0 : Int) (100000 : Int)).1 then (.v ((a0.2.2.2.2.toList == (⟨#[]⟩ : ByteArray).toList), ())) else (.v (false, ()))) else (.v (false, ()))) else (.v (false, ()))) else (bif (a0.1 == (2 : Int)) then (bif (a0.2.2.2.2.toList == (⟨#[]⟩ : ByteArray).toList) then (.v ((yB a0.2.2.2.1 (0 : Int) (7 : Int)).1, ())) else (.v (false, ()))) else (bif (a0.1 == (5 : Int)) then (bif (a0.1 == (5 : Int)) then (bif (a0.2.2.2.2.toList == (⟨#[]⟩ : ByteArray).toList) then (.v ((a0.2.2.2.1 == (0 : Int)), ())) else (.v (false, ()))) else (.v (false, ()))) else (bif (a0.1 == (6 : Int)) then (bif (a0.2.2.2.2.toList == (⟨#[]⟩ : ByteArray).toList) then (.v ((a0.2.2.2.1 == (0 : Int)), ())) else (.v (false, ()))) else (.v (false, ())))))))) else (bif (a0.1 == (1 : Int)) then (bif (yP a0.2.1).1 then (bif (zAB a0.2.2.1).1 then (bif (a0.2.2.2.1 == (0 : Int)) then (.v ((a0.2.2.2.2.toList == (⟨#[]⟩ : ByteArray).toList), ())) else (.v (false, ()))) else (.v (false, ()))) else (.v (false, ()))) else (bif (a0.1 == (3 : Int)) then (bif (yP a0.2.1).1 then (bif (zAB a0.2.2.1).1 then (bif (a0.2.2.2.1 == (0 : Int)) then (bif (a0.2.2.2.2.toList == (⟨#[]⟩ : ByteArray).toList) then (.v (true, ())) else (.v ((yP a0.2.2.2.2).1, ()))) else (.v (false, ()))) else (.v (false, ()))) else (.v (false, ()))) else (bif (a0.1 == (4 : Int)) then (bif (yP a0.2.1).1 then (bif (zAB a0.2.2.1).1 then (bif (yB a0.2.2.2.1 (0 : Int) (100000 : Int)).1 then (.v ((a0.2.2.2.2.toList == (⟨#[]⟩ : ByteArray).toList), ())) else (.v (false, ()))) else (.v (false, ()))) else (.v (false, ()))) else (bif (a0.1 == (2 : Int)) then (.v (false, ())) else (bif (a0.1 == (5 : Int)) then (bif (a0.1 == (5 : Int)) then (.v (false, ())) else (.v (false, ()))) else (bif (a0.1 == (6 : Int)) then (.v (false, ())) else (.v (false, ()))))))))) else (bif (a0.1 == (1 : Int)) then (bif (yP a0.2.1).1 then (bif (zAB a0.2.2.1).1 then (bif (a0.2.2.2.1 == (0 : Int)) then (.v ((a0.2.2.2.2.toList == (⟨#[]⟩ : ByteArray).toList), ())) else (.v (false, ()))) else (.v (false, ()))) else (.v (false, ()))) else (bif (a0.1 == (3 : Int)) then (bif (yP a0.2.1).1 then (bif (zAB a0.2.2.1).1 then (bif (a0.2.2.2.1 == (0 : Int)) then (bif (a0.2.2.2.2.toList == (⟨#[]⟩ : ByteArray).toList) then (.v (true, ())) else (.v ((yP a0.2.2.2.2).1, ()))) else (.v (false, ()))) else (.v (false, ()))) else (.v (false, ()))) else (bif (a0.1 == (4 : Int)) then (bif (yP a0.2.1).1 then (bif (zAB a0.2.2.1).1 then (bif (yB a0.2.2.2.1 (0 : Int) (100000 : Int)).1 then (.v ((a0.2.2.2.2.toList == (⟨#[]⟩ : ByteArray).toList), ())) else (.v (false, ()))) else (.v (false, ()))) else (.v (false, ()))) else (bif (a0.1 == (2 : Int)) then (.v (false, ())) else (bif (a0.1 == (5 : Int)) then (bif (a0.1 == (5 : Int)) then (.v (false, ())) else (.v (false, ()))) else (bif (a0.1 == (6 : Int)) then (.v (false, ())) else (.v (false, ()))))))))
def zHX a0 := (zND a0).val
@[reducible] def zg7 : FnD := ⟨[va z5], [vd .bool], true, fun _ => none, fun a => zHX a.1⟩
def zhu : Con Tryz.prog := yE mo g0 [zFE, zgs, zAV] [] 163 zg7 (fn := Tryz.f163) trivial (fun a _ _ => yX (t' := zND a.1) (by kernel_rfl) (by simp [zND]) rfl)
@[reducible] def zBn : LB := ⟨[], ⟨77, [], [(0, vd (.lst z5)), (1, vd (.lst .str)), (2, vd .int), (7, vd .int), (8, vd .int)]⟩, ⟨77, [], [(6, vd .bool)]⟩, 2, fun x => (fun (l0 : List (El z5)) (l1 : List (El .str)) (n2 : Int) (n7 : Int) (n8 : Int) => (.ix n7 l0 (bif decide (n8 < ((zB z5 l0 n7).2.2.1.length : Int)) then (.ix n7 l0 (.ix n8 (zB z5 l0 n7).2.2.1 (bif (!(yr (zB zq (zB z5 l0 n7).2.2.1 n8).2.1 l1).1) then (.v (.ret (false, ()))) else (.ix n7 l0 (.ix n8 (zB z5 l0 n7).2.2.1 (bif (!(yr (zB zq (zB z5 l0 n7).2.2.1 n8).2.2 l1).1) then (.v (.ret (false, ()))) else (.ik (n8 + (1 : Int)) (.v (.go (l0, l1, n2, n7, (n8 + (1 : Int)), ())))))))))) else (.v (.brk (l0, l1, n2, n7, n8, ())))) : Tr (St _ _))) x.1 x.2.1 x.2.2.1 x.2.2.2.1 x.2.2.2.2.1⟩
theorem zM9 (l0 : List (El z5)) (l1 : List (El .str)) (n2 : Int) (n7 : Int) : LB.run zBn (l0, l1, n2, n7, (0 : Int), ()) = bif ze (fun _ x => bif (!(yr x.2.1 l1).1) then false else (bif (!(yr x.2.2 l1).1) then false else true)) 0 (zB z5 l0 n7).2.2.1 then .brk (l0, l1, n2, n7, ((zB z5 l0 n7).2.2.1.length : Int), ()) else .ret (false, ()) := LB.run_all (l := zBn) (fun i => (l0, l1, n2, n7, (i : Int), ())) (fun i x h => by
  simp only [LB.b, zBn, zi, zQ, zR, cond_true, yQ h, zG h]
  cases (!(yr x.2.1 l1).1)
  ·cases (!(yr x.2.2 l1).1) <;> rfl
  ·rfl) (by simp only [LB.b, zBn, xo]; rfl)
theorem zWF : SF zBn fun x : List (El z5) × List (El .str) × Int × Int × Int × Unit => (0 ≤ x.2.2.2.2.1 ∧ (0 ≤ x.2.2.2.1 ∧ x.2.2.2.1 < (x.1.length : Int)), ((zB z5 x.1 x.2.2.2.1).2.2.1.length : Int) - x.2.2.2.2.1) := x5 (by
 rintro ⟨(l0 : List (El z5)), (l1 : List (El .str)), (n2 : Int), (n7 : Int), (n8 : Int), ⟨⟩⟩ hI hw
 obtain ⟨i0, i1⟩ := hI
 dsimp only at i0 i1
 have _ : -9223372036854775808 ≤ n2 ∧ n2 ≤ 9223372036854775807 := z0 hw.2.2.1
 have _ : -9223372036854775808 ≤ n7 ∧ n7 ≤ 9223372036854775807 := z0 hw.2.2.2.1
 have _ : ((zB z5 l0 n7).2.2.1.length : Int) ≤ 16777216 := zE ((zjn (t := z5) hw.1.2 (by omega)).2.2.1.1)
 have _ : (l0.length : Int) ≤ 16777216 := zE (hw.1.1)
 simp [zBn] at i0 i1 ⊢
 repeat' first | intro _ | apply And.intro
 all_goals omega)
@[reducible] def zCz : LB := ⟨[], ⟨77, [], [(0, vd (.lst z5)), (1, vd (.lst .str)), (2, vd .int), (7, vd .int)]⟩, ⟨77, [], [(6, vd .bool)]⟩, 0, fun x => (fun (l0 : List (El z5)) (l1 : List (El .str)) (n2 : Int) (n7 : Int) => (bif decide (n7 < (l0.length : Int)) then (.ix n7 l0 (bif (!(zHX (zB z5 l0 n7)).1) then (.v (.ret (false, ()))) else (.ix n7 l0 (bif ((zB z5 l0 n7).1 == (2 : Int)) then (.ix n7 l0 (bif decide ((zB z5 l0 n7).2.2.2.1 ≥ n2) then (.v (.ret (false, ()))) else (.lp zBn (l0, l1, n2, n7, (0 : Int), ()) (fun r5 => .v (.ret (r5.1, ()))) (fun t5 => .ik (t5.2.2.2.1 + (1 : Int)) (.v (.go (t5.1, t5.2.1, t5.2.2.1, (t5.2.2.2.1 + (1 : Int)), ()))))))) else (.lp zBn (l0, l1, n2, n7, (0 : Int), ()) (fun r6 => .v (.ret (r6.1, ()))) (fun t6 => .ik (t6.2.2.2.1 + (1 : Int)) (.v (.go (t6.1, t6.2.1, t6.2.2.1, (t6.2.2.2.1 + (1 : Int)), ()))))))))) else (.v (.brk (l0, l1, n2, n7, ()))) : Tr (St _ _))) x.1 x.2.1 x.2.2.1 x.2.2.2.1⟩
theorem zVu : SF zCz fun x : List (El z5) × List (El .str) × Int × Int × Unit => (0 ≤ x.2.2.2.1, (x.1.length : Int) - x.2.2.2.1) := x5 (by
 rintro ⟨(l0 : List (El z5)), (l1 : List (El .str)), (n2 : Int), (n7 : Int), ⟨⟩⟩ hI hw
 have _ : -9223372036854775808 ≤ n2 ∧ n2 ≤ 9223372036854775807 := z0 hw.2.2.1
 have _ : (l0.length : Int) ≤ 16777216 := zE (hw.1.1)
 simp only [zCz, Tr.lp]
 rw [zM9 l0 l1 n2 n7]
 simp [z6] at hI ⊢
 repeat' first | exact zWF _ ⟨by (dsimp only <;> omega), by (dsimp only <;> omega)⟩ | intro _ | apply And.intro
 all_goals omega)
def zLa (a0 : List (El z5)) (a1 : List (El .str)) (a2 : Int) : Tr (Bool × Unit) := .lp zCz (a0, a1, a2, (0 : Int), ()) (fun r7 => .v (r7.1, ())) (fun t7 => .v ((yB (t7.1.length : Int) (1 : Int) (6 : Int)).1, ()))
def zLD a0 a1 a2 := (zLa a0 a1 a2).val
@[reducible] def zTk : FnD := ⟨[vd (.lst z5), vd (.lst .str), vd .int], [vd .bool], true, fun _ => none, fun a => zLD a.1 a.2.1 a.2.2.1⟩
theorem zfW (a0 : List (El z5)) (a1 : List (El .str)) (a2 : Int) (_ : xH zTk.args (a0, a1, a2, ())) : (zLa a0 a1 a2).ok := by
 unfold zLa
 refine zJ ?_ ?_
 ·exact zVu _ (by (dsimp only <;> omega))
 ·simp
def zgw : Con Tryz.prog := yE mo g0 [zhu, zPv, zAV] [zCz, zBn] 99 zTk (fn := Tryz.f99) ⟨lk, lk, trivial⟩ (fun a hw _ => yX (by kernel_rfl) (zfW a.1 a.2.1 a.2.2.1 hw) rfl)
def zGc (a0 : El zC) : Tr (Bool × Unit) := .ck (zJL a0) (bif (yP a0.1).1 then (bif (yB a0.2.1 (-100 : Int) (100 : Int)).1 then (bif (zFI a0.2.2.1).1 then (bif (zJa a0.2.2.2.1 (zDx a0).1).1 then (.v ((zLD a0.2.2.2.2 (zDx a0).1 (xG a0).1).1, ())) else (.v (false, ()))) else (.v (false, ()))) else (.v (false, ()))) else (.v (false, ())))
def zA3 a0 := (zGc a0).val
def zLW (a0 : El zC) : Prop := SzR a0
@[reducible] def zTo : FnD := ⟨[va zC], [vd .bool], true, fun a => some (zLW a.1), fun a => zA3 a.1⟩
theorem zgM (a0 : El zC) (_ : xH zTo.args (a0, ())) (hp : zLW a0) : (zGc a0).ok := by
 unfold zLW at hp
 unfold zGc
 refine zJ ?_ ?_
 ·exact hp
 ·simp
def zgE : Con Tryz.prog := yE mo g0 [zb7, zFE, zAV, zdQ, zcX, zKQ, zgw] [] 52 zTo (fn := Tryz.f52) trivial (fun a hw h => yX (by kernel_rfl) (zgM a.1 hw h) rfl)
theorem zdm {r : El zC} (h : (zA3 r).1 = true) : (∀ p ∈ r.2.2.1, p.2.1.length ≤ 5) ∧ (r.2.2.1.filter (fun p => !p.2.2)).length ≤ 3 := by
 simp only [zA3, zGc, zi, zQ, zR, z8, zKH] at h
 exact zgT h.2.2.1
@[reducible] def zBo : LB := ⟨[], ⟨22, [.d zN], [(1, vd .str), (2, .pt 0 0), (5, vd .int)]⟩, ⟨22, [], [(4, vd .int)]⟩, 0, fun x => (fun (w0 : El zN) (s1 : ByteArray) (n5 : Int) => (bif decide (n5 < (w0.2.length : Int)) then (.ix n5 w0.2 (bif ((zB zC w0.2 n5).1.toList == s1.toList) then (.v (.ret (n5, ()))) else (.ik (n5 + (1 : Int)) (.v (.go (w0, s1, (), (n5 + (1 : Int)), ())))))) else (.v (.brk (w0, s1, (), n5, ()))) : Tr (St _ _))) x.1 x.2.1 x.2.2.2.1⟩
theorem zV9 (w0 : El zN) (s1 : ByteArray) : LB.run zBo (w0, s1, (), (0 : Int), ()) = zDg (xB (fun i x => bif (x.1.toList == s1.toList) then (some ((i : Int), ())) else none) 0 w0.2) (w0, s1, (), (w0.2.length : Int), ()) := LB.run_scan (l := zBo) (fun i => (w0, s1, (), (i : Int), ())) (fun i x h => by
  simp only [LB.b, zBo, zi, zQ, zR, cond_true, yQ h, zG h]
  cases (x.1.toList == s1.toList) <;> rfl) (by simp only [LB.b, zBo, xo]; rfl)
theorem zWa : SF zBo fun x : El zN × ByteArray × Unit × Int × Unit => (0 ≤ x.2.2.2.1, (x.1.2.length : Int) - x.2.2.2.1) := x5 (by
 rintro ⟨(w0 : El zN), (s1 : ByteArray), ⟨⟩, (n5 : Int), ⟨⟩⟩ hI hw
 have _ : (w0.2.length : Int) ≤ 16777216 := zE (hw.1.2.1)
 simp [zBo] at hI ⊢
 repeat' first | intro _ | apply And.intro
 all_goals omega)
def zKz (a0 : El zN) (a1 : ByteArray) : Tr (Int × Unit) := .lp zBo (a0, a1, (), (0 : Int), ()) (fun r1 => .v (r1.1, ())) (fun _ => .v ((-1 : Int), ()))
def zD5 a0 a1 := (zKz a0 a1).val
@[reducible] def zUN : FnD := ⟨[va zN, vd .str], [vd .int], true, fun _ => none, fun a => zD5 a.1 a.2.1⟩
theorem zgx (a0 : El zN) (a1 : ByteArray) (_ : xH zUN.args (a0, a1, ())) : (zKz a0 a1).ok := by
 unfold zKz
 refine zJ ?_ ?_
 ·exact zWa _ (by (dsimp only <;> omega))
 ·simp
def zfK : Con Tryz.prog := yE mo g0 [] [zBo] 53 zUN (fn := Tryz.f53) ⟨lk, trivial⟩ (fun a hw _ => yX (by kernel_rfl) (zgx a.1 a.2.1 hw) rfl)
theorem zgK (a0 : El zN) (a1 : ByteArray) : zD5 a0 a1 = zE1 (xB (fun i x => bif (x.1.toList == a1.toList) then (some ((i : Int), ())) else none) 0 a0.2) (fun (r1 : zBo.r.T) => (r1.1, ())) ((-1 : Int), ()) := by
 simp only [zD5, zKz, zR, zy, zQ]
 rw [zV9, xw] <;> rfl
@[reducible] def zD9 : LB := ⟨[], ⟨39, [.d zN], [(1, .pt 0 0), (3, vd .int)]⟩, ⟨39, [], [(2, vd .bool)]⟩, 0, fun x => (fun (w0 : El zN) (n3 : Int) => (bif decide (n3 < (w0.2.length : Int)) then (.ix n3 w0.2 (.ck (zLW (zB zC w0.2 n3)) (bif (!(zA3 (zB zC w0.2 n3)).1) then (.v (.ret (false, ()))) else (.ix n3 w0.2 (bif ((zD5 w0 (zB zC w0.2 n3).1).1 != n3) then (.v (.ret (false, ()))) else (.ik (n3 + (1 : Int)) (.v (.go (w0, (), (n3 + (1 : Int)), ()))))))))) else (.v (.brk (w0, (), n3, ()))) : Tr (St _ _))) x.1 x.2.2.1⟩
theorem zYG (w0 : El zN) : LB.run zD9 (w0, (), (0 : Int), ()) = bif ze (fun i x => bif (!(zA3 x).1) then false else (bif ((zD5 w0 x.1).1 != (i : Int)) then false else true)) 0 w0.2 then .brk (w0, (), (w0.2.length : Int), ()) else .ret (false, ()) := LB.run_all (l := zD9) (fun i => (w0, (), (i : Int), ())) (fun i x h => by
  simp only [LB.b, zD9, zi, zQ, zR, cond_true, yQ h, zG h]
  cases (!(zA3 x).1)
  ·cases ((zD5 w0 x.1).1 != (i : Int)) <;> rfl
  ·rfl) (by simp only [LB.b, zD9, xo]; rfl)
theorem zXs : SF zD9 fun x : El zN × Unit × Int × Unit => (0 ≤ x.2.2.1 ∧ ∀ r ∈ x.1.2, SzR r, (x.1.2.length : Int) - x.2.2.1) := x5 (by
 rintro ⟨(w0 : El zN), ⟨⟩, (n3 : Int), ⟨⟩⟩ hI hw
 obtain ⟨i0, k0⟩ := hI
 dsimp only at i0 k0
 have _ : (w0.2.length : Int) ≤ 16777216 := zE (hw.1.2.1)
 simp [zD9, -Prod.forall]
 repeat' first | exact k0 _ (z4 (by omega)) | assumption | intro _ | apply And.intro
 all_goals omega)
def zN4 (a0 : El zN) : Tr (Bool × Unit) := .lp zD9 (a0, (), (0 : Int), ()) (fun r3 => .v (r3.1, ())) (fun t3 => bif (yP t3.1.1).1 then (.v ((yB (t3.1.2.length : Int) (1 : Int) (12 : Int)).1, ())) else (.v (false, ())))
def zC7 a0 := (zN4 a0).val
def zKe (a0 : El zN) : Prop := ∀ r ∈ a0.2, SzR r
@[reducible] def zYD : FnD := ⟨[va zN], [vd .bool], true, fun a => some (zKe a.1), fun a => zC7 a.1⟩
theorem zig (a0 : El zN) (_ : xH zYD.args (a0, ())) (hp : zKe a0) : (zN4 a0).ok := by
 unfold zKe at hp
 unfold zN4
 refine zJ ?_ ?_
 ·exact zXs _ ⟨by (dsimp only <;> first | omega | assumption | (simp <;> omega)), by (dsimp only <;> first | omega | assumption | (simp <;> omega))⟩
 ·simp
def zYL : Con Tryz.prog := yE mo g0 [zgE, zfK, zFE, zAV] [zD9] 29 zYD (fn := Tryz.f29) ⟨lk, trivial⟩ (fun a hw h => yX (by kernel_rfl) (zig a.1 hw h) rfl)
theorem zRM (a0 : El zN) : zC7 a0 = bif ze (fun i x => bif (!(zA3 x).1) then false else (bif ((zD5 a0 x.1).1 != (i : Int)) then false else true)) 0 a0.2 then (bif (yP a0.1).1 then ((yB (a0.2.length : Int) (1 : Int) (12 : Int)).1, ()) else (false, ())) else (false, ()) := by
 simp only [zC7, zN4, zR, zi, zy, zQ]
 rw [zYG, z6] <;> rfl
theorem ziT {d : El zN} (h : (zC7 d).1 = true) : d.2.length ≤ 12 ∧ ∀ r ∈ d.2, (zA3 r).1 = true := by
 rw [zRM] at h
 simp only [z8, zKH] at h
 obtain ⟨h3, h1, h2⟩ := h
 have := zK3 h2
 rw [zw] at h3
 refine ⟨by omega, fun r hr => ?_⟩
 obtain ⟨i, hi⟩ := List.mem_iff_getElem?.1 hr
 have := h3 i r hi
 simp only [zA1] at this
 exact vj this.1
@[reducible] def vk : LB := ⟨[], ⟨22, [.d zp], [(1, vd .str), (2, .pt 0 0), (5, vd .int)]⟩, ⟨22, [], [(4, vd .int)]⟩, 0, fun x => (fun (w0 : El zp) (s1 : ByteArray) (n5 : Int) => (bif decide (n5 < (w0.1.length : Int)) then (.ix n5 w0.1 (bif ((zB zN w0.1 n5).1.toList == s1.toList) then (.v (.ret (n5, ()))) else (.ik (n5 + (1 : Int)) (.v (.go (w0, s1, (), (n5 + (1 : Int)), ())))))) else (.v (.brk (w0, s1, (), n5, ()))) : Tr (St _ _))) x.1 x.2.1 x.2.2.2.1⟩
theorem zXH (w0 : El zp) (s1 : ByteArray) : LB.run vk (w0, s1, (), (0 : Int), ()) = zDg (xB (fun i x => bif (x.1.toList == s1.toList) then (some ((i : Int), ())) else none) 0 w0.1) (w0, s1, (), (w0.1.length : Int), ()) := LB.run_scan (l := vk) (fun i => (w0, s1, (), (i : Int), ())) (fun i x h => by
  simp only [LB.b, vk, zi, zQ, zR, cond_true, yQ h, zG h]
  cases (x.1.toList == s1.toList) <;> rfl) (by simp only [LB.b, vk, xo]; rfl)
theorem zYY (w00 : El zp) (s10 : ByteArray) (n50 : Int)  : (LB.run vk (w00, s10, (), n50, ())).all (fun r => r.1 < (w00.1.length : Int)) (fun (w0, s1, _) => w00 = w0 ∧ s10 = s1) (fun (w0, s1, _) => w00 = w0 ∧ s10 = s1) := by
 have H : ∀ (w0 : El zp) (s1 : ByteArray) (n5 : Int), (w00 = w0 ∧ s10 = s1) → St.all (fun r => r.1 < (w00.1.length : Int)) (fun (w0, s1, _) => w00 = w0 ∧ s10 = s1) (fun (w0, s1, _) => w00 = w0 ∧ s10 = s1) (vk.b (w0, s1, (), n5, ())) := by
  intro w0 s1 n5 hI
  obtain ⟨eq0, eq1⟩ := hI
  simp only [LB.b, vk, zi, zQ, zR]
  refine zd (fun h1 => ?_) (fun h1 => ?_)
  ·replace h1 : n5 < (w0.1.length : Int) := of_decide_eq_true h1
   refine zd (fun h2 => ?_) (fun h2 => ?_)
   ·exact zJj (by subst_vars; dsimp only; omega)
   ·exact ⟨eq0, eq1⟩
  ·replace h1 : ¬ (n5 < (w0.1.length : Int)) := of_decide_eq_false h1
   exact ⟨eq0, eq1⟩
 exact LB.post (l := vk) (A := fun r => r.1 < (w00.1.length : Int)) (fun (w0, s1, _) => w00 = w0 ∧ s10 = s1) (fun ⟨w0, s1, ⟨⟩, n5, ⟨⟩⟩ hx => H w0 s1 n5 hx) ⟨rfl, rfl⟩
theorem zXi : SF vk fun x : El zp × ByteArray × Unit × Int × Unit => (0 ≤ x.2.2.2.1, (x.1.1.length : Int) - x.2.2.2.1) := x5 (by
 rintro ⟨(w0 : El zp), (s1 : ByteArray), ⟨⟩, (n5 : Int), ⟨⟩⟩ hI hw
 have _ : (w0.1.length : Int) ≤ 16777216 := zE (hw.1.1.1)
 simp [vk] at hI ⊢
 repeat' first | intro _ | apply And.intro
 all_goals omega)
def zKj (a0 : El zp) (a1 : ByteArray) : Tr (Int × Unit) := .lp vk (a0, a1, (), (0 : Int), ()) (fun r1 => .v (r1.1, ())) (fun _ => .v ((-1 : Int), ()))
def xJ a0 a1 := (zKj a0 a1).val
@[reducible] def zYo : FnD := ⟨[va zp, vd .str], [vd .int], true, fun _ => none, fun a => xJ a.1 a.2.1⟩
theorem zjb (a0 : El zp) (a1 : ByteArray) (_ : xH zYo.args (a0, a1, ())) : (zKj a0 a1).ok := by
 unfold zKj
 refine zJ ?_ ?_
 ·exact zXi _ (by (dsimp only <;> omega))
 ·simp
def zYA : Con Tryz.prog := yE mo g0 [] [vk] 30 zYo (fn := Tryz.f30) ⟨lk, trivial⟩ (fun a hw _ => yX (by kernel_rfl) (zjb a.1 a.2.1 hw) rfl)
theorem ziv (a0 : El zp) (a1 : ByteArray) : xJ a0 a1 = zE1 (xB (fun i x => bif (x.1.toList == a1.toList) then (some ((i : Int), ())) else none) 0 a0.1) (fun (r1 : vk.r.T) => (r1.1, ())) ((-1 : Int), ()) := by
 simp only [xJ, zKj, zR, zy, zQ]
 rw [zXH, xw] <;> rfl
theorem zXU (b : El zp) (s : ByteArray) : (xJ b s).1 < (b.1.length : Int) := by
 simp only [xJ, zKj, zQ, zR, zy]
 have := zYY b s (0 : Int)
 revert this
 cases (LB.run vk (b, s, (), (0 : Int), ())) with
 | ret r => intro h; exact h
 | brk t => intro _; show (-1 : Int) < _; omega
 | go t => intro _; show (-1 : Int) < _; omega
def zNX (a0 : El ye) : Tr (Bool × Unit) := bif (a0.2.2.2.2.2.1 == (2 : Int)) then (.v (true, ())) else (bif (a0.2.2.2.2.2.1 == (4 : Int)) then (.v (true, ())) else (.v ((a0.2.2.2.2.2.1 == (6 : Int)), ())))
def zQH a0 := (zNX a0).val
@[reducible] def zjL : FnD := ⟨[va ye], [vd .bool], true, fun _ => none, fun a => zQH a.1⟩
def zhP : Con Tryz.prog := yE mo g0 [] [] 60 zjL (fn := Tryz.f60) trivial (fun a _ _ => yX (t' := zNX a.1) (by kernel_rfl) (by simp [zNX]) rfl)
@[reducible] def zBa : LB := ⟨[], ⟨24, [], [(0, vd (.lst zO)), (3, vd .int)]⟩, ⟨24, [], [(2, vd .bool)]⟩, 0, fun x => (fun (l0 : List (El zO)) (n3 : Int) => (bif decide (n3 < (l0.length : Int)) then (.ix n3 l0 (bif ((zB zO l0 n3).2.2.1 == (1 : Int)) then (.v (.ret (true, ()))) else (.ix n3 l0 (bif ((zB zO l0 n3).2.2.1 == (2 : Int)) then (.v (.ret (true, ()))) else (.ik (n3 + (1 : Int)) (.v (.go (l0, (n3 + (1 : Int)), ())))))))) else (.v (.brk (l0, n3, ()))) : Tr (St _ _))) x.1 x.2.1⟩
theorem zSQ (l0 : List (El zO)) : LB.run zBa (l0, (0 : Int), ()) = bif ze (fun _ x => bif (x.2.2.1 == (1 : Int)) then false else (bif (x.2.2.1 == (2 : Int)) then false else true)) 0 l0 then .brk (l0, (l0.length : Int), ()) else .ret (true, ()) := LB.run_all (l := zBa) (fun i => (l0, (i : Int), ())) (fun i x h => by
  simp only [LB.b, zBa, zi, zQ, zR, cond_true, yQ h, zG h]
  cases (x.2.2.1 == (1 : Int))
  ·cases (x.2.2.1 == (2 : Int)) <;> rfl
  ·rfl) (by simp only [LB.b, zBa, xo]; rfl)
theorem zSf : SF zBa fun x : List (El zO) × Int × Unit => (0 ≤ x.2.1, (x.1.length : Int) - x.2.1) := x5 (by
 rintro ⟨(l0 : List (El zO)), (n3 : Int), ⟨⟩⟩ hI hw
 have _ : (l0.length : Int) ≤ 16777216 := zE (hw.1.1)
 simp [zBa] at hI ⊢
 repeat' first | intro _ | apply And.intro
 all_goals omega)
def zJ4 (a0 : List (El zO)) : Tr (Bool × Unit) := .lp zBa (a0, (0 : Int), ()) (fun r1 => .v (r1.1, ())) (fun _ => .v (false, ()))
def zGt a0 := (zJ4 a0).val
@[reducible] def zRG : FnD := ⟨[vd (.lst zO)], [vd .bool], true, fun _ => none, fun a => zGt a.1⟩
theorem zb9 (a0 : List (El zO)) (_ : xH zRG.args (a0, ())) : (zJ4 a0).ok := by
 unfold zJ4
 refine zJ ?_ ?_
 ·exact zSf _ (by (dsimp only <;> omega))
 ·simp
def zZo : Con Tryz.prog := yE mo g0 [] [zBa] 61 zRG (fn := Tryz.f61) ⟨lk, trivial⟩ (fun a hw _ => yX (by kernel_rfl) (zb9 a.1 hw) rfl)
theorem zb2 (a0 : List (El zO)) : zGt a0 = bif ze (fun _ x => bif (x.2.2.1 == (1 : Int)) then false else (bif (x.2.2.1 == (2 : Int)) then false else true)) 0 a0 then (false, ()) else (true, ()) := by
 simp only [zGt, zJ4, zR, zy, zQ]
 rw [zSQ, z6] <;> rfl
def zFa (a0 : El ye) : Tr (Bool × Unit) := bif (a0.2.2.2.2.2.1 == (3 : Int)) then (.v (true, ())) else (.v ((a0.2.2.2.2.2.1 == (5 : Int)), ()))
def zFX a0 := (zFa a0).val
@[reducible] def zTY : FnD := ⟨[va ye], [vd .bool], true, fun _ => none, fun a => zFX a.1⟩
def zR6 : Con Tryz.prog := yE mo g0 [] [] 62 zTY (fn := Tryz.f62) trivial (fun a _ _ => yX (t' := zFa a.1) (by kernel_rfl) (by simp [zFa]) rfl)
def zJ2 (a0 : El zN) (a1 : El zA) : Tr (Bool × Unit) := bif decide (a1.1 ≥ (0 : Int)) then (.v (decide (a1.1 < (a0.2.length : Int)), ())) else (.v (false, ()))
def yz a0 a1 := (zJ2 a0 a1).val
@[reducible] def zcB : FnD := ⟨[va zN, va zA], [vd .bool], true, fun _ => none, fun a => yz a.1 a.2.1⟩
def zMf : Con Tryz.prog := yE mo g0 [] [] 106 zcB (fn := Tryz.f106) trivial (fun a _ _ => yX (t' := zJ2 a.1 a.2.1) (by kernel_rfl) (by simp [zJ2]) rfl)
theorem zGw {d : El zN} {m : El zA} (h : (yz d m).1 = true) : 0 ≤ m.1 ∧ m.1 < (d.2.length : Int) := by
 simp only [yz, zJ2, zi, zR] at h
 cases e : decide (m.1 ≥ (0 : Int)) with
 | false => rw [e] at h; cases h
 | true =>
  rw [e] at h
  exact ⟨of_decide_eq_true e, of_decide_eq_true h⟩
def zOe (a0 : El zr) : Tr (El zr × Unit) := .ck ((a0.2.length : Int) ≤ 16777216) (.v (a0, ()))
def zKy a0 := (zOe a0).val
@[reducible] def zUc : FnD := ⟨[va zr], [.val true (.pr (.d .str) (.o (.d zK)))], true, fun _ => none, fun a => zKy a.1⟩
theorem zdO (a0 : El zr) (hw : xH zUc.args (a0, ())) : (zOe a0).ok := by
 unfold zOe
 refine zJ ?_ ?_
 ·have _ : (a0.2.length : Int) ≤ 16777216 := zE (hw.1.2.1); first | omega | (simp <;> omega)
 ·trivial
def zeh : Con Tryz.prog := yE mo g0 [] [] 168 zUc (fn := Tryz.f168) trivial (fun a hw _ => yX (by kernel_rfl) (zdO a.1 hw) rfl)
@[reducible] def zBj : LB := ⟨[1, 0], ⟨30, [.pr (.d .str) (.o (.d zK)), .d zH], [(1, vd .int), (2, .pt 1 0), (4, .pt 0 0), (6, vd .int)]⟩, ⟨30, [.pr (.d .str) (.o (.d zK))], [(4, .pt 0 0), (5, vd .bool)]⟩, 0, fun x => (fun (w0 : El zr) (w1 : El zH) (n1 : Int) (n6 : Int) => (bif decide (n6 < (w1.1.length : Int)) then (.ix n6 w1.1 (bif ((zB zD w1.1 n6).1 == n1) then (.ix n6 w1.1 (.v (.ret ((zKy (zB zD w1.1 n6).2).1, (), true, ())))) else (.ik (n6 + (1 : Int)) (.v (.go (w0, w1, n1, (), (), (n6 + (1 : Int)), ())))))) else (.v (.brk (w0, w1, n1, (), (), n6, ()))) : Tr (St _ _))) x.1 x.2.1 x.2.2.1 x.2.2.2.2.2.1⟩
theorem zVW (w0 : El zr) (w1 : El zH) (n1 : Int) : LB.run zBj (w0, w1, n1, (), (), (0 : Int), ()) = zDg (xB (fun _ x => bif (x.1 == n1) then (some ((zKy x.2).1, (), true, ())) else none) 0 w1.1) (w0, w1, n1, (), (), (w1.1.length : Int), ()) := LB.run_scan (l := zBj) (fun i => (w0, w1, n1, (), (), (i : Int), ())) (fun i x h => by
  simp only [LB.b, zBj, zi, zQ, zR, cond_true, yQ h, zG h]
  cases (x.1 == n1) <;> rfl) (by simp only [LB.b, zBj, xo]; rfl)
theorem zVX : SF zBj fun x : El zr × El zH × Int × Unit × Unit × Int × Unit => (0 ≤ x.2.2.2.2.2.1, (x.2.1.1.length : Int) - x.2.2.2.2.2.1) := x5 (by
 rintro ⟨(w0 : El zr), (w1 : El zH), (n1 : Int), ⟨⟩, ⟨⟩, (n6 : Int), ⟨⟩⟩ hI hw
 have _ : -9223372036854775808 ≤ n1 ∧ n1 ≤ 9223372036854775807 := z0 hw.2.2.1
 have _ : (w1.1.length : Int) ≤ 16777216 := zE (hw.2.1.1.1)
 simp [zBj] at hI ⊢
 repeat' first | intro _ | apply And.intro
 all_goals omega)
def zLn (a0 : El zH) (a1 : Int) : Tr (El zr × Bool × Unit) := .lp zBj (((⟨#[]⟩ : ByteArray), ([] : List (El zK))), a0, a1, (), (), (0 : Int), ()) (fun r2 => .v (r2.1, r2.2.2.1, ())) (fun _ => .v (((⟨#[]⟩ : ByteArray), ([] : List (El zK))), false, ()))
def zAT a0 a1 := (zLn a0 a1).val
@[reducible] def zT2 : FnD := ⟨[va zH, vd .int], [.val true (.pr (.d .str) (.o (.d zK))), vd .bool], true, fun _ => none, fun a => zAT a.1 a.2.1⟩
theorem zdM (a0 : El zH) (a1 : Int) (_ : xH zT2.args (a0, a1, ())) : (zLn a0 a1).ok := by
 unfold zLn
 refine zJ ?_ ?_
 ·exact zVX _ (by simp)
 ·simp
def zfj : Con Tryz.prog := yE mo g0 [zeh] [zBj] 107 zT2 (fn := Tryz.f107) ⟨lk, trivial⟩ (fun a hw _ => yX (by kernel_rfl) (zdM a.1 a.2.1 hw) rfl)
theorem zgS (a0 : El zH) (a1 : Int) : zAT a0 a1 = zE1 (xB (fun _ x => bif (x.1 == a1) then (some ((zKy x.2).1, (), true, ())) else none) 0 a0.1) (fun (r1 : zBj.r.T) => (r1.1, r1.2.2.1, ())) (((⟨#[]⟩ : ByteArray), ([] : List (El zK))), false, ()) := by
 simp only [zAT, zLn, zR, zy, zQ]
 rw [zVW, xw] <;> rfl
@[reducible] def xi : LB := ⟨[], ⟨69, [.d zN, .d ye, .d zA], [(2, .pt 0 0), (3, .pt 1 0), (5, vd .int), (6, .pt 2 0), (7, vd .int)]⟩, ⟨69, [], [(4, vd .bool)]⟩, 2, fun x => (fun (w0 : El zN) (w1 : El ye) (w2 : El zA) (n5 : Int) (n7 : Int) => (bif decide (n7 < (w2.2.1.length : Int)) then (.ix n7 w2.2.1 (bif (!(zAT w1.1 (zB .int w2.2.1 n7)).2.1) then (.v (.ret (false, ()))) else (.ik (n7 + (1 : Int)) (.v (.go (w0, w1, w2, (), (), n5, (), (n7 + (1 : Int)), ())))))) else (.v (.brk (w0, w1, w2, (), (), n5, (), n7, ()))) : Tr (St _ _))) x.1 x.2.1 x.2.2.1 x.2.2.2.2.2.1 x.2.2.2.2.2.2.2.1⟩
theorem zRl (w0 : El zN) (w1 : El ye) (w2 : El zA) (n5 : Int) : LB.run xi (w0, w1, w2, (), (), n5, (), (0 : Int), ()) = bif ze (fun _ x => bif (!(zAT w1.1 x).2.1) then false else true) 0 w2.2.1 then .brk (w0, w1, w2, (), (), n5, (), (w2.2.1.length : Int), ()) else .ret (false, ()) := LB.run_all (l := xi) (fun i => (w0, w1, w2, (), (), n5, (), (i : Int), ())) (fun i x h => by
  simp only [LB.b, xi, zi, zQ, zR, cond_true, yQ h, zG h]
  cases (!(zAT w1.1 x).2.1) <;> rfl) (by simp only [LB.b, xi, xo]; rfl)
theorem zQf : SF xi fun x : El zN × El ye × El zA × Unit × Unit × Int × Unit × Int × Unit => (0 ≤ x.2.2.2.2.2.2.2.1, (x.2.2.1.2.1.length : Int) - x.2.2.2.2.2.2.2.1) := x5 (by
 rintro ⟨(w0 : El zN), (w1 : El ye), (w2 : El zA), ⟨⟩, ⟨⟩, (n5 : Int), ⟨⟩, (n7 : Int), ⟨⟩⟩ hI hw
 have _ : -9223372036854775808 ≤ n5 ∧ n5 ≤ 9223372036854775807 := z0 hw.2.2.2.2.2.1
 have _ : (w2.2.1.length : Int) ≤ 16777216 := zE (hw.2.2.1.2.1.1)
 simp [xi] at hI ⊢
 repeat' first | intro _ | apply And.intro
 all_goals omega)
@[reducible] def zBs : LB := ⟨[], ⟨69, [.d zN, .d ye], [(2, .pt 0 0), (3, .pt 1 0), (5, vd .int)]⟩, ⟨69, [], [(4, vd .bool)]⟩, 0, fun x => (fun (w0 : El zN) (w1 : El ye) (n5 : Int) => (bif decide (n5 < (w1.2.1.length : Int)) then (.ix n5 w1.2.1 (bif (!(yz w0 (zB zA w1.2.1 n5)).1) then (.v (.ret (false, ()))) else (bif (((zB zA w1.2.1 n5).2.2.length : Int) != (0 : Int)) then (.v (.ret (false, ()))) else (.ix (zB zA w1.2.1 n5).1 w0.2 (bif (((zB zA w1.2.1 n5).2.1.length : Int) != (xG (zB zC w0.2 (zB zA w1.2.1 n5).1)).1) then (.v (.ret (false, ()))) else (.lp xi (w0, w1, (zB zA w1.2.1 n5), (), (), n5, (), (0 : Int), ()) (fun r8 => .v (.ret (r8.1, ()))) (fun t8 => .ik (t8.2.2.2.2.2.1 + (1 : Int)) (.v (.go (t8.1, t8.2.1, (), (), (t8.2.2.2.2.2.1 + (1 : Int)), ())))))))))) else (.v (.brk (w0, w1, (), (), n5, ()))) : Tr (St _ _))) x.1 x.2.1 x.2.2.2.2.1⟩
theorem zQp : SF zBs fun x : El zN × El ye × Unit × Unit × Int × Unit => (0 ≤ x.2.2.2.2.1, (x.2.1.2.1.length : Int) - x.2.2.2.2.1) := x5 (by
 rintro ⟨(w0 : El zN), (w1 : El ye), ⟨⟩, ⟨⟩, (n5 : Int), ⟨⟩⟩ hI hw
 dsimp only at hI ⊢
 have i0 := hI
 have hb : (w1.2.1.length : Int) ≤ 16777216 := zE (hw.2.1.2.1.1)
 refine ⟨by omega, ?_⟩
 refine x4 (fun h3 => ?_) (fun h3 => ?_)
 ·replace h3 : n5 < (w1.2.1.length : Int) := of_decide_eq_true h3
  refine yt ?_ ?_
  ·first | omega | (simp <;> omega)
  ·refine x4 (fun h4 => ?_) (fun h4 => ?_)
   ·exact trivial
   ·replace h4 := vj h4
    replace h4 := zGw h4
    refine x4 (fun h5 => ?_) (fun h5 => ?_)
    ·replace h5 := zct h5
     exact trivial
    ·replace h5 := zAg h5
     refine yt ?_ ?_
     ·first | omega | (simp <;> omega)
     ·refine x4 (fun h6 => ?_) (fun h6 => ?_)
      ·replace h6 := zct h6
       exact trivial
      ·replace h6 := zAg h6
       refine yt ?_ ?_
       ·exact zQf _ (by (dsimp only <;> omega))
       ·refine zVh (zRl w0 w1 (zB zA w1.2.1 n5) n5) ?_ ?_
        ·try dsimp only
         refine yt ?_ ?_
         ·exact ink (by omega) (by omega)
         ·exact show (0 ≤ (n5 + (1 : Int))) ∧ (w1.2.1.length : Int) - (n5 + (1 : Int)) < (w1.2.1.length : Int) - n5 ∧ 0 < (w1.2.1.length : Int) - n5 from ⟨by (first | omega | rfl | assumption | (simp <;> omega)), by (first | omega | (simp only [List.length_set]; omega)), by (first | omega | (simp only [List.length_set]; omega))⟩
        ·try dsimp only
         exact trivial
 ·replace h3 : ¬ (n5 < (w1.2.1.length : Int)) := of_decide_eq_false h3
  exact trivial)
def zHw (a0 : El zN) (a1 : El ye) : Tr (Bool × Unit) := .lp zBs (a0, a1, (), (), (0 : Int), ()) (fun r9 => .v (r9.1, ())) (fun t9 => .v (decide ((t9.2.1.2.1.length : Int) ≤ (1000 : Int)), ()))
def zFu a0 a1 := (zHw a0 a1).val
@[reducible] def zOj : FnD := ⟨[va zN, va ye], [vd .bool], true, fun _ => none, fun a => zFu a.1 a.2.1⟩
theorem zZH (a0 : El zN) (a1 : El ye) (_ : xH zOj.args (a0, a1, ())) : (zHw a0 a1).ok := by
 unfold zHw
 refine zJ ?_ ?_
 ·exact zQp _ (by (dsimp only <;> first | omega | rfl | assumption | (simp <;> omega)))
 ·simp
def zYM : Con Tryz.prog := yE mo g0 [zMf, zfj, zKQ] [zBs, xi] 59 zOj (fn := Tryz.f59) ⟨lk, lk, trivial⟩ (fun a hw _ => yX (by kernel_rfl) (zZH a.1 a.2.1 hw) rfl)
@[reducible] def zCX : LB := ⟨[], ⟨19, [], [(0, vd (.lst zK)), (3, vd .int)]⟩, ⟨19, [], [(2, vd .bool)]⟩, 0, fun x => (fun (l0 : List (El zK)) (n3 : Int) => (bif decide (n3 < (l0.length : Int)) then (.ix n3 l0 (bif (!(zEk (zB zK l0 n3)).1) then (.v (.ret (false, ()))) else (.ik (n3 + (1 : Int)) (.v (.go (l0, (n3 + (1 : Int)), ())))))) else (.v (.brk (l0, n3, ()))) : Tr (St _ _))) x.1 x.2.1⟩
theorem zVw (l0 : List (El zK)) : LB.run zCX (l0, (0 : Int), ()) = bif ze (fun _ x => bif (!(zEk x).1) then false else true) 0 l0 then .brk (l0, (l0.length : Int), ()) else .ret (false, ()) := LB.run_all (l := zCX) (fun i => (l0, (i : Int), ())) (fun i x h => by
  simp only [LB.b, zCX, zi, zQ, zR, cond_true, yQ h, zG h]
  cases (!(zEk x).1) <;> rfl) (by simp only [LB.b, zCX, xo]; rfl)
theorem zU1 : SF zCX fun x : List (El zK) × Int × Unit => (0 ≤ x.2.1, (x.1.length : Int) - x.2.1) := x5 (by
 rintro ⟨(l0 : List (El zK)), (n3 : Int), ⟨⟩⟩ hI hw
 have _ : (l0.length : Int) ≤ 16777216 := zE (hw.1.1)
 simp [zCX] at hI ⊢
 repeat' first | intro _ | apply And.intro
 all_goals omega)
def zKp (a0 : List (El zK)) : Tr (Bool × Unit) := .lp zCX (a0, (0 : Int), ()) (fun r2 => .v (r2.1, ())) (fun t2 => .v (decide ((t2.1.length : Int) ≤ (5 : Int)), ()))
def zLw a0 := (zKp a0).val
@[reducible] def zUO : FnD := ⟨[vd (.lst zK)], [vd .bool], true, fun _ => none, fun a => zLw a.1⟩
theorem zd8 (a0 : List (El zK)) (_ : xH zUO.args (a0, ())) : (zKp a0).ok := by
 unfold zKp
 refine zJ ?_ ?_
 ·exact zU1 _ (by (dsimp only <;> omega))
 ·simp
def zdy : Con Tryz.prog := yE mo g0 [zRT] [zCX] 164 zUO (fn := Tryz.f164) ⟨lk, trivial⟩ (fun a hw _ => yX (by kernel_rfl) (zd8 a.1 hw) rfl)
theorem zd3 (a0 : List (El zK)) : zLw a0 = bif ze (fun _ x => bif (!(zEk x).1) then false else true) 0 a0 then (decide ((a0.length : Int) ≤ (5 : Int)), ()) else (false, ()) := by
 simp only [zLw, zKp, zR, zy, zQ]
 rw [zVw, z6] <;> rfl
def zLY (a0 : El zr) : Tr (Bool × Unit) := bif (yP a0.1).1 then (.v ((zLw a0.2).1, ())) else (.v (false, ()))
def zAC a0 := (zLY a0).val
@[reducible] def zf1 : FnD := ⟨[va zr], [vd .bool], true, fun _ => none, fun a => zAC a.1⟩
def zLT : Con Tryz.prog := yE mo g0 [zFE, zdy] [] 101 zf1 (fn := Tryz.f101) trivial (fun a _ _ => yX (t' := zLY a.1) (by kernel_rfl) (by simp [zLY]) rfl)
@[reducible] def vC : LB := ⟨[], ⟨47, [], [(0, vd (.lst zU)), (3, vd .int), (4, vd .int)]⟩, ⟨47, [], [(2, vd .bool)]⟩, 2, fun x => (fun (l0 : List (El zU)) (n3 : Int) (n4 : Int) => (bif decide (n4 < n3) then (.ix n3 l0 (.ix n4 l0 (bif ((zB zU l0 n3).1.toList == (zB zU l0 n4).1.toList) then (.v (.ret (false, ()))) else (.ik (n4 + (1 : Int)) (.v (.go (l0, n3, (n4 + (1 : Int)), ()))))))) else (.v (.brk (l0, n3, n4, ()))) : Tr (St _ _))) x.1 x.2.1 x.2.2.1⟩
theorem zS1 (l00 : List (El zU)) (n30 : Int) (n40 : Int)  : (LB.run vC (l00, n30, n40, ())).all (fun _ => True) (fun (l0, n3, _) => l00 = l0 ∧ n30 = n3) (fun (l0, n3, _) => l00 = l0 ∧ n30 = n3) := by
 have H : ∀ (l0 : List (El zU)) (n3 : Int) (n4 : Int), (l00 = l0 ∧ n30 = n3) → St.all (fun _ => True) (fun (l0, n3, _) => l00 = l0 ∧ n30 = n3) (fun (l0, n3, _) => l00 = l0 ∧ n30 = n3) (vC.b (l0, n3, n4, ())) := by
  intro l0 n3 n4 hI
  obtain ⟨eq0, eq1⟩ := hI
  simp only [LB.b, vC, zi, zQ, zR]
  refine zd (fun h1 => ?_) (fun h1 => ?_)
  ·replace h1 : n4 < n3 := of_decide_eq_true h1
   refine zd (fun h2 => ?_) (fun h2 => ?_)
   ·exact trivial
   ·exact ⟨eq0, eq1⟩
  ·replace h1 : ¬ (n4 < n3) := of_decide_eq_false h1
   exact ⟨eq0, eq1⟩
 exact LB.post (l := vC) (A := fun _ => True) (fun (l0, n3, _) => l00 = l0 ∧ n30 = n3) (fun ⟨l0, n3, n4, ⟨⟩⟩ hx => H l0 n3 n4 hx) ⟨rfl, rfl⟩
theorem zSg : SF vC fun x : List (El zU) × Int × Int × Unit => (0 ≤ x.2.2.1 ∧ (0 ≤ x.2.1 ∧ x.2.1 < (x.1.length : Int)) ∧ x.2.1 ≤ (x.1.length : Int), x.2.1 - x.2.2.1) := x5 (by
 rintro ⟨(l0 : List (El zU)), (n3 : Int), (n4 : Int), ⟨⟩⟩ hI hw
 have _ : -9223372036854775808 ≤ n3 ∧ n3 ≤ 9223372036854775807 := z0 hw.2.1
 have _ : (l0.length : Int) ≤ 16777216 := zE (hw.1.1)
 simp [vC] at hI ⊢
 repeat' first | intro _ | apply And.intro
 all_goals omega)
@[reducible] def zCv : LB := ⟨[], ⟨47, [], [(0, vd (.lst zU)), (3, vd .int)]⟩, ⟨47, [], [(2, vd .bool)]⟩, 0, fun x => (fun (l0 : List (El zU)) (n3 : Int) => (bif decide (n3 < (l0.length : Int)) then (.ix n3 l0 (bif (!(yB ((zB zU l0 n3).1.size : Int) (1 : Int) (200 : Int)).1) then (.v (.ret (false, ()))) else (.ix n3 l0 (bif (!(zAC (zB zU l0 n3).2).1) then (.v (.ret (false, ()))) else (.lp vC (l0, n3, (0 : Int), ()) (fun r4 => .v (.ret (r4.1, ()))) (fun t4 => .ik (t4.2.1 + (1 : Int)) (.v (.go (t4.1, (t4.2.1 + (1 : Int)), ()))))))))) else (.v (.brk (l0, n3, ()))) : Tr (St _ _))) x.1 x.2.1⟩
theorem zSr : SF zCv fun x : List (El zU) × Int × Unit => (0 ≤ x.2.1, (x.1.length : Int) - x.2.1) := x5 (by
 rintro ⟨(l0 : List (El zU)), (n3 : Int), ⟨⟩⟩ hI hw
 dsimp only at hI ⊢
 have i0 := hI
 have hb : (l0.length : Int) ≤ 16777216 := zE (hw.1.1)
 refine ⟨by omega, ?_⟩
 refine x4 (fun h3 => ?_) (fun h3 => ?_)
 ·replace h3 : n3 < (l0.length : Int) := of_decide_eq_true h3
  refine yt ?_ ?_
  ·first | omega | (simp <;> omega)
  ·refine x4 (fun h4 => ?_) (fun h4 => ?_)
   ·exact trivial
   ·replace h4 := vj h4
    replace h4 := zK3 h4
    refine yt ?_ ?_
    ·first | omega | (simp <;> omega)
    ·refine x4 (fun h5 => ?_) (fun h5 => ?_)
     ·exact trivial
     ·refine yt ?_ ?_
      ·exact zSg _ ⟨by (dsimp only <;> omega), by (dsimp only <;> omega), by (dsimp only <;> omega)⟩
      ·refine zMd (A' := fun _ => True) (B' := fun (t4l0, t4n3, t4n4, _) => l0 = t4l0 ∧ n3 = t4n3) (zS1 l0 n3 (0 : Int)) (fun r _ => ?_) (fun t ht => ?_)
       ·obtain ⟨r4b2, ⟨⟩⟩ := r
        dsimp only
        exact trivial
       ·obtain ⟨t4l0, t4n3, t4n4, ⟨⟩⟩ := t
        dsimp only
        obtain ⟨rfl, rfl⟩ := ht
        obtain ⟨t4n4, rfl⟩ : ∃ y : Int, y = t4n4 := ⟨_, rfl⟩
        refine yt ?_ ?_
        ·exact ink (by omega) (by omega)
        ·exact show (0 ≤ (n3 + (1 : Int))) ∧ (l0.length : Int) - (n3 + (1 : Int)) < (l0.length : Int) - n3 ∧ 0 < (l0.length : Int) - n3 from ⟨by (first | omega | rfl | assumption | (simp <;> omega)), by (first | omega | (simp only [List.length_set]; omega)), by (first | omega | (simp only [List.length_set]; omega))⟩
 ·replace h3 : ¬ (n3 < (l0.length : Int)) := of_decide_eq_false h3
  exact trivial)
def zJ0 (a0 : List (El zU)) : Tr (Bool × Unit) := .lp zCv (a0, (0 : Int), ()) (fun r5 => .v (r5.1, ())) (fun t5 => .v (decide ((t5.1.length : Int) ≤ (30 : Int)), ()))
def zHT a0 := (zJ0 a0).val
@[reducible] def zQh : FnD := ⟨[vd (.lst zU)], [vd .bool], true, fun _ => none, fun a => zHT a.1⟩
theorem zcR (a0 : List (El zU)) (_ : xH zQh.args (a0, ())) : (zJ0 a0).ok := by
 unfold zJ0
 refine zJ ?_ ?_
 ·exact zSr _ (by (dsimp only <;> first | omega | rfl | assumption | (simp <;> omega)))
 ·simp
def zbD : Con Tryz.prog := yE mo g0 [zAV, zLT] [zCv, vC] 58 zQh (fn := Tryz.f58) ⟨lk, lk, trivial⟩ (fun a hw _ => yX (by kernel_rfl) (zcR a.1 hw) rfl)
def zHq (a0 : El zD) : Tr (Bool × Unit) := bif (yB a0.1 (0 : Int) (1000000000 : Int)).1 then (.v ((zAC a0.2).1, ())) else (.v (false, ()))
def zDB a0 := (zHq a0).val
@[reducible] def zYn : FnD := ⟨[va zD], [vd .bool], true, fun _ => none, fun a => zDB a.1⟩
def zYU : Con Tryz.prog := yE mo g0 [zAV, zLT] [] 105 zYn (fn := Tryz.f105) trivial (fun a _ _ => yX (t' := zHq a.1) (by kernel_rfl) (by simp [zHq]) rfl)
@[reducible] def zAl : LB := ⟨[], ⟨37, [], [(0, vd (.lst zD)), (3, vd .int)]⟩, ⟨37, [], [(2, vd .bool)]⟩, 0, fun x => (fun (l0 : List (El zD)) (n3 : Int) => (bif decide (n3 < (l0.length : Int)) then (.ix n3 l0 (bif (!(zDB (zB zD l0 n3)).1) then (.v (.ret (false, ()))) else (bif decide (n3 > (0 : Int)) then (.ik (n3 - (1 : Int)) (.ix (n3 - (1 : Int)) l0 (.ix n3 l0 (bif decide ((zB zD l0 (n3 - (1 : Int))).1 > (zB zD l0 n3).1) then (.v (.ret (false, ()))) else (.ik (n3 + (1 : Int)) (.v (.go (l0, (n3 + (1 : Int)), ())))))))) else (.ik (n3 + (1 : Int)) (.v (.go (l0, (n3 + (1 : Int)), ()))))))) else (.v (.brk (l0, n3, ()))) : Tr (St _ _))) x.1 x.2.1⟩
theorem zP0 (l0 : List (El zD)) : LB.run zAl (l0, (0 : Int), ()) = bif ze (fun i x => bif (!(zDB x).1) then false else (bif (decide ((i : Int) > (0 : Int))) then (bif (decide ((zB zD l0 ((i : Int) - (1 : Int))).1 > x.1)) then false else true) else true)) 0 l0 then .brk (l0, (l0.length : Int), ()) else .ret (false, ()) := LB.run_all (l := zAl) (fun i => (l0, (i : Int), ())) (fun i x h => by
  simp only [LB.b, zAl, zi, zQ, zR, cond_true, yQ h, zG h]
  cases (!(zDB x).1)
  ·cases (decide ((i : Int) > (0 : Int)))
   ·rfl
   ·cases (decide ((zB zD l0 ((i : Int) - (1 : Int))).1 > x.1)) <;> rfl
  ·rfl) (by simp only [LB.b, zAl, xo]; rfl)
theorem zQM : SF zAl fun x : List (El zD) × Int × Unit => (0 ≤ x.2.1, (x.1.length : Int) - x.2.1) := x5 (by
 rintro ⟨(l0 : List (El zD)), (n3 : Int), ⟨⟩⟩ hI hw
 have _ : (l0.length : Int) ≤ 16777216 := zE (hw.1.1)
 simp [zAl] at hI ⊢
 repeat' first | intro _ | apply And.intro
 all_goals omega)
def zHe (a0 : List (El zD)) : Tr (Bool × Unit) := .lp zAl (a0, (0 : Int), ()) (fun r2 => .v (r2.1, ())) (fun t2 => .v (decide ((t2.1.length : Int) ≤ (30 : Int)), ()))
def zF5 a0 := (zHe a0).val
@[reducible] def zOk : FnD := ⟨[vd (.lst zD)], [vd .bool], true, fun _ => none, fun a => zF5 a.1⟩
theorem zYc (a0 : List (El zD)) (_ : xH zOk.args (a0, ())) : (zHe a0).ok := by
 unfold zHe
 refine zJ ?_ ?_
 ·exact zQM _ (by (dsimp only <;> omega))
 ·simp
def zZG : Con Tryz.prog := yE mo g0 [zYU] [zAl] 57 zOk (fn := Tryz.f57) ⟨lk, trivial⟩ (fun a hw _ => yX (by kernel_rfl) (zYc a.1 hw) rfl)
theorem zXl (a0 : List (El zD)) : zF5 a0 = bif ze (fun i x => bif (!(zDB x).1) then false else (bif (decide ((i : Int) > (0 : Int))) then (bif (decide ((zB zD a0 ((i : Int) - (1 : Int))).1 > x.1)) then false else true) else true)) 0 a0 then (decide ((a0.length : Int) ≤ (30 : Int)), ()) else (false, ()) := by
 simp only [zF5, zHe, zR, zy, zQ]
 rw [zP0, z6] <;> rfl
def zHI (a0 : ByteArray) : Tr (Bool × Unit) := bif (a0.toList == (⟨#[]⟩ : ByteArray).toList) then (.v (true, ())) else (.v ((yP a0).1, ()))
def zG0 a0 := (zHI a0).val
@[reducible] def zZZ : FnD := ⟨[vd .str], [vd .bool], true, fun _ => none, fun a => zG0 a.1⟩
def zaV : Con Tryz.prog := yE mo g0 [zFE] [] 165 zZZ (fn := Tryz.f165) trivial (fun a _ _ => yX (t' := zHI a.1) (by kernel_rfl) (by simp [zHI]) rfl)
def zJd (a0 : El zO) : Tr (Bool × Unit) := bif (!(zAC a0.1).1) then (.v (false, ())) else (bif (!(zG0 a0.2.1).1) then (.v (false, ())) else (bif (!(yB a0.2.2.1 (1 : Int) (4 : Int)).1) then (.v (false, ())) else (bif (!(yB a0.2.2.2.1 (0 : Int) (4 : Int)).1) then (.v (false, ())) else (bif (!(yB a0.2.2.2.2.1 (0 : Int) (1000001000 : Int)).1) then (.v (false, ())) else (bif (!((a0.2.2.2.2.2.1 == (0 : Int)) && ((a0.2.2.2.2.2.2.1 == (0 : Int)) && ((a0.2.2.2.2.2.2.2.toList == (⟨#[]⟩ : ByteArray).toList) && true)))) then (bif (!(zEk a0.2.2.2.2.2).1) then (.v (false, ())) else (bif (a0.2.2.1 != (1 : Int)) then (bif (a0.2.2.1 != (2 : Int)) then (.v (true, ())) else (.v (((a0.2.2.1 == (1 : Int)) == (a0.2.2.2.1 == (0 : Int))), ()))) else (.v (((a0.2.2.1 == (1 : Int)) == (a0.2.2.2.1 == (0 : Int))), ())))) else (bif (a0.2.2.1 != (1 : Int)) then (bif (a0.2.2.1 != (2 : Int)) then (.v (true, ())) else (.v (((a0.2.2.1 == (1 : Int)) == (a0.2.2.2.1 == (0 : Int))), ()))) else (.v (((a0.2.2.1 == (1 : Int)) == (a0.2.2.2.1 == (0 : Int))), ()))))))))
def zDs a0 := (zJd a0).val
@[reducible] def zak : FnD := ⟨[va zO], [vd .bool], true, fun _ => none, fun a => zDs a.1⟩
def zat : Con Tryz.prog := yE mo g0 [zLT, zRT, zAV, zaV] [] 103 zak (fn := Tryz.f103) trivial (fun a _ _ => yX (t' := zJd a.1) (by kernel_rfl) (by simp [zJd]) rfl)
@[reducible] def vg : LB := ⟨[], ⟨26, [], [(0, vd (.lst zK)), (1, vd (.lst zK)), (5, vd .int)]⟩, ⟨26, [], [(4, vd .bool)]⟩, 0, fun x => (fun (l0 : List (El zK)) (l1 : List (El zK)) (n5 : Int) => (bif decide (n5 < (l0.length : Int)) then (.ix n5 l0 (.ix n5 l1 (bif (!(((zB zK l0 n5).1 == (zB zK l1 n5).1) && (((zB zK l0 n5).2.1 == (zB zK l1 n5).2.1) && (((zB zK l0 n5).2.2.toList == (zB zK l1 n5).2.2.toList) && true)))) then (.v (.ret (false, ()))) else (.ik (n5 + (1 : Int)) (.v (.go (l0, l1, (n5 + (1 : Int)), ()))))))) else (.v (.brk (l0, l1, n5, ()))) : Tr (St _ _))) x.1 x.2.1 x.2.2.1⟩
theorem zOO (l0 : List (El zK)) (l1 : List (El zK)) : LB.run vg (l0, l1, (0 : Int), ()) = bif ze (fun i x => bif (!((x.1 == (zB zK l1 (i : Int)).1) && ((x.2.1 == (zB zK l1 (i : Int)).2.1) && ((x.2.2.toList == (zB zK l1 (i : Int)).2.2.toList) && true)))) then false else true) 0 l0 then .brk (l0, l1, (l0.length : Int), ()) else .ret (false, ()) := LB.run_all (l := vg) (fun i => (l0, l1, (i : Int), ())) (fun i x h => by
  simp only [LB.b, vg, zi, zQ, zR, cond_true, yQ h, zG h]
  cases (!((x.1 == (zB zK l1 (i : Int)).1) && ((x.2.1 == (zB zK l1 (i : Int)).2.1) && ((x.2.2.toList == (zB zK l1 (i : Int)).2.2.toList) && true)))) <;> rfl) (by simp only [LB.b, vg, xo]; rfl)
theorem zOW : SF vg fun x : List (El zK) × List (El zK) × Int × Unit => (0 ≤ x.2.2.1 ∧ (x.1.length : Int) ≤ (x.2.1.length : Int), (x.1.length : Int) - x.2.2.1) := x5 (by
 rintro ⟨(l0 : List (El zK)), (l1 : List (El zK)), (n5 : Int), ⟨⟩⟩ hI hw
 have _ : (l0.length : Int) ≤ 16777216 := zE (hw.1.1)
 simp [vg] at hI ⊢
 repeat' first | intro _ | apply And.intro
 all_goals omega)
def zFW (a0 : List (El zK)) (a1 : List (El zK)) : Tr (Bool × Unit) := bif ((a0.length : Int) != (a1.length : Int)) then (.v (false, ())) else (.lp vg (a0, a1, (0 : Int), ()) (fun r1 => .v (r1.1, ())) (fun _ => .v (true, ())))
def zDi a0 a1 := (zFW a0 a1).val
@[reducible] def zMK : FnD := ⟨[vd (.lst zK), vd (.lst zK)], [vd .bool], true, fun _ => none, fun a => zDi a.1 a.2.1⟩
theorem zSA (a0 : List (El zK)) (a1 : List (El zK)) (_ : xH zMK.args (a0, a1, ())) : (zFW a0 a1).ok := by
 unfold zFW
 refine zo (fun _ => trivial) (fun h1 => ?_)
 replace h1 := zAg h1
 refine zJ ?_ ?_
 ·exact zOW _ ⟨by (dsimp only <;> omega), by (dsimp only <;> omega)⟩
 ·simp
def zSX : Con Tryz.prog := yE mo g0 [] [vg] 167 zMK (fn := Tryz.f167) ⟨lk, trivial⟩ (fun a hw _ => yX (by kernel_rfl) (zSA a.1 a.2.1 hw) rfl)
theorem zMG (a0 : List (El zK)) (a1 : List (El zK)) : zDi a0 a1 = bif ((a0.length : Int) != (a1.length : Int)) then (false, ()) else (bif ze (fun i x => bif (!((x.1 == (zB zK a1 (i : Int)).1) && ((x.2.1 == (zB zK a1 (i : Int)).2.1) && ((x.2.2.toList == (zB zK a1 (i : Int)).2.2.toList) && true)))) then false else true) 0 a0 then (true, ()) else (false, ())) := by
 simp only [zDi, zFW, zR, zi, zy, zQ]
 rw [zOO, z6] <;> rfl
def zF6 (a0 : El zr) (a1 : El zr) : Tr (Bool × Unit) := bif (a0.1.toList == a1.1.toList) then (.v ((zDi a0.2 a1.2).1, ())) else (.v (false, ()))
def yC a0 a1 := (zF6 a0 a1).val
@[reducible] def zXI : FnD := ⟨[va zr, va zr], [vd .bool], true, fun _ => none, fun a => yC a.1 a.2.1⟩
def zPG : Con Tryz.prog := yE mo g0 [zSX] [] 104 zXI (fn := Tryz.f104) trivial (fun a _ _ => yX (t' := zF6 a.1 a.2.1) (by kernel_rfl) (by simp [zF6]) rfl)
@[reducible] def vI : LB := ⟨[], ⟨36, [], [(0, vd (.lst zO)), (3, vd .int), (4, vd .int)]⟩, ⟨36, [], [(2, vd .bool)]⟩, 2, fun x => (fun (l0 : List (El zO)) (n3 : Int) (n4 : Int) => (bif decide (n4 < n3) then (.ix n3 l0 (.ix n4 l0 (bif (yC (zB zO l0 n3).1 (zB zO l0 n4).1).1 then (.v (.ret (false, ()))) else (.ik (n4 + (1 : Int)) (.v (.go (l0, n3, (n4 + (1 : Int)), ()))))))) else (.v (.brk (l0, n3, n4, ()))) : Tr (St _ _))) x.1 x.2.1 x.2.2.1⟩
theorem zSx (l00 : List (El zO)) (n30 : Int) (n40 : Int)  : (LB.run vI (l00, n30, n40, ())).all (fun _ => True) (fun (l0, n3, _) => l00 = l0 ∧ n30 = n3) (fun (l0, n3, _) => l00 = l0 ∧ n30 = n3) := by
 have H : ∀ (l0 : List (El zO)) (n3 : Int) (n4 : Int), (l00 = l0 ∧ n30 = n3) → St.all (fun _ => True) (fun (l0, n3, _) => l00 = l0 ∧ n30 = n3) (fun (l0, n3, _) => l00 = l0 ∧ n30 = n3) (vI.b (l0, n3, n4, ())) := by
  intro l0 n3 n4 hI
  obtain ⟨eq0, eq1⟩ := hI
  simp only [LB.b, vI, zi, zQ, zR]
  refine zd (fun h1 => ?_) (fun h1 => ?_)
  ·replace h1 : n4 < n3 := of_decide_eq_true h1
   refine zd (fun h2 => ?_) (fun h2 => ?_)
   ·exact trivial
   ·exact ⟨eq0, eq1⟩
  ·replace h1 : ¬ (n4 < n3) := of_decide_eq_false h1
   exact ⟨eq0, eq1⟩
 exact LB.post (l := vI) (A := fun _ => True) (fun (l0, n3, _) => l00 = l0 ∧ n30 = n3) (fun ⟨l0, n3, n4, ⟨⟩⟩ hx => H l0 n3 n4 hx) ⟨rfl, rfl⟩
theorem zTT : SF vI fun x : List (El zO) × Int × Int × Unit => (0 ≤ x.2.2.1 ∧ (0 ≤ x.2.1 ∧ x.2.1 < (x.1.length : Int)) ∧ x.2.1 ≤ (x.1.length : Int), x.2.1 - x.2.2.1) := x5 (by
 rintro ⟨(l0 : List (El zO)), (n3 : Int), (n4 : Int), ⟨⟩⟩ hI hw
 have _ : -9223372036854775808 ≤ n3 ∧ n3 ≤ 9223372036854775807 := z0 hw.2.1
 have _ : (l0.length : Int) ≤ 16777216 := zE (hw.1.1)
 simp [vI] at hI ⊢
 repeat' first | intro _ | apply And.intro
 all_goals omega)
@[reducible] def zCo : LB := ⟨[], ⟨36, [], [(0, vd (.lst zO)), (3, vd .int)]⟩, ⟨36, [], [(2, vd .bool)]⟩, 0, fun x => (fun (l0 : List (El zO)) (n3 : Int) => (bif decide (n3 < (l0.length : Int)) then (.ix n3 l0 (bif (!(zDs (zB zO l0 n3)).1) then (.v (.ret (false, ()))) else (.lp vI (l0, n3, (0 : Int), ()) (fun r3 => .v (.ret (r3.1, ()))) (fun t3 => .ik (t3.2.1 + (1 : Int)) (.v (.go (t3.1, (t3.2.1 + (1 : Int)), ()))))))) else (.v (.brk (l0, n3, ()))) : Tr (St _ _))) x.1 x.2.1⟩
theorem zSR : SF zCo fun x : List (El zO) × Int × Unit => (0 ≤ x.2.1, (x.1.length : Int) - x.2.1) := x5 (by
 rintro ⟨(l0 : List (El zO)), (n3 : Int), ⟨⟩⟩ hI hw
 dsimp only at hI ⊢
 have i0 := hI
 have hb : (l0.length : Int) ≤ 16777216 := zE (hw.1.1)
 refine ⟨by omega, ?_⟩
 refine x4 (fun h3 => ?_) (fun h3 => ?_)
 ·replace h3 : n3 < (l0.length : Int) := of_decide_eq_true h3
  refine yt ?_ ?_
  ·first | omega | (simp <;> omega)
  ·refine x4 (fun h4 => ?_) (fun h4 => ?_)
   ·exact trivial
   ·refine yt ?_ ?_
    ·exact zTT _ ⟨by (dsimp only <;> omega), by (dsimp only <;> omega), by (dsimp only <;> omega)⟩
    ·refine zMd (A' := fun _ => True) (B' := fun (t3l0, t3n3, t3n4, _) => l0 = t3l0 ∧ n3 = t3n3) (zSx l0 n3 (0 : Int)) (fun r _ => ?_) (fun t ht => ?_)
     ·obtain ⟨r3b2, ⟨⟩⟩ := r
      dsimp only
      exact trivial
     ·obtain ⟨t3l0, t3n3, t3n4, ⟨⟩⟩ := t
      dsimp only
      obtain ⟨rfl, rfl⟩ := ht
      obtain ⟨t3n4, rfl⟩ : ∃ y : Int, y = t3n4 := ⟨_, rfl⟩
      refine yt ?_ ?_
      ·exact ink (by omega) (by omega)
      ·exact show (0 ≤ (n3 + (1 : Int))) ∧ (l0.length : Int) - (n3 + (1 : Int)) < (l0.length : Int) - n3 ∧ 0 < (l0.length : Int) - n3 from ⟨by (first | omega | rfl | assumption | (simp <;> omega)), by (first | omega | (simp only [List.length_set]; omega)), by (first | omega | (simp only [List.length_set]; omega))⟩
 ·replace h3 : ¬ (n3 < (l0.length : Int)) := of_decide_eq_false h3
  exact trivial)
def zJw (a0 : List (El zO)) : Tr (Bool × Unit) := .lp zCo (a0, (0 : Int), ()) (fun r4 => .v (r4.1, ())) (fun t4 => .v (decide ((t4.1.length : Int) ≤ (30 : Int)), ()))
def zG5 a0 := (zJw a0).val
@[reducible] def zRt : FnD := ⟨[vd (.lst zO)], [vd .bool], true, fun _ => none, fun a => zG5 a.1⟩
theorem zba (a0 : List (El zO)) (_ : xH zRt.args (a0, ())) : (zJw a0).ok := by
 unfold zJw
 refine zJ ?_ ?_
 ·exact zSR _ (by (dsimp only <;> first | omega | rfl | assumption | (simp <;> omega)))
 ·simp
def zar : Con Tryz.prog := yE mo g0 [zat, zPG] [zCo, vI] 56 zRt (fn := Tryz.f56) ⟨lk, lk, trivial⟩ (fun a hw _ => yX (by kernel_rfl) (zba a.1 hw) rfl)
@[reducible] def zEl : LB := ⟨[], ⟨27, [.d zH, .d zr], [(2, .pt 0 0), (3, .pt 1 0), (5, vd .int)]⟩, ⟨27, [], [(4, vd .int)]⟩, 0, fun x => (fun (w0 : El zH) (w1 : El zr) (n5 : Int) => (bif decide (n5 < (w0.1.length : Int)) then (.ix n5 w0.1 (bif (yC (zB zD w0.1 n5).2 w1).1 then (.ix n5 w0.1 (.v (.ret ((zB zD w0.1 n5).1, ())))) else (.ik (n5 + (1 : Int)) (.v (.go (w0, w1, (), (), (n5 + (1 : Int)), ())))))) else (.v (.brk (w0, w1, (), (), n5, ()))) : Tr (St _ _))) x.1 x.2.1 x.2.2.2.2.1⟩
theorem zZS (w0 : El zH) (w1 : El zr) : LB.run zEl (w0, w1, (), (), (0 : Int), ()) = zDg (xB (fun _ x => bif (yC x.2 w1).1 then (some (x.1, ())) else none) 0 w0.1) (w0, w1, (), (), (w0.1.length : Int), ()) := LB.run_scan (l := zEl) (fun i => (w0, w1, (), (), (i : Int), ())) (fun i x h => by
  simp only [LB.b, zEl, zi, zQ, zR, cond_true, yQ h, zG h]
  cases (yC x.2 w1).1 <;> rfl) (by simp only [LB.b, zEl, xo]; rfl)
theorem zZl : SF zEl fun x : El zH × El zr × Unit × Unit × Int × Unit => (0 ≤ x.2.2.2.2.1, (x.1.1.length : Int) - x.2.2.2.2.1) := x5 (by
 rintro ⟨(w0 : El zH), (w1 : El zr), ⟨⟩, ⟨⟩, (n5 : Int), ⟨⟩⟩ hI hw
 have _ : (w0.1.length : Int) ≤ 16777216 := zE (hw.1.1.1)
 simp [zEl] at hI ⊢
 repeat' first | intro _ | apply And.intro
 all_goals omega)
def zPh (a0 : El zH) (a1 : El zr) : Tr (Int × Unit) := .lp zEl (a0, a1, (), (), (0 : Int), ()) (fun r2 => .v (r2.1, ())) (fun _ => .v ((0 : Int), ()))
def zDq a0 a1 := (zPh a0 a1).val
@[reducible] def zcw : FnD := ⟨[va zH, va zr], [vd .int], true, fun _ => none, fun a => zDq a.1 a.2.1⟩
theorem zk4 (a0 : El zH) (a1 : El zr) (_ : xH zcw.args (a0, a1, ())) : (zPh a0 a1).ok := by
 unfold zPh
 refine zJ ?_ ?_
 ·exact zZl _ (by (dsimp only <;> omega))
 ·simp
def zkO : Con Tryz.prog := yE mo g0 [zPG] [zEl] 102 zcw (fn := Tryz.f102) ⟨lk, trivial⟩ (fun a hw _ => yX (by kernel_rfl) (zk4 a.1 a.2.1 hw) rfl)
theorem zke (a0 : El zH) (a1 : El zr) : zDq a0 a1 = zE1 (xB (fun _ x => bif (yC x.2 a1).1 then (some (x.1, ())) else none) 0 a0.1) (fun (r1 : zEl.r.T) => (r1.1, ())) ((0 : Int), ()) := by
 simp only [zDq, zPh, zR, zy, zQ]
 rw [zZS, xw] <;> rfl
@[reducible] def zBT : LB := ⟨[], ⟨68, [.d zH], [(1, .pt 0 0), (3, vd .int)]⟩, ⟨68, [], [(2, vd .bool)]⟩, 0, fun x => (fun (w0 : El zH) (n3 : Int) => (bif decide (n3 < (w0.1.length : Int)) then (.ix n3 w0.1 (bif (!(zAC (zB zD w0.1 n3).2).1) then (.v (.ret (false, ()))) else (bif decide ((zB zD w0.1 n3).1 < (1 : Int)) then (.v (.ret (false, ()))) else (bif decide ((zB zD w0.1 n3).1 ≥ w0.2) then (.v (.ret (false, ()))) else (bif decide (n3 > (0 : Int)) then (.ik (n3 - (1 : Int)) (.ix (n3 - (1 : Int)) w0.1 (bif decide ((zB zD w0.1 (n3 - (1 : Int))).1 ≥ (zB zD w0.1 n3).1) then (.v (.ret (false, ()))) else (bif ((zDq w0 (zB zD w0.1 n3).2).1 != (zB zD w0.1 n3).1) then (.v (.ret (false, ()))) else (.ik (n3 + (1 : Int)) (.v (.go (w0, (), (n3 + (1 : Int)), ())))))))) else (bif ((zDq w0 (zB zD w0.1 n3).2).1 != (zB zD w0.1 n3).1) then (.v (.ret (false, ()))) else (.ik (n3 + (1 : Int)) (.v (.go (w0, (), (n3 + (1 : Int)), ())))))))))) else (.v (.brk (w0, (), n3, ()))) : Tr (St _ _))) x.1 x.2.2.1⟩
theorem zTS (w0 : El zH) : LB.run zBT (w0, (), (0 : Int), ()) = bif ze (fun i x => bif (!(zAC x.2).1) then false else (bif (decide (x.1 < (1 : Int))) then false else (bif (decide (x.1 ≥ w0.2)) then false else (bif (decide ((i : Int) > (0 : Int))) then (bif (decide ((zB zD w0.1 ((i : Int) - (1 : Int))).1 ≥ x.1)) then false else (bif ((zDq w0 x.2).1 != x.1) then false else true)) else (bif ((zDq w0 x.2).1 != x.1) then false else true))))) 0 w0.1 then .brk (w0, (), (w0.1.length : Int), ()) else .ret (false, ()) := LB.run_all (l := zBT) (fun i => (w0, (), (i : Int), ())) (fun i x h => by
  simp only [LB.b, zBT, zi, zQ, zR, cond_true, yQ h, zG h]
  cases (!(zAC x.2).1)
  ·cases (decide (x.1 < (1 : Int)))
   ·cases (decide (x.1 ≥ w0.2))
    ·cases (decide ((i : Int) > (0 : Int)))
     ·cases ((zDq w0 x.2).1 != x.1) <;> rfl
     ·cases (decide ((zB zD w0.1 ((i : Int) - (1 : Int))).1 ≥ x.1))
      ·cases ((zDq w0 x.2).1 != x.1) <;> rfl
      ·rfl
    ·rfl
   ·rfl
  ·rfl) (by simp only [LB.b, zBT, xo]; rfl)
theorem zTO : SF zBT fun x : El zH × Unit × Int × Unit => (0 ≤ x.2.2.1, (x.1.1.length : Int) - x.2.2.1) := x5 (by
 rintro ⟨(w0 : El zH), ⟨⟩, (n3 : Int), ⟨⟩⟩ hI hw
 have _ : (w0.1.length : Int) ≤ 16777216 := zE (hw.1.1.1)
 simp [zBT] at hI ⊢
 repeat' first | intro _ | apply And.intro
 all_goals omega)
def zGh (a0 : El zH) : Tr (Bool × Unit) := bif (!(yB a0.2 (1 : Int) (1000000 : Int)).1) then (.v (false, ())) else (bif decide ((a0.1.length : Int) > (40 : Int)) then (.v (false, ())) else (.lp zBT (a0, (), (0 : Int), ()) (fun r16 => .v (r16.1, ())) (fun _ => .v (true, ()))))
def zCu a0 := (zGh a0).val
@[reducible] def zRJ : FnD := ⟨[va zH], [vd .bool], true, fun _ => none, fun a => zCu a.1⟩
theorem zau (a0 : El zH) (_ : xH zRJ.args (a0, ())) : (zGh a0).ok := by
 unfold zGh
 refine zo (fun _ => trivial) (fun h1 => ?_)
 replace h1 := vj h1
 replace h1 := zK3 h1
 refine zo (fun _ => trivial) (fun h2 => ?_)
 replace h2 : ¬ ((a0.1.length : Int) > (40 : Int)) := of_decide_eq_false h2
 refine zJ ?_ ?_
 ·exact zTO _ (by (dsimp only <;> omega))
 ·simp
def zcd : Con Tryz.prog := yE mo g0 [zAV, zLT, zkO] [zBT] 55 zRJ (fn := Tryz.f55) ⟨lk, trivial⟩ (fun a hw _ => yX (by kernel_rfl) (zau a.1 hw) rfl)
theorem zbj (a0 : El zH) : zCu a0 = bif (!(yB a0.2 (1 : Int) (1000000 : Int)).1) then (false, ()) else (bif (decide ((a0.1.length : Int) > (40 : Int))) then (false, ()) else (bif ze (fun i x => bif (!(zAC x.2).1) then false else (bif (decide (x.1 < (1 : Int))) then false else (bif (decide (x.1 ≥ a0.2)) then false else (bif (decide ((i : Int) > (0 : Int))) then (bif (decide ((zB zD a0.1 ((i : Int) - (1 : Int))).1 ≥ x.1)) then false else (bif ((zDq a0 x.2).1 != x.1) then false else true)) else (bif ((zDq a0 x.2).1 != x.1) then false else true))))) 0 a0.1 then (true, ()) else (false, ()))) := by
 simp only [zCu, zGh, zR, zi, zy, zQ]
 rw [zTS, z6] <;> rfl
theorem zcF {s : El zH} (h : (zCu s).1 = true) : s.1.length ≤ 40 := by
 simp only [zCu, zGh, zi, zQ, zR, zy, z8, zA1] at h
 have := of_decide_eq_false h.2.1
 omega
def zIg (a0 : El zN) (a1 : El ye) : Tr (Bool × Unit) := .ck (zKe a0) (bif (!(zC7 a0).1) then (.v (false, ())) else (bif (!(zCu a1.1).1) then (.v (false, ())) else (bif (!(zG5 a1.2.2.1).1) then (.v (false, ())) else (bif (!(zF5 a1.2.2.2.1).1) then (.v (false, ())) else (bif (!(zHT a1.2.2.2.2.1).1) then (.v (false, ())) else (bif (!(yB a1.2.2.2.2.2.1 (1 : Int) (6 : Int)).1) then (.v (false, ())) else (bif (!(yB a1.2.2.2.2.2.2 (0 : Int) (1000000000 : Int)).1) then (.v (false, ())) else (bif (!(zFu a0 a1).1) then (.v (false, ())) else (bif (zQH a1).1 then (bif (zGt a1.2.2.1).1 then (.v (false, ())) else (bif decide ((a1.2.2.2.1.length : Int) > (0 : Int)) then (.v (false, ())) else (bif (!(zFX a1).1) then (.v (true, ())) else (.v (decide ((a1.2.2.2.2.1.length : Int) > (0 : Int)), ()))))) else (bif (!(zFX a1).1) then (.v (true, ())) else (.v (decide ((a1.2.2.2.2.1.length : Int) > (0 : Int)), ()))))))))))))
def zA8 a0 a1 := (zIg a0 a1).val
def zL2 (a0 : El zN) (_a1 : El ye) : Prop := ∀ r ∈ a0.2, SzR r
@[reducible] def zTv : FnD := ⟨[va zN, va ye], [vd .bool], true, fun a => some (zL2 a.1 a.2.1), fun a => zA8 a.1 a.2.1⟩
theorem zdX (a0 : El zN) (a1 : El ye) (_ : xH zTv.args (a0, a1, ())) (hp : zL2 a0 a1) : (zIg a0 a1).ok := by
 unfold zL2 at hp
 unfold zIg
 refine zJ ?_ ?_
 ·exact hp
 ·simp
def zf8 : Con Tryz.prog := yE mo g0 [zYL, zhP, zZo, zR6, zYM, zAV, zbD, zZG, zar, zcd] [] 33 zTv (fn := Tryz.f33) trivial (fun a hw h => yX (by kernel_rfl) (zdX a.1 a.2.1 hw h) rfl)
theorem zf7 {d : El zN} {x : El ye} (h : (zA8 d x).1 = true) : (zC7 d).1 = true ∧ (zCu x.1).1 = true := by
 simp only [zA8, zIg, zi, zQ, zR, z8, zA1] at h
 exact ⟨vj h.1, vj h.2.1⟩
theorem zfq {d : El zN} {x : El ye} (h : (zA8 d x).1 = true) : zkG d x.1 := by
 obtain ⟨h1, h2⟩ := zf7 h
 obtain ⟨h3, h4⟩ := ziT h1
 exact ⟨zcF h2, h3, fun r hr => zdm (h4 r hr)⟩
@[reducible] def zBu : LB := ⟨[], ⟨22, [.d zp], [(1, vd .str), (2, .pt 0 0), (5, vd .int)]⟩, ⟨22, [], [(4, vd .int)]⟩, 0, fun x => (fun (w0 : El zp) (s1 : ByteArray) (n5 : Int) => (bif decide (n5 < (w0.2.1.length : Int)) then (.ix n5 w0.2.1 (bif ((zB zg w0.2.1 n5).1.toList == s1.toList) then (.v (.ret (n5, ()))) else (.ik (n5 + (1 : Int)) (.v (.go (w0, s1, (), (n5 + (1 : Int)), ())))))) else (.v (.brk (w0, s1, (), n5, ()))) : Tr (St _ _))) x.1 x.2.1 x.2.2.2.1⟩
theorem zUx (w0 : El zp) (s1 : ByteArray) : LB.run zBu (w0, s1, (), (0 : Int), ()) = zDg (xB (fun i x => bif (x.1.toList == s1.toList) then (some ((i : Int), ())) else none) 0 w0.2.1) (w0, s1, (), (w0.2.1.length : Int), ()) := LB.run_scan (l := zBu) (fun i => (w0, s1, (), (i : Int), ())) (fun i x h => by
  simp only [LB.b, zBu, zi, zQ, zR, cond_true, yQ h, zG h]
  cases (x.1.toList == s1.toList) <;> rfl) (by simp only [LB.b, zBu, xo]; rfl)
theorem zWN : SF zBu fun x : El zp × ByteArray × Unit × Int × Unit => (0 ≤ x.2.2.2.1, (x.1.2.1.length : Int) - x.2.2.2.1) := x5 (by
 rintro ⟨(w0 : El zp), (s1 : ByteArray), ⟨⟩, (n5 : Int), ⟨⟩⟩ hI hw
 have _ : (w0.2.1.length : Int) ≤ 16777216 := zE (hw.1.2.1.1)
 simp [zBu] at hI ⊢
 repeat' first | intro _ | apply And.intro
 all_goals omega)
def zLK (a0 : El zp) (a1 : ByteArray) : Tr (Int × Unit) := .lp zBu (a0, a1, (), (0 : Int), ()) (fun r1 => .v (r1.1, ())) (fun _ => .v ((-1 : Int), ()))
def zD4 a0 a1 := (zLK a0 a1).val
@[reducible] def zT9 : FnD := ⟨[va zp, vd .str], [vd .int], true, fun _ => none, fun a => zD4 a.1 a.2.1⟩
theorem zea (a0 : El zp) (a1 : ByteArray) (_ : xH zT9.args (a0, a1, ())) : (zLK a0 a1).ok := by
 unfold zLK
 refine zJ ?_ ?_
 ·exact zWN _ (by (dsimp only <;> omega))
 ·simp
def zfX : Con Tryz.prog := yE mo g0 [] [zBu] 32 zT9 (fn := Tryz.f32) ⟨lk, trivial⟩ (fun a hw _ => yX (by kernel_rfl) (zea a.1 a.2.1 hw) rfl)
theorem zf4 (a0 : El zp) (a1 : ByteArray) : zD4 a0 a1 = zE1 (xB (fun i x => bif (x.1.toList == a1.toList) then (some ((i : Int), ())) else none) 0 a0.2.1) (fun (r1 : zBu.r.T) => (r1.1, ())) ((-1 : Int), ()) := by
 simp only [zD4, zLK, zR, zy, zQ]
 rw [zUx, xw] <;> rfl
@[reducible] def zDM : LB := ⟨[], ⟨109, [.d zp], [(1, .pt 0 0), (3, vd .int)]⟩, ⟨109, [], [(2, vd .bool)]⟩, 0, fun x => (fun (w0 : El zp) (n3 : Int) => (bif decide (n3 < (w0.1.length : Int)) then (.ix n3 w0.1 (.ck (zKe (zB zN w0.1 n3)) (bif (!(zC7 (zB zN w0.1 n3)).1) then (.v (.ret (false, ()))) else (.ix n3 w0.1 (bif ((xJ w0 (zB zN w0.1 n3).1).1 != n3) then (.v (.ret (false, ()))) else (.ik (n3 + (1 : Int)) (.v (.go (w0, (), (n3 + (1 : Int)), ()))))))))) else (.v (.brk (w0, (), n3, ()))) : Tr (St _ _))) x.1 x.2.2.1⟩
theorem zNb (w0 : El zp) : LB.run zDM (w0, (), (0 : Int), ()) = bif ze (fun i x => bif (!(zC7 x).1) then false else (bif ((xJ w0 x.1).1 != (i : Int)) then false else true)) 0 w0.1 then .brk (w0, (), (w0.1.length : Int), ()) else .ret (false, ()) := LB.run_all (l := zDM) (fun i => (w0, (), (i : Int), ())) (fun i x h => by
  simp only [LB.b, zDM, zi, zQ, zR, cond_true, yQ h, zG h]
  cases (!(zC7 x).1)
  ·cases ((xJ w0 x.1).1 != (i : Int)) <;> rfl
  ·rfl) (by simp only [LB.b, zDM, xo]; rfl)
theorem zVB : SF zDM fun x : El zp × Unit × Int × Unit => (0 ≤ x.2.2.1 ∧ ∀ d ∈ x.1.1, ∀ r ∈ d.2, SzR r, (x.1.1.length : Int) - x.2.2.1) := x5 (by
 rintro ⟨(w0 : El zp), ⟨⟩, (n3 : Int), ⟨⟩⟩ hI hw
 obtain ⟨i0, k0⟩ := hI
 dsimp only at i0 k0
 have _ : (w0.1.length : Int) ≤ 16777216 := zE (hw.1.1.1)
 simp [zDM, -Prod.forall]
 repeat' first | exact k0 _ (z4 (by omega)) | assumption | intro _ | apply And.intro
 all_goals omega)
@[reducible] def zCq : LB := ⟨[], ⟨109, [.d zp], [(1, .pt 0 0), (4, vd .int)]⟩, ⟨109, [], [(2, vd .bool)]⟩, 2, fun x => (fun (w0 : El zp) (n4 : Int) => (bif decide (n4 < (w0.2.1.length : Int)) then (.ix n4 w0.2.1 (let y4 := (xJ w0 (zB zg w0.2.1 n4).2.1); bif (!(yP (zB zg w0.2.1 n4).1).1) then (.v (.ret (false, ()))) else (bif ((zD4 w0 (zB zg w0.2.1 n4).1).1 != n4) then (.v (.ret (false, ()))) else (bif decide (y4.1 < (0 : Int)) then (.v (.ret (false, ()))) else (.ix y4.1 w0.1 (.ck (zL2 (zB zN w0.1 y4.1) (zB zg w0.2.1 n4).2.2) (bif (!(zA8 (zB zN w0.1 y4.1) (zB zg w0.2.1 n4).2.2).1) then (.v (.ret (false, ()))) else (bif decide ((zB zg w0.2.1 n4).2.2.2.2.2.2.2.2 > w0.2.2.1) then (.v (.ret (false, ()))) else (.ik (n4 + (1 : Int)) (.v (.go (w0, (), (n4 + (1 : Int)), ())))))))))))) else (.v (.brk (w0, (), n4, ()))) : Tr (St _ _))) x.1 x.2.2.1⟩
theorem zU4 (w0 : El zp) : LB.run zCq (w0, (), (0 : Int), ()) = bif ze (fun i x => bif (!(yP x.1).1) then false else (bif ((zD4 w0 x.1).1 != (i : Int)) then false else (bif (decide ((xJ w0 x.2.1).1 < (0 : Int))) then false else (bif (!(zA8 (zB zN w0.1 (xJ w0 x.2.1).1) x.2.2).1) then false else (bif (decide (x.2.2.2.2.2.2.2.2 > w0.2.2.1)) then false else true))))) 0 w0.2.1 then .brk (w0, (), (w0.2.1.length : Int), ()) else .ret (false, ()) := LB.run_all (l := zCq) (fun i => (w0, (), (i : Int), ())) (fun i x h => by
  simp only [LB.b, zCq, zi, zQ, zR, cond_true, yQ h, zG h]
  cases (!(yP x.1).1)
  ·cases ((zD4 w0 x.1).1 != (i : Int))
   ·cases (decide ((xJ w0 x.2.1).1 < (0 : Int)))
    ·cases (!(zA8 (zB zN w0.1 (xJ w0 x.2.1).1) x.2.2).1)
     ·cases (decide (x.2.2.2.2.2.2.2.2 > w0.2.2.1)) <;> rfl
     ·rfl
    ·rfl
   ·rfl
  ·rfl) (by simp only [LB.b, zCq, xo]; rfl)
theorem zVU : SF zCq fun x : El zp × Unit × Int × Unit => (0 ≤ x.2.2.1 ∧ ∀ d ∈ x.1.1, ∀ r ∈ d.2, SzR r, (x.1.2.1.length : Int) - x.2.2.1) := x5 (by
 rintro ⟨(w0 : El zp), ⟨⟩, (n4 : Int), ⟨⟩⟩ hI hw
 obtain ⟨i0, k0⟩ := hI
 dsimp only at i0 k0
 have _ : (w0.2.1.length : Int) ≤ 16777216 := zE (hw.1.2.1.1)
 have _ := zXU w0 (zB zg w0.2.1 n4).2.1
 simp [zCq, -Prod.forall]
 repeat' first | exact k0 _ (z4 (by omega)) | assumption | intro _ | apply And.intro
 all_goals omega)
def zKt (a0 : El zp) : Tr (Bool × Unit) := bif decide ((a0.1.length : Int) > (8 : Int)) then (.v (false, ())) else (bif decide ((a0.2.1.length : Int) > (10 : Int)) then (.v (false, ())) else (bif (!(yB a0.2.2.1 (0 : Int) (1000000000 : Int)).1) then (.v (false, ())) else (bif (!(yB a0.2.2.2 (0 : Int) (a0.2.1.length : Int)).1) then (.v (false, ())) else (.lp zDM (a0, (), (0 : Int), ()) (fun r30 => .v (r30.1, ())) (fun t30 => .lp zCq (t30.1, (), (0 : Int), ()) (fun r31 => .v (r31.1, ())) (fun _ => .v (true, ())))))))
def zD1 a0 := (zKt a0).val
def zLv (a0 : El zp) : Prop := ∀ d ∈ a0.1, ∀ r ∈ d.2, SzR r
@[reducible] def zUU : FnD := ⟨[va zp], [vd .bool], true, fun a => some (zLv a.1), fun a => zD1 a.1⟩
theorem zec (a0 : El zp) (_ : xH zUU.args (a0, ())) (hp : zLv a0) : (zKt a0).ok := by
 unfold zLv at hp
 unfold zKt
 refine zo (fun _ => trivial) (fun h1 => ?_)
 replace h1 : ¬ ((a0.1.length : Int) > (8 : Int)) := of_decide_eq_false h1
 refine zo (fun _ => trivial) (fun h2 => ?_)
 replace h2 : ¬ ((a0.2.1.length : Int) > (10 : Int)) := of_decide_eq_false h2
 refine zo (fun _ => trivial) (fun h3 => ?_)
 replace h3 := vj h3
 replace h3 := zK3 h3
 refine zo (fun _ => trivial) (fun h4 => ?_)
 replace h4 := vj h4
 replace h4 := zK3 h4
 refine zJ ?_ ?_
 ·exact zVB _ ⟨by (dsimp only <;> first | omega | assumption | (simp <;> omega)), by (dsimp only <;> first | omega | assumption | (simp <;> omega))⟩
 ·refine zVn (zNb a0) ?_ trivial
  try dsimp only
  refine zJ ?_ ?_
  ·exact zVU _ ⟨by (dsimp only <;> first | omega | assumption | (simp <;> omega)), by (dsimp only <;> first | omega | assumption | (simp <;> omega))⟩
  ·simp
def zgd : Con Tryz.prog := yE mo g0 [zYL, zYA, zFE, zf8, zfX, zAV] [zDM, zCq] 17 zUU (fn := Tryz.f17) ⟨lk, lk, trivial⟩ (fun a hw h => yX (by kernel_rfl) (zec a.1 hw h) rfl)
theorem zOQ (a0 : El zp) : zD1 a0 = bif (decide ((a0.1.length : Int) > (8 : Int))) then (false, ()) else (bif (decide ((a0.2.1.length : Int) > (10 : Int))) then (false, ()) else (bif (!(yB a0.2.2.1 (0 : Int) (1000000000 : Int)).1) then (false, ()) else (bif (!(yB a0.2.2.2 (0 : Int) (a0.2.1.length : Int)).1) then (false, ()) else (bif ze (fun i x => bif (!(zC7 x).1) then false else (bif ((xJ a0 x.1).1 != (i : Int)) then false else true)) 0 a0.1 then (bif ze (fun i x => bif (!(yP x.1).1) then false else (bif ((zD4 a0 x.1).1 != (i : Int)) then false else (bif (decide ((xJ a0 x.2.1).1 < (0 : Int))) then false else (bif (!(zA8 (zB zN a0.1 (xJ a0 x.2.1).1) x.2.2).1) then false else (bif (decide (x.2.2.2.2.2.2.2.2 > a0.2.2.1)) then false else true))))) 0 a0.2.1 then (true, ()) else (false, ())) else (false, ()))))) := by
 simp only [zD1, zKt, zR, zi, zy, zQ]
 rw [zNb, z6, zU4, z6] <;> rfl
theorem zUQ {b : El zp} (h : (zD1 b).1 = true) {i : Int} (hi : 0 ≤ i ∧ i < (b.2.1.length : Int)) : 0 ≤ (xJ b (zB zg b.2.1 i).2.1).1 ∧ (zA8 (zB zN b.1 (xJ b (zB zg b.2.1 i).2.1).1) (zB zg b.2.1 i).2.2).1 = true := by
 rw [zOQ] at h
 simp only [z8, zA1, zKH] at h
 obtain ⟨h1, h2, h3, h4, h5, h6, _⟩ := h
 rw [zw] at h6
 have := h6 i.toNat _ (zXz hi)
 simp only [zA1] at this
 obtain ⟨g1, g2, g3, g4, g5⟩ := this
 have g3 := of_decide_eq_false g3
 exact ⟨by omega, vj g4⟩
def zIK (a0 : El zp) (a1 : Int) : Tr (El zN × Unit) := .ix a1 a0.2.1 (let y1 := (xJ a0 (zB zg a0.2.1 a1).2.1); .ix y1.1 a0.1 (.v ((zB zN a0.1 y1.1), ())))
def zD7 a0 a1 := (zIK a0 a1).val
def zLV (a0 : El zp) (a1 : Int) : Prop := (0 ≤ a1 ∧ a1 < (a0.2.1.length : Int)) ∧ 0 ≤ (xJ a0 (zB zg a0.2.1 a1).2.1).1
@[reducible] def zUP : FnD := ⟨[va zp, vd .int], [va zN], false, fun a => some (zLV a.1 a.2.1), fun a => zD7 a.1 a.2.1⟩
theorem zge (a0 : El zp) (a1 : Int) (_ : xH zUP.args (a0, a1, ())) (hp : zLV a0 a1) : (zIK a0 a1).ok := by
 unfold zLV at hp
 unfold zIK
 refine zJ ?_ ?_
 ·first | omega | (simp <;> omega)
 ·refine zJ ?_ ?_
  ·have _ := zXU a0 (zB zg a0.2.1 a1).2.1; first | omega | (simp <;> omega)
  ·trivial
def zgg : Con Tryz.prog := yE mo g0 [zYA] [] 35 zUP (fn := Tryz.f35) trivial (fun a hw h => yX (by kernel_rfl) (zge a.1 a.2.1 hw h) rfl)
@[reducible] def zBl : LB := ⟨[], ⟨26, [.d zK], [(0, vd (.lst zF)), (1, vd .str), (4, .pt 0 0), (6, vd .int)]⟩, ⟨26, [.d zK], [(4, .pt 0 0), (5, vd .bool)]⟩, 0, fun x => (fun (w0 : El zK) (l0 : List (El zF)) (s1 : ByteArray) (n6 : Int) => (bif decide (n6 < (l0.length : Int)) then (.ix n6 l0 (bif ((zB zF l0 n6).1.toList == s1.toList) then (.ix n6 l0 (.v (.ret ((zB zF l0 n6).2, (), true, ())))) else (.ik (n6 + (1 : Int)) (.v (.go (w0, l0, s1, (), (n6 + (1 : Int)), ())))))) else (.v (.brk (w0, l0, s1, (), n6, ()))) : Tr (St _ _))) x.1 x.2.1 x.2.2.1 x.2.2.2.2.1⟩
theorem zWW (w0 : El zK) (l0 : List (El zF)) (s1 : ByteArray) : LB.run zBl (w0, l0, s1, (), (0 : Int), ()) = zDg (xB (fun _ x => bif (x.1.toList == s1.toList) then (some (x.2, (), true, ())) else none) 0 l0) (w0, l0, s1, (), (l0.length : Int), ()) := LB.run_scan (l := zBl) (fun i => (w0, l0, s1, (), (i : Int), ())) (fun i x h => by
  simp only [LB.b, zBl, zi, zQ, zR, cond_true, yQ h, zG h]
  cases (x.1.toList == s1.toList) <;> rfl) (by simp only [LB.b, zBl, xo]; rfl)
theorem zU0 : SF zBl fun x : El zK × List (El zF) × ByteArray × Unit × Int × Unit => (0 ≤ x.2.2.2.2.1, (x.2.1.length : Int) - x.2.2.2.2.1) := x5 (by
 rintro ⟨(w0 : El zK), (l0 : List (El zF)), (s1 : ByteArray), ⟨⟩, (n6 : Int), ⟨⟩⟩ hI hw
 have _ : (l0.length : Int) ≤ 16777216 := zE (hw.2.1.1)
 simp [zBl] at hI ⊢
 repeat' first | intro _ | apply And.intro
 all_goals omega)
def zLU (a0 : List (El zF)) (a1 : ByteArray) : Tr (El zK × Bool × Unit) := .lp zBl (((0 : Int), ((0 : Int), (⟨#[]⟩ : ByteArray))), a0, a1, (), (0 : Int), ()) (fun r1 => .v (r1.1, r1.2.2.1, ())) (fun _ => .v (((0 : Int), ((0 : Int), (⟨#[]⟩ : ByteArray))), false, ()))
def xW a0 a1 := (zLU a0 a1).val
@[reducible] def zUj : FnD := ⟨[vd (.lst zF), vd .str], [va zK, vd .bool], true, fun _ => none, fun a => xW a.1 a.2.1⟩
theorem zfO (a0 : List (El zF)) (a1 : ByteArray) (_ : xH zUj.args (a0, a1, ())) : (zLU a0 a1).ok := by
 unfold zLU
 refine zJ ?_ ?_
 ·exact zU0 _ (by (dsimp only <;> omega))
 ·simp
def zUf : Con Tryz.prog := yE mo g0 [] [zBl] 258 zUj (fn := Tryz.f258) ⟨lk, trivial⟩ (fun a hw _ => yX (by kernel_rfl) (zfO a.1 a.2.1 hw) rfl)
theorem ze7 (a0 : List (El zF)) (a1 : ByteArray) : xW a0 a1 = zE1 (xB (fun _ x => bif (x.1.toList == a1.toList) then (some (x.2, (), true, ())) else none) 0 a0) (fun (r1 : zBl.r.T) => (r1.1, r1.2.2.1, ())) (((0 : Int), ((0 : Int), (⟨#[]⟩ : ByteArray))), false, ()) := by
 simp only [xW, zLU, zR, zy, zQ]
 rw [zWW, xw] <;> rfl
end
end Go.Proofs.YtipbfgknaihifaaGreat
namespace Go.Proofs.YtipbfgknaihifaaGreat
open Go.RowKit
noncomputable section
@[reducible] def xQ : LB := ⟨[], ⟨102, [.d zI, .d zr], [(2, vd (.lst zF)), (3, .pt 0 0), (4, .pt 1 0), (8, vo zF), (9, vd .int)]⟩, ⟨102, [], [(6, vo zF), (7, vd .bool)]⟩, 0, fun x => (fun (w0 : El zI) (w1 : El zr) (l2 : List (El zF)) (l8 : List (El zF)) (n9 : Int) => (bif decide (n9 < (w0.2.1.length : Int)) then (.ix n9 w0.2.1 (let y1 := (xW l8 (zB zj w0.2.1 n9).2.1); bif ((zB zj w0.2.1 n9).1 == (2 : Int)) then (.ix n9 w1.2 (bif (!(((zB zj w0.2.1 n9).2.2.1 == (zB zK w1.2 n9).1) && (((zB zj w0.2.1 n9).2.2.2.1 == (zB zK w1.2 n9).2.1) && (((zB zj w0.2.1 n9).2.2.2.2.toList == (zB zK w1.2 n9).2.2.toList) && true)))) then (.ck ((l2.length : Int) ≤ 16777216) (.v (.ret (l2, false, ())))) else (bif ((zB zj w0.2.1 n9).1 == (1 : Int)) then (bif y1.2.1 then (.ix n9 w1.2 (bif (!((y1.1.1 == (zB zK w1.2 n9).1) && ((y1.1.2.1 == (zB zK w1.2 n9).2.1) && ((y1.1.2.2.toList == (zB zK w1.2 n9).2.2.toList) && true)))) then (.ck ((l2.length : Int) ≤ 16777216) (.v (.ret (l2, false, ())))) else (bif ((zB zj w0.2.1 n9).1 == (1 : Int)) then (bif (!y1.2.1) then (.ix n9 w1.2 (.ck (((l8.length + [((zB zj w0.2.1 n9).2.1, (zB zK w1.2 n9))].length : Nat) : Int) ≤ 16777216) (.ik (n9 + (1 : Int)) (.v (.go (w0, w1, l2, (), (), (l8 ++ [((zB zj w0.2.1 n9).2.1, (zB zK w1.2 n9))]), (n9 + (1 : Int)), ())))))) else (.ik (n9 + (1 : Int)) (.v (.go (w0, w1, l2, (), (), l8, (n9 + (1 : Int)), ()))))) else (.ik (n9 + (1 : Int)) (.v (.go (w0, w1, l2, (), (), l8, (n9 + (1 : Int)), ()))))))) else (bif ((zB zj w0.2.1 n9).1 == (1 : Int)) then (bif (!y1.2.1) then (.ix n9 w1.2 (.ck (((l8.length + [((zB zj w0.2.1 n9).2.1, (zB zK w1.2 n9))].length : Nat) : Int) ≤ 16777216) (.ik (n9 + (1 : Int)) (.v (.go (w0, w1, l2, (), (), (l8 ++ [((zB zj w0.2.1 n9).2.1, (zB zK w1.2 n9))]), (n9 + (1 : Int)), ())))))) else (.ik (n9 + (1 : Int)) (.v (.go (w0, w1, l2, (), (), l8, (n9 + (1 : Int)), ()))))) else (.ik (n9 + (1 : Int)) (.v (.go (w0, w1, l2, (), (), l8, (n9 + (1 : Int)), ())))))) else (bif ((zB zj w0.2.1 n9).1 == (1 : Int)) then (bif (!y1.2.1) then (.ix n9 w1.2 (.ck (((l8.length + [((zB zj w0.2.1 n9).2.1, (zB zK w1.2 n9))].length : Nat) : Int) ≤ 16777216) (.ik (n9 + (1 : Int)) (.v (.go (w0, w1, l2, (), (), (l8 ++ [((zB zj w0.2.1 n9).2.1, (zB zK w1.2 n9))]), (n9 + (1 : Int)), ())))))) else (.ik (n9 + (1 : Int)) (.v (.go (w0, w1, l2, (), (), l8, (n9 + (1 : Int)), ()))))) else (.ik (n9 + (1 : Int)) (.v (.go (w0, w1, l2, (), (), l8, (n9 + (1 : Int)), ())))))))) else (bif ((zB zj w0.2.1 n9).1 == (1 : Int)) then (bif y1.2.1 then (.ix n9 w1.2 (bif (!((y1.1.1 == (zB zK w1.2 n9).1) && ((y1.1.2.1 == (zB zK w1.2 n9).2.1) && ((y1.1.2.2.toList == (zB zK w1.2 n9).2.2.toList) && true)))) then (.ck ((l2.length : Int) ≤ 16777216) (.v (.ret (l2, false, ())))) else (bif ((zB zj w0.2.1 n9).1 == (1 : Int)) then (bif (!y1.2.1) then (.ix n9 w1.2 (.ck (((l8.length + [((zB zj w0.2.1 n9).2.1, (zB zK w1.2 n9))].length : Nat) : Int) ≤ 16777216) (.ik (n9 + (1 : Int)) (.v (.go (w0, w1, l2, (), (), (l8 ++ [((zB zj w0.2.1 n9).2.1, (zB zK w1.2 n9))]), (n9 + (1 : Int)), ())))))) else (.ik (n9 + (1 : Int)) (.v (.go (w0, w1, l2, (), (), l8, (n9 + (1 : Int)), ()))))) else (.ik (n9 + (1 : Int)) (.v (.go (w0, w1, l2, (), (), l8, (n9 + (1 : Int)), ()))))))) else (bif ((zB zj w0.2.1 n9).1 == (1 : Int)) then (bif (!y1.2.1) then (.ix n9 w1.2 (.ck (((l8.length + [((zB zj w0.2.1 n9).2.1, (zB zK w1.2 n9))].length : Nat) : Int) ≤ 16777216) (.ik (n9 + (1 : Int)) (.v (.go (w0, w1, l2, (), (), (l8 ++ [((zB zj w0.2.1 n9).2.1, (zB zK w1.2 n9))]), (n9 + (1 : Int)), ())))))) else (.ik (n9 + (1 : Int)) (.v (.go (w0, w1, l2, (), (), l8, (n9 + (1 : Int)), ()))))) else (.ik (n9 + (1 : Int)) (.v (.go (w0, w1, l2, (), (), l8, (n9 + (1 : Int)), ())))))) else (bif ((zB zj w0.2.1 n9).1 == (1 : Int)) then (bif (!y1.2.1) then (.ix n9 w1.2 (.ck (((l8.length + [((zB zj w0.2.1 n9).2.1, (zB zK w1.2 n9))].length : Nat) : Int) ≤ 16777216) (.ik (n9 + (1 : Int)) (.v (.go (w0, w1, l2, (), (), (l8 ++ [((zB zj w0.2.1 n9).2.1, (zB zK w1.2 n9))]), (n9 + (1 : Int)), ())))))) else (.ik (n9 + (1 : Int)) (.v (.go (w0, w1, l2, (), (), l8, (n9 + (1 : Int)), ()))))) else (.ik (n9 + (1 : Int)) (.v (.go (w0, w1, l2, (), (), l8, (n9 + (1 : Int)), ())))))))) else (.v (.brk (w0, w1, l2, (), (), l8, n9, ()))) : Tr (St _ _))) x.1 x.2.1 x.2.2.1 x.2.2.2.2.2.1 x.2.2.2.2.2.2.1⟩
theorem zRO (w00 : El zI) (w10 : El zr) (l20 : List (El zF)) (l80 : List (El zF)) (n90 : Int) (p0 : (l80.length : Int) ≤ (l20.length : Int) + n90 ∧ n90 ≤ (w00.2.1.length : Int)) : (LB.run xQ (w00, w10, l20, (), (), l80, n90, ())).all (fun r => (r.1.length : Int) ≤ (l20.length : Int)) (fun (w0, w1, l2, _, _, l8, n9, _) => w00 = w0 ∧ w10 = w1 ∧ l20 = l2 ∧ ((l8.length : Int) ≤ (l2.length : Int) + n9 ∧ n9 ≤ (w0.2.1.length : Int))) (fun (w0, w1, l2, _, _, l8, n9, _) => w00 = w0 ∧ w10 = w1 ∧ l20 = l2 ∧ ((l8.length : Int) ≤ (l2.length : Int) + n9 ∧ n9 ≤ (w0.2.1.length : Int))) := by
 have H : ∀ (w0 : El zI) (w1 : El zr) (l2 : List (El zF)) (l8 : List (El zF)) (n9 : Int), (w00 = w0 ∧ w10 = w1 ∧ l20 = l2 ∧ ((l8.length : Int) ≤ (l2.length : Int) + n9 ∧ n9 ≤ (w0.2.1.length : Int))) → St.all (fun r => (r.1.length : Int) ≤ (l20.length : Int)) (fun (w0, w1, l2, _, _, l8, n9, _) => w00 = w0 ∧ w10 = w1 ∧ l20 = l2 ∧ ((l8.length : Int) ≤ (l2.length : Int) + n9 ∧ n9 ≤ (w0.2.1.length : Int))) (fun (w0, w1, l2, _, _, l8, n9, _) => w00 = w0 ∧ w10 = w1 ∧ l20 = l2 ∧ ((l8.length : Int) ≤ (l2.length : Int) + n9 ∧ n9 ≤ (w0.2.1.length : Int))) (xQ.b (w0, w1, l2, (), (), l8, n9, ())) := by
  intro w0 w1 l2 l8 n9 hI
  obtain ⟨eq0, eq1, eq2, eq3⟩ := hI
  simp only [LB.b, xQ, zi, zQ, zR]
  refine zd (fun h1 => ?_) (fun h1 => ?_)
  ·replace h1 : n9 < (w0.2.1.length : Int) := of_decide_eq_true h1
   refine zd (fun h2 => ?_) (fun h2 => ?_)
   ·replace h2 := zIZ h2
    refine zd (fun h3 => ?_) (fun h3 => ?_)
    ·exact zJj (by subst_vars; dsimp only; omega)
    ·refine zd (fun h4 => ?_) (fun h4 => ?_)
     ·replace h4 := zIZ h4
      refine zd (fun h5 => ?_) (fun h5 => ?_)
      ·refine zd (fun h6 => ?_) (fun h6 => ?_)
       ·exact zJj (by subst_vars; dsimp only; omega)
       ·refine zd (fun h7 => ?_) (fun h7 => ?_)
        ·replace h7 := zIZ h7
         refine zd (fun h8 => ?_) (fun h8 => ?_)
         ·exact yf (show w00 = w0 ∧ w10 = w1 ∧ l20 = l2 ∧ (((l8 ++ [((zB zj w0.2.1 n9).2.1, (zB zK w1.2 n9))]).length : Int) ≤ (l2.length : Int) + (n9 + (1 : Int)) ∧ (n9 + (1 : Int)) ≤ (w0.2.1.length : Int)) from ⟨eq0, eq1, eq2, by first | omega | rfl | assumption | (simp <;> omega)⟩)
         ·exact yf (show w00 = w0 ∧ w10 = w1 ∧ l20 = l2 ∧ ((l8.length : Int) ≤ (l2.length : Int) + (n9 + (1 : Int)) ∧ (n9 + (1 : Int)) ≤ (w0.2.1.length : Int)) from ⟨eq0, eq1, eq2, by first | omega | rfl | assumption | (simp <;> omega)⟩)
        ·replace h7 := zIp h7
         exact yf (show w00 = w0 ∧ w10 = w1 ∧ l20 = l2 ∧ ((l8.length : Int) ≤ (l2.length : Int) + (n9 + (1 : Int)) ∧ (n9 + (1 : Int)) ≤ (w0.2.1.length : Int)) from ⟨eq0, eq1, eq2, by first | omega | rfl | assumption | (simp <;> omega)⟩)
      ·refine zd (fun h9 => ?_) (fun h9 => ?_)
       ·replace h9 := zIZ h9
        refine zd (fun h10 => ?_) (fun h10 => ?_)
        ·exact yf (show w00 = w0 ∧ w10 = w1 ∧ l20 = l2 ∧ (((l8 ++ [((zB zj w0.2.1 n9).2.1, (zB zK w1.2 n9))]).length : Int) ≤ (l2.length : Int) + (n9 + (1 : Int)) ∧ (n9 + (1 : Int)) ≤ (w0.2.1.length : Int)) from ⟨eq0, eq1, eq2, by first | omega | rfl | assumption | (simp <;> omega)⟩)
        ·exact yf (show w00 = w0 ∧ w10 = w1 ∧ l20 = l2 ∧ ((l8.length : Int) ≤ (l2.length : Int) + (n9 + (1 : Int)) ∧ (n9 + (1 : Int)) ≤ (w0.2.1.length : Int)) from ⟨eq0, eq1, eq2, by first | omega | rfl | assumption | (simp <;> omega)⟩)
       ·replace h9 := zIp h9
        exact yf (show w00 = w0 ∧ w10 = w1 ∧ l20 = l2 ∧ ((l8.length : Int) ≤ (l2.length : Int) + (n9 + (1 : Int)) ∧ (n9 + (1 : Int)) ≤ (w0.2.1.length : Int)) from ⟨eq0, eq1, eq2, by first | omega | rfl | assumption | (simp <;> omega)⟩)
     ·replace h4 := zIp h4
      refine zd (fun h11 => ?_) (fun h11 => ?_)
      ·replace h11 := zIZ h11
       refine zd (fun h12 => ?_) (fun h12 => ?_)
       ·exact yf (show w00 = w0 ∧ w10 = w1 ∧ l20 = l2 ∧ (((l8 ++ [((zB zj w0.2.1 n9).2.1, (zB zK w1.2 n9))]).length : Int) ≤ (l2.length : Int) + (n9 + (1 : Int)) ∧ (n9 + (1 : Int)) ≤ (w0.2.1.length : Int)) from ⟨eq0, eq1, eq2, by first | omega | rfl | assumption | (simp <;> omega)⟩)
       ·exact yf (show w00 = w0 ∧ w10 = w1 ∧ l20 = l2 ∧ ((l8.length : Int) ≤ (l2.length : Int) + (n9 + (1 : Int)) ∧ (n9 + (1 : Int)) ≤ (w0.2.1.length : Int)) from ⟨eq0, eq1, eq2, by first | omega | rfl | assumption | (simp <;> omega)⟩)
      ·replace h11 := zIp h11
       exact yf (show w00 = w0 ∧ w10 = w1 ∧ l20 = l2 ∧ ((l8.length : Int) ≤ (l2.length : Int) + (n9 + (1 : Int)) ∧ (n9 + (1 : Int)) ≤ (w0.2.1.length : Int)) from ⟨eq0, eq1, eq2, by first | omega | rfl | assumption | (simp <;> omega)⟩)
   ·replace h2 := zIp h2
    refine zd (fun h13 => ?_) (fun h13 => ?_)
    ·replace h13 := zIZ h13
     refine zd (fun h14 => ?_) (fun h14 => ?_)
     ·refine zd (fun h15 => ?_) (fun h15 => ?_)
      ·exact zJj (by subst_vars; dsimp only; omega)
      ·refine zd (fun h16 => ?_) (fun h16 => ?_)
       ·replace h16 := zIZ h16
        refine zd (fun h17 => ?_) (fun h17 => ?_)
        ·exact yf (show w00 = w0 ∧ w10 = w1 ∧ l20 = l2 ∧ (((l8 ++ [((zB zj w0.2.1 n9).2.1, (zB zK w1.2 n9))]).length : Int) ≤ (l2.length : Int) + (n9 + (1 : Int)) ∧ (n9 + (1 : Int)) ≤ (w0.2.1.length : Int)) from ⟨eq0, eq1, eq2, by first | omega | rfl | assumption | (simp <;> omega)⟩)
        ·exact yf (show w00 = w0 ∧ w10 = w1 ∧ l20 = l2 ∧ ((l8.length : Int) ≤ (l2.length : Int) + (n9 + (1 : Int)) ∧ (n9 + (1 : Int)) ≤ (w0.2.1.length : Int)) from ⟨eq0, eq1, eq2, by first | omega | rfl | assumption | (simp <;> omega)⟩)
       ·replace h16 := zIp h16
        exact yf (show w00 = w0 ∧ w10 = w1 ∧ l20 = l2 ∧ ((l8.length : Int) ≤ (l2.length : Int) + (n9 + (1 : Int)) ∧ (n9 + (1 : Int)) ≤ (w0.2.1.length : Int)) from ⟨eq0, eq1, eq2, by first | omega | rfl | assumption | (simp <;> omega)⟩)
     ·refine zd (fun h18 => ?_) (fun h18 => ?_)
      ·replace h18 := zIZ h18
       refine zd (fun h19 => ?_) (fun h19 => ?_)
       ·exact yf (show w00 = w0 ∧ w10 = w1 ∧ l20 = l2 ∧ (((l8 ++ [((zB zj w0.2.1 n9).2.1, (zB zK w1.2 n9))]).length : Int) ≤ (l2.length : Int) + (n9 + (1 : Int)) ∧ (n9 + (1 : Int)) ≤ (w0.2.1.length : Int)) from ⟨eq0, eq1, eq2, by first | omega | rfl | assumption | (simp <;> omega)⟩)
       ·exact yf (show w00 = w0 ∧ w10 = w1 ∧ l20 = l2 ∧ ((l8.length : Int) ≤ (l2.length : Int) + (n9 + (1 : Int)) ∧ (n9 + (1 : Int)) ≤ (w0.2.1.length : Int)) from ⟨eq0, eq1, eq2, by first | omega | rfl | assumption | (simp <;> omega)⟩)
      ·replace h18 := zIp h18
       exact yf (show w00 = w0 ∧ w10 = w1 ∧ l20 = l2 ∧ ((l8.length : Int) ≤ (l2.length : Int) + (n9 + (1 : Int)) ∧ (n9 + (1 : Int)) ≤ (w0.2.1.length : Int)) from ⟨eq0, eq1, eq2, by first | omega | rfl | assumption | (simp <;> omega)⟩)
    ·replace h13 := zIp h13
     refine zd (fun h20 => ?_) (fun h20 => ?_)
     ·replace h20 := zIZ h20
      refine zd (fun h21 => ?_) (fun h21 => ?_)
      ·exact yf (show w00 = w0 ∧ w10 = w1 ∧ l20 = l2 ∧ (((l8 ++ [((zB zj w0.2.1 n9).2.1, (zB zK w1.2 n9))]).length : Int) ≤ (l2.length : Int) + (n9 + (1 : Int)) ∧ (n9 + (1 : Int)) ≤ (w0.2.1.length : Int)) from ⟨eq0, eq1, eq2, by first | omega | rfl | assumption | (simp <;> omega)⟩)
      ·exact yf (show w00 = w0 ∧ w10 = w1 ∧ l20 = l2 ∧ ((l8.length : Int) ≤ (l2.length : Int) + (n9 + (1 : Int)) ∧ (n9 + (1 : Int)) ≤ (w0.2.1.length : Int)) from ⟨eq0, eq1, eq2, by first | omega | rfl | assumption | (simp <;> omega)⟩)
     ·replace h20 := zIp h20
      exact yf (show w00 = w0 ∧ w10 = w1 ∧ l20 = l2 ∧ ((l8.length : Int) ≤ (l2.length : Int) + (n9 + (1 : Int)) ∧ (n9 + (1 : Int)) ≤ (w0.2.1.length : Int)) from ⟨eq0, eq1, eq2, by first | omega | rfl | assumption | (simp <;> omega)⟩)
  ·replace h1 : ¬ (n9 < (w0.2.1.length : Int)) := of_decide_eq_false h1
   exact zCP (show w00 = w0 ∧ w10 = w1 ∧ l20 = l2 ∧ ((l8.length : Int) ≤ (l2.length : Int) + n9 ∧ n9 ≤ (w0.2.1.length : Int)) from ⟨eq0, eq1, eq2, by first | omega | rfl | assumption | (simp <;> omega)⟩)
 exact LB.post (l := xQ) (A := fun r => (r.1.length : Int) ≤ (l20.length : Int)) (fun (w0, w1, l2, _, _, l8, n9, _) => w00 = w0 ∧ w10 = w1 ∧ l20 = l2 ∧ ((l8.length : Int) ≤ (l2.length : Int) + n9 ∧ n9 ≤ (w0.2.1.length : Int))) (fun ⟨w0, w1, l2, ⟨⟩, ⟨⟩, l8, n9, ⟨⟩⟩ hx => H w0 w1 l2 l8 n9 hx) ⟨rfl, rfl, rfl, p0⟩
theorem zQA : SF xQ fun x : El zI × El zr × List (El zF) × Unit × Unit × List (El zF) × Int × Unit => (0 ≤ x.2.2.2.2.2.2.1 ∧ (x.1.2.1.length : Int) ≤ (x.2.1.2.length : Int) ∧ (x.2.2.2.2.2.1.length : Int) ≤ (x.2.2.1.length : Int) + x.2.2.2.2.2.2.1 ∧ (x.2.2.1.length : Int) + (x.1.2.1.length : Int) ≤ 16777216, (x.1.2.1.length : Int) - x.2.2.2.2.2.2.1) := x5 (by
 rintro ⟨(w0 : El zI), (w1 : El zr), (l2 : List (El zF)), ⟨⟩, ⟨⟩, (l8 : List (El zF)), (n9 : Int), ⟨⟩⟩ hI hw
 obtain ⟨i0, i1, k0, k1⟩ := hI
 dsimp only at i0 i1 k0 k1
 have _ : (w0.2.1.length : Int) ≤ 16777216 := zE (hw.1.2.1.1)
 have _ : (l2.length : Int) ≤ 16777216 := zE (hw.2.2.1.1)
 have _ : (l8.length : Int) ≤ 16777216 := zE (hw.2.2.2.2.2.1.1)
 simp [xQ]
 repeat' first | intro _ | apply And.intro
 all_goals omega)
def zFv (a0 : El zI) (a1 : El zr) (a2 : List (El zF)) : Tr (List (El zF) × Bool × Unit) := .ck ((a2.length : Int) ≤ 16777216) (bif (!(a0.1.toList == a1.1.toList)) then (.v (a2, false, ())) else (bif ((a0.2.1.length : Int) != (a1.2.length : Int)) then (.v (a2, false, ())) else (.lp xQ (a0, a1, a2, (), (), a2, (0 : Int), ()) (fun r3 => .v (r3.1, r3.2.1, ())) (fun t3 => .v (t3.2.2.2.2.2.1, true, ())))))
def yI a0 a1 a2 := (zFv a0 a1 a2).val
def zFt (a0 : El zI) (_a1 : El zr) (a2 : List (El zF)) : Prop := (a2.length : Int) + (a0.2.1.length : Int) ≤ 16777216
@[reducible] def zOu : FnD := ⟨[va zI, va zr, vd (.lst zF)], [vo zF, vd .bool], true, fun a => some (zFt a.1 a.2.1 a.2.2.1), fun a => yI a.1 a.2.1 a.2.2.1⟩
theorem zXk (a0 : El zI) (a1 : El zr) (a2 : List (El zF)) (hw : xH zOu.args (a0, a1, a2, ())) (hp : zFt a0 a1 a2) : (zFv a0 a1 a2).ok := by
 unfold zFt at hp
 unfold zFv
 refine zJ ?_ ?_
 ·have _ : (a2.length : Int) ≤ 16777216 := zE (hw.2.2.1.1); first | omega | (simp <;> omega)
 ·refine zo (fun _ => trivial) (fun h22 => ?_)
  refine zo (fun _ => trivial) (fun h23 => ?_)
  replace h23 := zAg h23
  refine zJ ?_ ?_
  ·exact zQA _ ⟨by (dsimp only <;> first | omega | assumption | (simp <;> omega)), by (dsimp only <;> first | omega | assumption | (simp <;> omega)), by (dsimp only <;> first | omega | assumption | (simp <;> omega)), by (dsimp only <;> first | omega | assumption | (simp <;> omega))⟩
  ·simp
def zO5 : Con Tryz.prog := yE mo g0 [zUf] [xQ] 222 zOu (fn := Tryz.f222) ⟨lk, trivial⟩ (fun a hw h => yX (by kernel_rfl) (zXk a.1 a.2.1 a.2.2.1 hw h) rfl)
theorem zZA (p : El zI) (f : El zr) (l : List (El zF)) : ((yI p f l).1.length : Int) ≤ (l.length : Int) + (p.2.1.length : Int) := by
 simp only [yI, zFv, zi, zQ, zR, zy]
 cases h1 : (!(p.1.toList == f.1.toList)) with
 | true => show (l.length : Int) ≤ _; omega
 | false =>
  cases h2 : ((p.2.1.length : Int) != (f.2.length : Int)) with
  | true => show (l.length : Int) ≤ _; omega
  | false =>
   have := zRO p f l l (0 : Int) (by constructor <;> omega)
   revert this
   cases (LB.run xQ (p, f, l, (), (), l, (0 : Int), ())) with
   | ret r => obtain ⟨r1, r2, ⟨⟩⟩ := r; intro h; have h : (r1.length : Int) ≤ (l.length : Int) := h; show (r1.length : Int) ≤ _; omega
   | brk t => obtain ⟨t0, t1, t2, ⟨⟩, ⟨⟩, t8, n, ⟨⟩⟩ := t; rintro ⟨rfl, rfl, rfl, h3, h4⟩; obtain ⟨n, rfl⟩ : ∃ y : Int, y = n := ⟨_, rfl⟩; replace h3 : (t8.length : Int) ≤ (l.length : Int) + n := h3; replace h4 : n ≤ (p.2.1.length : Int) := h4; show (t8.length : Int) ≤ _; omega
   | go t => obtain ⟨t0, t1, t2, ⟨⟩, ⟨⟩, t8, n, ⟨⟩⟩ := t; rintro ⟨rfl, rfl, rfl, h3, h4⟩; obtain ⟨n, rfl⟩ : ∃ y : Int, y = n := ⟨_, rfl⟩; replace h3 : (t8.length : Int) ≤ (l.length : Int) + n := h3; replace h4 : n ≤ (p.2.1.length : Int) := h4; show (t8.length : Int) ≤ _; omega
@[reducible] def xI : LB := ⟨[], ⟨50, [.d zC, .d zH], [(2, vd (.lst zF)), (3, .pt 0 0), (4, .pt 1 0), (7, vd .int), (8, vd .int)]⟩, ⟨50, [], [(6, vd .bool)]⟩, 2, fun x => (fun (w0 : El zC) (w1 : El zH) (l2 : List (El zF)) (n7 : Int) (n8 : Int) => (bif decide (n8 < (w1.1.length : Int)) then (.ix n7 w0.2.2.1 (bif (zB zI w0.2.2.1 n7).2.2 then (.ix n7 w0.2.2.1 (.ix n8 w1.1 (.ck (zFt (zB zI w0.2.2.1 n7) (zB zD w1.1 n8).2 l2) (bif (yI (zB zI w0.2.2.1 n7) (zB zD w1.1 n8).2 l2).2.1 then (.v (.ret (true, ()))) else (.ik (n8 + (1 : Int)) (.v (.go (w0, w1, l2, (), (), n7, (n8 + (1 : Int)), ())))))))) else (.v (.brk (w0, w1, l2, (), (), n7, n8, ()))))) else (.v (.brk (w0, w1, l2, (), (), n7, n8, ()))) : Tr (St _ _))) x.1 x.2.1 x.2.2.1 x.2.2.2.2.2.1 x.2.2.2.2.2.2.1⟩
theorem zSq (w00 : El zC) (w10 : El zH) (l20 : List (El zF)) (n70 : Int) (n80 : Int)  : (LB.run xI (w00, w10, l20, (), (), n70, n80, ())).all (fun _ => True) (fun (w0, w1, l2, _, _, n7, _) => w00 = w0 ∧ w10 = w1 ∧ l20 = l2 ∧ n70 = n7) (fun (w0, w1, l2, _, _, n7, _) => w00 = w0 ∧ w10 = w1 ∧ l20 = l2 ∧ n70 = n7) := by
 have H : ∀ (w0 : El zC) (w1 : El zH) (l2 : List (El zF)) (n7 : Int) (n8 : Int), (w00 = w0 ∧ w10 = w1 ∧ l20 = l2 ∧ n70 = n7) → St.all (fun _ => True) (fun (w0, w1, l2, _, _, n7, _) => w00 = w0 ∧ w10 = w1 ∧ l20 = l2 ∧ n70 = n7) (fun (w0, w1, l2, _, _, n7, _) => w00 = w0 ∧ w10 = w1 ∧ l20 = l2 ∧ n70 = n7) (xI.b (w0, w1, l2, (), (), n7, n8, ())) := by
  intro w0 w1 l2 n7 n8 hI
  obtain ⟨eq0, eq1, eq2, eq3⟩ := hI
  simp only [LB.b, xI, zi, zQ, zR]
  refine zd (fun h1 => ?_) (fun h1 => ?_)
  ·replace h1 : n8 < (w1.1.length : Int) := of_decide_eq_true h1
   refine zd (fun h2 => ?_) (fun h2 => ?_)
   ·refine zd (fun h3 => ?_) (fun h3 => ?_)
    ·exact trivial
    ·exact ⟨eq0, eq1, eq2, eq3⟩
   ·exact ⟨eq0, eq1, eq2, eq3⟩
  ·replace h1 : ¬ (n8 < (w1.1.length : Int)) := of_decide_eq_false h1
   exact ⟨eq0, eq1, eq2, eq3⟩
 exact LB.post (l := xI) (A := fun _ => True) (fun (w0, w1, l2, _, _, n7, _) => w00 = w0 ∧ w10 = w1 ∧ l20 = l2 ∧ n70 = n7) (fun ⟨w0, w1, l2, ⟨⟩, ⟨⟩, n7, n8, ⟨⟩⟩ hx => H w0 w1 l2 n7 n8 hx) ⟨rfl, rfl, rfl, rfl⟩
theorem zSM : SF xI fun x : El zC × El zH × List (El zF) × Unit × Unit × Int × Int × Unit => (0 ≤ x.2.2.2.2.2.2.1 ∧ (0 ≤ x.2.2.2.2.2.1 ∧ x.2.2.2.2.2.1 < (x.1.2.2.1.length : Int)) ∧ ∀ p ∈ x.1.2.2.1, (x.2.2.1.length : Int) + (p.2.1.length : Int) ≤ 16777216, (x.2.1.1.length : Int) - x.2.2.2.2.2.2.1) := x5 (by
 rintro ⟨(w0 : El zC), (w1 : El zH), (l2 : List (El zF)), ⟨⟩, ⟨⟩, (n7 : Int), (n8 : Int), ⟨⟩⟩ hI hw
 obtain ⟨i0, i1, k0⟩ := hI
 dsimp only at i0 i1 k0
 have _ : -9223372036854775808 ≤ n7 ∧ n7 ≤ 9223372036854775807 := z0 hw.2.2.2.2.2.1
 have _ : (w1.1.length : Int) ≤ 16777216 := zE (hw.2.1.1.1)
 have _ : (w0.2.2.1.length : Int) ≤ 16777216 := zE (hw.1.2.2.1.1)
 simp [xI, -Prod.forall]
 repeat' first | exact k0 _ (z4 (by omega)) | assumption | intro _ | apply And.intro
 all_goals omega)
@[reducible] def zCU : LB := ⟨[], ⟨50, [.d zC, .d zH], [(2, vd (.lst zF)), (3, .pt 0 0), (4, .pt 1 0), (7, vd .int)]⟩, ⟨50, [], [(6, vd .bool)]⟩, 0, fun x => (fun (w0 : El zC) (w1 : El zH) (l2 : List (El zF)) (n7 : Int) => (bif decide (n7 < (w0.2.2.1.length : Int)) then (.lp xI (w0, w1, l2, (), (), n7, (0 : Int), ()) (fun r3 => .v (.ret (r3.1, ()))) (fun t3 => .ik (t3.2.2.2.2.2.1 + (1 : Int)) (.v (.go (t3.1, t3.2.1, t3.2.2.1, (), (), (t3.2.2.2.2.2.1 + (1 : Int)), ()))))) else (.v (.brk (w0, w1, l2, (), (), n7, ()))) : Tr (St _ _))) x.1 x.2.1 x.2.2.1 x.2.2.2.2.2.1⟩
theorem zS5 : SF zCU fun x : El zC × El zH × List (El zF) × Unit × Unit × Int × Unit => (0 ≤ x.2.2.2.2.2.1 ∧ ∀ p ∈ x.1.2.2.1, (x.2.2.1.length : Int) + (p.2.1.length : Int) ≤ 16777216, (x.1.2.2.1.length : Int) - x.2.2.2.2.2.1) := x5 (by
 rintro ⟨(w0 : El zC), (w1 : El zH), (l2 : List (El zF)), ⟨⟩, ⟨⟩, (n7 : Int), ⟨⟩⟩ hI hw
 dsimp only at hI ⊢
 obtain ⟨i0, k0⟩ := hI
 have hb : (w0.2.2.1.length : Int) ≤ 16777216 := zE (hw.1.2.2.1.1)
 refine ⟨by omega, ?_⟩
 refine x4 (fun h4 => ?_) (fun h4 => ?_)
 ·replace h4 : n7 < (w0.2.2.1.length : Int) := of_decide_eq_true h4
  refine yt ?_ ?_
  ·exact zSM _ ⟨by (dsimp only <;> first | omega | assumption | (simp <;> omega)), by (dsimp only <;> first | omega | assumption | (simp <;> omega)), by (dsimp only <;> first | omega | assumption | (simp <;> omega))⟩
  ·refine zMd (A' := fun _ => True) (B' := fun (t3w0, t3w1, t3l2, _, _, t3n7, t3n8, _) => w0 = t3w0 ∧ w1 = t3w1 ∧ l2 = t3l2 ∧ n7 = t3n7) (zSq w0 w1 l2 n7 (0 : Int)) (fun r _ => ?_) (fun t ht => ?_)
   ·obtain ⟨r3b6, ⟨⟩⟩ := r
    dsimp only
    exact trivial
   ·obtain ⟨t3w0, t3w1, t3l2, ⟨⟩, ⟨⟩, t3n7, t3n8, ⟨⟩⟩ := t
    dsimp only
    obtain ⟨rfl, rfl, rfl, rfl⟩ := ht
    obtain ⟨t3n8, rfl⟩ : ∃ y : Int, y = t3n8 := ⟨_, rfl⟩
    refine yt ?_ ?_
    ·exact ink (by omega) (by omega)
    ·exact show (0 ≤ (n7 + (1 : Int)) ∧ ∀ p ∈ w0.2.2.1, (l2.length : Int) + (p.2.1.length : Int) ≤ 16777216) ∧ (w0.2.2.1.length : Int) - (n7 + (1 : Int)) < (w0.2.2.1.length : Int) - n7 ∧ 0 < (w0.2.2.1.length : Int) - n7 from ⟨⟨by (first | omega | rfl | assumption | (simp <;> omega)), by (first | omega | rfl | assumption | (simp <;> omega))⟩, by (first | omega | (simp only [List.length_set]; omega)), by (first | omega | (simp only [List.length_set]; omega))⟩
 ·replace h4 : ¬ (n7 < (w0.2.2.1.length : Int)) := of_decide_eq_false h4
  exact trivial)
def zJD (a0 : El zC) (a1 : El zH) (a2 : List (El zF)) : Tr (Bool × Unit) := .lp zCU (a0, a1, a2, (), (), (0 : Int), ()) (fun r4 => .v (r4.1, ())) (fun _ => .v (false, ()))
def zFB a0 a1 a2 := (zJD a0 a1 a2).val
def zI0 (a0 : El zC) (_a1 : El zH) (a2 : List (El zF)) : Prop := ∀ p ∈ a0.2.2.1, (a2.length : Int) + (p.2.1.length : Int) ≤ 16777216
@[reducible] def zP8 : FnD := ⟨[va zC, va zH, vd (.lst zF)], [vd .bool], true, fun a => some (zI0 a.1 a.2.1 a.2.2.1), fun a => zFB a.1 a.2.1 a.2.2.1⟩
theorem zbM (a0 : El zC) (a1 : El zH) (a2 : List (El zF)) (_ : xH zP8.args (a0, a1, a2, ())) (hp : zI0 a0 a1 a2) : (zJD a0 a1 a2).ok := by
 unfold zI0 at hp
 unfold zJD
 refine zJ ?_ ?_
 ·exact zS5 _ ⟨by (dsimp only <;> first | omega | rfl | assumption | (simp <;> omega)), by (dsimp only <;> first | omega | rfl | assumption | (simp <;> omega))⟩
 ·simp
def zaj : Con Tryz.prog := yE mo g0 [zO5] [zCU, xI] 220 zP8 (fn := Tryz.f220) ⟨lk, lk, trivial⟩ (fun a hw h => yX (by kernel_rfl) (zbM a.1 a.2.1 a.2.2.1 hw h) rfl)
def zLl (a0 : El zj) (a1 : List (El zF)) : Tr (El zK × Bool × Unit) := bif (a0.1 == (2 : Int)) then (.v (a0.2.2, true, ())) else (bif (a0.1 == (1 : Int)) then (.v ((xW a1 a0.2.1).1, (xW a1 a0.2.1).2.1, ())) else (.v (((0 : Int), ((0 : Int), (⟨#[]⟩ : ByteArray))), false, ())))
def xU a0 a1 := (zLl a0 a1).val
@[reducible] def zfc : FnD := ⟨[va zj, vd (.lst zF)], [va zK, vd .bool], true, fun _ => none, fun a => xU a.1 a.2.1⟩
def zeN : Con Tryz.prog := yE mo g0 [zUf] [] 276 zfc (fn := Tryz.f276) trivial (fun a _ _ => yX (t' := zLl a.1 a.2.1) (by kernel_rfl) (by simp [zLl]) rfl)
def zI6 (a0 : El zK) (a1 : El zK) : Tr (Bool × Unit) := bif (a0.1 != a1.1) then (.v (decide (a0.1 < a1.1), ())) else (bif (a0.2.1 != a1.2.1) then (.v (decide (a0.2.1 < a1.2.1), ())) else (.v ((Op.bytesLess a0.2.2.toList a1.2.2.toList), ())))
def zJX a0 a1 := (zI6 a0 a1).val
@[reducible] def zbV : FnD := ⟨[va zK, va zK], [vd .bool], true, fun _ => none, fun a => zJX a.1 a.2.1⟩
def zcC : Con Tryz.prog := yE mo g0 [] [] 277 zbV (fn := Tryz.f277) trivial (fun a _ _ => yX (t' := zI6 a.1 a.2.1) (by kernel_rfl) (by simp [zI6]) rfl)
def zNH (a0 : El zP) (a1 : List (El zF)) : Tr (Bool × Unit) := bif (!(xU a0.2.1 a1).2.1) then (.v (false, ())) else (bif (!(xU a0.2.2 a1).2.1) then (.v (false, ())) else (bif (a0.1 == (1 : Int)) then (.v ((((xU a0.2.1 a1).1.1 == (xU a0.2.2 a1).1.1) && (((xU a0.2.1 a1).1.2.1 == (xU a0.2.2 a1).1.2.1) && (((xU a0.2.1 a1).1.2.2.toList == (xU a0.2.2 a1).1.2.2.toList) && true))), ())) else (bif (a0.1 == (2 : Int)) then (.v ((!(((xU a0.2.1 a1).1.1 == (xU a0.2.2 a1).1.1) && (((xU a0.2.1 a1).1.2.1 == (xU a0.2.2 a1).1.2.1) && (((xU a0.2.1 a1).1.2.2.toList == (xU a0.2.2 a1).1.2.2.toList) && true)))), ())) else (bif (a0.1 == (3 : Int)) then (.v ((zJX (xU a0.2.1 a1).1 (xU a0.2.2 a1).1).1, ())) else (.v (false, ()))))))
def zGk a0 a1 := (zNH a0 a1).val
@[reducible] def zjZ : FnD := ⟨[va zP, vd (.lst zF)], [vd .bool], true, fun _ => none, fun a => zGk a.1 a.2.1⟩
def zir : Con Tryz.prog := yE mo g0 [zeN, zcC] [] 257 zjZ (fn := Tryz.f257) trivial (fun a _ _ => yX (t' := zNH a.1 a.2.1) (by kernel_rfl) (by simp [zNH]) rfl)
@[reducible] def zBO : LB := ⟨[], ⟨19, [], [(0, vd (.lst zP)), (1, vd (.lst zF)), (5, vd .int)]⟩, ⟨19, [], [(4, vd .bool)]⟩, 0, fun x => (fun (l0 : List (El zP)) (l1 : List (El zF)) (n5 : Int) => (bif decide (n5 < (l0.length : Int)) then (.ix n5 l0 (bif (!(zGk (zB zP l0 n5) l1).1) then (.v (.ret (false, ()))) else (.ik (n5 + (1 : Int)) (.v (.go (l0, l1, (n5 + (1 : Int)), ())))))) else (.v (.brk (l0, l1, n5, ()))) : Tr (St _ _))) x.1 x.2.1 x.2.2.1⟩
theorem zSG (l0 : List (El zP)) (l1 : List (El zF)) : LB.run zBO (l0, l1, (0 : Int), ()) = bif ze (fun _ x => bif (!(zGk x l1).1) then false else true) 0 l0 then .brk (l0, l1, (l0.length : Int), ()) else .ret (false, ()) := LB.run_all (l := zBO) (fun i => (l0, l1, (i : Int), ())) (fun i x h => by
  simp only [LB.b, zBO, zi, zQ, zR, cond_true, yQ h, zG h]
  cases (!(zGk x l1).1) <;> rfl) (by simp only [LB.b, zBO, xo]; rfl)
theorem zSz : SF zBO fun x : List (El zP) × List (El zF) × Int × Unit => (0 ≤ x.2.2.1, (x.1.length : Int) - x.2.2.1) := x5 (by
 rintro ⟨(l0 : List (El zP)), (l1 : List (El zF)), (n5 : Int), ⟨⟩⟩ hI hw
 have _ : (l0.length : Int) ≤ 16777216 := zE (hw.1.1)
 simp [zBO] at hI ⊢
 repeat' first | intro _ | apply And.intro
 all_goals omega)
def zJV (a0 : List (El zP)) (a1 : List (El zF)) : Tr (Bool × Unit) := .lp zBO (a0, a1, (0 : Int), ()) (fun r2 => .v (r2.1, ())) (fun _ => .v (true, ()))
def zE7 a0 a1 := (zJV a0 a1).val
@[reducible] def zRE : FnD := ⟨[vd (.lst zP), vd (.lst zF)], [vd .bool], true, fun _ => none, fun a => zE7 a.1 a.2.1⟩
theorem zaM (a0 : List (El zP)) (a1 : List (El zF)) (_ : xH zRE.args (a0, a1, ())) : (zJV a0 a1).ok := by
 unfold zJV
 refine zJ ?_ ?_
 ·exact zSz _ (by (dsimp only <;> omega))
 ·simp
def zbI : Con Tryz.prog := yE mo g0 [zir] [zBO] 221 zRE (fn := Tryz.f221) ⟨lk, trivial⟩ (fun a hw _ => yX (by kernel_rfl) (zaM a.1 a.2.1 hw) rfl)
theorem zbn (a0 : List (El zP)) (a1 : List (El zF)) : zE7 a0 a1 = bif ze (fun _ x => bif (!(zGk x a1).1) then false else true) 0 a0 then (true, ()) else (false, ()) := by
 simp only [zE7, zJV, zR, zy, zQ]
 rw [zSG, z6] <;> rfl
@[reducible] def yM (F : List (El zA) → El zC → El zH → List (El .int) → List (El zF) → List (El zA) × Unit) (Q : List (El zA) → El zC → El zH → List (El .int) → List (El zF) → Prop) : LB := ⟨[0, 2, 3], ⟨84, [.o (.d zA), .d zC, .d zH], [(0, .pt 0 0), (3, vd (.lst .int)), (4, vd (.lst zF)), (6, .pt 1 0), (7, .pt 2 0), (10, vd .int)]⟩, ⟨84, [.o (.d zA)], []⟩, 0, fun x => (fun (w0 : List (El zA)) (w1 : El zC) (w2 : El zH) (l3 : List (El .int)) (l4 : List (El zF)) (n10 : Int) => (bif decide (n10 < (w2.1.length : Int)) then (.ix (l3.length : Int) w1.2.2.1 (.ix n10 w2.1 (.ck (zFt (zB zI w1.2.2.1 (l3.length : Int)) (zB zD w2.1 n10).2 l4) (let y2 := (yI (zB zI w1.2.2.1 (l3.length : Int)) (zB zD w2.1 n10).2 l4); bif y2.2.1 then (.ck ((l3.length : Int) ≤ 16777216) (.ix n10 w2.1 (.ck (((l3.length + [(zB zD w2.1 n10).1].length : Nat) : Int) ≤ 16777216) (.ck (Q w0 w1 w2 (l3 ++ [(zB zD w2.1 n10).1]) y2.1) (.ik (n10 + (1 : Int)) (.v (.go ((F w0 w1 w2 (l3 ++ [(zB zD w2.1 n10).1]) y2.1).1, w1, w2, (), l3, l4, (), (), (n10 + (1 : Int)), ())))))))) else (.ik (n10 + (1 : Int)) (.v (.go (w0, w1, w2, (), l3, l4, (), (), (n10 + (1 : Int)), ())))))))) else (.v (.brk (w0, w1, w2, (), l3, l4, (), (), n10, ()))) : Tr (St _ _))) x.1 x.2.1 x.2.2.1 x.2.2.2.2.1 x.2.2.2.2.2.1 x.2.2.2.2.2.2.2.2.1⟩
def vO (F : List (El zA) → El zC → El zH → List (El .int) → List (El zF) → List (El zA) × Unit) (Q : List (El zA) → El zC → El zH → List (El .int) → List (El zF) → Prop) (a0 : List (El zA)) (a1 : El zC) (a2 : El zH) (a3 : List (El .int)) (a4 : List (El zF)) : Tr (List (El zA) × Unit) := bif ((a3.length : Int) == (xG a1).1) then (.ck (zI0 a1 a2 a4) (bif (!(zFB a1 a2 a4).1) then (bif (zE7 a1.2.2.2.1 a4).1 then (.ck ((a3.length : Int) ≤ 16777216) (.ck ((a4.length : Int) ≤ 16777216) (.ck (((a0.length + [((0 : Int), (a3, a4))].length : Nat) : Int) ≤ 16777216) (.v ((a0 ++ [((0 : Int), (a3, a4))]), ()))))) else (.v (a0, ()))) else (.v (a0, ())))) else (.lp (yM F Q) (a0, a1, a2, (), a3, a4, (), (), (0 : Int), ()) (fun r4 => .v (r4.1, ())) (fun t4 => .v (t4.1, ())))
def zEA : Nat → (List (El zA) → El zC → El zH → List (El .int) → List (El zF) → List (El zA) × Unit) × (List (El zA) → El zC → El zH → List (El .int) → List (El zF) → Prop)
 | 0 => (fun _ _ _ _ _ => default, fun _ _ _ _ _ => False)
 | n + 1 => (fun a0 a1 a2 a3 a4 => (vO (zEA n).1 (zEA n).2 a0 a1 a2 a3 a4).val, fun a0 a1 a2 a3 a4 => (vO (zEA n).1 (zEA n).2 a0 a1 a2 a3 a4).ok)
def xC (n : Nat) : List (El zA) → El zC → El zH → List (El .int) → List (El zF) → List (El zA) × Unit := (zEA n).1
def xp (n : Nat) : List (El zA) → El zC → El zH → List (El .int) → List (El zF) → Prop := (zEA n).2
@[reducible] def zGs (n : Nat) : FnD := ⟨[.ref (.o (.d zA)), va zC, va zH, vd (.lst .int), vd (.lst zF)], [.ref (.o (.d zA))], false, fun a => some (xp n a.1 a.2.1 a.2.2.1 a.2.2.2.1 a.2.2.2.2.1), fun a => xC n a.1 a.2.1 a.2.2.1 a.2.2.2.1 a.2.2.2.2.1⟩
def zcY (n : Nat) (ih : FnOk Tryz.prog 171 (zGs n)) : List (Con Tryz.prog) := ⟨171, zGs n, ih⟩ :: [zKQ, zaj, zbI, zO5]
theorem zPJ : ∀ n, FnOk Tryz.prog 171 (zGs n)
 | 0 => zmb (by kernel_rfl) (fn := Tryz.f171) (by kernel_rfl) (c := (Tryz.f171.body.getD .skip)) (by kernel_rfl) (by kernel_rfl) fun _ h => h
 | n + 1 => zaC mo g0 (zcY n (zPJ n)) [yM (xC n) (xp n)] (fn := Tryz.f171) (by kernel_rfl) (c := (Tryz.f171.body.getD .skip)) (by kernel_rfl) (by kernel_rfl) (zGs (n + 1)) (by kernel_rfl) ⟨lk, trivial⟩ (fun a _ h => yX (t' := vO (xC n) (xp n) a.1 a.2.1 a.2.2.1 a.2.2.2.1 a.2.2.2.2.1) (by kernel_rfl) h rfl)
def zZ3 : Con Tryz.prog := ⟨171, zGs 64, zPJ 64⟩
theorem zSZ {F : List (El zA) → El zC → El zH → List (El .int) → List (El zF) → List (El zA) × Unit} {Q : List (El zA) → El zC → El zH → List (El .int) → List (El zF) → Prop} {r : El zC} {s : El zH} {ids : List (El .int)} {l : List (El zF)} {k : Nat}
  (hF : ∀ (w : List (El zA)) (x : Int) (y : List (El zF)), w.length + k ≤ 16777216 → (y.length : Int) ≤ 5 * (ids.length : Int) + 5 → Q w r s (ids ++ [x]) y ∧ (F w r s (ids ++ [x]) y).1.length ≤ w.length + k)
  (hpos : ids.length < r.2.2.1.length) (hargs : ∀ p ∈ r.2.2.1, p.2.1.length ≤ 5) (hl : l.length ≤ 5 * ids.length) (hids : ids.length ≤ 3) (hit : s.1.length ≤ 40) (w0 : List (El zA)) (h0 : w0.length + 40 * k ≤ 16777216) :
  LB.sf (yM F Q) (w0, r, s, (), ids, l, (), (), (0 : Int), ()) ∧ (LB.run (yM F Q) (w0, r, s, (), ids, l, (), (), (0 : Int), ())).all (fun t => t.1.length ≤ w0.length + 40 * k) (fun t => t.1.length ≤ w0.length + 40 * k) (fun t => t.1.length ≤ w0.length + 40 * k) := by
 have step : ∀ (w : List (El zA)) (n : Int), 0 ≤ n → n ≤ (s.1.length : Int) → w.length ≤ w0.length + n.toNat * k → ((yM F Q).T (w, r, s, (), ids, l, (), (), n, ())).ok ∧
   St.all (fun (t : (yM F Q).r.T) => (t.1 : List (El zA)).length ≤ w0.length + 40 * k) (fun (t : (yM F Q).d.T) => (t.1 : List (El zA)).length ≤ w0.length + 40 * k) (fun y => n < (s.1.length : Int) ∧ ∃ w' : List (El zA), y = (w', r, s, (), ids, l, (), (), (n + 1), ()) ∧ w'.length ≤ w0.length + (n + 1).toNat * k) ((yM F Q).b (w, r, s, (), ids, l, (), (), n, ())) := by
  intro w n h1 h2 h3
  have hmem := z4 (t := zI) (l := r.2.2.1) (i := (ids.length : Int)) (by omega)
  have ha := hargs _ hmem
  have key : n < (s.1.length : Int) → n.toNat * k + k ≤ 40 * k ∧ (n + 1).toNat * k = n.toNat * k + k := fun h => by
   constructor
   ·rw [← Nat.succ_mul]; exact Nat.mul_le_mul_right k (by omega)
   ·rw [show (n + 1).toNat = n.toNat + 1 by omega, Nat.succ_mul]
  have hm : ∀ x : El zr, ((((yI (zB zI r.2.2.1 (ids.length : Int)) x l).1.length : Nat)) : Int) ≤ 5 * (ids.length : Int) + 5 := fun x => by have := zZA (zB zI r.2.2.1 (ids.length : Int)) x l; omega
  constructor
  ·dsimp only [yM]
   refine zo (fun h => ?_) (fun _ => trivial)
   replace h : n < (s.1.length : Int) := of_decide_eq_true h
   obtain ⟨k1, k2⟩ := key h
   have hq := hF w (zB zD s.1 n).1 _ (by omega) (hm (zB zD s.1 n).2)
   refine zJ ⟨by omega, by omega⟩ (zJ ⟨h1, h⟩ (zJ ?_ (zo (fun _ => zJ ?_ (zJ ⟨h1, h⟩ (zJ ?_ (zJ hq.1 (zJ (ink (by omega) (by omega)) trivial))))) (fun _ => zJ (ink (by omega) (by omega)) trivial))))
   ·show (l.length : Int) + ((zB zI r.2.2.1 (ids.length : Int)).2.1.length : Int) ≤ 16777216
    omega
   ·omega
   ·show (((ids.length + 1 : Nat)) : Int) ≤ 16777216
    omega
  ·simp only [LB.b, yM, zi, zQ, zR]
   refine zd (fun h => ?_) (fun h => ?_)
   ·replace h : n < (s.1.length : Int) := of_decide_eq_true h
    obtain ⟨k1, k2⟩ := key h
    have hq := hF w (zB zD s.1 n).1 _ (by omega) (hm (zB zD s.1 n).2)
    refine zd (fun _ => ?_) (fun _ => ?_)
    ·exact yf ⟨h, _, rfl, by have := hq.2; omega⟩
    ·exact yf ⟨h, _, rfl, by omega⟩
   ·refine zCP ?_
    have : n.toNat * k ≤ 40 * k := Nat.mul_le_mul_right k (by omega)
    show w.length ≤ _
    omega
 have I0 : ∃ (w : List (El zA)) (n : Int), (w0, r, s, (), ids, l, (), (), (0 : Int), ()) = ((w, r, s, (), ids, l, (), (), n, ()) : (yM F Q).d.T) ∧ 0 ≤ n ∧ n ≤ (s.1.length : Int) ∧ w.length ≤ w0.length + n.toNat * k := ⟨w0, 0, rfl, by omega, by omega, by omega⟩
 constructor
 ·refine LB.safe' (l := yM F Q) (fun x => ∃ (w : List (El zA)) (n : Int), x = (w, r, s, (), ids, l, (), (), n, ()) ∧ 0 ≤ n ∧ n ≤ (s.1.length : Int) ∧ w.length ≤ w0.length + n.toNat * k) (fun x => ((s.1.length : Int) - x.2.2.2.2.2.2.2.2.1).toNat) (fun x hx _ => ?_) I0 (fun _ => ?_)
  ·obtain ⟨w, n, rfl, h1, h2, h3⟩ := hx
   obtain ⟨g1, g2⟩ := step w n h1 h2 h3
   refine ⟨g1, ?_⟩
   show St.all _ _ _ ((yM F Q).b (w, r, s, (), ids, l, (), (), n, ()))
   revert g2
   cases ((yM F Q).b (w, r, s, (), ids, l, (), (), n, ())) with
   | ret t => intro _; exact trivial
   | brk t => intro _; exact trivial
   | go y =>
    rintro ⟨h4, w', rfl, h5⟩
    exact ⟨⟨w', n + 1, rfl, by omega, by omega, h5⟩, by show ((s.1.length : Int) - (n + 1)).toNat < ((s.1.length : Int) - n).toNat; omega⟩
  ·show ((s.1.length : Int) - 0).toNat < 18446744073709551616
   omega
 ·refine LB.post3 (l := yM F Q) (fun x => ∃ (w : List (El zA)) (n : Int), x = (w, r, s, (), ids, l, (), (), n, ()) ∧ 0 ≤ n ∧ n ≤ (s.1.length : Int) ∧ w.length ≤ w0.length + n.toNat * k) (fun x hx => ?_) (fun x hx => ?_) I0
  ·obtain ⟨w, n, rfl, h1, h2, h3⟩ := hx
   obtain ⟨g1, g2⟩ := step w n h1 h2 h3
   show St.all _ _ _ ((yM F Q).b (w, r, s, (), ids, l, (), (), n, ()))
   revert g2
   cases ((yM F Q).b (w, r, s, (), ids, l, (), (), n, ())) with
   | ret t => intro h; exact h
   | brk t => intro h; exact h
   | go y =>
    rintro ⟨h4, w', rfl, h5⟩
    exact ⟨w', n + 1, rfl, by omega, by omega, h5⟩
  ·obtain ⟨w, n, rfl, h1, h2, h3⟩ := hx
   have : n.toNat * k ≤ 40 * k := Nat.mul_le_mul_right k (by omega)
   show w.length ≤ _
   omega
theorem zML {r : El zC} {s : El zH} (hit : s.1.length ≤ 40) (hargs : ∀ p ∈ r.2.2.1, p.2.1.length ≤ 5) (hnp : (r.2.2.1.filter (fun p => !p.2.2)).length ≤ 3) : ∀ (n : Nat) (out : List (El zA)) (ids : List (El .int)) (l : List (El zF)), ids.length ≤ (r.2.2.1.filter (fun p => !p.2.2)).length → (r.2.2.1.filter (fun p => !p.2.2)).length - ids.length < n → l.length ≤ 5 * ids.length → out.length + 40 ^ ((r.2.2.1.filter (fun p => !p.2.2)).length - ids.length) ≤ 16777216 →
  xp n out r s ids l ∧ (xC n out r s ids l).1.length ≤ out.length + 40 ^ ((r.2.2.1.filter (fun p => !p.2.2)).length - ids.length) := by
 intro n
 induction n with
 | zero => intro out ids l h1 h2; omega
 | succ n ih =>
  intro out ids l h1 h2 h3 h4
  skip
  by_cases he : ids.length = (r.2.2.1.filter (fun p => !p.2.2)).length
  ·have hc : ((ids.length : Int) == (xG r).1) = true := by rw [zFc]; simp [he]
   have hz : 40 ^ ((r.2.2.1.filter (fun p => !p.2.2)).length - ids.length) = 1 := by rw [he, Nat.sub_self]
   rw [hz] at h4 ⊢
   constructor
   ·show (vO (xC n) (xp n) out r s ids l).ok
    unfold vO
    rw [hc]
    refine zJ ?_ (zo (fun _ => zo (fun _ => zJ ?_ (zJ ?_ (zJ ?_ trivial))) (fun _ => trivial)) (fun _ => trivial))
    ·intro p hp; have := hargs p hp; omega
    ·omega
    ·omega
    ·show (((out.length + 1 : Nat)) : Int) ≤ 16777216
     omega
   ·show (vO (xC n) (xp n) out r s ids l).val.1.length ≤ _
    simp only [vO, zi, zQ, zR, zy]
    rw [hc]
    show ((bif _ then _ else _ : List (El zA) × Unit)).1.length ≤ _
    cases (!(zFB r s l).1) with
    | false => show out.length ≤ _; omega
    | true =>
     cases (zE7 r.2.2.2.1 l).1 with
     | false => show out.length ≤ _; omega
     | true => show (out ++ [((0 : Int), (ids, l))]).length ≤ _; simp
  ·have hlt : ids.length < (r.2.2.1.filter (fun p => !p.2.2)).length := by omega
   have hc : ((ids.length : Int) == (xG r).1) = false := by rw [zFc]; simp; omega
   have hd : (r.2.2.1.filter (fun p => !p.2.2)).length - ids.length = ((r.2.2.1.filter (fun p => !p.2.2)).length - (ids.length + 1)) + 1 := by omega
   have hp : 40 ^ ((r.2.2.1.filter (fun p => !p.2.2)).length - ids.length) = 40 * 40 ^ ((r.2.2.1.filter (fun p => !p.2.2)).length - (ids.length + 1)) := by rw [hd, Nat.pow_succ, Nat.mul_comm]
   rw [hp] at h4 ⊢
   have L := zSZ (F := xC n) (Q := xp n) (r := r) (s := s) (ids := ids) (l := l) (k := 40 ^ ((r.2.2.1.filter (fun p => !p.2.2)).length - (ids.length + 1))) (fun w x y hw hy => by
    have hl1 : (ids ++ [x]).length = ids.length + 1 := by simp
    have := ih w (ids ++ [x]) y (by omega) (by omega) (by omega) (by rw [hl1]; exact hw)
    rw [hl1] at this; exact this) (by have := List.length_filter_le (fun (p : El zI) => !p.2.2) r.2.2.1; omega) hargs h3 (by omega) hit out h4
   constructor
   ·show (vO (xC n) (xp n) out r s ids l).ok
    unfold vO
    rw [hc]
    exact zJ L.1 (zID (zX7 _) (fun _ _ => trivial) (fun _ _ => trivial))
   ·show (vO (xC n) (xp n) out r s ids l).val.1.length ≤ _
    simp only [vO, zi, zQ, zR, zy]
    rw [hc]
    have L2 := L.2
    revert L2
    cases (LB.run (yM (xC n) (xp n)) (out, r, s, (), ids, l, (), (), (0 : Int), ())) with
    | ret t => intro h; exact h
    | brk t => intro h; exact h
    | go t => intro h; exact h
theorem zY1 {r : El zC} {s : El zH} (h1 : s.1.length ≤ 40) (h2 : ∀ p ∈ r.2.2.1, p.2.1.length ≤ 5) (h3 : (r.2.2.1.filter (fun p => !p.2.2)).length ≤ 3) : xp 64 [] r s [] [] := by
 have hb : 40 ^ ((r.2.2.1.filter (fun p => !p.2.2)).length - 0) ≤ 64000 := Nat.le_trans (Nat.pow_le_pow_right (by decide) (show (r.2.2.1.filter (fun p => !p.2.2)).length - 0 ≤ 3 by omega)) (by decide)
 exact (zML h1 h2 h3 64 [] [] [] (by simp) (by simp only [List.length_nil]; omega) (by simp) (by simp only [List.length_nil]; omega)).1
def zN5 (a0 : El zC) (a1 : El zH) : Tr (List (El zA) × Unit) := .ck (xp 64 ([] : List (El zA)) a0 a1 ([] : List (El .int)) ([] : List (El zF))) (.v ((xC 64 ([] : List (El zA)) a0 a1 ([] : List (El .int)) ([] : List (El zF))).1, ()))
def zEr a0 a1 := (zN5 a0 a1).val
def zNT (a0 : El zC) (a1 : El zH) : Prop := a1.1.length ≤ 40 ∧ (∀ p ∈ a0.2.2.1, p.2.1.length ≤ 5) ∧ (a0.2.2.1.filter (fun p => !p.2.2)).length ≤ 3
@[reducible] def zXV : FnD := ⟨[va zC, va zH], [vo zA], false, fun a => some (zNT a.1 a.2.1), fun a => zEr a.1 a.2.1⟩
theorem zhD (a0 : El zC) (a1 : El zH) (_ : xH zXV.args (a0, a1, ())) (hp : zNT a0 a1) : (zN5 a0 a1).ok := by
 unfold zNT at hp
 unfold zN5
 refine zJ ?_ ?_
 ·exact zY1 hp.1 hp.2.1 hp.2.2
 ·simp
def zhR : Con Tryz.prog := yE mo g0 [zZ3] [] 111 zXV (fn := Tryz.f111) trivial (fun a hw h => yX (by kernel_rfl) (zhD a.1 a.2.1 hw h) rfl)
theorem zKT {r : El zC} {s : El zH} (h1 : s.1.length ≤ 40) (h2 : ∀ p ∈ r.2.2.1, p.2.1.length ≤ 5) (h3 : (r.2.2.1.filter (fun p => !p.2.2)).length ≤ 3) : ((zEr r s).1.length : Int) ≤ 64000 := by
 have hb : 40 ^ ((r.2.2.1.filter (fun p => !p.2.2)).length - 0) ≤ 64000 := Nat.le_trans (Nat.pow_le_pow_right (by decide) (show (r.2.2.1.filter (fun p => !p.2.2)).length - 0 ≤ 3 by omega)) (by decide)
 have := (zML h1 h2 h3 64 [] [] [] (by simp) (by simp only [List.length_nil]; omega) (by simp) (by simp only [List.length_nil]; omega)).2
 simp only [List.length_nil] at this
 show ((xC 64 [] r s [] []).1.length : Int) ≤ 64000
 omega
@[reducible] def xZ : LB := ⟨[], ⟨43, [.d zN, .d zH], [(2, .pt 0 0), (3, .pt 1 0), (5, vo zA), (6, vd .int), (7, vo zA), (8, vd .int)]⟩, ⟨43, [], []⟩, 2, fun x => (fun (w0 : El zN) (w1 : El zH) (l5 : List (El zA)) (n6 : Int) (l7 : List (El zA)) (n8 : Int) => (bif decide (n8 < (l7.length : Int)) then (.ix n8 l7 (.ix n8 (List.set l7 (Int.toNat n8) (n6, (zB zA l7 n8).2)) (.ck (((l5.length + [(zB zA (List.set l7 (Int.toNat n8) (n6, (zB zA l7 n8).2)) n8)].length : Nat) : Int) ≤ 16777216) (.ik (n8 + (1 : Int)) (.v (.go (w0, w1, (), (), (l5 ++ [(zB zA (List.set l7 (Int.toNat n8) (n6, (zB zA l7 n8).2)) n8)]), n6, (List.set l7 (Int.toNat n8) (n6, (zB zA l7 n8).2)), (n8 + (1 : Int)), ()))))))) else (.v (.brk (w0, w1, (), (), l5, n6, l7, n8, ()))) : Tr (St _ _))) x.1 x.2.1 x.2.2.2.2.1 x.2.2.2.2.2.1 x.2.2.2.2.2.2.1 x.2.2.2.2.2.2.2.1⟩
theorem zWL (w00 : El zN) (w10 : El zH) (l50 : List (El zA)) (n60 : Int) (l70 : List (El zA)) (n80 : Int)  : (LB.run xZ (w00, w10, (), (), l50, n60, l70, n80, ())).all (fun _ => False) (fun (w0, w1, _, _, _, n6, _) => w00 = w0 ∧ w10 = w1 ∧ n60 = n6) (fun (w0, w1, _, _, _, n6, _) => w00 = w0 ∧ w10 = w1 ∧ n60 = n6) := by
 have H : ∀ (w0 : El zN) (w1 : El zH) (l5 : List (El zA)) (n6 : Int) (l7 : List (El zA)) (n8 : Int), (w00 = w0 ∧ w10 = w1 ∧ n60 = n6) → St.all (fun _ => False) (fun (w0, w1, _, _, _, n6, _) => w00 = w0 ∧ w10 = w1 ∧ n60 = n6) (fun (w0, w1, _, _, _, n6, _) => w00 = w0 ∧ w10 = w1 ∧ n60 = n6) (xZ.b (w0, w1, (), (), l5, n6, l7, n8, ())) := by
  intro w0 w1 l5 n6 l7 n8 hI
  obtain ⟨eq0, eq1, eq2⟩ := hI
  simp only [LB.b, xZ, zi, zQ, zR]
  refine zd (fun h1 => ?_) (fun h1 => ?_)
  ·replace h1 : n8 < (l7.length : Int) := of_decide_eq_true h1
   exact ⟨eq0, eq1, eq2⟩
  ·replace h1 : ¬ (n8 < (l7.length : Int)) := of_decide_eq_false h1
   exact ⟨eq0, eq1, eq2⟩
 exact LB.post (l := xZ) (A := fun _ => False) (fun (w0, w1, _, _, _, n6, _) => w00 = w0 ∧ w10 = w1 ∧ n60 = n6) (fun ⟨w0, w1, ⟨⟩, ⟨⟩, l5, n6, l7, n8, ⟨⟩⟩ hx => H w0 w1 l5 n6 l7 n8 hx) ⟨rfl, rfl, rfl⟩
theorem zU7 (w00 : El zN) (w10 : El zH) (l50 : List (El zA)) (n60 : Int) (l70 : List (El zA)) (n80 : Int) (p0 : (l50.length : Int) ≤ 64000 * n60 + n80 ∧ n80 ≤ (l70.length : Int) ∧ (l70.length : Int) ≤ 64000) : (LB.run xZ (w00, w10, (), (), l50, n60, l70, n80, ())).all (fun _ => False) (fun (w0, w1, _, _, l5, n6, l7, n8, _) => w00 = w0 ∧ w10 = w1 ∧ n60 = n6 ∧ ((l5.length : Int) ≤ 64000 * n6 + n8 ∧ n8 ≤ (l7.length : Int) ∧ (l7.length : Int) ≤ 64000)) (fun (w0, w1, _, _, l5, n6, l7, n8, _) => w00 = w0 ∧ w10 = w1 ∧ n60 = n6 ∧ ((l5.length : Int) ≤ 64000 * n6 + n8 ∧ n8 ≤ (l7.length : Int) ∧ (l7.length : Int) ≤ 64000)) := by
 have H : ∀ (w0 : El zN) (w1 : El zH) (l5 : List (El zA)) (n6 : Int) (l7 : List (El zA)) (n8 : Int), (w00 = w0 ∧ w10 = w1 ∧ n60 = n6 ∧ ((l5.length : Int) ≤ 64000 * n6 + n8 ∧ n8 ≤ (l7.length : Int) ∧ (l7.length : Int) ≤ 64000)) → St.all (fun _ => False) (fun (w0, w1, _, _, l5, n6, l7, n8, _) => w00 = w0 ∧ w10 = w1 ∧ n60 = n6 ∧ ((l5.length : Int) ≤ 64000 * n6 + n8 ∧ n8 ≤ (l7.length : Int) ∧ (l7.length : Int) ≤ 64000)) (fun (w0, w1, _, _, l5, n6, l7, n8, _) => w00 = w0 ∧ w10 = w1 ∧ n60 = n6 ∧ ((l5.length : Int) ≤ 64000 * n6 + n8 ∧ n8 ≤ (l7.length : Int) ∧ (l7.length : Int) ≤ 64000)) (xZ.b (w0, w1, (), (), l5, n6, l7, n8, ())) := by
  intro w0 w1 l5 n6 l7 n8 hI
  obtain ⟨eq0, eq1, eq2, eq3⟩ := hI
  simp only [LB.b, xZ, zi, zQ, zR]
  refine zd (fun h2 => ?_) (fun h2 => ?_)
  ·replace h2 : n8 < (l7.length : Int) := of_decide_eq_true h2
   exact yf (show w00 = w0 ∧ w10 = w1 ∧ n60 = n6 ∧ (((l5 ++ [(zB zA (List.set l7 (Int.toNat n8) (n6, (zB zA l7 n8).2)) n8)]).length : Int) ≤ 64000 * n6 + (n8 + (1 : Int)) ∧ (n8 + (1 : Int)) ≤ ((List.set l7 (Int.toNat n8) (n6, (zB zA l7 n8).2)).length : Int) ∧ ((List.set l7 (Int.toNat n8) (n6, (zB zA l7 n8).2)).length : Int) ≤ 64000) from ⟨eq0, eq1, eq2, by first | omega | rfl | assumption | (simp <;> omega)⟩)
  ·replace h2 : ¬ (n8 < (l7.length : Int)) := of_decide_eq_false h2
   exact zCP (show w00 = w0 ∧ w10 = w1 ∧ n60 = n6 ∧ ((l5.length : Int) ≤ 64000 * n6 + n8 ∧ n8 ≤ (l7.length : Int) ∧ (l7.length : Int) ≤ 64000) from ⟨eq0, eq1, eq2, by first | omega | rfl | assumption | (simp <;> omega)⟩)
 exact LB.post (l := xZ) (A := fun _ => False) (fun (w0, w1, _, _, l5, n6, l7, n8, _) => w00 = w0 ∧ w10 = w1 ∧ n60 = n6 ∧ ((l5.length : Int) ≤ 64000 * n6 + n8 ∧ n8 ≤ (l7.length : Int) ∧ (l7.length : Int) ≤ 64000)) (fun ⟨w0, w1, ⟨⟩, ⟨⟩, l5, n6, l7, n8, ⟨⟩⟩ hx => H w0 w1 l5 n6 l7 n8 hx) ⟨rfl, rfl, rfl, p0⟩
theorem zV5 : SF xZ fun x : El zN × El zH × Unit × Unit × List (El zA) × Int × List (El zA) × Int × Unit => (0 ≤ x.2.2.2.2.2.2.2.1 ∧ (x.2.2.2.2.1.length : Int) ≤ 64000 * x.2.2.2.2.2.1 + x.2.2.2.2.2.2.2.1 ∧ (x.2.2.2.2.2.2.1.length : Int) ≤ 64000 ∧ (0 ≤ x.2.2.2.2.2.1 ∧ x.2.2.2.2.2.1 < 12), (x.2.2.2.2.2.2.1.length : Int) - x.2.2.2.2.2.2.2.1) := x5 (by
 rintro ⟨(w0 : El zN), (w1 : El zH), ⟨⟩, ⟨⟩, (l5 : List (El zA)), (n6 : Int), (l7 : List (El zA)), (n8 : Int), ⟨⟩⟩ hI hw
 obtain ⟨i0, k0, k1, k2⟩ := hI
 dsimp only at i0 k0 k1 k2
 have _ : -9223372036854775808 ≤ n6 ∧ n6 ≤ 9223372036854775807 := z0 hw.2.2.2.2.2.1
 have _ : (l7.length : Int) ≤ 16777216 := zE (hw.2.2.2.2.2.2.1.1)
 have _ : (l5.length : Int) ≤ 16777216 := zE (hw.2.2.2.2.1.1)
 simp [xZ]
 repeat' first | intro _ | apply And.intro
 all_goals omega)
@[reducible] def zAK : LB := ⟨[], ⟨43, [.d zN, .d zH], [(2, .pt 0 0), (3, .pt 1 0), (5, vo zA), (6, vd .int)]⟩, ⟨43, [], []⟩, 0, fun x => (fun (w0 : El zN) (w1 : El zH) (l5 : List (El zA)) (n6 : Int) => (bif decide (n6 < (w0.2.length : Int)) then (.ix n6 w0.2 (.ck (zNT (zB zC w0.2 n6) w1) (.lp xZ (w0, w1, (), (), l5, n6, (zEr (zB zC w0.2 n6) w1).1, (0 : Int), ()) (fun _ => .v (.ret ())) (fun t2 => .ik (t2.2.2.2.2.2.1 + (1 : Int)) (.v (.go (t2.1, t2.2.1, (), (), t2.2.2.2.2.1, (t2.2.2.2.2.2.1 + (1 : Int)), ()))))))) else (.v (.brk (w0, w1, (), (), l5, n6, ()))) : Tr (St _ _))) x.1 x.2.1 x.2.2.2.2.1 x.2.2.2.2.2.1⟩
theorem zVV (w00 : El zN) (w10 : El zH) (l50 : List (El zA)) (n60 : Int)  : (LB.run zAK (w00, w10, (), (), l50, n60, ())).all (fun _ => False) (fun (w0, w1, _) => w00 = w0 ∧ w10 = w1) (fun (w0, w1, _) => w00 = w0 ∧ w10 = w1) := by
 have H : ∀ (w0 : El zN) (w1 : El zH) (l5 : List (El zA)) (n6 : Int), (w00 = w0 ∧ w10 = w1) → St.all (fun _ => False) (fun (w0, w1, _) => w00 = w0 ∧ w10 = w1) (fun (w0, w1, _) => w00 = w0 ∧ w10 = w1) (zAK.b (w0, w1, (), (), l5, n6, ())) := by
  intro w0 w1 l5 n6 hI
  obtain ⟨eq0, eq1⟩ := hI
  simp only [LB.b, zAK, zi, zQ, zR, zy]
  refine zd (fun h3 => ?_) (fun h3 => ?_)
  ·replace h3 : n6 < (w0.2.length : Int) := of_decide_eq_true h3
   refine zPc (A' := fun _ => False) (B' := fun (t2w0, t2w1, _, _, t2l5, t2n6, t2l7, t2n8, _) => w0 = t2w0 ∧ w1 = t2w1 ∧ n6 = t2n6) (zWL w0 w1 l5 n6 (zEr (zB zC w0.2 n6) w1).1 (0 : Int)) (fun _ h => h.elim) (fun t ht => ?_)
   obtain ⟨t2w0, t2w1, ⟨⟩, ⟨⟩, t2l5, t2n6, t2l7, t2n8, ⟨⟩⟩ := t
   dsimp only
   obtain ⟨rfl, rfl, rfl⟩ := ht
   obtain ⟨t2n8, rfl⟩ : ∃ y : Int, y = t2n8 := ⟨_, rfl⟩
   exact ⟨eq0, eq1⟩
  ·replace h3 : ¬ (n6 < (w0.2.length : Int)) := of_decide_eq_false h3
   exact ⟨eq0, eq1⟩
 exact LB.post (l := zAK) (A := fun _ => False) (fun (w0, w1, _) => w00 = w0 ∧ w10 = w1) (fun ⟨w0, w1, ⟨⟩, ⟨⟩, l5, n6, ⟨⟩⟩ hx => H w0 w1 l5 n6 hx) ⟨rfl, rfl⟩
theorem zVN : SF zAK fun x : El zN × El zH × Unit × Unit × List (El zA) × Int × Unit => (0 ≤ x.2.2.2.2.2.1 ∧ (x.2.2.2.2.1.length : Int) ≤ 64000 * x.2.2.2.2.2.1 ∧ x.2.1.1.length ≤ 40 ∧ x.1.2.length ≤ 12 ∧ (∀ r ∈ x.1.2, (∀ p ∈ r.2.2.1, p.2.1.length ≤ 5) ∧ (r.2.2.1.filter (fun p => !p.2.2)).length ≤ 3), (x.1.2.length : Int) - x.2.2.2.2.2.1) := x5 (by
 rintro ⟨(w0 : El zN), (w1 : El zH), ⟨⟩, ⟨⟩, (l5 : List (El zA)), (n6 : Int), ⟨⟩⟩ hI hw
 dsimp only at hI ⊢
 obtain ⟨i0, k0, k1, k2, k3⟩ := hI
 have hb : (w0.2.length : Int) ≤ 16777216 := zE (hw.1.2.1)
 refine ⟨by omega, ?_⟩
 refine x4 (fun h4 => ?_) (fun h4 => ?_)
 ·replace h4 : n6 < (w0.2.length : Int) := of_decide_eq_true h4
  refine yt ?_ ?_
  ·first | omega | (simp <;> omega)
  ·refine yt ?_ ?_
   ·exact ⟨k1, (k3 _ (z4 (by omega))).1, (k3 _ (z4 (by omega))).2⟩
   ·refine yt ?_ ?_
    ·exact zV5 _ ⟨by (have _ := zKT (r := zB zC w0.2 n6) (s := w1) k1 (k3 _ (z4 (by omega))).1 (k3 _ (z4 (by omega))).2; dsimp only <;> first | omega | assumption | (simp <;> omega)), by (have _ := zKT (r := zB zC w0.2 n6) (s := w1) k1 (k3 _ (z4 (by omega))).1 (k3 _ (z4 (by omega))).2; dsimp only <;> first | omega | assumption | (simp <;> omega)), by (have _ := zKT (r := zB zC w0.2 n6) (s := w1) k1 (k3 _ (z4 (by omega))).1 (k3 _ (z4 (by omega))).2; dsimp only <;> first | omega | assumption | (simp <;> omega)), by (have _ := zKT (r := zB zC w0.2 n6) (s := w1) k1 (k3 _ (z4 (by omega))).1 (k3 _ (z4 (by omega))).2; dsimp only <;> first | omega | assumption | (simp <;> omega))⟩
    ·refine zMd (A' := fun _ => False) (B' := fun (t2w0, t2w1, _, _, t2l5, t2n6, t2l7, t2n8, _) => w0 = t2w0 ∧ w1 = t2w1 ∧ n6 = t2n6 ∧ ((t2l5.length : Int) ≤ 64000 * t2n6 + t2n8 ∧ t2n8 ≤ (t2l7.length : Int) ∧ (t2l7.length : Int) ≤ 64000)) (zU7 w0 w1 l5 n6 (zEr (zB zC w0.2 n6) w1).1 (0 : Int) (by (have _ := zKT (r := zB zC w0.2 n6) (s := w1) k1 (k3 _ (z4 (by omega))).1 (k3 _ (z4 (by omega))).2; first | omega | rfl | assumption | (simp <;> omega) | (refine ⟨?_, ?_, ?_⟩ <;> first | omega | rfl | (simp <;> omega)) | (refine ⟨?_, ?_⟩ <;> first | omega | rfl | (simp <;> omega))))) (fun _ h => h.elim) (fun t ht => ?_)
     obtain ⟨t2w0, t2w1, ⟨⟩, ⟨⟩, t2l5, t2n6, t2l7, t2n8, ⟨⟩⟩ := t
     dsimp only
     obtain ⟨rfl, rfl, rfl, hth5⟩ := ht
     obtain ⟨t2n8, rfl⟩ : ∃ y : Int, y = t2n8 := ⟨_, rfl⟩
     replace hth5 : (t2l5.length : Int) ≤ 64000 * n6 + t2n8 ∧ t2n8 ≤ (t2l7.length : Int) ∧ (t2l7.length : Int) ≤ 64000 := hth5
     refine yt ?_ ?_
     ·exact ink (by omega) (by omega)
     ·exact show (0 ≤ (n6 + (1 : Int)) ∧ (t2l5.length : Int) ≤ 64000 * (n6 + (1 : Int)) ∧ w1.1.length ≤ 40 ∧ w0.2.length ≤ 12 ∧ (∀ r ∈ w0.2, (∀ p ∈ r.2.2.1, p.2.1.length ≤ 5) ∧ (r.2.2.1.filter (fun p => !p.2.2)).length ≤ 3)) ∧ (w0.2.length : Int) - (n6 + (1 : Int)) < (w0.2.length : Int) - n6 ∧ 0 < (w0.2.length : Int) - n6 from ⟨⟨by (first | omega | rfl | assumption | (simp <;> omega)), by (first | omega | rfl | assumption | (simp <;> omega)), by (first | omega | rfl | assumption | (simp <;> omega)), by (first | omega | rfl | assumption | (simp <;> omega)), by (first | omega | rfl | assumption | (simp <;> omega))⟩, by (first | omega | (simp only [List.length_set]; omega)), by (first | omega | (simp only [List.length_set]; omega))⟩
 ·replace h4 : ¬ (n6 < (w0.2.length : Int)) := of_decide_eq_false h4
  exact trivial)
def zLe (a0 : El zN) (a1 : El zH) : Tr (List (El zA) × Unit) := .lp zAK (a0, a1, (), (), ([] : List (El zA)), (0 : Int), ()) (fun _ => .bad) (fun t3 => .v (t3.2.2.2.2.1, ()))
def zIn a0 a1 := (zLe a0 a1).val
def zLc (a0 : El zN) (a1 : El zH) : Prop := zkG a0 a1
@[reducible] def zUT : FnD := ⟨[va zN, va zH], [vo zA], false, fun a => some (zLc a.1 a.2.1), fun a => zIn a.1 a.2.1⟩
theorem zgi (a0 : El zN) (a1 : El zH) (_ : xH zUT.args (a0, a1, ())) (hp : zLc a0 a1) : (zLe a0 a1).ok := by
 unfold zLc at hp
 obtain ⟨hp1, hp2, hp3⟩ := hp
 unfold zLe
 refine zJ ?_ ?_
 ·exact zVN _ ⟨by (dsimp only <;> first | omega | rfl | assumption | (simp <;> omega)), by (dsimp only <;> first | omega | rfl | assumption | (simp <;> omega)), by (dsimp only <;> first | omega | rfl | assumption | (simp <;> omega)), by (dsimp only <;> first | omega | rfl | assumption | (simp <;> omega)), by (dsimp only <;> first | omega | rfl | assumption | (simp <;> omega))⟩
 ·refine zID (A' := fun _ => False) (B' := fun (t3w0, t3w1, _, _, t3l5, t3n6, _) => a0 = t3w0 ∧ a1 = t3w1) (zVV a0 a1 ([] : List (El zA)) (0 : Int)) (fun _ h => h.elim) (fun t ht => ?_)
  obtain ⟨t3w0, t3w1, ⟨⟩, ⟨⟩, t3l5, t3n6, ⟨⟩⟩ := t
  dsimp only
  obtain ⟨rfl, rfl⟩ := ht
  obtain ⟨t3n6, rfl⟩ : ∃ y : Int, y = t3n6 := ⟨_, rfl⟩
  trivial
def zgN : Con Tryz.prog := yE mo g0 [zhR] [zAK, xZ] 64 zUT (fn := Tryz.f64) ⟨lk, lk, trivial⟩ (fun a hw h => yX (by kernel_rfl) (zgi a.1 a.2.1 hw h) rfl)
@[reducible] def zBL : LB := ⟨[], ⟨26, [], [(0, vd (.lst .int)), (1, vd (.lst .int)), (5, vd .int)]⟩, ⟨26, [], [(4, vd .bool)]⟩, 0, fun x => (fun (l0 : List (El .int)) (l1 : List (El .int)) (n5 : Int) => (bif decide (n5 < (l0.length : Int)) then (.ix n5 l0 (.ix n5 l1 (bif ((zB .int l0 n5) != (zB .int l1 n5)) then (.v (.ret (false, ()))) else (.ik (n5 + (1 : Int)) (.v (.go (l0, l1, (n5 + (1 : Int)), ()))))))) else (.v (.brk (l0, l1, n5, ()))) : Tr (St _ _))) x.1 x.2.1 x.2.2.1⟩
theorem zTG (l0 : List (El .int)) (l1 : List (El .int)) : LB.run zBL (l0, l1, (0 : Int), ()) = bif ze (fun i x => bif (x != (zB .int l1 (i : Int))) then false else true) 0 l0 then .brk (l0, l1, (l0.length : Int), ()) else .ret (false, ()) := LB.run_all (l := zBL) (fun i => (l0, l1, (i : Int), ())) (fun i x h => by
  simp only [LB.b, zBL, zi, zQ, zR, cond_true, yQ h, zG h]
  cases (x != (zB .int l1 (i : Int))) <;> rfl) (by simp only [LB.b, zBL, xo]; rfl)
theorem zSW : SF zBL fun x : List (El .int) × List (El .int) × Int × Unit => (0 ≤ x.2.2.1 ∧ (x.1.length : Int) ≤ (x.2.1.length : Int), (x.1.length : Int) - x.2.2.1) := x5 (by
 rintro ⟨(l0 : List (El .int)), (l1 : List (El .int)), (n5 : Int), ⟨⟩⟩ hI hw
 have _ : (l0.length : Int) ≤ 16777216 := zE (hw.1.1)
 simp [zBL] at hI ⊢
 repeat' first | intro _ | apply And.intro
 all_goals omega)
def zJh (a0 : List (El .int)) (a1 : List (El .int)) : Tr (Bool × Unit) := bif ((a0.length : Int) != (a1.length : Int)) then (.v (false, ())) else (.lp zBL (a0, a1, (0 : Int), ()) (fun r1 => .v (r1.1, ())) (fun _ => .v (true, ())))
def zJ6 a0 a1 := (zJh a0 a1).val
@[reducible] def zR1 : FnD := ⟨[vd (.lst .int), vd (.lst .int)], [vd .bool], true, fun _ => none, fun a => zJ6 a.1 a.2.1⟩
theorem zZ8 (a0 : List (El .int)) (a1 : List (El .int)) (_ : xH zR1.args (a0, a1, ())) : (zJh a0 a1).ok := by
 unfold zJh
 refine zo (fun _ => trivial) (fun h1 => ?_)
 replace h1 := zAg h1
 refine zJ ?_ ?_
 ·exact zSW _ ⟨by (dsimp only <;> omega), by (dsimp only <;> omega)⟩
 ·simp
def zal : Con Tryz.prog := yE mo g0 [] [zBL] 219 zR1 (fn := Tryz.f219) ⟨lk, trivial⟩ (fun a hw _ => yX (by kernel_rfl) (zZ8 a.1 a.2.1 hw) rfl)
theorem zbb (a0 : List (El .int)) (a1 : List (El .int)) : zJ6 a0 a1 = bif ((a0.length : Int) != (a1.length : Int)) then (false, ()) else (bif ze (fun i x => bif (x != (zB .int a1 (i : Int))) then false else true) 0 a0 then (true, ()) else (false, ())) := by
 simp only [zJ6, zJh, zR, zi, zy, zQ]
 rw [zTG, z6] <;> rfl
def zGK (a0 : El zA) (a1 : El zA) : Tr (Bool × Unit) := bif (a0.1 == a1.1) then (.v ((zJ6 a0.2.1 a1.2.1).1, ())) else (.v (false, ()))
def vt a0 a1 := (zGK a0 a1).val
@[reducible] def zVT : FnD := ⟨[va zA, va zA], [vd .bool], true, fun _ => none, fun a => vt a.1 a.2.1⟩
def zWe : Con Tryz.prog := yE mo g0 [zal] [] 169 zVT (fn := Tryz.f169) trivial (fun a _ _ => yX (t' := zGK a.1 a.2.1) (by kernel_rfl) (by simp [zGK]) rfl)
@[reducible] def zAo : LB := ⟨[], ⟨18, [.d zA], [(0, vd (.lst zA)), (3, .pt 0 0), (5, vd .int)]⟩, ⟨18, [], [(4, vd .bool)]⟩, 0, fun x => (fun (w0 : El zA) (l0 : List (El zA)) (n5 : Int) => (bif decide (n5 < (l0.length : Int)) then (.ix n5 l0 (bif (vt (zB zA l0 n5) w0).1 then (.v (.ret (true, ()))) else (.ik (n5 + (1 : Int)) (.v (.go (w0, l0, (), (n5 + (1 : Int)), ())))))) else (.v (.brk (w0, l0, (), n5, ()))) : Tr (St _ _))) x.1 x.2.1 x.2.2.2.1⟩
theorem zQG (w0 : El zA) (l0 : List (El zA)) : LB.run zAo (w0, l0, (), (0 : Int), ()) = bif ze (fun _ x => bif (vt x w0).1 then false else true) 0 l0 then .brk (w0, l0, (), (l0.length : Int), ()) else .ret (true, ()) := LB.run_all (l := zAo) (fun i => (w0, l0, (), (i : Int), ())) (fun i x h => by
  simp only [LB.b, zAo, zi, zQ, zR, cond_true, yQ h, zG h]
  cases (vt x w0).1 <;> rfl) (by simp only [LB.b, zAo, xo]; rfl)
theorem zQQ : SF zAo fun x : El zA × List (El zA) × Unit × Int × Unit => (0 ≤ x.2.2.2.1, (x.2.1.length : Int) - x.2.2.2.1) := x5 (by
 rintro ⟨(w0 : El zA), (l0 : List (El zA)), ⟨⟩, (n5 : Int), ⟨⟩⟩ hI hw
 have _ : (l0.length : Int) ≤ 16777216 := zE (hw.2.1.1)
 simp [zAo] at hI ⊢
 repeat' first | intro _ | apply And.intro
 all_goals omega)
def zHf (a0 : List (El zA)) (a1 : El zA) : Tr (Bool × Unit) := .lp zAo (a1, a0, (), (0 : Int), ()) (fun r2 => .v (r2.1, ())) (fun _ => .v (false, ()))
def vF a0 a1 := (zHf a0 a1).val
@[reducible] def zO0 : FnD := ⟨[vd (.lst zA), va zA], [vd .bool], true, fun _ => none, fun a => vF a.1 a.2.1⟩
theorem zYC (a0 : List (El zA)) (a1 : El zA) (_ : xH zO0.args (a0, a1, ())) : (zHf a0 a1).ok := by
 unfold zHf
 refine zJ ?_ ?_
 ·exact zQQ _ (by (dsimp only <;> omega))
 ·simp
def zYE : Con Tryz.prog := yE mo g0 [zWe] [zAo] 108 zO0 (fn := Tryz.f108) ⟨lk, trivial⟩ (fun a hw _ => yX (by kernel_rfl) (zYC a.1 a.2.1 hw) rfl)
theorem zXa (a0 : List (El zA)) (a1 : El zA) : vF a0 a1 = bif ze (fun _ x => bif (vt x a1).1 then false else true) 0 a0 then (false, ()) else (true, ()) := by
 simp only [vF, zHf, zR, zy, zQ]
 rw [zQG, z6] <;> rfl
@[reducible] def vX : LB := ⟨[], ⟨61, [.d zA, .d zA], [(2, .pt 0 0), (3, .pt 1 0), (5, vd .int)]⟩, ⟨61, [], [(4, vd .bool)]⟩, 1, fun x => (fun (w0 : El zA) (w1 : El zA) (n5 : Int) => (bif decide (n5 < (w0.2.1.length : Int)) then (.ix n5 w0.2.1 (.ix n5 w1.2.1 (bif ((zB .int w0.2.1 n5) != (zB .int w1.2.1 n5)) then (.ix n5 w0.2.1 (.ix n5 w1.2.1 (.v (.ret (decide ((zB .int w0.2.1 n5) < (zB .int w1.2.1 n5)), ()))))) else (.ik (n5 + (1 : Int)) (.v (.go (w0, w1, (), (), (n5 + (1 : Int)), ()))))))) else (.v (.brk (w0, w1, (), (), n5, ()))) : Tr (St _ _))) x.1 x.2.1 x.2.2.2.2.1⟩
theorem zPS (w0 : El zA) (w1 : El zA) : LB.run vX (w0, w1, (), (), (0 : Int), ()) = zDg (xB (fun i x => bif (x != (zB .int w1.2.1 (i : Int))) then (some (decide (x < (zB .int w1.2.1 (i : Int))), ())) else none) 0 w0.2.1) (w0, w1, (), (), (w0.2.1.length : Int), ()) := LB.run_scan (l := vX) (fun i => (w0, w1, (), (), (i : Int), ())) (fun i x h => by
  simp only [LB.b, vX, zi, zQ, zR, cond_true, yQ h, zG h]
  cases (x != (zB .int w1.2.1 (i : Int))) <;> rfl) (by simp only [LB.b, vX, xo]; rfl)
theorem zPZ : SF vX fun x : El zA × El zA × Unit × Unit × Int × Unit => (0 ≤ x.2.2.2.2.1 ∧ (x.1.2.1.length : Int) ≤ (x.2.1.2.1.length : Int), (x.1.2.1.length : Int) - x.2.2.2.2.1) := x5 (by
 rintro ⟨(w0 : El zA), (w1 : El zA), ⟨⟩, ⟨⟩, (n5 : Int), ⟨⟩⟩ hI hw
 have _ : (w0.2.1.length : Int) ≤ 16777216 := zE (hw.1.2.1.1)
 simp [vX] at hI ⊢
 repeat' first | intro _ | apply And.intro
 all_goals omega)
def zGM (a0 : El zA) (a1 : El zA) : Tr (Bool × Unit) := bif (a0.1 != a1.1) then (.v (decide (a0.1 < a1.1), ())) else (bif ((a0.2.1.length : Int) != (a1.2.1.length : Int)) then (.v (decide ((a0.2.1.length : Int) < (a1.2.1.length : Int)), ())) else (.lp vX (a0, a1, (), (), (0 : Int), ()) (fun r1 => .v (r1.1, ())) (fun _ => .v (false, ()))))
def zEU a0 a1 := (zGM a0 a1).val
@[reducible] def zNn : FnD := ⟨[va zA, va zA], [vd .bool], true, fun _ => none, fun a => zEU a.1 a.2.1⟩
theorem zV0 (a0 : El zA) (a1 : El zA) (_ : xH zNn.args (a0, a1, ())) : (zGM a0 a1).ok := by
 unfold zGM
 refine zo (fun _ => trivial) (fun h1 => ?_)
 refine zo (fun _ => trivial) (fun h2 => ?_)
 replace h2 := zAg h2
 refine zJ ?_ ?_
 ·exact zPZ _ ⟨by (dsimp only <;> omega), by (dsimp only <;> omega)⟩
 ·simp
def zVe : Con Tryz.prog := yE mo g0 [] [vX] 170 zNn (fn := Tryz.f170) ⟨lk, trivial⟩ (fun a hw _ => yX (by kernel_rfl) (zV0 a.1 a.2.1 hw) rfl)
theorem zUr (a0 : El zA) (a1 : El zA) : zEU a0 a1 = bif (a0.1 != a1.1) then (decide (a0.1 < a1.1), ()) else (bif ((a0.2.1.length : Int) != (a1.2.1.length : Int)) then (decide ((a0.2.1.length : Int) < (a1.2.1.length : Int)), ()) else (zE1 (xB (fun i x => bif (x != (zB .int a1.2.1 (i : Int))) then (some (decide (x < (zB .int a1.2.1 (i : Int))), ())) else none) 0 a0.2.1) (fun (r1 : vX.r.T) => (r1.1, ())) (false, ()))) := by
 simp only [zEU, zGM, zR, zi, zy, zQ]
 rw [zPS, xw] <;> rfl
def zKu (a0 : El zN) (a1 : El zA) (a2 : El zA) : Tr (Bool × Unit) := bif (!(yz a0 a1).1) then (.v (false, ())) else (bif (!(yz a0 a2).1) then (.v (false, ())) else (.ix a1.1 a0.2 (.ix a2.1 a0.2 (bif decide ((zB zC a0.2 a1.1).2.1 > (zB zC a0.2 a2.1).2.1) then (.v (true, ())) else (bif ((zB zC a0.2 a1.1).2.1 == (zB zC a0.2 a2.1).2.1) then (.v ((zEU a1 a2).1, ())) else (.v (false, ())))))))
def zA7 a0 a1 a2 := (zKu a0 a1 a2).val
@[reducible] def zUp : FnD := ⟨[va zN, va zA, va zA], [vd .bool], true, fun _ => none, fun a => zA7 a.1 a.2.1 a.2.2.1⟩
theorem zeO (a0 : El zN) (a1 : El zA) (a2 : El zA) (_ : xH zUp.args (a0, a1, a2, ())) : (zKu a0 a1 a2).ok := by
 unfold zKu
 refine zo (fun _ => trivial) (fun h1 => ?_)
 replace h1 := vj h1
 replace h1 := zGw h1
 refine zo (fun _ => trivial) (fun h2 => ?_)
 replace h2 := vj h2
 replace h2 := zGw h2
 refine zJ ?_ ?_
 ·first | omega | (simp <;> omega)
 ·refine zJ ?_ ?_
  ·first | omega | (simp <;> omega)
  ·simp
def zfG : Con Tryz.prog := yE mo g0 [zMf, zVe] [] 109 zUp (fn := Tryz.f109) trivial (fun a hw _ => yX (by kernel_rfl) (zeO a.1 a.2.1 a.2.2.1 hw) rfl)
def zDr (a0 : El zA) : Tr (El zA × Unit) := .ck ((a0.2.1.length : Int) ≤ 16777216) (.ck ((a0.2.2.length : Int) ≤ 16777216) (.v (a0, ())))
def zDp a0 := (zDr a0).val
@[reducible] def zKG : FnD := ⟨[va zA], [.val true (.pr (.d .int) (.pr (.o (.d .int)) (.o (.d zF))))], true, fun _ => none, fun a => zDp a.1⟩
theorem zPQ (a0 : El zA) (hw : xH zKG.args (a0, ())) : (zDr a0).ok := by
 unfold zDr
 refine zJ ?_ ?_
 ·have _ : (a0.2.1.length : Int) ≤ 16777216 := zE (hw.1.2.1.1); first | omega | (simp <;> omega)
 ·refine zJ ?_ ?_
  ·have _ : (a0.2.2.length : Int) ≤ 16777216 := zE (hw.1.2.2.1); first | omega | (simp <;> omega)
  ·trivial
def zPL : Con Tryz.prog := yE mo g0 [] [] 110 zKG (fn := Tryz.f110) trivial (fun a hw _ => yX (by kernel_rfl) (zPQ a.1 hw) rfl)
@[reducible] def xM : LB := ⟨[1, 0], ⟨56, [.pr (.d .int) (.pr (.o (.d .int)) (.o (.d zF))), .d zN], [(1, vd (.lst zA)), (2, vd (.lst zA)), (3, .pt 1 0), (6, .pt 0 0), (8, vd .int), (9, vd .int)]⟩, ⟨56, [], []⟩, 0, fun x => (fun (w0 : El zA) (w1 : El zN) (l1 : List (El zA)) (l2 : List (El zA)) (n8 : Int) (n9 : Int) => (bif decide (n9 < (l1.length : Int)) then (.ix n9 l1 (bif (yz w1 (zB zA l1 n9)).1 then (.ix n9 l1 (bif (!(vF l2 (zB zA l1 n9)).1) then (bif decide (n8 < (0 : Int)) then (.ik (n9 + (1 : Int)) (.v (.go (w0, w1, l1, l2, (), (), n9, (n9 + (1 : Int)), ())))) else (.ix n9 l1 (.ix n8 l1 (bif (zA7 w1 (zB zA l1 n9) (zB zA l1 n8)).1 then (.ik (n9 + (1 : Int)) (.v (.go (w0, w1, l1, l2, (), (), n9, (n9 + (1 : Int)), ())))) else (.ik (n9 + (1 : Int)) (.v (.go (w0, w1, l1, l2, (), (), n8, (n9 + (1 : Int)), ())))))))) else (.ik (n9 + (1 : Int)) (.v (.go (w0, w1, l1, l2, (), (), n8, (n9 + (1 : Int)), ())))))) else (.ik (n9 + (1 : Int)) (.v (.go (w0, w1, l1, l2, (), (), n8, (n9 + (1 : Int)), ())))))) else (.v (.brk (w0, w1, l1, l2, (), (), n8, n9, ()))) : Tr (St _ _))) x.1 x.2.1 x.2.2.1 x.2.2.2.1 x.2.2.2.2.2.2.1 x.2.2.2.2.2.2.2.1⟩
theorem zPN (w0 : El zA) (w1 : El zN) (l1 : List (El zA)) (l2 : List (El zA)) (n8 : Int) : LB.run xM (w0, w1, l1, l2, (), (), n8, (0 : Int), ()) = .brk (w0, w1, l1, l2, (), (), (zc (fun i x (s : Int) => bif (yz w1 x).1 then (bif (!(vF l2 x).1) then (bif (decide (s < (0 : Int))) then (i : Int) else (bif (zA7 w1 x (zB zA l1 s)).1 then (i : Int) else s)) else s) else s) 0 l1 n8), (l1.length : Int), ()) := LB.run_fold (l := xM) (fun i s => (w0, w1, l1, l2, (), (), s, (i : Int), ())) (fun i x s h => by
  simp only [LB.b, xM, zi, zQ, zR, cond_true, yQ h, zG h]
  cases (yz w1 x).1
  ·rfl
  ·cases (!(vF l2 x).1)
   ·rfl
   ·cases (decide (s < (0 : Int)))
    ·cases (zA7 w1 x (zB zA l1 s)).1 <;> rfl
    ·rfl) (fun s => by simp only [LB.b, xM, xo]; rfl)
theorem zPR (w00 : El zA) (w10 : El zN) (l10 : List (El zA)) (l20 : List (El zA)) (n80 : Int) (n90 : Int) (p0 : -1 ≤ n80 ∧ n80 < (l10.length : Int) ∧ 0 ≤ n90) : (LB.run xM (w00, w10, l10, l20, (), (), n80, n90, ())).all (fun _ => False) (fun (w0, w1, l1, l2, _, _, n8, n9, _) => w00 = w0 ∧ w10 = w1 ∧ l10 = l1 ∧ l20 = l2 ∧ (-1 ≤ n8 ∧ n8 < (l1.length : Int) ∧ 0 ≤ n9)) (fun (w0, w1, l1, l2, _, _, n8, n9, _) => w00 = w0 ∧ w10 = w1 ∧ l10 = l1 ∧ l20 = l2 ∧ (-1 ≤ n8 ∧ n8 < (l1.length : Int) ∧ 0 ≤ n9)) := by
 have H : ∀ (w0 : El zA) (w1 : El zN) (l1 : List (El zA)) (l2 : List (El zA)) (n8 : Int) (n9 : Int), (w00 = w0 ∧ w10 = w1 ∧ l10 = l1 ∧ l20 = l2 ∧ (-1 ≤ n8 ∧ n8 < (l1.length : Int) ∧ 0 ≤ n9)) → St.all (fun _ => False) (fun (w0, w1, l1, l2, _, _, n8, n9, _) => w00 = w0 ∧ w10 = w1 ∧ l10 = l1 ∧ l20 = l2 ∧ (-1 ≤ n8 ∧ n8 < (l1.length : Int) ∧ 0 ≤ n9)) (fun (w0, w1, l1, l2, _, _, n8, n9, _) => w00 = w0 ∧ w10 = w1 ∧ l10 = l1 ∧ l20 = l2 ∧ (-1 ≤ n8 ∧ n8 < (l1.length : Int) ∧ 0 ≤ n9)) (xM.b (w0, w1, l1, l2, (), (), n8, n9, ())) := by
  intro w0 w1 l1 l2 n8 n9 hI
  obtain ⟨eq0, eq1, eq2, eq3, eq4⟩ := hI
  simp only [LB.b, xM, zi, zQ, zR]
  refine zd (fun h6 => ?_) (fun h6 => ?_)
  ·replace h6 : n9 < (l1.length : Int) := of_decide_eq_true h6
   refine zd (fun h7 => ?_) (fun h7 => ?_)
   ·replace h7 := zGw h7
    refine zd (fun h8 => ?_) (fun h8 => ?_)
    ·refine zd (fun h9 => ?_) (fun h9 => ?_)
     ·replace h9 : n8 < (0 : Int) := of_decide_eq_true h9
      exact yf (show w00 = w0 ∧ w10 = w1 ∧ l10 = l1 ∧ l20 = l2 ∧ (-1 ≤ n9 ∧ n9 < (l1.length : Int) ∧ 0 ≤ (n9 + (1 : Int))) from ⟨eq0, eq1, eq2, eq3, by first | omega | rfl | assumption | (simp <;> omega)⟩)
     ·replace h9 : ¬ (n8 < (0 : Int)) := of_decide_eq_false h9
      refine zd (fun h10 => ?_) (fun h10 => ?_)
      ·exact yf (show w00 = w0 ∧ w10 = w1 ∧ l10 = l1 ∧ l20 = l2 ∧ (-1 ≤ n9 ∧ n9 < (l1.length : Int) ∧ 0 ≤ (n9 + (1 : Int))) from ⟨eq0, eq1, eq2, eq3, by first | omega | rfl | assumption | (simp <;> omega)⟩)
      ·exact yf (show w00 = w0 ∧ w10 = w1 ∧ l10 = l1 ∧ l20 = l2 ∧ (-1 ≤ n8 ∧ n8 < (l1.length : Int) ∧ 0 ≤ (n9 + (1 : Int))) from ⟨eq0, eq1, eq2, eq3, by first | omega | rfl | assumption | (simp <;> omega)⟩)
    ·exact yf (show w00 = w0 ∧ w10 = w1 ∧ l10 = l1 ∧ l20 = l2 ∧ (-1 ≤ n8 ∧ n8 < (l1.length : Int) ∧ 0 ≤ (n9 + (1 : Int))) from ⟨eq0, eq1, eq2, eq3, by first | omega | rfl | assumption | (simp <;> omega)⟩)
   ·exact yf (show w00 = w0 ∧ w10 = w1 ∧ l10 = l1 ∧ l20 = l2 ∧ (-1 ≤ n8 ∧ n8 < (l1.length : Int) ∧ 0 ≤ (n9 + (1 : Int))) from ⟨eq0, eq1, eq2, eq3, by first | omega | rfl | assumption | (simp <;> omega)⟩)
  ·replace h6 : ¬ (n9 < (l1.length : Int)) := of_decide_eq_false h6
   exact zCP (show w00 = w0 ∧ w10 = w1 ∧ l10 = l1 ∧ l20 = l2 ∧ (-1 ≤ n8 ∧ n8 < (l1.length : Int) ∧ 0 ≤ n9) from ⟨eq0, eq1, eq2, eq3, by first | omega | rfl | assumption | (simp <;> omega)⟩)
 exact LB.post (l := xM) (A := fun _ => False) (fun (w0, w1, l1, l2, _, _, n8, n9, _) => w00 = w0 ∧ w10 = w1 ∧ l10 = l1 ∧ l20 = l2 ∧ (-1 ≤ n8 ∧ n8 < (l1.length : Int) ∧ 0 ≤ n9)) (fun ⟨w0, w1, l1, l2, ⟨⟩, ⟨⟩, n8, n9, ⟨⟩⟩ hx => H w0 w1 l1 l2 n8 n9 hx) ⟨rfl, rfl, rfl, rfl, p0⟩
theorem zPY : SF xM fun x : El zA × El zN × List (El zA) × List (El zA) × Unit × Unit × Int × Int × Unit => (0 ≤ x.2.2.2.2.2.2.2.1 ∧ (-1 ≤ x.2.2.2.2.2.2.1 ∧ x.2.2.2.2.2.2.1 < (x.2.2.1.length : Int)), (x.2.2.1.length : Int) - x.2.2.2.2.2.2.2.1) := x5 (by
 rintro ⟨(w0 : El zA), (w1 : El zN), (l1 : List (El zA)), (l2 : List (El zA)), ⟨⟩, ⟨⟩, (n8 : Int), (n9 : Int), ⟨⟩⟩ hI hw
 obtain ⟨i0, k0⟩ := hI
 dsimp only at i0 k0
 have _ : -9223372036854775808 ≤ n8 ∧ n8 ≤ 9223372036854775807 := z0 hw.2.2.2.2.2.2.1
 have _ : (l1.length : Int) ≤ 16777216 := zE (hw.2.2.1.1)
 have _ := fun h : (yz w1 (zB zA l1 n9)).1 = true => zGw h
 simp [xM]
 repeat' first | intro _ | apply And.intro
 all_goals omega)
def zGQ (a0 : El zN) (a1 : List (El zA)) (a2 : List (El zA)) : Tr (El zA × Bool × Unit) := .lp xM (((0 : Int), (([] : List (El .int)), ([] : List (El zF)))), a0, a1, a2, (), (), (-1 : Int), (0 : Int), ()) (fun _ => .bad) (fun t5 => bif decide (t5.2.2.2.2.2.2.1 < (0 : Int)) then (.v (((0 : Int), (([] : List (El .int)), ([] : List (El zF)))), false, ())) else (.ix t5.2.2.2.2.2.2.1 t5.2.2.1 (.v ((zDp (zB zA t5.2.2.1 t5.2.2.2.2.2.2.1)).1, true, ()))))
def zEV a0 a1 a2 := (zGQ a0 a1 a2).val
@[reducible] def zNa : FnD := ⟨[va zN, vd (.lst zA), vd (.lst zA)], [.val true (.pr (.d .int) (.pr (.o (.d .int)) (.o (.d zF)))), vd .bool], true, fun _ => none, fun a => zEV a.1 a.2.1 a.2.2.1⟩
theorem zVc (a0 : El zN) (a1 : List (El zA)) (a2 : List (El zA)) (_ : xH zNa.args (a0, a1, a2, ())) : (zGQ a0 a1 a2).ok := by
 unfold zGQ
 refine zJ ?_ ?_
 ·exact zPY _ ⟨by (dsimp only <;> first | omega | assumption | (simp <;> omega)), by (dsimp only <;> first | omega | assumption | (simp <;> omega))⟩
 ·refine zID (A' := fun _ => False) (B' := fun (t5w0, t5w1, t5l1, t5l2, _, _, t5n8, t5n9, _) => ((0 : Int), (([] : List (El .int)), ([] : List (El zF)))) = t5w0 ∧ a0 = t5w1 ∧ a1 = t5l1 ∧ a2 = t5l2 ∧ (-1 ≤ t5n8 ∧ t5n8 < (t5l1.length : Int) ∧ 0 ≤ t5n9)) (zPR ((0 : Int), (([] : List (El .int)), ([] : List (El zF)))) a0 a1 a2 (-1 : Int) (0 : Int) (by (first | omega | rfl | assumption | (simp <;> omega) | (refine ⟨?_, ?_, ?_⟩ <;> first | omega | rfl | (simp <;> omega)) | (refine ⟨?_, ?_⟩ <;> first | omega | rfl | (simp <;> omega))))) (fun _ h => h.elim) (fun t ht => ?_)
  obtain ⟨t5w0, t5w1, t5l1, t5l2, ⟨⟩, ⟨⟩, t5n8, t5n9, ⟨⟩⟩ := t
  dsimp only
  obtain ⟨rfl, rfl, rfl, rfl, hth11⟩ := ht
  obtain ⟨t5n8, rfl⟩ : ∃ y : Int, y = t5n8 := ⟨_, rfl⟩
  obtain ⟨t5n9, rfl⟩ : ∃ y : Int, y = t5n9 := ⟨_, rfl⟩
  replace hth11 : -1 ≤ t5n8 ∧ t5n8 < (a1.length : Int) ∧ 0 ≤ t5n9 := hth11
  refine zo (fun _ => trivial) (fun h12 => ?_)
  replace h12 : ¬ (t5n8 < (0 : Int)) := of_decide_eq_false h12
  refine zJ ?_ ?_
  ·show (0 ≤ t5n8 ∧ t5n8 < (a1.length : Int)); first | omega | (simp <;> omega)
  ·simp
def zWt : Con Tryz.prog := yE mo g0 [zMf, zYE, zfG, zPL] [xM] 63 zNa (fn := Tryz.f63) ⟨lk, trivial⟩ (fun a hw _ => yX (by kernel_rfl) (zVc a.1 a.2.1 a.2.2.1 hw) rfl)
theorem zUs (a0 : El zN) (a1 : List (El zA)) (a2 : List (El zA)) : zEV a0 a1 a2 = bif (decide ((zc (fun i x (s : Int) => bif (yz a0 x).1 then (bif (!(vF a2 x).1) then (bif (decide (s < (0 : Int))) then (i : Int) else (bif (zA7 a0 x (zB zA a1 s)).1 then (i : Int) else s)) else s) else s) 0 a1 (-1 : Int)) < (0 : Int))) then (((0 : Int), (([] : List (El .int)), ([] : List (El zF)))), false, ()) else ((zDp (zB zA a1 (zc (fun i x (s : Int) => bif (yz a0 x).1 then (bif (!(vF a2 x).1) then (bif (decide (s < (0 : Int))) then (i : Int) else (bif (zA7 a0 x (zB zA a1 s)).1 then (i : Int) else s)) else s) else s) 0 a1 (-1 : Int)))).1, true, ()) := by
 simp only [zEV, zGQ, zR, zi, zy, zQ]
 rw [zPN, xa] <;> rfl
def zJF (a0 : El zN) (a1 : El ye) : Tr (El zA × Bool × Unit) := .ck (zLc a0 a1.1) (let y1 := (zEV a0 (zIn a0 a1.1).1 a1.2.1); .v (y1.1, y1.2.1, ()))
def zMZ a0 a1 := (zJF a0 a1).val
def zJe (a0 : El zN) (a1 : El ye) : Prop := zkG a0 a1.1
@[reducible] def zQR : FnD := ⟨[va zN, va ye], [.val true (.pr (.d .int) (.pr (.o (.d .int)) (.o (.d zF)))), vd .bool], true, fun a => some (zJe a.1 a.2.1), fun a => zMZ a.1 a.2.1⟩
theorem zZ5 (a0 : El zN) (a1 : El ye) (_ : xH zQR.args (a0, a1, ())) (hp : zJe a0 a1) : (zJF a0 a1).ok := by
 unfold zJe at hp
 unfold zJF
 refine zJ ?_ ?_
 ·exact hp
 ·simp
def zaD : Con Tryz.prog := yE mo g0 [zgN, zWt] [] 34 zQR (fn := Tryz.f34) trivial (fun a hw h => yX (by kernel_rfl) (zZ5 a.1 a.2.1 hw h) rfl)
def zLF (a0 : El zp) (a1 : Int) : Tr (Bool × Unit) := bif decide (a1 < (0 : Int)) then (.v (false, ())) else (bif decide (a1 ≥ (a0.2.1.length : Int)) then (.v (false, ())) else (.ix a1 a0.2.1 (bif ((zB zg a0.2.1 a1).2.2.2.2.2.2.2.1 != (1 : Int)) then (.v (false, ())) else (.ck (zLV a0 a1) (.ix a1 a0.2.1 (.ck (zJe (zD7 a0 a1).1 (zB zg a0.2.1 a1).2.2) (.v ((zMZ (zD7 a0 a1).1 (zB zg a0.2.1 a1).2.2).2.1, ()))))))))
def zON a0 a1 := (zLF a0 a1).val
def zLH (a0 : El zp) (a1 : Int) : Prop := 0 ≤ a1 → a1 < (a0.2.1.length : Int) → 0 ≤ (xJ a0 (zB zg a0.2.1 a1).2.1).1 ∧ zkG (zD7 a0 a1).1 (zB zg a0.2.1 a1).2.2.1
@[reducible] def zTz : FnD := ⟨[va zp, vd .int], [vd .bool], true, fun a => some (zLH a.1 a.2.1), fun a => zON a.1 a.2.1⟩
theorem zfk (a0 : El zp) (a1 : Int) (_ : xH zTz.args (a0, a1, ())) (hp : zLH a0 a1) : (zLF a0 a1).ok := by
 unfold zLH at hp
 unfold zLF
 refine zo (fun _ => trivial) (fun h1 => ?_)
 replace h1 : ¬ (a1 < (0 : Int)) := of_decide_eq_false h1
 refine zo (fun _ => trivial) (fun h2 => ?_)
 replace h2 : ¬ (a1 ≥ (a0.2.1.length : Int)) := of_decide_eq_false h2
 refine zJ ?_ ?_
 ·first | omega | (simp <;> omega)
 ·refine zo (fun _ => trivial) (fun h3 => ?_)
  replace h3 := zAg h3
  refine zJ ?_ ?_
  ·exact ⟨⟨by omega, by omega⟩, (hp (by omega) (by omega)).1⟩
  ·refine zJ ?_ ?_
   ·first | omega | (simp <;> omega)
   ·refine zJ ?_ ?_
    ·exact (hp (by omega) (by omega)).2
    ·simp
def zeD : Con Tryz.prog := yE mo g0 [zgg, zaD] [] 18 zTz (fn := Tryz.f18) trivial (fun a hw h => yX (by kernel_rfl) (zfk a.1 a.2.1 hw h) rfl)
def zJE (a0 : El zp) (a1 : Int) : Tr (Bool × Unit) := .ck (zLv a0) (bif (zD1 a0).1 then (.ck (zLH a0 a1) (.v ((zON a0 a1).1, ()))) else (.v (false, ())))
def zHC a0 a1 := (zJE a0 a1).val
def zMj (a0 : El zp) (_a1 : Int) : Prop := ∀ d ∈ a0.1, ∀ r ∈ d.2, SzR r
@[reducible] def zMs : FnD := ⟨[va zp, vd .int], [vd .bool], true, fun a => some (zMj a.1 a.2.1), fun a => zHC a.1 a.2.1⟩
theorem zao (a0 : El zp) (a1 : Int) (_ : xH zMs.args (a0, a1, ())) (hp : zMj a0 a1) : (zJE a0 a1).ok := by
 unfold zMj at hp
 unfold zJE
 refine zJ ?_ ?_
 ·exact hp
 ·refine zo (fun h1 => ?_) (fun _ => trivial)
  have hB := h1
  refine zJ ?_ ?_
  ·exact fun h1 h2 => ⟨(zUQ hB ⟨h1, h2⟩).1, zfq (zUQ hB ⟨h1, h2⟩).2⟩
  ·trivial
def zas : Con Tryz.prog := yE mo g0 [zgd, zeD] [] 7 zMs (fn := Tryz.f7) trivial (fun a hw h => yX (by kernel_rfl) (zao a.1 a.2.1 hw h) rfl)
def zHE (a0 : El zN) (a1 : ByteArray) : Bool × Unit := ((a0.1.toList == a1.toList), ())
@[reducible] def zbw : FnD := ⟨[va zN, .bx .str 0], [vd .bool], true, fun _ => none, fun a => zHE a.1 a.2.1⟩
def zbx : Con Tryz.prog := yE mo g0 [] [] 70 zbw (fn := Tryz.f70) trivial (fun _ _ _ => okv (by kernel_rfl))
@[reducible] def zM : LB := ⟨[], ⟨19, [], [(0, vd (.lst zN)), (1, .fn 70 [.str]), (7, vd .int), (8, vd .int)]⟩, ⟨19, [], [(4, vd .int)]⟩, 0, fun x => (fun (l0 : List (El zN)) (f1 : TyL [.str]) (n7 : Int) (n8 : Int) => (bif decide (n8 < n7) then (.ix n8 l0 (bif (zHE (zB zN l0 n8) f1.1).1 then (.v (.ret (n8, ()))) else (.ik (n8 + (1 : Int)) (.v (.go (l0, (f1.1, ()), n7, (n8 + (1 : Int)), ())))))) else (.v (.brk (l0, (f1.1, ()), n7, n8, ()))) : Tr (St _ _))) x.1 x.2.1 x.2.2.1 x.2.2.2.1⟩
theorem zCT (l0 : List (El zN)) (f1 : TyL [.str]) : LB.run zM (l0, f1, (l0.length : Int), (0 : Int), ()) = zDg (xB (fun i x => bif (zHE x f1.1).1 then (some ((i : Int), ())) else none) 0 l0) (l0, f1, (l0.length : Int), (l0.length : Int), ()) := LB.run_scan (l := zM) (fun i => (l0, f1, (l0.length : Int), (i : Int), ())) (fun i x h => by
  simp only [LB.b, zM, zi, zQ, zR, cond_true, yQ h, zG h]
  cases (zHE x f1.1).1 <;> rfl) (by simp only [LB.b, zM, xo]; rfl)
theorem zCS (l00 : List (El zN)) (f10 : TyL [.str]) (n70 : Int) (n80 : Int) (p0 : n70 = (l00.length : Int)) : (LB.run zM (l00, f10, n70, n80, ())).all (fun r => r.1 < (l00.length : Int)) (fun (l0, f1, n7, _) => l00 = l0 ∧ f10 = f1 ∧ n70 = n7 ∧ n7 = (l0.length : Int)) (fun (l0, f1, n7, _) => l00 = l0 ∧ f10 = f1 ∧ n70 = n7 ∧ n7 = (l0.length : Int)) := by
 have H : ∀ (l0 : List (El zN)) (f1 : TyL [.str]) (n7 : Int) (n8 : Int), (l00 = l0 ∧ f10 = f1 ∧ n70 = n7 ∧ n7 = (l0.length : Int)) → St.all (fun r => r.1 < (l00.length : Int)) (fun (l0, f1, n7, _) => l00 = l0 ∧ f10 = f1 ∧ n70 = n7 ∧ n7 = (l0.length : Int)) (fun (l0, f1, n7, _) => l00 = l0 ∧ f10 = f1 ∧ n70 = n7 ∧ n7 = (l0.length : Int)) (zM.b (l0, f1, n7, n8, ())) := by
  intro l0 f1 n7 n8 hI
  obtain ⟨eq0, eq1, eq2, eq3⟩ := hI
  simp only [LB.b, zM, zi, zQ, zR]
  refine zd (fun h1 => ?_) (fun h1 => ?_)
  ·replace h1 : n8 < n7 := of_decide_eq_true h1
   refine zd (fun h2 => ?_) (fun h2 => ?_)
   ·exact zJj (by subst_vars; dsimp only; omega)
   ·exact yf (show l00 = l0 ∧ f10 = f1 ∧ n70 = n7 ∧ n7 = (l0.length : Int) from ⟨eq0, eq1, eq2, by first | omega | rfl | assumption | (simp <;> omega)⟩)
  ·replace h1 : ¬ (n8 < n7) := of_decide_eq_false h1
   exact zCP (show l00 = l0 ∧ f10 = f1 ∧ n70 = n7 ∧ n7 = (l0.length : Int) from ⟨eq0, eq1, eq2, by first | omega | rfl | assumption | (simp <;> omega)⟩)
 exact LB.post (l := zM) (A := fun r => r.1 < (l00.length : Int)) (fun (l0, f1, n7, _) => l00 = l0 ∧ f10 = f1 ∧ n70 = n7 ∧ n7 = (l0.length : Int)) (fun ⟨l0, f1, n7, n8, ⟨⟩⟩ hx => H l0 f1 n7 n8 hx) ⟨rfl, rfl, rfl, p0⟩
theorem zCR : SF zM fun x : List (El zN) × TyL [.str] × Int × Int × Unit => (0 ≤ x.2.2.2.1 ∧ x.2.2.1 = (x.1.length : Int), x.2.2.1 - x.2.2.2.1) := x5 (by
 rintro ⟨(l0 : List (El zN)), (f1 : TyL [.str]), (n7 : Int), (n8 : Int), ⟨⟩⟩ hI hw
 have _ : -9223372036854775808 ≤ n7 ∧ n7 ≤ 9223372036854775807 := z0 hw.2.2.1
 have _ : (l0.length : Int) ≤ 16777216 := zE (hw.1.1)
 simp [zM] at hI ⊢
 repeat' first | intro _ | apply And.intro
 all_goals omega)
def yO (a0 : List (El zN)) (a1 : TyL [.str]) : Tr (Int × Unit) := .lp zM (a0, (a1.1, ()), (a0.length : Int), (0 : Int), ()) (fun r2 => .v (r2.1, ())) (fun _ => .v ((-1 : Int), ()))
def yD a0 a1 := (yO a0 a1).val
@[reducible] def vp : FnD := ⟨[vd (.lst zN), .fn 70 [.str]], [vd .int], true, fun _ => none, fun a => yD a.1 a.2.1⟩
theorem zDb (a0 : List (El zN)) (a1 : TyL [.str]) (_ : xH vp.args (a0, a1, ())) : (yO a0 a1).ok := by
 unfold yO
 refine zJ ?_ ?_
 ·exact zCR _ ⟨by (dsimp only <;> omega), by (dsimp only <;> omega)⟩
 ·simp
def zDc : Con Tryz.prog := yE mo g0 [zbx] [zM] 69 vp (fn := Tryz.f69) ⟨lk, trivial⟩ (fun a hw _ => yX (by kernel_rfl) (zDb a.1 a.2.1 hw) rfl)
theorem zDe (a0 : List (El zN)) (a1 : TyL [.str]) : yD a0 a1 = zE1 (xB (fun i x => bif (zHE x (a1.1, ()).1).1 then (some ((i : Int), ())) else none) 0 a0) (fun (r1 : zM.r.T) => (r1.1, ())) ((-1 : Int), ()) := by
 simp only [yD, yO, zR, zy, zQ]
 rw [zCT, xw] <;> rfl
theorem zb6 (l : List (El zN)) (f : TyL [.str]) : (yD l f).1 < (l.length : Int) := by
 simp only [yD, yO, zQ, zR, zy]
 have := zCS l (f.1, ()) (l.length : Int) (0 : Int) rfl
 revert this
 cases (LB.run zM (l, (f.1, ()), (l.length : Int), (0 : Int), ())) with
 | ret r => intro h; exact h
 | brk t => intro _; show (-1 : Int) < _; omega
 | go t => intro _; show (-1 : Int) < _; omega
def xy (a0 : El zp) (a1 : ByteArray) : Int × Unit := ((yD a0.1 (a1, ())).1, ())
@[reducible] def zik : FnD := ⟨[va zp, vd .str], [vd .int], true, fun _ => none, fun a => xy a.1 a.2.1⟩
def zY2 : Con Tryz.prog := yE mo g0 [zDc] [] 41 zik (fn := Tryz.f41) trivial (fun _ _ _ => okv (by kernel_rfl))
theorem zYj (b : El zp) (s : ByteArray) : (xy b s).1 < (b.1.length : Int) := zb6 b.1 (s, ())
def zDV (a0 : El zp) (a1 : Int) : Tr (El zN × Unit) := .ix a1 a0.2.1 (let y1 := (xy a0 (zB zg a0.2.1 a1).2.1); .ix y1.1 a0.1 (.v ((zB zN a0.1 y1.1), ())))
def vS a0 a1 := (zDV a0 a1).val
def zDZ (a0 : El zp) (a1 : Int) : Prop := (0 ≤ a1 ∧ a1 < (a0.2.1.length : Int)) ∧ 0 ≤ (xy a0 (zB zg a0.2.1 a1).2.1).1
@[reducible] def zIq : FnD := ⟨[.bx zp 0, vd .int], [va zN], false, fun a => some (zDZ a.1 a.2.1), fun a => vS a.1 a.2.1⟩
theorem zOK (a0 : El zp) (a1 : Int) (_ : xH zIq.args (a0, a1, ())) (hp : zDZ a0 a1) : (zDV a0 a1).ok := by
 unfold zDZ at hp
 unfold zDV
 refine zJ ?_ ?_
 ·first | omega | (simp <;> omega)
 ·refine zJ ?_ ?_
  ·have _ := zYj a0 (zB zg a0.2.1 a1).2.1; first | omega | (simp <;> omega)
  ·trivial
def zOh : Con Tryz.prog := yE mo g0 [zY2] [] 45 zIq (fn := Tryz.f45) trivial (fun a hw h => yX (by kernel_rfl) (zOK a.1 a.2.1 hw h) rfl)
@[reducible] def zFd : LB := ⟨[], ⟨25, [], [(1, vd .bool), (5, vo zI), (9, vd (.lst zI)), (10, vd .int), (11, vd .int)]⟩, ⟨25, [], []⟩, 0, fun x => (fun (b1 : Bool) (l5 : List (El zI)) (l9 : List (El zI)) (n10 : Int) (n11 : Int) => (bif decide (n11 < n10) then (.ix n11 l9 (bif ((zB zI l9 n11).2.2 == b1) then (.ck (((l5.length + [(zB zI l9 n11)].length : Nat) : Int) ≤ 16777216) (.ik (n11 + (1 : Int)) (.v (.go (b1, (l5 ++ [(zB zI l9 n11)]), l9, n10, (n11 + (1 : Int)), ()))))) else (.ik (n11 + (1 : Int)) (.v (.go (b1, l5, l9, n10, (n11 + (1 : Int)), ())))))) else (.v (.brk (b1, l5, l9, n10, n11, ()))) : Tr (St _ _))) x.1 x.2.1 x.2.2.1 x.2.2.2.1 x.2.2.2.2.1⟩
theorem zMi (b1 : Bool) (l9 : List (El zI)) (l5 : List (El zI)) : LB.run zFd (b1, l5, l9, (l9.length : Int), (0 : Int), ()) = .brk (b1, (zc (fun _ x (s : (List (El zI))) => bif (x.2.2 == b1) then (s ++ [x]) else s) 0 l9 l5), l9, (l9.length : Int), (l9.length : Int), ()) := LB.run_fold (l := zFd) (fun i s => (b1, s, l9, (l9.length : Int), (i : Int), ())) (fun i x s h => by
  simp only [LB.b, zFd, zi, zQ, zR, cond_true, yQ h, zG h]
  cases (x.2.2 == b1) <;> rfl) (fun s => by simp only [LB.b, zFd, xo]; rfl)
theorem zbz : SF zFd fun x : Bool × List (El zI) × List (El zI) × Int × Int × Unit => (0 ≤ x.2.2.2.2.1 ∧ x.2.2.2.1 = (x.2.2.1.length : Int) ∧ (x.2.1.length : Int) ≤ x.2.2.2.2.1, x.2.2.2.1 - x.2.2.2.2.1) := x5 (by
 rintro ⟨(b1 : Bool), (l5 : List (El zI)), (l9 : List (El zI)), (n10 : Int), (n11 : Int), ⟨⟩⟩ hI hw
 have _ : -9223372036854775808 ≤ n10 ∧ n10 ≤ 9223372036854775807 := z0 hw.2.2.2.1
 have _ : (l9.length : Int) ≤ 16777216 := zE (hw.2.2.1.1)
 have _ : (l5.length : Int) ≤ 16777216 := zE (hw.2.1.1)
 simp [zFd] at hI ⊢
 repeat' first | intro _ | apply And.intro
 all_goals omega)
def zM8 (a0 : El zC) (a1 : Bool) : Tr (List (El zI) × Unit) := .lp zFd (a1, ([] : List (El zI)), a0.2.2.1, (a0.2.2.1.length : Int), (0 : Int), ()) (fun _ => .bad) (fun t1 => .v (t1.2.1, ()))
def yU a0 a1 := (zM8 a0 a1).val
@[reducible] def zc5 : FnD := ⟨[va zC, vd .bool], [vo zI], false, fun _ => none, fun a => yU a.1 a.2.1⟩
theorem zjt (a0 : El zC) (a1 : Bool) (_ : xH zc5.args (a0, a1, ())) : (zM8 a0 a1).ok := by
 unfold zM8
 refine zJ ?_ ?_
 ·exact zbz _ ⟨by simp, by simp, by simp⟩
 ·refine vJ (zMi a1 a0.2.2.1 ([] : List (El zI))) ?_
  try dsimp only
  trivial
def zk6 : Con Tryz.prog := yE mo g0 [] [zFd] 196 zc5 (fn := Tryz.f196) ⟨lk, trivial⟩ (fun a hw _ => yX (by kernel_rfl) (zjt a.1 a.2.1 hw) rfl)
theorem zkH (a0 : El zC) (a1 : Bool) : yU a0 a1 = ((zc (fun _ x (s : (List (El zI))) => bif (x.2.2 == a1) then (s ++ [x]) else s) 0 a0.2.2.1 ([] : List (El zI))), ()) := by
 simp only [yU, zM8, zR, zy, zQ]
 rw [zMi, xa] <;> rfl
theorem zN2 (r : El zC) (b : Bool) : (yU r b).1 = r.2.2.1.filter (fun p => p.2.2 == b) := by
 simp only [yU, zM8, zQ, zR, zy]
 rw [zMi]
 show zc (fun i x (s : (List (El zI))) => bif (x.2.2 == b) then (s ++ [x]) else s) 0 r.2.2.1 [] = _
 rw [zJA]; rfl
theorem zfz {r : El zC} {b : Bool} {p : El zI} (h : p ∈ (yU r b).1) : p ∈ r.2.2.1 := by
 rw [zN2] at h; exact (List.mem_filter.1 h).1
def zlv (d : El zN) (s : El zH) : Prop := s.1.length ≤ 40 ∧ d.2.length ≤ 12 ∧ ∀ r ∈ d.2, (∀ p ∈ r.2.2.1, p.2.1.length ≤ 5) ∧ (yU r false).1.length ≤ 3
def xq : Con Tryz.prog := ⟨142, zHO zF false, zQS mo (fn := Tryz.f142) (t := 43) (u := 4) (e := 191) (p0 := "slices.go:355") (p1 := "slices.go:357") (p2 := "slices.go:358") (p3 := "slices.go:362") (by kernel_rfl) (by kernel_rfl) (by kernel_rfl) (by kernel_rfl) (by kernel_rfl) zF false (by kernel_rfl) (fun l => by kernel_rfl) (.inr rfl)⟩
@[reducible] def zBi : LB := ⟨[], ⟨22, [.d zK], [(1, vd .str), (4, .pt 0 0), (8, vd (.lst zF)), (9, vd .int), (10, vd .int)]⟩, ⟨22, [.d zK], [(4, .pt 0 0), (5, vd .bool)]⟩, 0, fun x => (fun (w0 : El zK) (s1 : ByteArray) (l8 : List (El zF)) (n9 : Int) (n10 : Int) => (bif decide (n10 < n9) then (.ix n10 l8 (bif ((zB zF l8 n10).1.toList == s1.toList) then (.v (.ret ((zB zF l8 n10).2, (), true, ()))) else (.ik (n10 + (1 : Int)) (.v (.go (w0, s1, (), l8, n9, (n10 + (1 : Int)), ())))))) else (.v (.brk (w0, s1, (), l8, n9, n10, ()))) : Tr (St _ _))) x.1 x.2.1 x.2.2.2.1 x.2.2.2.2.1 x.2.2.2.2.2.1⟩
theorem zWQ (w0 : El zK) (s1 : ByteArray) (l8 : List (El zF)) : LB.run zBi (w0, s1, (), l8, (l8.length : Int), (0 : Int), ()) = zDg (xB (fun _ x => bif (x.1.toList == s1.toList) then (some (x.2, (), true, ())) else none) 0 l8) (w0, s1, (), l8, (l8.length : Int), (l8.length : Int), ()) := LB.run_scan (l := zBi) (fun i => (w0, s1, (), l8, (l8.length : Int), (i : Int), ())) (fun i x h => by
  simp only [LB.b, zBi, zi, zQ, zR, cond_true, yQ h, zG h]
  cases (x.1.toList == s1.toList) <;> rfl) (by simp only [LB.b, zBi, xo]; rfl)
theorem zVR : SF zBi fun x : El zK × ByteArray × Unit × List (El zF) × Int × Int × Unit => (0 ≤ x.2.2.2.2.2.1 ∧ x.2.2.2.2.1 = (x.2.2.2.1.length : Int), x.2.2.2.2.1 - x.2.2.2.2.2.1) := x5 (by
 rintro ⟨(w0 : El zK), (s1 : ByteArray), ⟨⟩, (l8 : List (El zF)), (n9 : Int), (n10 : Int), ⟨⟩⟩ hI hw
 have _ : -9223372036854775808 ≤ n9 ∧ n9 ≤ 9223372036854775807 := z0 hw.2.2.2.2.1
 have _ : (l8.length : Int) ≤ 16777216 := zE (hw.2.2.2.1.1)
 simp [zBi] at hI ⊢
 repeat' first | intro _ | apply And.intro
 all_goals omega)
def zKr (a0 : List (El zF)) (a1 : ByteArray) : Tr (El zK × Bool × Unit) := .lp zBi (((0 : Int), ((0 : Int), (⟨#[]⟩ : ByteArray))), a1, (), a0, (a0.length : Int), (0 : Int), ()) (fun r1 => .v (r1.1, r1.2.2.1, ())) (fun _ => .v (((0 : Int), ((0 : Int), (⟨#[]⟩ : ByteArray))), false, ()))
def zFU a0 a1 := (zKr a0 a1).val
@[reducible] def zTw : FnD := ⟨[vd (.lst zF), vd .str], [va zK, vd .bool], true, fun _ => none, fun a => zFU a.1 a.2.1⟩
theorem zdZ (a0 : List (El zF)) (a1 : ByteArray) (_ : xH zTw.args (a0, a1, ())) : (zKr a0 a1).ok := by
 unfold zKr
 refine zJ ?_ ?_
 ·exact zVR _ ⟨by (dsimp only <;> omega), by (dsimp only <;> omega)⟩
 ·simp
def zUK : Con Tryz.prog := yE mo g0 [] [zBi] 241 zTw (fn := Tryz.f241) ⟨lk, trivial⟩ (fun a hw _ => yX (by kernel_rfl) (zdZ a.1 a.2.1 hw) rfl)
theorem zdg (a0 : List (El zF)) (a1 : ByteArray) : zFU a0 a1 = zE1 (xB (fun _ x => bif (x.1.toList == a1.toList) then (some (x.2, (), true, ())) else none) 0 a0) (fun (r1 : zBi.r.T) => (r1.1, r1.2.2.1, ())) (((0 : Int), ((0 : Int), (⟨#[]⟩ : ByteArray))), false, ()) := by
 simp only [zFU, zKr, zR, zy, zQ]
 rw [zWQ, xw] <;> rfl
@[reducible] def xO : LB := ⟨[1], ⟨83, [.d zr], [(2, vd (.lst zF)), (4, .pt 0 0), (8, vo zF), (33, vd (.lst zj)), (34, vd .int), (35, vd .int)]⟩, ⟨83, [], [(6, vo zF), (7, vd .bool)]⟩, 0, fun x => (fun (w0 : El zr) (l2 : List (El zF)) (l8 : List (El zF)) (l33 : List (El zj)) (n34 : Int) (n35 : Int) => (bif decide (n35 < n34) then (.ix n35 l33 (.ix n35 w0.2 (bif ((zB zj l33 n35).1 == (2 : Int)) then (bif (!(((zB zj l33 n35).2.2.1 == (zB zK w0.2 n35).1) && (((zB zj l33 n35).2.2.2.1 == (zB zK w0.2 n35).2.1) && (((zB zj l33 n35).2.2.2.2.toList == (zB zK w0.2 n35).2.2.toList) && true)))) then (.v (.ret (l2, false, ()))) else (.ik (n35 + (1 : Int)) (.v (.go (w0, l2, (), l8, l33, n34, (n35 + (1 : Int)), ()))))) else (bif ((zB zj l33 n35).1 == (1 : Int)) then (let y1 := (zFU l8 (zB zj l33 n35).2.1); bif y1.2.1 then (bif (!((y1.1.1 == (zB zK w0.2 n35).1) && ((y1.1.2.1 == (zB zK w0.2 n35).2.1) && ((y1.1.2.2.toList == (zB zK w0.2 n35).2.2.toList) && true)))) then (.v (.ret (l2, false, ()))) else (bif (!y1.2.1) then (.ck (((l8.length + [((zB zj l33 n35).2.1, (zB zK w0.2 n35))].length : Nat) : Int) ≤ 16777216) (.ik (n35 + (1 : Int)) (.v (.go (w0, l2, (), (l8 ++ [((zB zj l33 n35).2.1, (zB zK w0.2 n35))]), l33, n34, (n35 + (1 : Int)), ()))))) else (.ik (n35 + (1 : Int)) (.v (.go (w0, l2, (), l8, l33, n34, (n35 + (1 : Int)), ())))))) else (bif (!y1.2.1) then (.ck (((l8.length + [((zB zj l33 n35).2.1, (zB zK w0.2 n35))].length : Nat) : Int) ≤ 16777216) (.ik (n35 + (1 : Int)) (.v (.go (w0, l2, (), (l8 ++ [((zB zj l33 n35).2.1, (zB zK w0.2 n35))]), l33, n34, (n35 + (1 : Int)), ()))))) else (.ik (n35 + (1 : Int)) (.v (.go (w0, l2, (), l8, l33, n34, (n35 + (1 : Int)), ())))))) else (.ik (n35 + (1 : Int)) (.v (.go (w0, l2, (), l8, l33, n34, (n35 + (1 : Int)), ())))))))) else (.v (.brk (w0, l2, (), l8, l33, n34, n35, ()))) : Tr (St _ _))) x.1 x.2.1 x.2.2.2.1 x.2.2.2.2.1 x.2.2.2.2.2.1 x.2.2.2.2.2.2.1⟩
theorem zP2 (w00 : El zr) (l20 : List (El zF)) (l80 : List (El zF)) (l330 : List (El zj)) (n340 : Int) (n350 : Int) (p0 : (l80.length : Int) ≤ (l20.length : Int) + n350 ∧ n350 ≤ n340) : (LB.run xO (w00, l20, (), l80, l330, n340, n350, ())).all (fun r => (r.1.length : Int) ≤ (l20.length : Int)) (fun (w0, l2, _, l8, l33, n34, n35, _) => w00 = w0 ∧ l20 = l2 ∧ l330 = l33 ∧ n340 = n34 ∧ ((l8.length : Int) ≤ (l2.length : Int) + n35 ∧ n35 ≤ n34)) (fun (w0, l2, _, l8, l33, n34, n35, _) => w00 = w0 ∧ l20 = l2 ∧ l330 = l33 ∧ n340 = n34 ∧ ((l8.length : Int) ≤ (l2.length : Int) + n35 ∧ n35 ≤ n34)) := by
 have H : ∀ (w0 : El zr) (l2 : List (El zF)) (l8 : List (El zF)) (l33 : List (El zj)) (n34 : Int) (n35 : Int), (w00 = w0 ∧ l20 = l2 ∧ l330 = l33 ∧ n340 = n34 ∧ ((l8.length : Int) ≤ (l2.length : Int) + n35 ∧ n35 ≤ n34)) → St.all (fun r => (r.1.length : Int) ≤ (l20.length : Int)) (fun (w0, l2, _, l8, l33, n34, n35, _) => w00 = w0 ∧ l20 = l2 ∧ l330 = l33 ∧ n340 = n34 ∧ ((l8.length : Int) ≤ (l2.length : Int) + n35 ∧ n35 ≤ n34)) (fun (w0, l2, _, l8, l33, n34, n35, _) => w00 = w0 ∧ l20 = l2 ∧ l330 = l33 ∧ n340 = n34 ∧ ((l8.length : Int) ≤ (l2.length : Int) + n35 ∧ n35 ≤ n34)) (xO.b (w0, l2, (), l8, l33, n34, n35, ())) := by
  intro w0 l2 l8 l33 n34 n35 hI
  obtain ⟨eq0, eq1, eq2, eq3, eq4⟩ := hI
  simp only [LB.b, xO, zi, zQ, zR]
  refine zd (fun h1 => ?_) (fun h1 => ?_)
  ·replace h1 : n35 < n34 := of_decide_eq_true h1
   refine zd (fun h2 => ?_) (fun h2 => ?_)
   ·replace h2 := zIZ h2
    refine zd (fun h3 => ?_) (fun h3 => ?_)
    ·exact zJj (by subst_vars; dsimp only; omega)
    ·exact yf (show w00 = w0 ∧ l20 = l2 ∧ l330 = l33 ∧ n340 = n34 ∧ ((l8.length : Int) ≤ (l2.length : Int) + (n35 + (1 : Int)) ∧ (n35 + (1 : Int)) ≤ n34) from ⟨eq0, eq1, eq2, eq3, by first | omega | rfl | assumption | (simp <;> omega)⟩)
   ·replace h2 := zIp h2
    refine zd (fun h4 => ?_) (fun h4 => ?_)
    ·replace h4 := zIZ h4
     refine zd (fun h5 => ?_) (fun h5 => ?_)
     ·refine zd (fun h6 => ?_) (fun h6 => ?_)
      ·exact zJj (by subst_vars; dsimp only; omega)
      ·refine zd (fun h7 => ?_) (fun h7 => ?_)
       ·exact yf (show w00 = w0 ∧ l20 = l2 ∧ l330 = l33 ∧ n340 = n34 ∧ (((l8 ++ [((zB zj l33 n35).2.1, (zB zK w0.2 n35))]).length : Int) ≤ (l2.length : Int) + (n35 + (1 : Int)) ∧ (n35 + (1 : Int)) ≤ n34) from ⟨eq0, eq1, eq2, eq3, by first | omega | rfl | assumption | (simp <;> omega)⟩)
       ·exact yf (show w00 = w0 ∧ l20 = l2 ∧ l330 = l33 ∧ n340 = n34 ∧ ((l8.length : Int) ≤ (l2.length : Int) + (n35 + (1 : Int)) ∧ (n35 + (1 : Int)) ≤ n34) from ⟨eq0, eq1, eq2, eq3, by first | omega | rfl | assumption | (simp <;> omega)⟩)
     ·refine zd (fun h8 => ?_) (fun h8 => ?_)
      ·exact yf (show w00 = w0 ∧ l20 = l2 ∧ l330 = l33 ∧ n340 = n34 ∧ (((l8 ++ [((zB zj l33 n35).2.1, (zB zK w0.2 n35))]).length : Int) ≤ (l2.length : Int) + (n35 + (1 : Int)) ∧ (n35 + (1 : Int)) ≤ n34) from ⟨eq0, eq1, eq2, eq3, by first | omega | rfl | assumption | (simp <;> omega)⟩)
      ·exact yf (show w00 = w0 ∧ l20 = l2 ∧ l330 = l33 ∧ n340 = n34 ∧ ((l8.length : Int) ≤ (l2.length : Int) + (n35 + (1 : Int)) ∧ (n35 + (1 : Int)) ≤ n34) from ⟨eq0, eq1, eq2, eq3, by first | omega | rfl | assumption | (simp <;> omega)⟩)
    ·replace h4 := zIp h4
     exact yf (show w00 = w0 ∧ l20 = l2 ∧ l330 = l33 ∧ n340 = n34 ∧ ((l8.length : Int) ≤ (l2.length : Int) + (n35 + (1 : Int)) ∧ (n35 + (1 : Int)) ≤ n34) from ⟨eq0, eq1, eq2, eq3, by first | omega | rfl | assumption | (simp <;> omega)⟩)
  ·replace h1 : ¬ (n35 < n34) := of_decide_eq_false h1
   exact zCP (show w00 = w0 ∧ l20 = l2 ∧ l330 = l33 ∧ n340 = n34 ∧ ((l8.length : Int) ≤ (l2.length : Int) + n35 ∧ n35 ≤ n34) from ⟨eq0, eq1, eq2, eq3, by first | omega | rfl | assumption | (simp <;> omega)⟩)
 exact LB.post (l := xO) (A := fun r => (r.1.length : Int) ≤ (l20.length : Int)) (fun (w0, l2, _, l8, l33, n34, n35, _) => w00 = w0 ∧ l20 = l2 ∧ l330 = l33 ∧ n340 = n34 ∧ ((l8.length : Int) ≤ (l2.length : Int) + n35 ∧ n35 ≤ n34)) (fun ⟨w0, l2, ⟨⟩, l8, l33, n34, n35, ⟨⟩⟩ hx => H w0 l2 l8 l33 n34 n35 hx) ⟨rfl, rfl, rfl, rfl, p0⟩
theorem zQ5 : SF xO fun x : El zr × List (El zF) × Unit × List (El zF) × List (El zj) × Int × Int × Unit => (0 ≤ x.2.2.2.2.2.2.1 ∧ x.2.2.2.2.2.1 = (x.2.2.2.2.1.length : Int) ∧ x.2.2.2.2.2.1 ≤ (x.1.2.length : Int) ∧ (x.2.2.2.1.length : Int) ≤ (x.2.1.length : Int) + x.2.2.2.2.2.2.1 ∧ (x.2.1.length : Int) + (x.2.2.2.2.1.length : Int) ≤ 16777216, x.2.2.2.2.2.1 - x.2.2.2.2.2.2.1) := x5 (by
 rintro ⟨(w0 : El zr), (l2 : List (El zF)), ⟨⟩, (l8 : List (El zF)), (l33 : List (El zj)), (n34 : Int), (n35 : Int), ⟨⟩⟩ hI hw
 obtain ⟨i0, i1, i2, k0, k1⟩ := hI
 dsimp only at i0 i1 i2 k0 k1
 have _ : -9223372036854775808 ≤ n34 ∧ n34 ≤ 9223372036854775807 := z0 hw.2.2.2.2.2.1
 have _ : (l33.length : Int) ≤ 16777216 := zE (hw.2.2.2.2.1.1)
 have _ : (l8.length : Int) ≤ 16777216 := zE (hw.2.2.2.1.1)
 simp [xO]
 repeat' first | intro _ | apply And.intro
 all_goals omega)
def zFf (a0 : El zI) (a1 : El zr) (a2 : List (El zF)) : Tr (List (El zF) × Bool × Unit) := bif (!(a1.1.toList == a0.1.toList)) then (.v (a2, false, ())) else (bif ((a1.2.length : Int) != (a0.2.1.length : Int)) then (.v (a2, false, ())) else (.lp xO (a1, a2, (), a2, a0.2.1, (a0.2.1.length : Int), (0 : Int), ()) (fun r3 => .v (r3.1, r3.2.1, ())) (fun t3 => .v (t3.2.2.2.1, true, ()))))
def vf a0 a1 a2 := (zFf a0 a1 a2).val
def zF0 (a0 : El zI) (_a1 : El zr) (a2 : List (El zF)) : Prop := (a2.length : Int) + (a0.2.1.length : Int) ≤ 16777216
@[reducible] def zOy : FnD := ⟨[va zI, va zr, vd (.lst zF)], [vo zF, vd .bool], true, fun a => some (zF0 a.1 a.2.1 a.2.2.1), fun a => vf a.1 a.2.1 a.2.2.1⟩
theorem zX2 (a0 : El zI) (a1 : El zr) (a2 : List (El zF)) (_ : xH zOy.args (a0, a1, a2, ())) (hp : zF0 a0 a1 a2) : (zFf a0 a1 a2).ok := by
 unfold zF0 at hp
 unfold zFf
 refine zo (fun _ => trivial) (fun h9 => ?_)
 refine zo (fun _ => trivial) (fun h10 => ?_)
 replace h10 := zAg h10
 refine zJ ?_ ?_
 ·exact zQ5 _ ⟨by (dsimp only <;> first | omega | assumption | (simp <;> omega)), by (dsimp only <;> first | omega | assumption | (simp <;> omega)), by (dsimp only <;> first | omega | assumption | (simp <;> omega)), by (dsimp only <;> first | omega | assumption | (simp <;> omega)), by (dsimp only <;> first | omega | assumption | (simp <;> omega))⟩
 ·simp
def zOp : Con Tryz.prog := yE mo g0 [xq, zUK] [xO] 199 zOy (fn := Tryz.f199) ⟨lk, trivial⟩ (fun a hw h => yX (by kernel_rfl) (zX2 a.1 a.2.1 a.2.2.1 hw h) rfl)
theorem zXf (p : El zI) (f : El zr) (l : List (El zF)) : ((vf p f l).1.length : Int) ≤ (l.length : Int) + (p.2.1.length : Int) := by
 simp only [vf, zFf, zi, zQ, zR, zy]
 cases h1 : (!(f.1.toList == p.1.toList)) with
 | true => show (l.length : Int) ≤ _; omega
 | false =>
  cases h2 : ((f.2.length : Int) != (p.2.1.length : Int)) with
  | true => show (l.length : Int) ≤ _; omega
  | false =>
   have := zP2 f l l p.2.1 (p.2.1.length : Int) (0 : Int) (by constructor <;> omega)
   revert this
   cases (LB.run xO (f, l, (), l, p.2.1, (p.2.1.length : Int), (0 : Int), ())) with
   | ret r => obtain ⟨r1, r2, ⟨⟩⟩ := r; intro h; have h : (r1.length : Int) ≤ (l.length : Int) := h; show (r1.length : Int) ≤ _; omega
   | brk t => obtain ⟨t0, t1, ⟨⟩, t8, t9, t10, n, ⟨⟩⟩ := t; rintro ⟨rfl, rfl, rfl, rfl, h3, h4⟩; obtain ⟨n, rfl⟩ : ∃ y : Int, y = n := ⟨_, rfl⟩; replace h3 : (t8.length : Int) ≤ (l.length : Int) + n := h3; replace h4 : n ≤ (p.2.1.length : Int) := h4; show (t8.length : Int) ≤ _; omega
   | go t => obtain ⟨t0, t1, ⟨⟩, t8, t9, t10, n, ⟨⟩⟩ := t; rintro ⟨rfl, rfl, rfl, rfl, h3, h4⟩; obtain ⟨n, rfl⟩ : ∃ y : Int, y = n := ⟨_, rfl⟩; replace h3 : (t8.length : Int) ≤ (l.length : Int) + n := h3; replace h4 : n ≤ (p.2.1.length : Int) := h4; show (t8.length : Int) ≤ _; omega
@[reducible] def zC4 : LB := ⟨[], ⟨32, [.d zI], [(2, vd (.lst zF)), (3, .pt 0 0), (7, vd .int), (13, vd (.lst zD)), (14, vd .int), (15, vd .int)]⟩, ⟨32, [], []⟩, 0, fun x => (fun (w0 : El zI) (l2 : List (El zF)) (n7 : Int) (l13 : List (El zD)) (n14 : Int) (n15 : Int) => (bif decide (n15 < n14) then (.ix n15 l13 (.ck (zF0 w0 (zB zD l13 n15).2 l2) (bif (vf w0 (zB zD l13 n15).2 l2).2.1 then (.ik (n7 + (1 : Int)) (.ik (n15 + (1 : Int)) (.v (.go (w0, l2, (), (n7 + (1 : Int)), l13, n14, (n15 + (1 : Int)), ()))))) else (.ik (n15 + (1 : Int)) (.v (.go (w0, l2, (), n7, l13, n14, (n15 + (1 : Int)), ()))))))) else (.v (.brk (w0, l2, (), n7, l13, n14, n15, ()))) : Tr (St _ _))) x.1 x.2.1 x.2.2.2.1 x.2.2.2.2.1 x.2.2.2.2.2.1 x.2.2.2.2.2.2.1⟩
theorem zNw (w0 : El zI) (l2 : List (El zF)) (l13 : List (El zD)) (n7 : Int) : LB.run zC4 (w0, l2, (), n7, l13, (l13.length : Int), (0 : Int), ()) = .brk (w0, l2, (), (zc (fun _ x (s : Int) => bif (vf w0 x.2 l2).2.1 then (s + (1 : Int)) else s) 0 l13 n7), l13, (l13.length : Int), (l13.length : Int), ()) := LB.run_fold (l := zC4) (fun i s => (w0, l2, (), s, l13, (l13.length : Int), (i : Int), ())) (fun i x s h => by
  simp only [LB.b, zC4, zi, zQ, zR, cond_true, yQ h, zG h]
  cases (vf w0 x.2 l2).2.1 <;> rfl) (fun s => by simp only [LB.b, zC4, xo]; rfl)
theorem zWY : SF zC4 fun x : El zI × List (El zF) × Unit × Int × List (El zD) × Int × Int × Unit => (0 ≤ x.2.2.2.2.2.2.1 ∧ x.2.2.2.2.2.1 = (x.2.2.2.2.1.length : Int) ∧ (0 ≤ x.2.2.2.1 ∧ x.2.2.2.1 ≤ x.2.2.2.2.2.2.1) ∧ (x.2.1.length : Int) + (x.1.2.1.length : Int) ≤ 16777216, x.2.2.2.2.2.1 - x.2.2.2.2.2.2.1) := x5 (by
 rintro ⟨(w0 : El zI), (l2 : List (El zF)), ⟨⟩, (n7 : Int), (l13 : List (El zD)), (n14 : Int), (n15 : Int), ⟨⟩⟩ hI hw
 obtain ⟨i0, i1, i2, k0⟩ := hI
 dsimp only at i0 i1 i2 k0
 have _ : -9223372036854775808 ≤ n7 ∧ n7 ≤ 9223372036854775807 := z0 hw.2.2.2.1
 have _ : -9223372036854775808 ≤ n14 ∧ n14 ≤ 9223372036854775807 := z0 hw.2.2.2.2.2.1
 have _ : (l13.length : Int) ≤ 16777216 := zE (hw.2.2.2.2.1.1)
 simp [zC4]
 repeat' first | exact k0 | assumption | intro _ | apply And.intro
 all_goals omega)
def zLq (a0 : El zI) (a1 : El zH) (a2 : List (El zF)) : Tr (Int × Unit) := .lp zC4 (a0, a2, (), (0 : Int), a1.1, (a1.1.length : Int), (0 : Int), ()) (fun _ => .bad) (fun t2 => .v (t2.2.2.2.1, ()))
def zEO a0 a1 a2 := (zLq a0 a1 a2).val
def zLx (a0 : El zI) (_a1 : El zH) (a2 : List (El zF)) : Prop := (a2.length : Int) + (a0.2.1.length : Int) ≤ 16777216
@[reducible] def zTs : FnD := ⟨[va zI, va zH, vd (.lst zF)], [vd .int], true, fun a => some (zLx a.1 a.2.1 a.2.2.1), fun a => zEO a.1 a.2.1 a.2.2.1⟩
theorem zgh (a0 : El zI) (a1 : El zH) (a2 : List (El zF)) (_ : xH zTs.args (a0, a1, a2, ())) (hp : zLx a0 a1 a2) : (zLq a0 a1 a2).ok := by
 unfold zLx at hp
 unfold zLq
 refine zJ ?_ ?_
 ·exact zWY _ ⟨by (dsimp only <;> first | omega | assumption | (simp <;> omega)), by (dsimp only <;> first | omega | assumption | (simp <;> omega)), by (dsimp only <;> first | omega | assumption | (simp <;> omega)), by (dsimp only <;> first | omega | assumption | (simp <;> omega))⟩
 ·refine vJ (zNw a0 a2 a1.1 (0 : Int)) ?_
  try dsimp only
  trivial
def zeB : Con Tryz.prog := yE mo g0 [zOp] [zC4] 239 zTs (fn := Tryz.f239) ⟨lk, trivial⟩ (fun a hw h => yX (by kernel_rfl) (zgh a.1 a.2.1 a.2.2.1 hw h) rfl)
theorem zfi (a0 : El zI) (a1 : El zH) (a2 : List (El zF)) : zEO a0 a1 a2 = ((zc (fun _ x (s : Int) => bif (vf a0 x.2 a2).2.1 then (s + (1 : Int)) else s) 0 a1.1 (0 : Int)), ()) := by
 simp only [zEO, zLq, zR, zy, zQ]
 rw [zNw, xa] <;> rfl
@[reducible] def zBK : LB := ⟨[1], ⟨26, [.d zH], [(2, vd (.lst zF)), (4, .pt 0 0), (10, vd (.lst zI)), (11, vd .int), (12, vd .int)]⟩, ⟨26, [], [(6, vd .bool)]⟩, 0, fun x => (fun (w0 : El zH) (l2 : List (El zF)) (l10 : List (El zI)) (n11 : Int) (n12 : Int) => (bif decide (n12 < n11) then (.ix n12 l10 (bif (zB zI l10 n12).2.2 then (.ck (zLx (zB zI l10 n12) w0 l2) (bif decide ((zEO (zB zI l10 n12) w0 l2).1 > (0 : Int)) then (.v (.ret (true, ()))) else (.ik (n12 + (1 : Int)) (.v (.go (w0, l2, (), l10, n11, (n12 + (1 : Int)), ())))))) else (.ik (n12 + (1 : Int)) (.v (.go (w0, l2, (), l10, n11, (n12 + (1 : Int)), ())))))) else (.v (.brk (w0, l2, (), l10, n11, n12, ()))) : Tr (St _ _))) x.1 x.2.1 x.2.2.2.1 x.2.2.2.2.1 x.2.2.2.2.2.1⟩
theorem zTR (w0 : El zH) (l2 : List (El zF)) (l10 : List (El zI)) : LB.run zBK (w0, l2, (), l10, (l10.length : Int), (0 : Int), ()) = bif ze (fun _ x => bif x.2.2 then (bif (decide ((zEO x w0 l2).1 > (0 : Int))) then false else true) else true) 0 l10 then .brk (w0, l2, (), l10, (l10.length : Int), (l10.length : Int), ()) else .ret (true, ()) := LB.run_all (l := zBK) (fun i => (w0, l2, (), l10, (l10.length : Int), (i : Int), ())) (fun i x h => by
  simp only [LB.b, zBK, zi, zQ, zR, cond_true, yQ h, zG h]
  cases x.2.2
  ·rfl
  ·cases (decide ((zEO x w0 l2).1 > (0 : Int))) <;> rfl) (by simp only [LB.b, zBK, xo]; rfl)
theorem zSk : SF zBK fun x : El zH × List (El zF) × Unit × List (El zI) × Int × Int × Unit => (0 ≤ x.2.2.2.2.2.1 ∧ x.2.2.2.2.1 = (x.2.2.2.1.length : Int) ∧ ∀ p ∈ x.2.2.2.1, (x.2.1.length : Int) + (p.2.1.length : Int) ≤ 16777216, x.2.2.2.2.1 - x.2.2.2.2.2.1) := x5 (by
 rintro ⟨(w0 : El zH), (l2 : List (El zF)), ⟨⟩, (l10 : List (El zI)), (n11 : Int), (n12 : Int), ⟨⟩⟩ hI hw
 obtain ⟨i0, i1, k0⟩ := hI
 dsimp only at i0 i1 k0
 have _ : -9223372036854775808 ≤ n11 ∧ n11 ≤ 9223372036854775807 := z0 hw.2.2.2.2.1
 have _ : (l10.length : Int) ≤ 16777216 := zE (hw.2.2.2.1.1)
 simp [zBK, -Prod.forall]
 repeat' first | exact k0 _ (z4 (by omega)) | assumption | intro _ | apply And.intro
 all_goals omega)
def zJi (a0 : El zC) (a1 : El zH) (a2 : List (El zF)) : Tr (Bool × Unit) := .lp zBK (a1, a2, (), a0.2.2.1, (a0.2.2.1.length : Int), (0 : Int), ()) (fun r2 => .v (r2.1, ())) (fun _ => .v (false, ()))
def zFA a0 a1 a2 := (zJi a0 a1 a2).val
def zJB (a0 : El zC) (_a1 : El zH) (a2 : List (El zF)) : Prop := ∀ p ∈ a0.2.2.1, (a2.length : Int) + (p.2.1.length : Int) ≤ 16777216
@[reducible] def zRx : FnD := ⟨[va zC, va zH, vd (.lst zF)], [vd .bool], true, fun a => some (zJB a.1 a.2.1 a.2.2.1), fun a => zFA a.1 a.2.1 a.2.2.1⟩
theorem zaE (a0 : El zC) (a1 : El zH) (a2 : List (El zF)) (_ : xH zRx.args (a0, a1, a2, ())) (hp : zJB a0 a1 a2) : (zJi a0 a1 a2).ok := by
 unfold zJB at hp
 unfold zJi
 refine zJ ?_ ?_
 ·exact zSk _ ⟨by (dsimp only <;> first | omega | assumption | (simp <;> omega)), by (dsimp only <;> first | omega | assumption | (simp <;> omega)), by (dsimp only <;> first | omega | assumption | (simp <;> omega))⟩
 ·simp
def zbJ : Con Tryz.prog := yE mo g0 [zeB] [zBK] 197 zRx (fn := Tryz.f197) ⟨lk, trivial⟩ (fun a hw h => yX (by kernel_rfl) (zaE a.1 a.2.1 a.2.2.1 hw h) rfl)
theorem zbc (a0 : El zC) (a1 : El zH) (a2 : List (El zF)) : zFA a0 a1 a2 = bif ze (fun _ x => bif x.2.2 then (bif (decide ((zEO x a1 a2).1 > (0 : Int))) then false else true) else true) 0 a0.2.2.1 then (false, ()) else (true, ()) := by
 simp only [zFA, zJi, zR, zy, zQ]
 rw [zTR, z6] <;> rfl
def zLb (a0 : El zj) (a1 : List (El zF)) : Tr (El zK × Bool × Unit) := bif (a0.1 == (2 : Int)) then (.v (a0.2.2, true, ())) else (bif (a0.1 == (1 : Int)) then (.v ((zFU a1 a0.2.1).1, (zFU a1 a0.2.1).2.1, ())) else (.v (((0 : Int), ((0 : Int), (⟨#[]⟩ : ByteArray))), false, ())))
def xT a0 a1 := (zLb a0 a1).val
@[reducible] def zdC : FnD := ⟨[va zj, vd (.lst zF)], [va zK, vd .bool], true, fun _ => none, fun a => xT a.1 a.2.1⟩
def zdV : Con Tryz.prog := yE mo g0 [zUK] [] 266 zdC (fn := Tryz.f266) trivial (fun a _ _ => yX (t' := zLb a.1 a.2.1) (by kernel_rfl) (by simp [zLb]) rfl)
def zCG (a0 : Int) : Bool × Unit := ((a0 != a0), ())
@[reducible] def zPX : FnD := ⟨[vd .int], [vd .bool], true, fun _ => none, fun a => zCG a.1⟩
def zPV : Con Tryz.prog := yE mo g0 [] [] 265 zPX (fn := Tryz.f265) trivial (fun _ _ _ => okv (by kernel_rfl))
def zCO (a0 : Int) (a1 : Int) : Tr (Int × Unit) := bif (zCG a0).1 then (bif (zCG a1).1 then (.v ((0 : Int), ())) else (.v ((-1 : Int), ()))) else (bif (zCG a1).1 then (.v ((1 : Int), ())) else (bif decide (a0 < a1) then (.v ((-1 : Int), ())) else (bif decide (a0 > a1) then (.v ((1 : Int), ())) else (.v ((0 : Int), ())))))
def zx a0 a1 := (zCO a0 a1).val
@[reducible] def zNV : FnD := ⟨[vd .int, vd .int], [vd .int], true, fun _ => none, fun a => zx a.1 a.2.1⟩
def zEd : Con Tryz.prog := yE mo g0 [zPV] [] 237 zNV (fn := Tryz.f237) trivial (fun a _ _ => yX (t' := zCO a.1 a.2.1) (by kernel_rfl) (by simp [zCO]) rfl)
def zAH (a0 : ByteArray) : Bool × Unit := ((!(a0.toList == a0.toList)), ())
@[reducible] def zMq : FnD := ⟨[vd .str], [vd .bool], true, fun _ => none, fun a => zAH a.1⟩
def zMe : Con Tryz.prog := yE mo g0 [] [] 283 zMq (fn := Tryz.f283) trivial (fun _ _ _ => okv (by kernel_rfl))
def zAp (a0 : ByteArray) (a1 : ByteArray) : Tr (Int × Unit) := bif (zAH a0).1 then (bif (zAH a1).1 then (.v ((0 : Int), ())) else (.v ((-1 : Int), ()))) else (bif (zAH a1).1 then (.v ((1 : Int), ())) else (bif (Op.bytesLess a0.toList a1.toList) then (.v ((-1 : Int), ())) else (bif (!((Op.bytesLess a0.toList a1.toList) || (a0.toList == a1.toList))) then (.v ((1 : Int), ())) else (.v ((0 : Int), ())))))
def zAd a0 a1 := (zAp a0 a1).val
@[reducible] def zKR : FnD := ⟨[vd .str, vd .str], [vd .int], true, fun _ => none, fun a => zAd a.1 a.2.1⟩
def zKf : Con Tryz.prog := yE mo g0 [zMe] [] 282 zKR (fn := Tryz.f282) trivial (fun a _ _ => yX (t' := zAp a.1 a.2.1) (by kernel_rfl) (by simp [zAp]) rfl)
@[reducible] def vW : LB := ⟨[], ⟨18, [], [(3, vd .int), (6, vd (.lst .int)), (7, vd .int), (8, vd .int)]⟩, ⟨18, [], [(2, vd .int)]⟩, 0, fun x => (fun (n3 : Int) (l6 : List (El .int)) (n7 : Int) (n8 : Int) => (bif decide (n8 < n7) then (.ix n8 l6 (bif ((zB .int l6 n8) != n3) then (.v (.ret ((zB .int l6 n8), ()))) else (.ik (n8 + (1 : Int)) (.v (.go (n3, l6, n7, (n8 + (1 : Int)), ())))))) else (.v (.brk (n3, l6, n7, n8, ()))) : Tr (St _ _))) x.1 x.2.1 x.2.2.1 x.2.2.2.1⟩
theorem zPW (n3 : Int) (l6 : List (El .int)) : LB.run vW (n3, l6, (l6.length : Int), (0 : Int), ()) = zDg (xB (fun _ x => bif (x != n3) then (some (x, ())) else none) 0 l6) (n3, l6, (l6.length : Int), (l6.length : Int), ()) := LB.run_scan (l := vW) (fun i => (n3, l6, (l6.length : Int), (i : Int), ())) (fun i x h => by
  simp only [LB.b, vW, zi, zQ, zR, cond_true, yQ h, zG h]
  cases (x != n3) <;> rfl) (by simp only [LB.b, vW, xo]; rfl)
theorem zPT : SF vW fun x : Int × List (El .int) × Int × Int × Unit => (0 ≤ x.2.2.2.1 ∧ x.2.2.1 = (x.2.1.length : Int), x.2.2.1 - x.2.2.2.1) := x5 (by
 rintro ⟨(n3 : Int), (l6 : List (El .int)), (n7 : Int), (n8 : Int), ⟨⟩⟩ hI hw
 have _ : -9223372036854775808 ≤ n3 ∧ n3 ≤ 9223372036854775807 := z0 hw.1
 have _ : -9223372036854775808 ≤ n7 ∧ n7 ≤ 9223372036854775807 := z0 hw.2.2.1
 have _ : (l6.length : Int) ≤ 16777216 := zE (hw.2.1.1)
 simp [vW] at hI ⊢
 repeat' first | intro _ | apply And.intro
 all_goals omega)
def zGR (a0 : List (El .int)) : Tr (Int × Unit) := .lp vW ((0 : Int), a0, (a0.length : Int), (0 : Int), ()) (fun r1 => .v (r1.1, ())) (fun t1 => .v (t1.1, ()))
def vu a0 := (zGR a0).val
@[reducible] def zNN : FnD := ⟨[vd (.lst .int)], [vd .int], true, fun _ => none, fun a => vu a.1⟩
theorem zWw (a0 : List (El .int)) (_ : xH zNN.args (a0, ())) : (zGR a0).ok := by
 unfold zGR
 refine zJ ?_ ?_
 ·exact zPT _ ⟨by (dsimp only <;> omega), by (dsimp only <;> omega)⟩
 ·simp
def zN1 : Con Tryz.prog := yE mo g0 [] [vW] 236 zNN (fn := Tryz.f236) ⟨lk, trivial⟩ (fun a hw _ => yX (by kernel_rfl) (zWw a.1 hw) rfl)
theorem zNI (a0 : List (El .int)) : vu a0 = zE1 (xB (fun _ x => bif (x != (0 : Int)) then (some (x, ())) else none) 0 a0) (fun (r1 : vW.r.T) => (r1.1, ())) ((0 : Int), ()) := by
 simp only [vu, zGR, zR, zy, zQ]
 rw [zPW, xw] <;> rfl
def zHM (a0 : El zK) (a1 : El zK) : Int × Unit := ((vu [(zx a0.1 a1.1).1, (zx a0.2.1 a1.2.1).1, (zAd a0.2.2 a1.2.2).1]).1, ())
@[reducible] def zRe : FnD := ⟨[va zK, va zK], [vd .int], true, fun _ => none, fun a => zHM a.1 a.2.1⟩
def zR2 : Con Tryz.prog := yE mo g0 [zEd, zKf, zN1] [] 280 zRe (fn := Tryz.f280) trivial (fun _ _ _ => okv (by kernel_rfl))
def zJJ (a0 : El zK) (a1 : El zK) : Bool × Unit := (decide ((zHM a0 a1).1 < (0 : Int)), ())
@[reducible] def zaw : FnD := ⟨[va zK, va zK], [vd .bool], true, fun _ => none, fun a => zJJ a.1 a.2.1⟩
def zcT : Con Tryz.prog := yE mo g0 [zR2] [] 267 zaw (fn := Tryz.f267) trivial (fun _ _ _ => okv (by kernel_rfl))
def zNL (a0 : El zP) (a1 : List (El zF)) : Tr (Bool × Unit) := bif (!(xT a0.2.1 a1).2.1) then (.v (false, ())) else (bif (!(xT a0.2.2 a1).2.1) then (.v (false, ())) else (bif (a0.1 == (1 : Int)) then (.v ((((xT a0.2.1 a1).1.1 == (xT a0.2.2 a1).1.1) && (((xT a0.2.1 a1).1.2.1 == (xT a0.2.2 a1).1.2.1) && (((xT a0.2.1 a1).1.2.2.toList == (xT a0.2.2 a1).1.2.2.toList) && true))), ())) else (bif (a0.1 == (2 : Int)) then (.v ((!(((xT a0.2.1 a1).1.1 == (xT a0.2.2 a1).1.1) && (((xT a0.2.1 a1).1.2.1 == (xT a0.2.2 a1).1.2.1) && (((xT a0.2.1 a1).1.2.2.toList == (xT a0.2.2 a1).1.2.2.toList) && true)))), ())) else (bif (a0.1 == (3 : Int)) then (.v ((zJJ (xT a0.2.1 a1).1 (xT a0.2.2 a1).1).1, ())) else (.v (false, ()))))))
def zHQ a0 a1 := (zNL a0 a1).val
@[reducible] def zhl : FnD := ⟨[va zP, vd (.lst zF)], [vd .bool], true, fun _ => none, fun a => zHQ a.1 a.2.1⟩
def ziK : Con Tryz.prog := yE mo g0 [zdV, zcT] [] 240 zhl (fn := Tryz.f240) trivial (fun a _ _ => yX (t' := zNL a.1 a.2.1) (by kernel_rfl) (by simp [zNL]) rfl)
@[reducible] def zBd : LB := ⟨[], ⟨18, [], [(1, vd (.lst zF)), (7, vd (.lst zP)), (8, vd .int), (9, vd .int)]⟩, ⟨18, [], [(4, vd .bool)]⟩, 0, fun x => (fun (l1 : List (El zF)) (l7 : List (El zP)) (n8 : Int) (n9 : Int) => (bif decide (n9 < n8) then (.ix n9 l7 (bif (!(zHQ (zB zP l7 n9) l1).1) then (.v (.ret (false, ()))) else (.ik (n9 + (1 : Int)) (.v (.go (l1, l7, n8, (n9 + (1 : Int)), ())))))) else (.v (.brk (l1, l7, n8, n9, ()))) : Tr (St _ _))) x.1 x.2.1 x.2.2.1 x.2.2.2.1⟩
theorem zR8 (l1 : List (El zF)) (l7 : List (El zP)) : LB.run zBd (l1, l7, (l7.length : Int), (0 : Int), ()) = bif ze (fun _ x => bif (!(zHQ x l1).1) then false else true) 0 l7 then .brk (l1, l7, (l7.length : Int), (l7.length : Int), ()) else .ret (false, ()) := LB.run_all (l := zBd) (fun i => (l1, l7, (l7.length : Int), (i : Int), ())) (fun i x h => by
  simp only [LB.b, zBd, zi, zQ, zR, cond_true, yQ h, zG h]
  cases (!(zHQ x l1).1) <;> rfl) (by simp only [LB.b, zBd, xo]; rfl)
theorem zS6 : SF zBd fun x : List (El zF) × List (El zP) × Int × Int × Unit => (0 ≤ x.2.2.2.1 ∧ x.2.2.1 = (x.2.1.length : Int), x.2.2.1 - x.2.2.2.1) := x5 (by
 rintro ⟨(l1 : List (El zF)), (l7 : List (El zP)), (n8 : Int), (n9 : Int), ⟨⟩⟩ hI hw
 have _ : -9223372036854775808 ≤ n8 ∧ n8 ≤ 9223372036854775807 := z0 hw.2.2.1
 have _ : (l7.length : Int) ≤ 16777216 := zE (hw.2.1.1)
 simp [zBd] at hI ⊢
 repeat' first | intro _ | apply And.intro
 all_goals omega)
def zJ7 (a0 : List (El zP)) (a1 : List (El zF)) : Tr (Bool × Unit) := .lp zBd (a1, a0, (a0.length : Int), (0 : Int), ()) (fun r2 => .v (r2.1, ())) (fun _ => .v (true, ()))
def zFP a0 a1 := (zJ7 a0 a1).val
@[reducible] def zRB : FnD := ⟨[vd (.lst zP), vd (.lst zF)], [vd .bool], true, fun _ => none, fun a => zFP a.1 a.2.1⟩
theorem zbQ (a0 : List (El zP)) (a1 : List (El zF)) (_ : xH zRB.args (a0, a1, ())) : (zJ7 a0 a1).ok := by
 unfold zJ7
 refine zJ ?_ ?_
 ·exact zS6 _ ⟨by (dsimp only <;> omega), by (dsimp only <;> omega)⟩
 ·simp
def zaQ : Con Tryz.prog := yE mo g0 [ziK] [zBd] 198 zRB (fn := Tryz.f198) ⟨lk, trivial⟩ (fun a hw _ => yX (by kernel_rfl) (zbQ a.1 a.2.1 hw) rfl)
theorem zaO (a0 : List (El zP)) (a1 : List (El zF)) : zFP a0 a1 = bif ze (fun _ x => bif (!(zHQ x a1).1) then false else true) 0 a0 then (true, ()) else (false, ()) := by
 simp only [zFP, zJ7, zR, zy, zQ]
 rw [zR8, z6] <;> rfl
def zEb : Con Tryz.prog := ⟨141, zHO .int false, zQS mo (fn := Tryz.f141) (t := 42) (u := 4) (e := 3) (p0 := "slices.go:355") (p1 := "slices.go:357") (p2 := "slices.go:358") (p3 := "slices.go:362") (by kernel_rfl) (by kernel_rfl) (by kernel_rfl) (by kernel_rfl) (by kernel_rfl) .int false (by kernel_rfl) (fun l => by kernel_rfl) (.inr rfl)⟩
@[reducible] def yN (F : List (El zA) → El zC → El zH → List (El .int) → List (El zF) → List (El zA) × Unit) (Q : List (El zA) → El zC → El zH → List (El .int) → List (El zF) → Prop) : LB := ⟨[0, 2, 3], ⟨77, [.o (.d zA), .d zC, .d zH], [(0, .pt 0 0), (3, vd (.lst .int)), (4, vd (.lst zF)), (6, .pt 1 0), (7, .pt 2 0), (10, vo zI), (46, vd (.lst zD)), (47, vd .int), (48, vd .int)]⟩, ⟨77, [.o (.d zA)], []⟩, 0, fun x => (fun (w0 : List (El zA)) (w1 : El zC) (w2 : El zH) (l3 : List (El .int)) (l4 : List (El zF)) (l10 : List (El zI)) (l46 : List (El zD)) (n47 : Int) (n48 : Int) => (bif decide (n48 < n47) then (.ix n48 l46 (.ix (l3.length : Int) l10 (.ck (zF0 (zB zI l10 (l3.length : Int)) (zB zD l46 n48).2 l4) (let y2 := (vf (zB zI l10 (l3.length : Int)) (zB zD l46 n48).2 l4); bif y2.2.1 then (.ck (((l3.length + [(zB zD l46 n48).1].length : Nat) : Int) ≤ 16777216) (.ck (Q w0 w1 w2 (l3 ++ [(zB zD l46 n48).1]) y2.1) (.ik (n48 + (1 : Int)) (.v (.go ((F w0 w1 w2 (l3 ++ [(zB zD l46 n48).1]) y2.1).1, w1, w2, (), l3, l4, (), (), l10, l46, n47, (n48 + (1 : Int)), ())))))) else (.ik (n48 + (1 : Int)) (.v (.go (w0, w1, w2, (), l3, l4, (), (), l10, l46, n47, (n48 + (1 : Int)), ())))))))) else (.v (.brk (w0, w1, w2, (), l3, l4, (), (), l10, l46, n47, n48, ()))) : Tr (St _ _))) x.1 x.2.1 x.2.2.1 x.2.2.2.2.1 x.2.2.2.2.2.1 x.2.2.2.2.2.2.2.2.1 x.2.2.2.2.2.2.2.2.2.1 x.2.2.2.2.2.2.2.2.2.2.1 x.2.2.2.2.2.2.2.2.2.2.2.1⟩
def vN (F : List (El zA) → El zC → El zH → List (El .int) → List (El zF) → List (El zA) × Unit) (Q : List (El zA) → El zC → El zH → List (El .int) → List (El zF) → Prop) (a0 : List (El zA)) (a1 : El zC) (a2 : El zH) (a3 : List (El .int)) (a4 : List (El zF)) : Tr (List (El zA) × Unit) := bif ((a3.length : Int) == ((yU a1 false).1.length : Int)) then (.ck (zJB a1 a2 a4) (bif (!(zFA a1 a2 a4).1) then (bif (zFP a1.2.2.2.1 a4).1 then (.ck (((a0.length + [((0 : Int), (a3, a4))].length : Nat) : Int) ≤ 16777216) (.v ((a0 ++ [((0 : Int), (a3, a4))]), ()))) else (.v (a0, ()))) else (.v (a0, ())))) else (.lp (yN F Q) (a0, a1, a2, (), a3, a4, (), (), (yU a1 false).1, a2.1, (a2.1.length : Int), (0 : Int), ()) (fun r4 => .v (r4.1, ())) (fun t4 => .v (t4.1, ())))
def zED : Nat → (List (El zA) → El zC → El zH → List (El .int) → List (El zF) → List (El zA) × Unit) × (List (El zA) → El zC → El zH → List (El .int) → List (El zF) → Prop)
 | 0 => (fun _ _ _ _ _ => default, fun _ _ _ _ _ => False)
 | n + 1 => (fun a0 a1 a2 a3 a4 => (vN (zED n).1 (zED n).2 a0 a1 a2 a3 a4).val, fun a0 a1 a2 a3 a4 => (vN (zED n).1 (zED n).2 a0 a1 a2 a3 a4).ok)
def xY (n : Nat) : List (El zA) → El zC → El zH → List (El .int) → List (El zF) → List (El zA) × Unit := (zED n).1
def xr (n : Nat) : List (El zA) → El zC → El zH → List (El .int) → List (El zF) → Prop := (zED n).2
@[reducible] def zG9 (n : Nat) : FnD := ⟨[.ref (.o (.d zA)), va zC, va zH, vd (.lst .int), vd (.lst zF)], [.ref (.o (.d zA))], false, fun a => some (xr n a.1 a.2.1 a.2.2.1 a.2.2.2.1 a.2.2.2.2.1), fun a => xY n a.1 a.2.1 a.2.2.1 a.2.2.2.1 a.2.2.2.2.1⟩
def zbs (n : Nat) (ih : FnOk Tryz.prog 143 (zG9 n)) : List (Con Tryz.prog) := ⟨143, zG9 n, ih⟩ :: [zk6, zbJ, zaQ, zEb, xq, zOp]
theorem zO8 : ∀ n, FnOk Tryz.prog 143 (zG9 n)
 | 0 => zmb (by kernel_rfl) (fn := Tryz.f143) (by kernel_rfl) (c := (Tryz.f143.body.getD .skip)) (by kernel_rfl) (by kernel_rfl) fun _ h => h
 | n + 1 => zaC mo g0 (zbs n (zO8 n)) [yN (xY n) (xr n)] (fn := Tryz.f143) (by kernel_rfl) (c := (Tryz.f143.body.getD .skip)) (by kernel_rfl) (by kernel_rfl) (zG9 (n + 1)) (by kernel_rfl) ⟨lk, trivial⟩ (fun a _ h => yX (t' := vN (xY n) (xr n) a.1 a.2.1 a.2.2.1 a.2.2.2.1 a.2.2.2.2.1) (by kernel_rfl) h rfl)
def zbG : Con Tryz.prog := ⟨143, zG9 64, zO8 64⟩
theorem zTE {F : List (El zA) → El zC → El zH → List (El .int) → List (El zF) → List (El zA) × Unit} {Q : List (El zA) → El zC → El zH → List (El .int) → List (El zF) → Prop} {r : El zC} {s : El zH} {ids : List (El .int)} {l : List (El zF)} {pos : List (El zI)} {k : Nat}
  (hF : ∀ (w : List (El zA)) (x : Int) (y : List (El zF)), w.length + k ≤ 16777216 → (y.length : Int) ≤ 5 * (ids.length : Int) + 5 → Q w r s (ids ++ [x]) y ∧ (F w r s (ids ++ [x]) y).1.length ≤ w.length + k)
  (hpos : ids.length < pos.length) (hargs : ∀ p ∈ pos, p.2.1.length ≤ 5) (hl : l.length ≤ 5 * ids.length) (hids : ids.length ≤ 3) (hit : s.1.length ≤ 40) (w0 : List (El zA)) (h0 : w0.length + 40 * k ≤ 16777216) :
  LB.sf (yN F Q) (w0, r, s, (), ids, l, (), (), pos, s.1, (s.1.length : Int), (0 : Int), ()) ∧ (LB.run (yN F Q) (w0, r, s, (), ids, l, (), (), pos, s.1, (s.1.length : Int), (0 : Int), ())).all (fun t => t.1.length ≤ w0.length + 40 * k) (fun t => t.1.length ≤ w0.length + 40 * k) (fun t => t.1.length ≤ w0.length + 40 * k) := by
 have step : ∀ (w : List (El zA)) (n : Int), 0 ≤ n → n ≤ (s.1.length : Int) → w.length ≤ w0.length + n.toNat * k → ((yN F Q).T (w, r, s, (), ids, l, (), (), pos, s.1, (s.1.length : Int), n, ())).ok ∧
   St.all (fun (t : (yN F Q).r.T) => (t.1 : List (El zA)).length ≤ w0.length + 40 * k) (fun (t : (yN F Q).d.T) => (t.1 : List (El zA)).length ≤ w0.length + 40 * k) (fun y => n < (s.1.length : Int) ∧ ∃ w' : List (El zA), y = (w', r, s, (), ids, l, (), (), pos, s.1, (s.1.length : Int), (n + 1), ()) ∧ w'.length ≤ w0.length + (n + 1).toNat * k) ((yN F Q).b (w, r, s, (), ids, l, (), (), pos, s.1, (s.1.length : Int), n, ())) := by
  intro w n h1 h2 h3
  have hmem := z4 (t := zI) (l := pos) (i := (ids.length : Int)) (by omega)
  have ha := hargs _ hmem
  have key : n < (s.1.length : Int) → n.toNat * k + k ≤ 40 * k ∧ (n + 1).toNat * k = n.toNat * k + k := fun h => by
   constructor
   ·rw [← Nat.succ_mul]; exact Nat.mul_le_mul_right k (by omega)
   ·rw [show (n + 1).toNat = n.toNat + 1 by omega, Nat.succ_mul]
  have hm : ∀ x : El zr, ((((vf (zB zI pos (ids.length : Int)) x l).1.length : Nat)) : Int) ≤ 5 * (ids.length : Int) + 5 := fun x => by have := zXf (zB zI pos (ids.length : Int)) x l; omega
  constructor
  ·dsimp only [yN]
   refine zo (fun h => ?_) (fun _ => trivial)
   replace h : n < (s.1.length : Int) := of_decide_eq_true h
   obtain ⟨k1, k2⟩ := key h
   have hq := hF w (zB zD s.1 n).1 _ (by omega) (hm (zB zD s.1 n).2)
   refine zJ ⟨h1, h⟩ (zJ ⟨by omega, by omega⟩ (zJ ?_ (zo (fun _ => zJ ?_ (zJ hq.1 (zJ (ink (by omega) (by omega)) trivial))) (fun _ => zJ (ink (by omega) (by omega)) trivial))))
   ·show (l.length : Int) + ((zB zI pos (ids.length : Int)).2.1.length : Int) ≤ 16777216
    omega
   ·show (((ids.length + 1 : Nat)) : Int) ≤ 16777216
    omega
  ·simp only [LB.b, yN, zi, zQ, zR]
   refine zd (fun h => ?_) (fun h => ?_)
   ·replace h : n < (s.1.length : Int) := of_decide_eq_true h
    obtain ⟨k1, k2⟩ := key h
    have hq := hF w (zB zD s.1 n).1 _ (by omega) (hm (zB zD s.1 n).2)
    refine zd (fun _ => ?_) (fun _ => ?_)
    ·exact yf ⟨h, _, rfl, by have := hq.2; omega⟩
    ·exact yf ⟨h, _, rfl, by omega⟩
   ·refine zCP ?_
    have : n.toNat * k ≤ 40 * k := Nat.mul_le_mul_right k (by omega)
    show w.length ≤ _
    omega
 have I0 : ∃ (w : List (El zA)) (n : Int), (w0, r, s, (), ids, l, (), (), pos, s.1, (s.1.length : Int), (0 : Int), ()) = ((w, r, s, (), ids, l, (), (), pos, s.1, (s.1.length : Int), n, ()) : (yN F Q).d.T) ∧ 0 ≤ n ∧ n ≤ (s.1.length : Int) ∧ w.length ≤ w0.length + n.toNat * k := ⟨w0, 0, rfl, by omega, by omega, by omega⟩
 constructor
 ·refine LB.safe' (l := yN F Q) (fun x => ∃ (w : List (El zA)) (n : Int), x = (w, r, s, (), ids, l, (), (), pos, s.1, (s.1.length : Int), n, ()) ∧ 0 ≤ n ∧ n ≤ (s.1.length : Int) ∧ w.length ≤ w0.length + n.toNat * k) (fun x => ((s.1.length : Int) - x.2.2.2.2.2.2.2.2.2.2.2.1).toNat) (fun x hx _ => ?_) I0 (fun _ => ?_)
  ·obtain ⟨w, n, rfl, h1, h2, h3⟩ := hx
   obtain ⟨g1, g2⟩ := step w n h1 h2 h3
   refine ⟨g1, ?_⟩
   show St.all _ _ _ ((yN F Q).b (w, r, s, (), ids, l, (), (), pos, s.1, (s.1.length : Int), n, ()))
   revert g2
   cases ((yN F Q).b (w, r, s, (), ids, l, (), (), pos, s.1, (s.1.length : Int), n, ())) with
   | ret t => intro _; exact trivial
   | brk t => intro _; exact trivial
   | go y =>
    rintro ⟨h4, w', rfl, h5⟩
    exact ⟨⟨w', n + 1, rfl, by omega, by omega, h5⟩, by show ((s.1.length : Int) - (n + 1)).toNat < ((s.1.length : Int) - n).toNat; omega⟩
  ·show ((s.1.length : Int) - 0).toNat < 18446744073709551616
   omega
 ·refine LB.post3 (l := yN F Q) (fun x => ∃ (w : List (El zA)) (n : Int), x = (w, r, s, (), ids, l, (), (), pos, s.1, (s.1.length : Int), n, ()) ∧ 0 ≤ n ∧ n ≤ (s.1.length : Int) ∧ w.length ≤ w0.length + n.toNat * k) (fun x hx => ?_) (fun x hx => ?_) I0
  ·obtain ⟨w, n, rfl, h1, h2, h3⟩ := hx
   obtain ⟨g1, g2⟩ := step w n h1 h2 h3
   show St.all _ _ _ ((yN F Q).b (w, r, s, (), ids, l, (), (), pos, s.1, (s.1.length : Int), n, ()))
   revert g2
   cases ((yN F Q).b (w, r, s, (), ids, l, (), (), pos, s.1, (s.1.length : Int), n, ())) with
   | ret t => intro h; exact h
   | brk t => intro h; exact h
   | go y =>
    rintro ⟨h4, w', rfl, h5⟩
    exact ⟨w', n + 1, rfl, by omega, by omega, h5⟩
  ·obtain ⟨w, n, rfl, h1, h2, h3⟩ := hx
   have : n.toNat * k ≤ 40 * k := Nat.mul_le_mul_right k (by omega)
   show w.length ≤ _
   omega
theorem zMU {r : El zC} {s : El zH} (hit : s.1.length ≤ 40) (hargs : ∀ p ∈ r.2.2.1, p.2.1.length ≤ 5) (hnp : (yU r false).1.length ≤ 3) : ∀ (n : Nat) (out : List (El zA)) (ids : List (El .int)) (l : List (El zF)), ids.length ≤ (yU r false).1.length → (yU r false).1.length - ids.length < n → l.length ≤ 5 * ids.length → out.length + 40 ^ ((yU r false).1.length - ids.length) ≤ 16777216 →
  xr n out r s ids l ∧ (xY n out r s ids l).1.length ≤ out.length + 40 ^ ((yU r false).1.length - ids.length) := by
 intro n
 induction n with
 | zero => intro out ids l h1 h2; omega
 | succ n ih =>
  intro out ids l h1 h2 h3 h4
  skip
  by_cases he : ids.length = (yU r false).1.length
  ·have hc : ((ids.length : Int) == ((yU r false).1.length : Int)) = true := by simp [he]
   have hz : 40 ^ ((yU r false).1.length - ids.length) = 1 := by rw [he, Nat.sub_self]
   rw [hz] at h4 ⊢
   constructor
   ·show (vN (xY n) (xr n) out r s ids l).ok
    unfold vN
    rw [hc]
    refine zJ ?_ (zo (fun _ => zo (fun _ => zJ ?_ trivial) (fun _ => trivial)) (fun _ => trivial))
    ·intro p hp; have := hargs p hp; omega
    ·show (((out.length + 1 : Nat)) : Int) ≤ 16777216
     omega
   ·show (vN (xY n) (xr n) out r s ids l).val.1.length ≤ _
    simp only [vN, zi, zQ, zR, zy]
    rw [hc]
    show ((bif _ then _ else _ : List (El zA) × Unit)).1.length ≤ _
    cases (!(zFA r s l).1) with
    | false => show out.length ≤ _; omega
    | true =>
     cases (zFP r.2.2.2.1 l).1 with
     | false => show out.length ≤ _; omega
     | true => show (out ++ [((0 : Int), (ids, l))]).length ≤ _; simp
  ·have hlt : ids.length < (yU r false).1.length := by omega
   have hc : ((ids.length : Int) == ((yU r false).1.length : Int)) = false := by simp; omega
   have hd : (yU r false).1.length - ids.length = ((yU r false).1.length - (ids.length + 1)) + 1 := by omega
   have hp : 40 ^ ((yU r false).1.length - ids.length) = 40 * 40 ^ ((yU r false).1.length - (ids.length + 1)) := by rw [hd, Nat.pow_succ, Nat.mul_comm]
   rw [hp] at h4 ⊢
   have L := zTE (F := xY n) (Q := xr n) (r := r) (s := s) (ids := ids) (l := l) (k := 40 ^ ((yU r false).1.length - (ids.length + 1))) (fun w x y hw hy => by
    have hl1 : (ids ++ [x]).length = ids.length + 1 := by simp
    have := ih w (ids ++ [x]) y (by omega) (by omega) (by omega) (by rw [hl1]; exact hw)
    rw [hl1] at this; exact this) hlt (fun p hp => hargs p (zfz hp)) h3 (by omega) hit out h4
   constructor
   ·show (vN (xY n) (xr n) out r s ids l).ok
    unfold vN
    rw [hc]
    exact zJ L.1 (zID (zX7 _) (fun _ _ => trivial) (fun _ _ => trivial))
   ·show (vN (xY n) (xr n) out r s ids l).val.1.length ≤ _
    simp only [vN, zi, zQ, zR, zy]
    rw [hc]
    have L2 := L.2
    revert L2
    cases (LB.run (yN (xY n) (xr n)) (out, r, s, (), ids, l, (), (), (yU r false).1, s.1, (s.1.length : Int), (0 : Int), ())) with
    | ret t => intro h; exact h
    | brk t => intro h; exact h
    | go t => intro h; exact h
theorem zPP {r : El zC} {s : El zH} (h1 : s.1.length ≤ 40) (h2 : ∀ p ∈ r.2.2.1, p.2.1.length ≤ 5) (h3 : (yU r false).1.length ≤ 3) : xr 64 [] r s [] [] := by
 have hb : 40 ^ ((yU r false).1.length - 0) ≤ 64000 := Nat.le_trans (Nat.pow_le_pow_right (by decide) (show (yU r false).1.length - 0 ≤ 3 by omega)) (by decide)
 exact (zMU h1 h2 h3 64 [] [] [] (by simp) (by simp only [List.length_nil]; omega) (by simp) (by simp only [List.length_nil]; omega)).1
def zGG (a0 : El zC) (a1 : El zH) : Tr (List (El zA) × Unit) := .ck (xr 64 ([] : List (El zA)) a0 a1 ([] : List (El .int)) ([] : List (El zF))) (.v ((xY 64 ([] : List (El zA)) a0 a1 ([] : List (El .int)) ([] : List (El zF))).1, ()))
def yv a0 a1 := (zGG a0 a1).val
def zGP (a0 : El zC) (a1 : El zH) : Prop := a1.1.length ≤ 40 ∧ (∀ p ∈ a0.2.2.1, p.2.1.length ≤ 5) ∧ (yU a0 false).1.length ≤ 3
@[reducible] def zNW : FnD := ⟨[va zC, va zH], [vo zA], false, fun a => some (zGP a.1 a.2.1), fun a => yv a.1 a.2.1⟩
theorem zU2 (a0 : El zC) (a1 : El zH) (_ : xH zNW.args (a0, a1, ())) (hp : zGP a0 a1) : (zGG a0 a1).ok := by
 unfold zGP at hp
 unfold zGG
 refine zJ ?_ ?_
 ·exact zPP hp.1 hp.2.1 hp.2.2
 ·simp
def zU5 : Con Tryz.prog := yE mo g0 [zbG] [] 87 zNW (fn := Tryz.f87) trivial (fun a hw h => yX (by kernel_rfl) (zU2 a.1 a.2.1 hw h) rfl)
theorem xh {r : El zC} {s : El zH} (h1 : s.1.length ≤ 40) (h2 : ∀ p ∈ r.2.2.1, p.2.1.length ≤ 5) (h3 : (yU r false).1.length ≤ 3) : ((yv r s).1.length : Int) ≤ 64000 := by
 have hb : 40 ^ ((yU r false).1.length - 0) ≤ 64000 := Nat.le_trans (Nat.pow_le_pow_right (by decide) (show (yU r false).1.length - 0 ≤ 3 by omega)) (by decide)
 have := (zMU h1 h2 h3 64 [] [] [] (by simp) (by simp only [List.length_nil]; omega) (by simp) (by simp only [List.length_nil]; omega)).2
 simp only [List.length_nil] at this
 show ((xY 64 [] r s [] []).1.length : Int) ≤ 64000
 omega
end
end Go.Proofs.YtipbfgknaihifaaGreat
