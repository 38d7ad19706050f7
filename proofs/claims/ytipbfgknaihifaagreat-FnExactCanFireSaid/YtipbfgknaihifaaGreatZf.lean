/- Parts of a proof. -/
import Derived.Test.YtipbfgknaihifaaGreatZe
namespace Go.Proofs.YtipbfgknaihifaaGreat
open Go.RowKit
noncomputable section
@[reducible] def zDF : LB := ⟨[], ⟨26, [], [(0, vd (.lst .int)), (1, vd (.lst .int)), (5, vd .int)]⟩, ⟨26, [], [(4, vd .bool)]⟩, 0, fun x => (fun (l0 : List (El .int)) (l1 : List (El .int)) (n5 : Int) => (bif decide (n5 < (l0.length : Int)) then (.ix n5 l0 (.ix n5 l1 (bif ((zB .int l0 n5) != (zB .int l1 n5)) then (.v (.ret (false, ()))) else (.ik (n5 + (1 : Int)) (.v (.go (l0, l1, (n5 + (1 : Int)), ()))))))) else (.v (.brk (l0, l1, n5, ()))) : Tr (St _ _))) x.1 x.2.1 x.2.2.1⟩
theorem zUz (l0 : List (El .int)) (l1 : List (El .int)) : LB.run zDF (l0, l1, (0 : Int), ()) = bif ze (fun i x => bif (x != (zB .int l1 (i : Int))) then false else true) 0 l0 then .brk (l0, l1, (l0.length : Int), ()) else .ret (false, ()) := LB.run_all (l := zDF) (fun i => (l0, l1, (i : Int), ())) (fun i x h => by
  simp only [LB.b, zDF, zi, zQ, zR, cond_true, yQ h, zG h]
  cases (x != (zB .int l1 (i : Int))) <;> rfl) (by simp only [LB.b, zDF, xo]; rfl)
theorem zVq : SF zDF fun x : List (El .int) × List (El .int) × Int × Unit => (0 ≤ x.2.2.1 ∧ (x.1.length : Int) ≤ (x.2.1.length : Int), (x.1.length : Int) - x.2.2.1) := x5 (by
 rintro ⟨(l0 : List (El .int)), (l1 : List (El .int)), (n5 : Int), ⟨⟩⟩ hI hw
 have _ : (l0.length : Int) ≤ 16777216 := zE (hw.1.1)
 simp [zDF] at hI ⊢
 repeat' first | intro _ | apply And.intro
 all_goals omega)
def zLC (a0 : List (El .int)) (a1 : List (El .int)) : Tr (Bool × Unit) := bif ((a0.length : Int) != (a1.length : Int)) then (.v (false, ())) else (.lp zDF (a0, a1, (0 : Int), ()) (fun r1 => .v (r1.1, ())) (fun _ => .v (true, ())))
def zIr a0 a1 := (zLC a0 a1).val
@[reducible] def zUo : FnD := ⟨[vd (.lst .int), vd (.lst .int)], [vd .bool], true, fun _ => none, fun a => zIr a.1 a.2.1⟩
theorem zdA (a0 : List (El .int)) (a1 : List (El .int)) (_ : xH zUo.args (a0, a1, ())) : (zLC a0 a1).ok := by
 unfold zLC
 refine zo (fun _ => trivial) (fun h1 => ?_)
 replace h1 := zAg h1
 refine zJ ?_ ?_
 ·exact zVq _ ⟨by (dsimp only <;> omega), by (dsimp only <;> omega)⟩
 ·simp
def zdc : Con Tryz.prog := yE mo g0 [] [zDF] 246 zUo (fn := Tryz.f246) ⟨lk, trivial⟩ (fun a hw _ => yX (by kernel_rfl) (zdA a.1 a.2.1 hw) rfl)
theorem zex (a0 : List (El .int)) (a1 : List (El .int)) : zIr a0 a1 = bif ((a0.length : Int) != (a1.length : Int)) then (false, ()) else (bif ze (fun i x => bif (x != (zB .int a1 (i : Int))) then false else true) 0 a0 then (true, ()) else (false, ())) := by
 simp only [zIr, zLC, zR, zi, zy, zQ]
 rw [zUz, z6] <;> rfl
def zK2 (a0 : El zF) (a1 : El zF) : Tr (Bool × Unit) := bif (!(a0.1.toList == a1.1.toList)) then (.v (false, ())) else (bif (!(zDP a0.2 a1.2).1) then (.v (false, ())) else (.v (true, ())))
def zEK a0 a1 := (zK2 a0 a1).val
@[reducible] def zeJ : FnD := ⟨[va zF, va zF], [vd .bool], true, fun _ => none, fun a => zEK a.1 a.2.1⟩
def zgU : Con Tryz.prog := yE mo g0 [zNQ] [] 271 zeJ (fn := Tryz.f271) trivial (fun a _ _ => yX (t' := zK2 a.1 a.2.1) (by kernel_rfl) (by simp [zK2]) rfl)
@[reducible] def zBR : LB := ⟨[], ⟨27, [], [(0, vd (.lst zF)), (1, vd (.lst zF)), (5, vd .int)]⟩, ⟨27, [], [(4, vd .bool)]⟩, 0, fun x => (fun (l0 : List (El zF)) (l1 : List (El zF)) (n5 : Int) => (bif decide (n5 < (l0.length : Int)) then (.ix n5 l0 (.ix n5 l1 (bif (!(zEK (zB zF l0 n5) (zB zF l1 n5)).1) then (.v (.ret (false, ()))) else (.ik (n5 + (1 : Int)) (.v (.go (l0, l1, (n5 + (1 : Int)), ()))))))) else (.v (.brk (l0, l1, n5, ()))) : Tr (St _ _))) x.1 x.2.1 x.2.2.1⟩
theorem zSS (l0 : List (El zF)) (l1 : List (El zF)) : LB.run zBR (l0, l1, (0 : Int), ()) = bif ze (fun i x => bif (!(zEK x (zB zF l1 (i : Int))).1) then false else true) 0 l0 then .brk (l0, l1, (l0.length : Int), ()) else .ret (false, ()) := LB.run_all (l := zBR) (fun i => (l0, l1, (i : Int), ())) (fun i x h => by
  simp only [LB.b, zBR, zi, zQ, zR, cond_true, yQ h, zG h]
  cases (!(zEK x (zB zF l1 (i : Int))).1) <;> rfl) (by simp only [LB.b, zBR, xo]; rfl)
theorem zSc : SF zBR fun x : List (El zF) × List (El zF) × Int × Unit => (0 ≤ x.2.2.1 ∧ (x.1.length : Int) ≤ (x.2.1.length : Int), (x.1.length : Int) - x.2.2.1) := x5 (by
 rintro ⟨(l0 : List (El zF)), (l1 : List (El zF)), (n5 : Int), ⟨⟩⟩ hI hw
 have _ : (l0.length : Int) ≤ 16777216 := zE (hw.1.1)
 simp [zBR] at hI ⊢
 repeat' first | intro _ | apply And.intro
 all_goals omega)
def zKC (a0 : List (El zF)) (a1 : List (El zF)) : Tr (Bool × Unit) := bif ((a0.length : Int) != (a1.length : Int)) then (.v (false, ())) else (.lp zBR (a0, a1, (0 : Int), ()) (fun r2 => .v (r2.1, ())) (fun _ => .v (true, ())))
def zGl a0 a1 := (zKC a0 a1).val
@[reducible] def zRh : FnD := ⟨[vd (.lst zF), vd (.lst zF)], [vd .bool], true, fun _ => none, fun a => zGl a.1 a.2.1⟩
theorem zan (a0 : List (El zF)) (a1 : List (El zF)) (_ : xH zRh.args (a0, a1, ())) : (zKC a0 a1).ok := by
 unfold zKC
 refine zo (fun _ => trivial) (fun h1 => ?_)
 replace h1 := zAg h1
 refine zJ ?_ ?_
 ·exact zSc _ ⟨by (dsimp only <;> omega), by (dsimp only <;> omega)⟩
 ·simp
def zZk : Con Tryz.prog := yE mo g0 [zgU] [zBR] 247 zRh (fn := Tryz.f247) ⟨lk, trivial⟩ (fun a hw _ => yX (by kernel_rfl) (zan a.1 a.2.1 hw) rfl)
theorem zZv (a0 : List (El zF)) (a1 : List (El zF)) : zGl a0 a1 = bif ((a0.length : Int) != (a1.length : Int)) then (false, ()) else (bif ze (fun i x => bif (!(zEK x (zB zF a1 (i : Int))).1) then false else true) 0 a0 then (true, ()) else (false, ())) := by
 simp only [zGl, zKC, zR, zi, zy, zQ]
 rw [zSS, z6] <;> rfl
def zJK (a0 : El zA) (a1 : El zA) : Tr (Bool × Unit) := bif (a0.1 != a1.1) then (.v (false, ())) else (bif (!(zIr a0.2.1 a1.2.1).1) then (.v (false, ())) else (bif (!(zGl a0.2.2 a1.2.2).1) then (.v (false, ())) else (.v (true, ()))))
def zCp a0 a1 := (zJK a0 a1).val
@[reducible] def zaq : FnD := ⟨[va zA, va zA], [vd .bool], true, fun _ => none, fun a => zCp a.1 a.2.1⟩
def zad : Con Tryz.prog := yE mo g0 [zdc, zZk] [] 204 zaq (fn := Tryz.f204) trivial (fun a _ _ => yX (t' := zJK a.1 a.2.1) (by kernel_rfl) (by simp [zJK]) rfl)
@[reducible] def zAX : LB := ⟨[], ⟨27, [], [(0, vd (.lst zA)), (1, vd (.lst zA)), (5, vd .int)]⟩, ⟨27, [], [(4, vd .bool)]⟩, 0, fun x => (fun (l0 : List (El zA)) (l1 : List (El zA)) (n5 : Int) => (bif decide (n5 < (l0.length : Int)) then (.ix n5 l0 (.ix n5 l1 (bif (!(zCp (zB zA l0 n5) (zB zA l1 n5)).1) then (.v (.ret (false, ()))) else (.ik (n5 + (1 : Int)) (.v (.go (l0, l1, (n5 + (1 : Int)), ()))))))) else (.v (.brk (l0, l1, n5, ()))) : Tr (St _ _))) x.1 x.2.1 x.2.2.1⟩
theorem zQO (l0 : List (El zA)) (l1 : List (El zA)) : LB.run zAX (l0, l1, (0 : Int), ()) = bif ze (fun i x => bif (!(zCp x (zB zA l1 (i : Int))).1) then false else true) 0 l0 then .brk (l0, l1, (l0.length : Int), ()) else .ret (false, ()) := LB.run_all (l := zAX) (fun i => (l0, l1, (i : Int), ())) (fun i x h => by
  simp only [LB.b, zAX, zi, zQ, zR, cond_true, yQ h, zG h]
  cases (!(zCp x (zB zA l1 (i : Int))).1) <;> rfl) (by simp only [LB.b, zAX, xo]; rfl)
theorem zQJ : SF zAX fun x : List (El zA) × List (El zA) × Int × Unit => (0 ≤ x.2.2.1 ∧ (x.1.length : Int) ≤ (x.2.1.length : Int), (x.1.length : Int) - x.2.2.1) := x5 (by
 rintro ⟨(l0 : List (El zA)), (l1 : List (El zA)), (n5 : Int), ⟨⟩⟩ hI hw
 have _ : (l0.length : Int) ≤ 16777216 := zE (hw.1.1)
 simp [zAX] at hI ⊢
 repeat' first | intro _ | apply And.intro
 all_goals omega)
def zHl (a0 : List (El zA)) (a1 : List (El zA)) : Tr (Bool × Unit) := bif ((a0.length : Int) != (a1.length : Int)) then (.v (false, ())) else (.lp zAX (a0, a1, (0 : Int), ()) (fun r2 => .v (r2.1, ())) (fun _ => .v (true, ())))
def zFs a0 a1 := (zHl a0 a1).val
@[reducible] def zPF : FnD := ⟨[vd (.lst zA), vd (.lst zA)], [vd .bool], true, fun _ => none, fun a => zFs a.1 a.2.1⟩
theorem zYe (a0 : List (El zA)) (a1 : List (El zA)) (_ : xH zPF.args (a0, a1, ())) : (zHl a0 a1).ok := by
 unfold zHl
 refine zo (fun _ => trivial) (fun h1 => ?_)
 replace h1 := zAg h1
 refine zJ ?_ ?_
 ·exact zQJ _ ⟨by (dsimp only <;> omega), by (dsimp only <;> omega)⟩
 ·simp
def zYX : Con Tryz.prog := yE mo g0 [zad] [zAX] 146 zPF (fn := Tryz.f146) ⟨lk, trivial⟩ (fun a hw _ => yX (by kernel_rfl) (zYe a.1 a.2.1 hw) rfl)
theorem zXw (a0 : List (El zA)) (a1 : List (El zA)) : zFs a0 a1 = bif ((a0.length : Int) != (a1.length : Int)) then (false, ()) else (bif ze (fun i x => bif (!(zCp x (zB zA a1 (i : Int))).1) then false else true) 0 a0 then (true, ()) else (false, ())) := by
 simp only [zFs, zHl, zR, zi, zy, zQ]
 rw [zQO, z6] <;> rfl
def zLm (a0 : El zO) (a1 : El zO) : Tr (Bool × Unit) := bif (!(zFG a0.1 a1.1).1) then (.v (false, ())) else (bif (!(a0.2.1.toList == a1.2.1.toList)) then (.v (false, ())) else (bif (a0.2.2.1 != a1.2.2.1) then (.v (false, ())) else (bif (a0.2.2.2.1 != a1.2.2.2.1) then (.v (false, ())) else (bif (a0.2.2.2.2.1 != a1.2.2.2.2.1) then (.v (false, ())) else (bif (!(zDP a0.2.2.2.2.2 a1.2.2.2.2.2).1) then (.v (false, ())) else (.v (true, ())))))))
def zEI a0 a1 := (zLm a0 a1).val
@[reducible] def zda : FnD := ⟨[va zO, va zO], [vd .bool], true, fun _ => none, fun a => zEI a.1 a.2.1⟩
def zeC : Con Tryz.prog := yE mo g0 [zKx, zNQ] [] 205 zda (fn := Tryz.f205) trivial (fun a _ _ => yX (t' := zLm a.1 a.2.1) (by kernel_rfl) (by simp [zLm]) rfl)
@[reducible] def zBH : LB := ⟨[], ⟨27, [], [(0, vd (.lst zO)), (1, vd (.lst zO)), (5, vd .int)]⟩, ⟨27, [], [(4, vd .bool)]⟩, 0, fun x => (fun (l0 : List (El zO)) (l1 : List (El zO)) (n5 : Int) => (bif decide (n5 < (l0.length : Int)) then (.ix n5 l0 (.ix n5 l1 (bif (!(zEI (zB zO l0 n5) (zB zO l1 n5)).1) then (.v (.ret (false, ()))) else (.ik (n5 + (1 : Int)) (.v (.go (l0, l1, (n5 + (1 : Int)), ()))))))) else (.v (.brk (l0, l1, n5, ()))) : Tr (St _ _))) x.1 x.2.1 x.2.2.1⟩
theorem zTB (l0 : List (El zO)) (l1 : List (El zO)) : LB.run zBH (l0, l1, (0 : Int), ()) = bif ze (fun i x => bif (!(zEI x (zB zO l1 (i : Int))).1) then false else true) 0 l0 then .brk (l0, l1, (l0.length : Int), ()) else .ret (false, ()) := LB.run_all (l := zBH) (fun i => (l0, l1, (i : Int), ())) (fun i x h => by
  simp only [LB.b, zBH, zi, zQ, zR, cond_true, yQ h, zG h]
  cases (!(zEI x (zB zO l1 (i : Int))).1) <;> rfl) (by simp only [LB.b, zBH, xo]; rfl)
theorem zSt : SF zBH fun x : List (El zO) × List (El zO) × Int × Unit => (0 ≤ x.2.2.1 ∧ (x.1.length : Int) ≤ (x.2.1.length : Int), (x.1.length : Int) - x.2.2.1) := x5 (by
 rintro ⟨(l0 : List (El zO)), (l1 : List (El zO)), (n5 : Int), ⟨⟩⟩ hI hw
 have _ : (l0.length : Int) ≤ 16777216 := zE (hw.1.1)
 simp [zBH] at hI ⊢
 repeat' first | intro _ | apply And.intro
 all_goals omega)
def zJ1 (a0 : List (El zO)) (a1 : List (El zO)) : Tr (Bool × Unit) := bif ((a0.length : Int) != (a1.length : Int)) then (.v (false, ())) else (.lp zBH (a0, a1, (0 : Int), ()) (fun r2 => .v (r2.1, ())) (fun _ => .v (true, ())))
def zHD a0 a1 := (zJ1 a0 a1).val
@[reducible] def zPx : FnD := ⟨[vd (.lst zO), vd (.lst zO)], [vd .bool], true, fun _ => none, fun a => zHD a.1 a.2.1⟩
theorem zZY (a0 : List (El zO)) (a1 : List (El zO)) (_ : xH zPx.args (a0, a1, ())) : (zJ1 a0 a1).ok := by
 unfold zJ1
 refine zo (fun _ => trivial) (fun h1 => ?_)
 replace h1 := zAg h1
 refine zJ ?_ ?_
 ·exact zSt _ ⟨by (dsimp only <;> omega), by (dsimp only <;> omega)⟩
 ·simp
def zcD : Con Tryz.prog := yE mo g0 [zeC] [zBH] 147 zPx (fn := Tryz.f147) ⟨lk, trivial⟩ (fun a hw _ => yX (by kernel_rfl) (zZY a.1 a.2.1 hw) rfl)
theorem zZh (a0 : List (El zO)) (a1 : List (El zO)) : zHD a0 a1 = bif ((a0.length : Int) != (a1.length : Int)) then (false, ()) else (bif ze (fun i x => bif (!(zEI x (zB zO a1 (i : Int))).1) then false else true) 0 a0 then (true, ()) else (false, ())) := by
 simp only [zHD, zJ1, zR, zi, zy, zQ]
 rw [zTB, z6] <;> rfl
def zJP (a0 : El zD) (a1 : El zD) : Tr (Bool × Unit) := bif (a0.1 != a1.1) then (.v (false, ())) else (bif (!(zFG a0.2 a1.2).1) then (.v (false, ())) else (.v (true, ())))
def zCj a0 a1 := (zJP a0 a1).val
@[reducible] def zcZ : FnD := ⟨[va zD, va zD], [vd .bool], true, fun _ => none, fun a => zCj a.1 a.2.1⟩
def zaT : Con Tryz.prog := yE mo g0 [zKx] [] 206 zcZ (fn := Tryz.f206) trivial (fun a _ _ => yX (t' := zJP a.1 a.2.1) (by kernel_rfl) (by simp [zJP]) rfl)
@[reducible] def zAj : LB := ⟨[], ⟨27, [], [(0, vd (.lst zD)), (1, vd (.lst zD)), (5, vd .int)]⟩, ⟨27, [], [(4, vd .bool)]⟩, 0, fun x => (fun (l0 : List (El zD)) (l1 : List (El zD)) (n5 : Int) => (bif decide (n5 < (l0.length : Int)) then (.ix n5 l0 (.ix n5 l1 (bif (!(zCj (zB zD l0 n5) (zB zD l1 n5)).1) then (.v (.ret (false, ()))) else (.ik (n5 + (1 : Int)) (.v (.go (l0, l1, (n5 + (1 : Int)), ()))))))) else (.v (.brk (l0, l1, n5, ()))) : Tr (St _ _))) x.1 x.2.1 x.2.2.1⟩
theorem zQs (l0 : List (El zD)) (l1 : List (El zD)) : LB.run zAj (l0, l1, (0 : Int), ()) = bif ze (fun i x => bif (!(zCj x (zB zD l1 (i : Int))).1) then false else true) 0 l0 then .brk (l0, l1, (l0.length : Int), ()) else .ret (false, ()) := LB.run_all (l := zAj) (fun i => (l0, l1, (i : Int), ())) (fun i x h => by
  simp only [LB.b, zAj, zi, zQ, zR, cond_true, yQ h, zG h]
  cases (!(zCj x (zB zD l1 (i : Int))).1) <;> rfl) (by simp only [LB.b, zAj, xo]; rfl)
theorem zQW : SF zAj fun x : List (El zD) × List (El zD) × Int × Unit => (0 ≤ x.2.2.1 ∧ (x.1.length : Int) ≤ (x.2.1.length : Int), (x.1.length : Int) - x.2.2.1) := x5 (by
 rintro ⟨(l0 : List (El zD)), (l1 : List (El zD)), (n5 : Int), ⟨⟩⟩ hI hw
 have _ : (l0.length : Int) ≤ 16777216 := zE (hw.1.1)
 simp [zAj] at hI ⊢
 repeat' first | intro _ | apply And.intro
 all_goals omega)
def zHd (a0 : List (El zD)) (a1 : List (El zD)) : Tr (Bool × Unit) := bif ((a0.length : Int) != (a1.length : Int)) then (.v (false, ())) else (.lp zAj (a0, a1, (0 : Int), ()) (fun r2 => .v (r2.1, ())) (fun _ => .v (true, ())))
def zFj a0 a1 := (zHd a0 a1).val
@[reducible] def zPE : FnD := ⟨[vd (.lst zD), vd (.lst zD)], [vd .bool], true, fun _ => none, fun a => zFj a.1 a.2.1⟩
theorem zXm (a0 : List (El zD)) (a1 : List (El zD)) (_ : xH zPE.args (a0, a1, ())) : (zHd a0 a1).ok := by
 unfold zHd
 refine zo (fun _ => trivial) (fun h1 => ?_)
 replace h1 := zAg h1
 refine zJ ?_ ?_
 ·exact zQW _ ⟨by (dsimp only <;> omega), by (dsimp only <;> omega)⟩
 ·simp
def zZL : Con Tryz.prog := yE mo g0 [zaT] [zAj] 148 zPE (fn := Tryz.f148) ⟨lk, trivial⟩ (fun a hw _ => yX (by kernel_rfl) (zXm a.1 a.2.1 hw) rfl)
theorem zY6 (a0 : List (El zD)) (a1 : List (El zD)) : zFj a0 a1 = bif ((a0.length : Int) != (a1.length : Int)) then (false, ()) else (bif ze (fun i x => bif (!(zCj x (zB zD a1 (i : Int))).1) then false else true) 0 a0 then (true, ()) else (false, ())) := by
 simp only [zFj, zHd, zR, zi, zy, zQ]
 rw [zQs, z6] <;> rfl
def zL4 (a0 : El zU) (a1 : El zU) : Tr (Bool × Unit) := bif (!(a0.1.toList == a1.1.toList)) then (.v (false, ())) else (bif (!(zFG a0.2 a1.2).1) then (.v (false, ())) else (.v (true, ())))
def zEE a0 a1 := (zL4 a0 a1).val
@[reducible] def zfh : FnD := ⟨[va zU, va zU], [vd .bool], true, fun _ => none, fun a => zEE a.1 a.2.1⟩
def zgu : Con Tryz.prog := yE mo g0 [zKx] [] 207 zfh (fn := Tryz.f207) trivial (fun a _ _ => yX (t' := zL4 a.1 a.2.1) (by kernel_rfl) (by simp [zL4]) rfl)
@[reducible] def zBV : LB := ⟨[], ⟨27, [], [(0, vd (.lst zU)), (1, vd (.lst zU)), (5, vd .int)]⟩, ⟨27, [], [(4, vd .bool)]⟩, 0, fun x => (fun (l0 : List (El zU)) (l1 : List (El zU)) (n5 : Int) => (bif decide (n5 < (l0.length : Int)) then (.ix n5 l0 (.ix n5 l1 (bif (!(zEE (zB zU l0 n5) (zB zU l1 n5)).1) then (.v (.ret (false, ()))) else (.ik (n5 + (1 : Int)) (.v (.go (l0, l1, (n5 + (1 : Int)), ()))))))) else (.v (.brk (l0, l1, n5, ()))) : Tr (St _ _))) x.1 x.2.1 x.2.2.1⟩
theorem zSK (l0 : List (El zU)) (l1 : List (El zU)) : LB.run zBV (l0, l1, (0 : Int), ()) = bif ze (fun i x => bif (!(zEE x (zB zU l1 (i : Int))).1) then false else true) 0 l0 then .brk (l0, l1, (l0.length : Int), ()) else .ret (false, ()) := LB.run_all (l := zBV) (fun i => (l0, l1, (i : Int), ())) (fun i x h => by
  simp only [LB.b, zBV, zi, zQ, zR, cond_true, yQ h, zG h]
  cases (!(zEE x (zB zU l1 (i : Int))).1) <;> rfl) (by simp only [LB.b, zBV, xo]; rfl)
theorem zSu : SF zBV fun x : List (El zU) × List (El zU) × Int × Unit => (0 ≤ x.2.2.1 ∧ (x.1.length : Int) ≤ (x.2.1.length : Int), (x.1.length : Int) - x.2.2.1) := x5 (by
 rintro ⟨(l0 : List (El zU)), (l1 : List (El zU)), (n5 : Int), ⟨⟩⟩ hI hw
 have _ : (l0.length : Int) ≤ 16777216 := zE (hw.1.1)
 simp [zBV] at hI ⊢
 repeat' first | intro _ | apply And.intro
 all_goals omega)
def zJS (a0 : List (El zU)) (a1 : List (El zU)) : Tr (Bool × Unit) := bif ((a0.length : Int) != (a1.length : Int)) then (.v (false, ())) else (.lp zBV (a0, a1, (0 : Int), ()) (fun r2 => .v (r2.1, ())) (fun _ => .v (true, ())))
def zHB a0 a1 := (zJS a0 a1).val
@[reducible] def zPm : FnD := ⟨[vd (.lst zU), vd (.lst zU)], [vd .bool], true, fun _ => none, fun a => zHB a.1 a.2.1⟩
theorem zZR (a0 : List (El zU)) (a1 : List (El zU)) (_ : xH zPm.args (a0, a1, ())) : (zJS a0 a1).ok := by
 unfold zJS
 refine zo (fun _ => trivial) (fun h1 => ?_)
 replace h1 := zAg h1
 refine zJ ?_ ?_
 ·exact zSu _ ⟨by (dsimp only <;> omega), by (dsimp only <;> omega)⟩
 ·simp
def zbe : Con Tryz.prog := yE mo g0 [zgu] [zBV] 149 zPm (fn := Tryz.f149) ⟨lk, trivial⟩ (fun a hw _ => yX (by kernel_rfl) (zZR a.1 a.2.1 hw) rfl)
theorem zZ0 (a0 : List (El zU)) (a1 : List (El zU)) : zHB a0 a1 = bif ((a0.length : Int) != (a1.length : Int)) then (false, ()) else (bif ze (fun i x => bif (!(zEE x (zB zU a1 (i : Int))).1) then false else true) 0 a0 then (true, ()) else (false, ())) := by
 simp only [zHB, zJS, zR, zi, zy, zQ]
 rw [zSK, z6] <;> rfl
def zLt (a0 : El ye) (a1 : El ye) : Tr (Bool × Unit) := bif (!(zKD a0.1 a1.1).1) then (.v (false, ())) else (bif (!(zFs a0.2.1 a1.2.1).1) then (.v (false, ())) else (bif (!(zHD a0.2.2.1 a1.2.2.1).1) then (.v (false, ())) else (bif (!(zFj a0.2.2.2.1 a1.2.2.2.1).1) then (.v (false, ())) else (bif (!(zHB a0.2.2.2.2.1 a1.2.2.2.2.1).1) then (.v (false, ())) else (bif (a0.2.2.2.2.2.1 != a1.2.2.2.2.2.1) then (.v (false, ())) else (bif (a0.2.2.2.2.2.2 != a1.2.2.2.2.2.2) then (.v (false, ())) else (.v (true, ()))))))))
def zLy a0 a1 := (zLt a0 a1).val
@[reducible] def zgX : FnD := ⟨[va ye, va ye], [vd .bool], true, fun _ => none, fun a => zLy a.1 a.2.1⟩
def zfI : Con Tryz.prog := yE mo g0 [zce, zYX, zcD, zZL, zbe] [] 89 zgX (fn := Tryz.f89) trivial (fun a _ _ => yX (t' := zLt a.1 a.2.1) (by kernel_rfl) (by simp [zLt]) rfl)
def zLQ (a0 : El zg) (a1 : El zg) : Tr (Bool × Unit) := bif (!(a0.1.toList == a1.1.toList)) then (.v (false, ())) else (bif (!(a0.2.1.toList == a1.2.1.toList)) then (.v (false, ())) else (bif (!(zLy a0.2.2 a1.2.2).1) then (.v (false, ())) else (.v (true, ()))))
def zEN a0 a1 := (zLQ a0 a1).val
@[reducible] def zen : FnD := ⟨[va zg, va zg], [vd .bool], true, fun _ => none, fun a => zEN a.1 a.2.1⟩
def zeW : Con Tryz.prog := yE mo g0 [zfI] [] 49 zen (fn := Tryz.f49) trivial (fun a _ _ => yX (t' := zLQ a.1 a.2.1) (by kernel_rfl) (by simp [zLQ]) rfl)
@[reducible] def zBI : LB := ⟨[], ⟨27, [], [(0, vd (.lst zg)), (1, vd (.lst zg)), (5, vd .int)]⟩, ⟨27, [], [(4, vd .bool)]⟩, 0, fun x => (fun (l0 : List (El zg)) (l1 : List (El zg)) (n5 : Int) => (bif decide (n5 < (l0.length : Int)) then (.ix n5 l0 (.ix n5 l1 (bif (!(zEN (zB zg l0 n5) (zB zg l1 n5)).1) then (.v (.ret (false, ()))) else (.ik (n5 + (1 : Int)) (.v (.go (l0, l1, (n5 + (1 : Int)), ()))))))) else (.v (.brk (l0, l1, n5, ()))) : Tr (St _ _))) x.1 x.2.1 x.2.2.1⟩
theorem zSa (l0 : List (El zg)) (l1 : List (El zg)) : LB.run zBI (l0, l1, (0 : Int), ()) = bif ze (fun i x => bif (!(zEN x (zB zg l1 (i : Int))).1) then false else true) 0 l0 then .brk (l0, l1, (l0.length : Int), ()) else .ret (false, ()) := LB.run_all (l := zBI) (fun i => (l0, l1, (i : Int), ())) (fun i x h => by
  simp only [LB.b, zBI, zi, zQ, zR, cond_true, yQ h, zG h]
  cases (!(zEN x (zB zg l1 (i : Int))).1) <;> rfl) (by simp only [LB.b, zBI, xo]; rfl)
theorem zSP : SF zBI fun x : List (El zg) × List (El zg) × Int × Unit => (0 ≤ x.2.2.1 ∧ (x.1.length : Int) ≤ (x.2.1.length : Int), (x.1.length : Int) - x.2.2.1) := x5 (by
 rintro ⟨(l0 : List (El zg)), (l1 : List (El zg)), (n5 : Int), ⟨⟩⟩ hI hw
 have _ : (l0.length : Int) ≤ 16777216 := zE (hw.1.1)
 simp [zBI] at hI ⊢
 repeat' first | intro _ | apply And.intro
 all_goals omega)
def zJo (a0 : List (El zg)) (a1 : List (El zg)) : Tr (Bool × Unit) := bif ((a0.length : Int) != (a1.length : Int)) then (.v (false, ())) else (.lp zBI (a0, a1, (0 : Int), ()) (fun r2 => .v (r2.1, ())) (fun _ => .v (true, ())))
def zG1 a0 a1 := (zJo a0 a1).val
@[reducible] def zPl : FnD := ⟨[vd (.lst zg), vd (.lst zg)], [vd .bool], true, fun _ => none, fun a => zG1 a.1 a.2.1⟩
theorem zZf (a0 : List (El zg)) (a1 : List (El zg)) (_ : xH zPl.args (a0, a1, ())) : (zJo a0 a1).ok := by
 unfold zJo
 refine zo (fun _ => trivial) (fun h1 => ?_)
 replace h1 := zAg h1
 refine zJ ?_ ?_
 ·exact zSP _ ⟨by (dsimp only <;> omega), by (dsimp only <;> omega)⟩
 ·simp
def zb3 : Con Tryz.prog := yE mo g0 [zeW] [zBI] 24 zPl (fn := Tryz.f24) ⟨lk, trivial⟩ (fun a hw _ => yX (by kernel_rfl) (zZf a.1 a.2.1 hw) rfl)
theorem zbZ (a0 : List (El zg)) (a1 : List (El zg)) : zG1 a0 a1 = bif ((a0.length : Int) != (a1.length : Int)) then (false, ()) else (bif ze (fun i x => bif (!(zEN x (zB zg a1 (i : Int))).1) then false else true) 0 a0 then (true, ()) else (false, ())) := by
 simp only [zG1, zJo, zR, zi, zy, zQ]
 rw [zSa, z6] <;> rfl
def zMB (a0 : El zp) (a1 : El zp) : Tr (Bool × Unit) := bif (!(zIY a0.1 a1.1).1) then (.v (false, ())) else (bif (!(zG1 a0.2.1 a1.2.1).1) then (.v (false, ())) else (bif (a0.2.2.1 != a1.2.2.1) then (.v (false, ())) else (bif (a0.2.2.2 != a1.2.2.2) then (.v (false, ())) else (.v (true, ())))))
def zOX a0 a1 := (zMB a0 a1).val
@[reducible] def zOV : FnD := ⟨[va zp, va zp], [vd .bool], true, fun _ => none, fun a => zOX a.1 a.2.1⟩
def zfC : Con Tryz.prog := yE mo g0 [zgA, zb3] [] 10 zOV (fn := Tryz.f10) trivial (fun a _ _ => yX (t' := zMB a.1 a.2.1) (by kernel_rfl) (by simp [zMB]) rfl)
end
end Go.Proofs.YtipbfgknaihifaaGreat

namespace Go.Proofs.YtipbfgknaihifaaGreat
open Go.RowKit
theorem zUE {α β : Type} (f : α → β) : ∀ (L : List α) (k : Nat) (s : List β), k + L.length ≤ s.length → zc (fun i x s => List.set s (Int.toNat (i : Int)) (f x)) k L s = s.take k ++ L.map f ++ s.drop (k + L.length)
 | [], k, s, _ => by simp [zc]
 | x :: L, k, s, h => by
  simp only [List.length_cons] at h
  have e : Int.toNat ((k : Nat) : Int) = k := Int.toNat_natCast k
  simp only [zc]
  rw [e]
  rw [zUE f L (k + 1) (s.set k (f x)) (by simp; omega)]
  have h1 : (s.set k (f x)).take (k + 1) = s.take k ++ [f x] := by
   rw [List.take_add_one, List.take_set_of_le (Nat.le_refl k), List.getElem?_set_self (by omega)]; rfl
  have h2 : (s.set k (f x)).drop (k + 1 + L.length) = s.drop (k + (L.length + 1)) := by
   rw [List.drop_set_of_lt (by omega)]; congr 1; omega
  rw [h1, h2]; simp
theorem y9 {α : Type} (L : List α) (z : α) : zc (fun i x s => List.set s (Int.toNat (i : Int)) x) 0 L (List.replicate (Int.toNat (L.length : Int)) z) = L := by
 have := zUE (fun x : α => x) L 0 (List.replicate (Int.toNat (L.length : Int)) z) (by simp)
 rw [this]; simp
theorem vM {t : Ty} {q : El t → El t → Bool} (h : ∀ x, q x x = true) (l : List (El t)) : ze (fun i x => bif (!(q x (zB t l (i : Int)))) then false else true) 0 l = true := by
 rw [zw]
 intro i x hx
 rw [Nat.zero_add, zG hx, h x]; rfl
theorem xc (a : _) : zFl a = (a, ()) := by
 rfl
theorem xz (a : _) : zDo a = (a, ()) := by
 simp only [zDo, xc]
theorem xt (a : _) : zIe a = (a, ()) := by
 rw [zdw]
 simp only [xz]
 rw [y9]
theorem vi (a : _) : zIc a = (a, ()) := by
 simp only [zIc, xt]
theorem x7 (a : _) : zIG a = (a, ()) := by
 rw [zdu]
 simp only [vi]
 rw [y9]
theorem vR (a : _) : zGT a = (a, ()) := by
 simp only [zGT, xz]
theorem xx (a : _) : zG4 a = (a, ()) := by
 rw [zcA]
 simp only [vR]
 rw [y9]
theorem vm (a : _) : zGa a = (a, ()) := by
 simp only [zGa, xz]
theorem vE (a : _) : zHS a = (a, ()) := by
 rw [zcb]
 simp only [vm]
 rw [y9]
theorem zBA (a : _) : zIV a = (a, ()) := by
 simp only [zIV, vE]
theorem zAI (a : _) : zIo a = (a, ()) := by
 rw [zgZ]
 simp only [zBA]
 rw [y9]
theorem zAv (a : _) : zGX a = (a, ()) := by
 simp only [zGX, x7, xx, zAI]
theorem v7 (a : _) : zGy a = (a, ()) := by
 rw [zcS]
 simp only [zAv]
 rw [y9]
theorem zDY (a : _) : zIP a = (a, ()) := by
 simp only [zIP, v7]
theorem zBr (a : _) : zIS a = (a, ()) := by
 rw [zdp]
 simp only [zDY]
 rw [y9]
theorem zDE (a : _) : zIl a = (a, ()) := by
 rw [zdT]
 simp only [xc]
 rw [y9]
theorem zAG (a : _) : zE4 a = (a, ()) := by
 simp only [zE4, zDE]
theorem zDu (a : _) : zGd a = (a, ()) := by
 simp only [zGd, zAG]
theorem zCf (a : _) : zHV a = (a, ()) := by
 rw [zZ7]
 simp only [zDu]
 rw [y9]
theorem zDR (a : _) : zIy a = (a, ()) := by
 simp only [zIy, zCf]
theorem zDv (a : _) : zIW a = (a, ()) := by
 rw [zgv]
 rw [y9]
theorem zFR (a : _) : zGe a = (a, ()) := by
 simp only [zGe, xc]
theorem zEC (a : _) : zHP a = (a, ()) := by
 rw [zb8]
 simp only [zFR]
 rw [y9]
theorem zFw (a : _) : zFH a = (a, ()) := by
 simp only [zFH, zDv, zEC]
theorem zES (a : _) : zFo a = (a, ()) := by
 rw [zZD]
 simp only [zFw]
 rw [y9]
theorem zJg (a : _) : zGb a = (a, ()) := by
 simp only [zGb, xc, zAG]
theorem zHx (a : _) : zGq a = (a, ()) := by
 rw [zbP]
 simp only [zJg]
 rw [y9]
theorem zKb (a : _) : zFT a = (a, ()) := by
 simp only [zFT, zAG]
theorem zJz (a : _) : zF2 a = (a, ()) := by
 rw [zY7]
 simp only [zKb]
 rw [y9]
theorem zQP (a : _) : zGY a = (a, ()) := by
 simp only [zGY, zAG]
theorem zOv (a : _) : zGi a = (a, ()) := by
 rw [zah]
 simp only [zQP]
 rw [y9]
theorem zRp (a : _) : zLk a = (a, ()) := by
 simp only [zLk, zDR, zES, zHx, zJz, zOv]
theorem zZz (a : _) : zGU a = (a, ()) := by
 simp only [zGU, zRp]
theorem zZP (a : _) : zGp a = (a, ()) := by
 rw [zb5]
 simp only [zZz]
 rw [y9]
theorem zZr (a : _) : zOf a = (a, ()) := by
 simp only [zOf, zBr, zZP]
theorem zHy (a : _) : zDP a a = (true, ()) := by
 simp [zDP, zN7, zR, ]
theorem zKg (a : _) : zCA a a = (true, ()) := by
 simp [zCA, zNc, zR, zHy]
theorem zWo (a : _) : zIh a a = (true, ()) := by
 rw [zgF]
 rw [vM (q := fun x y => (zCA x y).1) (fun x => by rw [zKg])]
 simp
theorem zXg (a : _) : zF3 a a = (true, ()) := by
 simp [zF3, zM7, zR, zWo]
theorem zVp (a : _) : zIa a a = (true, ()) := by
 rw [zgl]
 rw [vM (q := fun x y => (zF3 x y).1) (fun x => by rw [zXg])]
 simp
theorem zVO (a : _) : zEM a a = (true, ()) := by
 simp [zEM, zLP, zR, zKg]
theorem zR5 (a : _) : zHU a a = (true, ()) := by
 rw [zay]
 rw [vM (q := fun x y => (zEM x y).1) (fun x => by rw [zVO])]
 simp
theorem zUw (a : _) : zEP a a = (true, ()) := by
 simp [zEP, zL6, zR, zKg]
theorem zTU (a : _) : zHJ a a = (true, ()) := by
 rw [zcJ]
 rw [vM (q := fun x y => (zEP x y).1) (fun x => by rw [zUw])]
 simp
theorem zXQ (a : _) : zFx a a = (true, ()) := by
 simp [zFx, zNC, zR, zTU]
theorem zU9 (a : _) : zIR a a = (true, ()) := by
 rw [zdR]
 rw [vM (q := fun x y => (zFx x y).1) (fun x => by rw [zXQ])]
 simp
theorem zVZ (a : _) : zD2 a a = (true, ()) := by
 simp [zD2, zLi, zR, zVp, zR5, zU9]
theorem zTX (a : _) : zGz a a = (true, ()) := by
 rw [zZd]
 rw [vM (q := fun x y => (zD2 x y).1) (fun x => by rw [zVZ])]
 simp
theorem zYP (a : _) : zFp a a = (true, ()) := by
 simp [zFp, zM4, zR, zTX]
theorem zVH (a : _) : zIY a a = (true, ()) := by
 rw [zee]
 rw [vM (q := fun x y => (zFp x y).1) (fun x => by rw [zYP])]
 simp
theorem zWn (a : _) : zIs a a = (true, ()) := by
 rw [zdk]
 rw [vM (q := fun x y => (zDP x y).1) (fun x => by rw [zHy])]
 simp
theorem zGH (a : _) : zFG a a = (true, ()) := by
 simp [zFG, zK4, zR, zWn]
theorem zWk (a : _) : zEG a a = (true, ()) := by
 simp [zEG, zLg, zR, zGH]
theorem zSC (a : _) : zHA a a = (true, ()) := by
 rw [za9]
 rw [vM (q := fun x y => (zEG x y).1) (fun x => by rw [zWk])]
 simp
theorem zS0 (a : _) : zKD a a = (true, ()) := by
 simp [zKD, zJn, zR, zSC]
theorem zWg (a : _) : zIr a a = (true, ()) := by
 rw [zex]
 have : ze (fun i x => bif (x != (zB .int a (i : Int))) then false else true) 0 a = true := by
  rw [zw]; intro i x hx; rw [Nat.zero_add, zG hx]; simp
 rw [this]; simp
theorem zVd (a : _) : zEK a a = (true, ()) := by
 simp [zEK, zK2, zR, zHy]
theorem zSv (a : _) : zGl a a = (true, ()) := by
 rw [zZv]
 rw [vM (q := fun x y => (zEK x y).1) (fun x => by rw [zVd])]
 simp
theorem zS7 (a : _) : zCp a a = (true, ()) := by
 simp [zCp, zJK, zR, zWg, zSv]
theorem zRv (a : _) : zFs a a = (true, ()) := by
 rw [zXw]
 rw [vM (q := fun x y => (zCp x y).1) (fun x => by rw [zS7])]
 simp
theorem zWX (a : _) : zEI a a = (true, ()) := by
 simp [zEI, zLm, zR, zHy, zGH]
theorem zTa (a : _) : zHD a a = (true, ()) := by
 rw [zZh]
 rw [vM (q := fun x y => (zEI x y).1) (fun x => by rw [zWX])]
 simp
theorem zTK (a : _) : zCj a a = (true, ()) := by
 simp [zCj, zJP, zR, zGH]
theorem zRY (a : _) : zFj a a = (true, ()) := by
 rw [zY6]
 rw [vM (q := fun x y => (zCj x y).1) (fun x => by rw [zTK])]
 simp
theorem zU6 (a : _) : zEE a a = (true, ()) := by
 simp [zEE, zL4, zR, zGH]
theorem zR9 (a : _) : zHB a a = (true, ()) := by
 rw [zZ0]
 rw [vM (q := fun x y => (zEE x y).1) (fun x => by rw [zU6])]
 simp
theorem zWq (a : _) : zLy a a = (true, ()) := by
 simp [zLy, zLt, zR, zS0, zRv, zTa, zRY, zR9]
theorem zVA (a : _) : zEN a a = (true, ()) := by
 simp [zEN, zLQ, zR, zWq]
theorem zS4 (a : _) : zG1 a a = (true, ()) := by
 rw [zbZ]
 rw [vM (q := fun x y => (zEN x y).1) (fun x => by rw [zVA])]
 simp
theorem zVE (a : _) : zOX a a = (true, ()) := by
 simp [zOX, zMB, zR, zVH, zS4]
end Go.Proofs.YtipbfgknaihifaaGreat
namespace Go.Proofs.YtipbfgknaihifaaGreat
open Go.RowKit
theorem b1 {x y : Bool × Unit} (h : x.1 = true ↔ y.1 = true) : x = y := by
 obtain ⟨x, ⟨⟩⟩ := x
 obtain ⟨y, ⟨⟩⟩ := y
 have := Bool.eq_iff_iff.2 h
 simp only at this; rw [this]
theorem ct {c x y : Bool} : (bif c then x else y) = true ↔ (c = true ∧ x = true) ∨ (c = false ∧ y = true) := by cases c <;> simp
theorem zAU (a b c : Int) : z3 a b c = yB a b c := rfl
theorem zRk (a : Int) : zFF a = ((yB a 0 1000000000).1, ()) := by unfold zFF; rw [zAU]
theorem zVJ (c : Int) : xg c = yx c := by
 simp only [xg, zFb, yx, zHp, zG2, zJy, zMa, zI1, yB, zJ3, zi, zQ, zR]
theorem zj4 (c : Int) : zBk c = zDy c := by
 simp only [zBk, zI3, zDy, zI7, yB, zJ3, zi, zQ, zR]
theorem zkM (c : Int) : zG2 c = yB c 97 122 := rfl
theorem zdK {a b c : Int} : (yB a b c).1 = true ↔ b ≤ a ∧ a ≤ c := by
 simp only [yB, zJ3, zi, zR]
 simp only [z8, ct, Bool.eq_false_iff, ne_eq, decide_eq_true_eq, and_false, or_false, Bool.false_eq_true]
theorem za4 {s : ByteArray} {n : Int} : (zFC s n).1 = true ↔ (s.size : Int) ≤ n ∧ ∀ (i : Nat) (x : UInt8), s.data.toList[i]? = some x → (yx (x.toNat : Int)).1 = true := by
 rw [zfd]
 simp only [z8, ct, Bool.not_eq_true', Bool.eq_false_iff, ne_eq, decide_eq_true_eq, zw, and_true, and_false, or_false, false_or, Bool.false_eq_true, Decidable.not_not, zVJ]
 grind
theorem zjv {s : ByteArray} : (zE6 s).1 = true ↔ (s.size : Int) ≤ 20 ∧ ∀ (i : Nat) (x : UInt8), s.data.toList[i]? = some x → (yx (x.toNat : Int)).1 = true := by
 rw [zbX]
 simp only [z8, ct, Bool.not_eq_true', Bool.eq_false_iff, ne_eq, decide_eq_true_eq, zw, and_true, and_false, or_false, false_or, Bool.false_eq_true, Decidable.not_not]
 grind
theorem zko (s : ByteArray) : zFC s 20 = zE6 s := b1 (by rw [za4, zjv])
theorem zcy {s : ByteArray} (h : 0 < s.size) : s.data.toList[0]? = some (bt s 0) := by
 have : s.data.toList[0]? = some (s.data.toList[0]'h) := List.getElem?_eq_getElem h
 have := zUZ (i := 0) this
 rw [List.getElem?_eq_getElem h]
 exact congrArg some this.symm
theorem zMl (s : ByteArray) : xd s = yP s := b1 (by
 rw [zeI]
 simp only [xd, zK9, zi, zQ, zR]
 simp only [z8, ct, Bool.not_eq_true', Bool.eq_false_iff, ne_eq, beq_iff_eq, decide_eq_true_eq, zw, Nat.zero_add, and_true, and_false, or_false, false_or, Bool.false_eq_true, Decidable.not_not, za4, zkM, zdK]
 have h0 := zcy (s := s)
 have : ((0:Nat):Int) = 0 := rfl
 have h2 : ∀ (i : Nat) (x : UInt8), s.data.toList[i]? = some x → i < s.size := fun i x h => (List.getElem?_eq_some_iff.1 h).1
 grind)
theorem zhM (v : El zK) : zB3 v = zEk v := b1 (by
 simp only [zB3, zNM, zEk, zNf, zi, zR]
 simp only [z8, ct, Bool.eq_false_iff, ne_eq, beq_iff_eq, and_false, or_false, Bool.false_eq_true, zAU, zko]
 grind)
theorem zmy (s : ByteArray) : zKa s = zGj s := b1 (by
 rw [zZW, zhd]
 simp only [z8, ct, Bool.not_eq_true', Bool.eq_false_iff, ne_eq, beq_iff_eq, decide_eq_true_eq, zw, Nat.zero_add, and_true, and_false, or_false, false_or, Bool.false_eq_true, Decidable.not_not, zVJ, zj4, zdK]
 have h0 := zcy (s := s)
 have h2 : ∀ (i : Nat) (x : UInt8), s.data.toList[i]? = some x → i < s.size := fun i x h => (List.getElem?_eq_some_iff.1 h).1
 have : ((0:Nat):Int) = 0 := rfl
 grind)
theorem zlF (a : El zj) : zFk a = zDh a := b1 (by
 simp only [zFk, zNm, zDh, zNo, zi, zR]
 simp only [z8, ct, Bool.eq_false_iff, ne_eq, Bool.and_eq_true, beq_iff_eq, and_true, and_false, or_false, Bool.false_eq_true, zmy, zhM]
 grind)
theorem zmg (p : El zI) : zDn p = zAi p := b1 (by
 rw [zhv, zYK]
 simp only [z8, ct, Bool.not_eq_true', Bool.eq_false_iff, ne_eq, decide_eq_true_eq, zw, and_true, and_false, or_false, false_or, Bool.false_eq_true, Decidable.not_not, zMl, zlF]
 grind)
theorem zhz (a : El zj) : zCK a = zBg a := b1 (by
 simp only [zCK, zL5, zBg, zG8, zi, zR]
 simp only [z8, ct, Bool.eq_false_iff, ne_eq, bne_iff_ne, and_false, or_false, Bool.false_eq_true, Decidable.not_not, zlF]
 grind)
theorem zlg (a : El zP) : zFV a = zE3 a := b1 (by
 simp only [zFV, zMC, zE3, zK8, zi, zR]
 simp only [z8, ct, Bool.eq_false_iff, ne_eq, bne_iff_ne, and_false, or_false, Bool.false_eq_true, Decidable.not_not, zhz, zAU]
 simp only [zBg, zG8, zi, zR]
 simp only [z8, ct, Bool.eq_false_iff, ne_eq, bne_iff_ne, and_false, or_false, Bool.false_eq_true]
 grind)
theorem zld (a : El zq) : zE9 a = zE5 a := b1 (by
 simp only [zE9, zLj, zE5, zKv, zi, zR]
 simp only [z8, ct, Bool.eq_false_iff, ne_eq, Bool.and_eq_true, beq_iff_eq, and_true, and_false, or_false, Bool.false_eq_true, zhz])
theorem zlS {a : El z5} : (zCH a).1 = true ↔ (yP a.2.1).1 = true ∧ (zAB a.2.2.1).1 = true := by
 rw [zgj, zeL]
 simp only [z8, ct, Bool.not_eq_true', Bool.eq_false_iff, ne_eq, decide_eq_true_eq, zw, and_true, and_false, or_false, false_or, Bool.false_eq_true, Decidable.not_not, zMl, zld]
 grind
theorem zjE (s : ByteArray) : zGV s = zG0 s := b1 (by
 simp only [zGV, zLL, zG0, zHI, zi, zR]
 simp only [z8, ct, Bool.eq_false_iff, ne_eq, beq_iff_eq, and_true, zMl])
theorem zmp (a : El z5) : zG6 a = zHX a := b1 (by
 simp only [zG6, zNu, zHX, zND, zi, zR]
 simp only [zi, zR, z8, ct, Bool.eq_false_iff, ne_eq, beq_iff_eq, and_true, and_false, or_false, false_or, Bool.false_eq_true, zjE, zlS, zAU, zG0, zHI]
 by_cases h1 : a.1 = 1
 ·simp only [h1]; grind
 by_cases h2 : a.1 = 2
 ·simp only [h2]; grind
 by_cases h3 : a.1 = 3
 ·simp only [h3]; grind
 by_cases h4 : a.1 = 4
 ·simp only [h4]; grind
 by_cases h5 : a.1 = 5
 ·simp only [h5]; grind
 by_cases h6 : a.1 = 6
 ·simp only [h6]; grind
 grind)
end Go.Proofs.YtipbfgknaihifaaGreat
namespace Go.Proofs.YtipbfgknaihifaaGreat
open Go.RowKit
noncomputable section
theorem zVg {α : Type} {L : List α} {x : α} (h : x ∈ L) : ∃ i : Nat, L[i]? = some x := List.mem_iff_getElem?.1 h
theorem zMh {α : Type} {L : List α} {i : Nat} {x : α} (h : L[i]? = some x) : x ∈ L := List.mem_iff_getElem?.2 ⟨i, h⟩
theorem zbS {α : Type} {p : α → Bool} {k : Nat} {L : List α} : ze (fun _ x => p x) k L = true ↔ ∀ x, x ∈ L → p x = true := by
 rw [zw]
 exact ⟨fun h x hx => by obtain ⟨i, hi⟩ := zVg hx; exact h i x hi, fun h i x hi => h x (zMh hi)⟩
def zWb {α : Type} (p : α → Bool) (L : List α) : Int := zE1 (xB (fun i x => bif p x then some (i : Int) else none) 0 L) (fun r => r) (-1)
theorem zKN {α : Type} (p : α → Bool) (L : List α) : zE1 (xB (fun i x => bif p x then some ((i : Int), ()) else none) 0 L) (fun r => (r.1, ())) (-1, ()) = (zWb p L, ()) := by
 unfold zWb
 have : ∀ k, xB (fun i x => bif p x then some ((i : Int), ()) else none) k L = (xB (fun i x => bif p x then some (i : Int) else none) k L).map fun r => (r, ()) := by
  induction L with
  | nil => intro k; rfl
  | cons x L ih => intro k; simp only [xB]; cases p x with
   | true => rfl
   | false => exact ih (k + 1)
 rw [this]
 cases xB (fun i x => bif p x then some (i : Int) else none) 0 L <;> rfl
theorem zXM {α : Type} (p : α → Bool) (L : List α) : (zWb p L = -1 ∧ ∀ x, x ∈ L → p x = false) ∨ ∃ (i : Nat) (x : α), zWb p L = (i : Int) ∧ L[i]? = some x ∧ p x = true ∧ ∀ (j : Nat) (y : α), j < i → L[j]? = some y → p y = false := by
 unfold zWb
 have : ∀ k, (xB (fun i x => bif p x then some (i : Int) else none) k L = none ∧ ∀ x, x ∈ L → p x = false) ∨ ∃ (i : Nat) (x : α), xB (fun i x => bif p x then some (i : Int) else none) k L = some ((k + i : Nat) : Int) ∧ L[i]? = some x ∧ p x = true ∧ ∀ (j : Nat) (y : α), j < i → L[j]? = some y → p y = false := by
  induction L with
  | nil => intro k; exact .inl ⟨rfl, fun x hx => by cases hx⟩
  | cons x L ih =>
   intro k
   simp only [xB]
   cases e : p x with
   | true => exact .inr ⟨0, x, rfl, rfl, e, fun j y hj => by omega⟩
   | false =>
    rcases ih (k + 1) with ⟨h1, h2⟩ | ⟨i, y, h1, h2, h3, h4⟩
    ·refine .inl ⟨h1, fun z hz => ?_⟩
     rcases List.mem_cons.1 hz with h | h
     ·rw [h]; exact e
     ·exact h2 z h
    ·refine .inr ⟨i + 1, y, by rw [show k + (i + 1) = k + 1 + i by omega]; exact h1, by simpa using h2, h3, fun j z hj hz => ?_⟩
     cases j with
     | zero => simp at hz; rw [← hz]; exact e
     | succ j => exact h4 j z (by omega) (by simpa using hz)
 rcases this 0 with ⟨h1, h2⟩ | ⟨i, x, h1, h2⟩
 ·rw [h1]; exact .inl ⟨rfl, h2⟩
 ·rw [h1, Nat.zero_add]; exact .inr ⟨i, x, rfl, h2⟩
theorem zUt {α : Type} {p : α → Bool} {L : List α} : zWb p L ≥ 0 ↔ ∃ x, x ∈ L ∧ p x = true := by
 rcases zXM p L with ⟨h1, h2⟩ | ⟨i, x, h1, h2, h3, h4⟩
 ·rw [h1]; constructor
  ·intro h; omega
  ·rintro ⟨x, hx, e⟩; rw [h2 x hx] at e; cases e
 ·rw [h1]; exact ⟨fun _ => ⟨x, zMh h2, h3⟩, fun _ => by omega⟩
def zAW (l : List (El .str)) (t : ByteArray) : Prop := ∃ x : ByteArray, x ∈ l ∧ x.toList = t.toList
theorem ziE {l : List (El .str)} {t : ByteArray} : (vq l t).1 = true ↔ zAW l t := by
 rw [zi5]
 simp only [z8, ct, Bool.eq_false_iff, ne_eq, beq_iff_eq, zbS, and_true, and_false, false_or, Bool.false_eq_true]
 unfold zAW
 grind
theorem zk9 {l : List (El .str)} {t : ByteArray} : (zt l t).1 = true ↔ zAW l t := by
 unfold zt
 rw [zF7]
 show decide ((zE1 (xB (fun i x => bif (t.toList == x.toList) then (some ((i : Int), ())) else none) 0 l) (fun r => (r.1, ())) ((-1 : Int), ())).1 ≥ 0) = true ↔ _
 rw [zKN (fun x : ByteArray => t.toList == x.toList), decide_eq_true_eq, zUt]
 unfold zAW
 simp only [beq_iff_eq]
 constructor <;> rintro ⟨x, h, e⟩ <;> exact ⟨x, h, e.symm⟩
theorem zlP (l : List (El .str)) (t : ByteArray) : zt l t = vq l t := b1 (by rw [zk9, ziE])
theorem zKl (t : ByteArray) : zAW [] t ↔ False := ⟨fun ⟨_, h, _⟩ => (by cases h), fun h => False.elim h⟩
theorem zh7 (l : List (El .str)) (s t : ByteArray) : zAW (l ++ [s]) t ↔ zAW l t ∨ s.toList = t.toList := by
 unfold zAW
 constructor
 ·rintro ⟨x, hx, e⟩
  rcases List.mem_append.1 hx with h | h
  ·exact .inl ⟨x, h, e⟩
  ·rw [List.mem_singleton] at h; subst h; exact .inr e
 ·rintro (⟨x, h, e⟩ | e)
  ·exact ⟨x, List.mem_append_left _ h, e⟩
  ·exact ⟨s, by simp, e⟩
def zIM (l : List (El .str)) (s : ByteArray) : List (El .str) := bif (!(vq l s).1) then l ++ [s] else l
theorem zRV (l : List (El .str)) (s : ByteArray) : zAM l s = (zIM l s, ()) := by
 unfold zIM; simp only [zAM, zHL, zi, zQ, zR]
 rw [zlP]
 cases (vq l s).1 <;> rfl
theorem zYO (l : List (El .str)) (s t : ByteArray) : zAW (zIM l s) t ↔ zAW l t ∨ s.toList = t.toList := by
 unfold zIM
 cases h : (vq l s).1 with
 | true =>
  have h1 := ziE.1 h
  show zAW l t ↔ _
  refine ⟨.inl, fun h2 => ?_⟩
  rcases h2 with h2 | h2
  ·exact h2
  ·obtain ⟨x, hx, e⟩ := h1; exact ⟨x, hx, e.trans h2⟩
 | false => exact zh7 l s t
def zIC (a : El zj) (t : ByteArray) : Prop := a.1 = (1 : Int) ∧ a.2.1.toList = t.toList
theorem zHj (args : List (El zj)) (t : ByteArray) (l : List (El .str)) : zAW (yJ l args).1 t ↔ zAW l t ∨ ∃ a, a ∈ args ∧ zIC a t := by
 rw [zR0]
 show zAW (zc _ 0 args l) t ↔ _
 generalize 0 = k
 induction args generalizing k l with
 | nil => simp [zc]
 | cons a args ih =>
  simp only [zc]
  rw [ih]
  have h2 : zAW (bif a.1 == (1 : Int) then (zAM l a.2.1).1 else l) t ↔ zAW l t ∨ zIC a t := by
   unfold zIC
   by_cases hK : a.1 = (1 : Int)
   ·rw [beq_iff_eq.2 hK, cond_true, zRV, zYO]; simp [hK]
   ·rw [beq_eq_false_iff_ne.2 hK, cond_false]; simp [hK]
  rw [h2]
  simp only [List.mem_cons, exists_eq_or_imp, or_assoc]
theorem ziz (p : El zI) (t : ByteArray) : zAW (xf p).1 t ↔ ∃ a, a ∈ p.2.1 ∧ zIC a t := by
 have h := zHj p.2.1 t []
 rw [zKl, false_or] at h
 rw [← h, zR0, ze0]
 have : (fun (_ : Nat) (x : El zj) (s : List (El .str)) => bif (x.1 == (1 : Int)) then (bif (!(vq s x.2.1).1) then (s ++ [x.2.1]) else s) else s) = fun _ x s => bif (x.1 == (1 : Int)) then (zAM s x.2.1).1 else s := by
  funext _ x s; rw [zRV]; rfl
 exact Eq.to_iff (congrArg (fun f => zAW (zc f 0 p.2.1 []) t) this)
theorem zf3 (l : List (El .str)) (t : ByteArray) (o : List (El .str)) : zAW (zc (fun _ y s => zIM s y) 0 l o) t ↔ zAW o t ∨ zAW l t := by
 generalize 0 = k
 induction l generalizing k o with
 | nil => exact ⟨fun h => .inl h, fun h => h.elim id fun h => ((zKl t).1 h).elim⟩
 | cons x xs ih =>
  simp only [zc]
  rw [ih, zYO]
  have : zAW (x :: xs) t ↔ x.toList = t.toList ∨ zAW xs t := by unfold zAW; simp
  rw [this, or_assoc]
def zEf (pats : List (El zI)) (t : ByteArray) : Prop := ∃ p, p ∈ pats ∧ p.2.2 = false ∧ ∃ a, a ∈ p.2.1 ∧ zIC a t
theorem zlB (r : El zC) (t : ByteArray) : zAW (zDI r).1 t ↔ zEf r.2.2.1 t := by
 rw [zaY]
 have : ∀ (pats : List (El zI)) (k : Nat) (l : List (El .str)), zAW (zc (fun i x (s : List (El .str)) => bif (!x.2.2) then (yJ s x.2.1).1 else s) k pats l) t ↔ zAW l t ∨ zEf pats t := by
  intro pats
  unfold zEf
  induction pats with
  | nil => intro k l; simp [zc]
  | cons p ps ih =>
   intro k l
   simp only [zc]
   rw [ih]
   have h2 : zAW (bif (!p.2.2) then (yJ l p.2.1).1 else l) t ↔ zAW l t ∨ (p.2.2 = false ∧ ∃ a, a ∈ p.2.1 ∧ zIC a t) := by
    cases h : p.2.2
    ·rw [Bool.not_false, cond_true, zHj]; simp
    ·simp
   rw [h2]
   simp only [List.mem_cons, exists_eq_or_imp, or_assoc]
 refine (this _ _ _).trans ?_
 rw [zKl, false_or]
theorem zSU (w0 : El zC) (n4 : Int) (l5 l3 : List (El .str)) (hn : (zB zI w0.2.2.1 n4).2.2 = false) : LB.run yu (w0, (), l3, n4, l5, (0 : Int), ()) = .brk (w0, (), zc (fun _ y s => zIM s y) 0 l5 l3, n4, l5, (l5.length : Int), ()) := by
 refine LB.run_fold (l := yu) (L := l5) (fun i s => (w0, (), s, n4, l5, (i : Int), ())) (f := (fun _ y s => zIM s y)) (fun i x s h => ?_) (fun s => ?_) (s := l3)
 ·have hi := (List.getElem?_eq_some_iff.1 h).1
  simp only [LB.b, yu, zi, zQ, zR, zIM]
  rw [ltT hi, cond_true, hn, zG h]
  cases (vq s x).1 <;> rfl
 ·simp only [LB.b, yu, zi, zQ, zR]
  rw [xo]; rfl
theorem zTW (w0 : El zC) (n4 : Int) (l5 l3 : List (El .str)) (hn : (zB zI w0.2.2.1 n4).2.2 = true) : LB.run yu (w0, (), l3, n4, l5, (0 : Int), ()) = .brk (w0, (), l3, n4, l5, (0 : Int), ()) := by
 refine LB.run_scan (l := yu) (L := ([] : List Unit)) (fun _ => (w0, (), l3, n4, l5, (0 : Int), ())) (f := (fun _ _ => none)) (fun i x h => by simp at h) ?_
 simp only [LB.b, yu, zi, zQ, zR]
 rw [hn]
 cases decide ((0 : Int) < (l5.length : Int)) <;> rfl
theorem zcK (r : El zC) : zDx r = (zc (fun _ p s => bif p.2.2 then s else zc (fun _ y s => zIM s y) 0 (xf p).1 s) 0 r.2.2.1 [], ()) := by
 simp only [zDx, zJx, zQ, zR, zy]
 have : LB.run vh (r, (), [], (0 : Int), ()) = .brk (r, (), zc (fun _ p s => bif p.2.2 then s else zc (fun _ y s => zIM s y) 0 (xf p).1 s) 0 r.2.2.1 [], (r.2.2.1.length : Int), ()) := by
  refine LB.run_fold (l := vh) (L := r.2.2.1) (fun i s => (r, (), s, (i : Int), ())) (f := (fun _ p s => bif p.2.2 then s else zc (fun _ y s => zIM s y) 0 (xf p).1 s)) (fun i x s h => ?_) (fun s => ?_) (s := [])
  ·have hi := (List.getElem?_eq_some_iff.1 h).1
   simp only [LB.b, vh, zi, zQ, zR, zy]
   rw [ltT hi, cond_true]
   cases hn : x.2.2 with
   | true => rw [zTW r i _ s (by rw [zG h]; exact hn)]; rfl
   | false => rw [zSU r i _ s (by rw [zG h]; exact hn), zG h]; rfl
  ·simp only [LB.b, vh, zi, zQ, zR, zy]
   rw [xo]; rfl
 rw [this]; rfl
theorem zmo (r : El zC) (t : ByteArray) : zAW (zDx r).1 t ↔ zEf r.2.2.1 t := by
 rw [zcK]
 have : ∀ (pats : List (El zI)) (k : Nat) (l : List (El .str)), zAW (zc (fun _ p s => bif p.2.2 then s else zc (fun _ y s => zIM s y) 0 (xf p).1 s) k pats l) t ↔ zAW l t ∨ zEf pats t := by
  intro pats
  unfold zEf
  induction pats with
  | nil => intro k l; simp [zc]
  | cons p ps ih =>
   intro k l
   simp only [zc]
   rw [ih]
   have h2 : zAW (bif p.2.2 then l else zc (fun _ y s => zIM s y) 0 (xf p).1 l) t ↔ zAW l t ∨ (p.2.2 = false ∧ ∃ a, a ∈ p.2.1 ∧ zIC a t) := by
    cases h : p.2.2
    ·rw [cond_false, zf3, ziz]; simp
    ·simp
   rw [h2]
   simp only [List.mem_cons, exists_eq_or_imp, or_assoc]
 refine (this _ _ _).trans ?_
 rw [zKl, false_or]
theorem zcs {a b : El zj} {t : ByteArray} : (∃ c, c ∈ [a, b] ∧ zIC c t) ↔ zIC a t ∨ zIC b t := by simp
theorem ziG (l : List (El zP)) (t : ByteArray) : ∀ k o, zAW (zc (fun _ x (s : List (El .str)) => (yJ s [x.2.1, x.2.2]).1) k l o) t ↔ zAW o t ∨ ∃ c, c ∈ l ∧ (zIC c.2.1 t ∨ zIC c.2.2 t) := by
 induction l with
 | nil => intro k o; simp [zc]
 | cons c cs ih =>
  intro k o
  simp only [zc]
  rw [ih, zHj, zcs]
  simp only [List.mem_cons, exists_eq_or_imp, or_assoc]
theorem ziN (l : List (El zq)) (t : ByteArray) : ∀ k o, zAW (zc (fun _ x (s : List (El .str)) => (yJ s [x.2.1, x.2.2]).1) k l o) t ↔ zAW o t ∨ ∃ c, c ∈ l ∧ (zIC c.2.1 t ∨ zIC c.2.2 t) := by
 induction l with
 | nil => intro k o; simp [zc]
 | cons c cs ih =>
  intro k o
  simp only [zc]
  rw [ih, zHj, zcs]
  simp only [List.mem_cons, exists_eq_or_imp, or_assoc]
theorem zj7 (l : List (El z5)) (t : ByteArray) : ∀ k o, zAW (zc (fun _ a s => zc (fun _ x (s : List (El .str)) => (yJ s [x.2.1, x.2.2]).1) 0 a.2.2.1 s) k l o) t ↔ zAW o t ∨ ∃ a, a ∈ l ∧ ∃ c, c ∈ a.2.2.1 ∧ (zIC c.2.1 t ∨ zIC c.2.2 t) := by
 induction l with
 | nil => intro k o; simp [zc]
 | cons a rest ih =>
  intro k o
  simp only [zc]
  rw [ih, ziN]
  simp only [List.mem_cons, exists_eq_or_imp, or_assoc]
theorem zXO (r : El zC) : v8 r = (zc (fun _ a s => zc (fun _ x (s : List (El .str)) => (yJ s [x.2.1, x.2.2]).1) 0 a.2.2.1 s) 0 r.2.2.2.2 (zc (fun _ x (s : List (El .str)) => (yJ s [x.2.1, x.2.2]).1) 0 r.2.2.2.1 []), ()) := by
 simp only [v8, zHv, zQ, zR, zy]
 have h : ∀ (l26 : List (El z5)) (l3 : List (El .str)), LB.run xm (l3, l26, (l26.length : Int), (0 : Int), ()) = .brk (zc (fun _ a s => zc (fun i x (s : List (El .str)) => (yJ s [x.2.1, x.2.2]).1) 0 a.2.2.1 s) 0 l26 l3, l26, (l26.length : Int), (l26.length : Int), ()) := by
  intro l26 l3
  refine LB.run_fold (l := xm) (L := l26) (fun i s => (s, l26, (l26.length : Int), (i : Int), ())) (f := (fun _ a s => zc (fun i x (s : List (El .str)) => (yJ s [x.2.1, x.2.2]).1) 0 a.2.2.1 s)) (fun i x s h => ?_) (fun s => ?_) (s := l3)
  ·have hi := (List.getElem?_eq_some_iff.1 h).1
   simp only [LB.b, xm, zi, zQ, zR, zy]
   rw [ltT hi, cond_true, zRC, zG h]; rfl
  ·simp only [LB.b, xm, zi, zQ, zR, zy]
   rw [xo]; rfl
 rw [zQm]
 show (LB.run xm (_, r.2.2.2.2, (r.2.2.2.2.length : Int), (0 : Int), ())).fin _ _ = _
 rw [h]; rfl
theorem zKm (r : El zC) (t : ByteArray) : zAW (v8 r).1 t ↔ (∃ c, c ∈ r.2.2.2.1 ∧ (zIC c.2.1 t ∨ zIC c.2.2 t)) ∨ ∃ a, a ∈ r.2.2.2.2 ∧ ∃ c, c ∈ a.2.2.1 ∧ (zIC c.2.1 t ∨ zIC c.2.2 t) := by
 rw [zXO]
 refine (zj7 _ _ _ _).trans ?_
 rw [ziG, zKl, false_or]
def zQZ (r : El zC) (a : El zj) : Prop := a.1 = (1 : Int) → zEf r.2.2.1 a.2.1
theorem zRn {pats : List (El zI)} {s t : ByteArray} (e : s.toList = t.toList) (h : zEf pats s) : zEf pats t := by
 obtain ⟨p, h1, h2, a, h3, h4, h5⟩ := h
 exact ⟨p, h1, h2, a, h3, h4, h5.trans e⟩
theorem zDO (r : El zC) (a : El zj) : (∀ t, zIC a t → zEf r.2.2.1 t) ↔ zQZ r a :=
 ⟨fun h hK => h a.2.1 ⟨hK, rfl⟩, fun h _ ht => zRn ht.2 (h ht.1)⟩
theorem zkY {r : El zC} {a : El zj} : (yr a (zDx r).1).1 = true ↔ zQZ r a := by
 unfold zQZ; simp only [yr, zIw, zi, zR]
 simp only [z8, ct, Bool.eq_false_iff, ne_eq, bne_iff_ne, and_true, Decidable.not_not, ziE, zmo]
 grind
theorem zjQ (r : El zC) : (∀ x, x ∈ (v8 r).1 → zAW (zDI r).1 x) ↔ (∀ c, c ∈ r.2.2.2.1 → zQZ r c.2.1 ∧ zQZ r c.2.2) ∧ ∀ a, a ∈ r.2.2.2.2 → ∀ c, c ∈ a.2.2.1 → zQZ r c.2.1 ∧ zQZ r c.2.2 := by
 have h0 : (∀ x, x ∈ (v8 r).1 → zAW (zDI r).1 x) ↔ ∀ t, zAW (v8 r).1 t → zEf r.2.2.1 t := by
  constructor
  ·rintro h t ⟨x, hx, e⟩
   exact zRn e ((zlB r x).1 (h x hx))
  ·intro h x hx
   exact (zlB r x).2 (h x ⟨x, hx, rfl⟩)
 rw [h0]
 constructor
 ·intro h
  refine ⟨fun c hc => ⟨(zDO r _).1 fun t ht => h t ((zKm r t).2 (.inl ⟨c, hc, .inl ht⟩)), (zDO r _).1 fun t ht => h t ((zKm r t).2 (.inl ⟨c, hc, .inr ht⟩))⟩, fun a ha c hc => ⟨(zDO r _).1 fun t ht => h t ((zKm r t).2 (.inr ⟨a, ha, c, hc, .inl ht⟩)), (zDO r _).1 fun t ht => h t ((zKm r t).2 (.inr ⟨a, ha, c, hc, .inr ht⟩))⟩⟩
 ·rintro ⟨h1, h2⟩ t ht
  rcases (zKm r t).1 ht with ⟨c, hc, h | h⟩ | ⟨a, ha, c, hc, h | h⟩
  ·exact (zDO r _).2 (h1 c hc).1 t h
  ·exact (zDO r _).2 (h1 c hc).2 t h
  ·exact (zDO r _).2 (h2 a ha c hc).1 t h
  ·exact (zDO r _).2 (h2 a ha c hc).2 t h
end
end Go.Proofs.YtipbfgknaihifaaGreat
namespace Go.Proofs.YtipbfgknaihifaaGreat
open Go.RowKit
noncomputable section
theorem zWJ (r : El zC) : yb r = xG r := by rw [zXp, zXb]
def zM6 (L : List (El zI)) (n : Nat) : Prop := n ≤ L.length ∧ ∀ (i : Nat) (x : El zI), L[i]? = some x → (x.2.2 = true ↔ n ≤ i)
theorem zM6.len {L : List (El zI)} : ∀ {n : Nat}, zM6 L n → (L.filter (fun p => !p.2.2)).length = n := by
 induction L with
 | nil => intro n h; have := h.1; simp at this; simp [this]
 | cons x L ih =>
  intro n h
  have h0 := h.2 0 x rfl
  cases n with
  | zero =>
   have hx : x.2.2 = true := h0.2 (Nat.le_refl 0)
   rw [List.filter_cons_of_neg (by rw [hx]; decide)]
   exact ih ⟨Nat.zero_le _, fun i y hy => ⟨fun _ => Nat.zero_le i, fun _ => (h.2 (i + 1) y (by simpa using hy)).2 (Nat.zero_le _)⟩⟩
  | succ n =>
   have hx : x.2.2 = false := by
    cases e : x.2.2 with
    | false => rfl
    | true => have := h0.1 e; omega
   rw [List.filter_cons_of_pos (by rw [hx]; decide), List.length_cons]
   congr 1
   refine ih ⟨by have := h.1; simp at this; exact this, fun i y hy => ?_⟩
   rw [h.2 (i + 1) y (by simpa using hy)]; omega
theorem zM6.of {L : List (El zI)} : (∀ (i : Nat) (x y : El zI), L[i]? = some x → L[i + 1]? = some y → x.2.2 = true → y.2.2 = true) → ∃ n, zM6 L n := by
 induction L with
 | nil => intro _; exact ⟨0, Nat.le_refl _, fun i x h => by simp at h⟩
 | cons x L ih =>
  intro h
  obtain ⟨n, h1, h2⟩ := ih fun i a b ha hb => h (i + 1) a b (by simpa using ha) (by simpa using hb)
  cases e : x.2.2 with
  | false =>
   refine ⟨n + 1, by simpa using h1, fun i y hy => ?_⟩
   cases i with
   | zero => simp at hy; rw [← hy, e]; simp
   | succ i => rw [h2 i y (by simpa using hy)]; omega
  | true =>
   have hn : n = 0 := by
    cases n with
    | zero => rfl
    | succ n =>
     obtain ⟨y, hy⟩ : ∃ y, L[0]? = some y := ⟨L[0]'(by omega), List.getElem?_eq_getElem _⟩
     have := (h2 0 y hy).1 (h 0 x y rfl (by simpa using hy) e)
     omega
   refine ⟨0, Nat.zero_le _, fun i y hy => ⟨fun _ => Nat.zero_le _, fun _ => ?_⟩⟩
   cases i with
   | zero => simp at hy; rw [← hy, e]
   | succ i => exact (h2 i y (by simpa using hy)).2 (by omega)
theorem zlM (r : El zC) : zFL r = zFI r.2.2.1 := b1 (by
 rw [zUl, zOL]
 have hc := zFc r
 simp only [zWJ, zAU, hc, zmg, z8, ct, Bool.not_eq_true', Bool.eq_false_iff, ne_eq, beq_iff_eq, decide_eq_true_eq, zw, Nat.zero_add, and_true, and_false, or_false, false_or, Bool.false_eq_true, Decidable.not_not, zdK]
 generalize r.2.2.1 = L
 have hlen : ∀ (i : Nat) (x : El zI), L[i]? = some x → i < L.length := fun i x h => (List.getElem?_eq_some_iff.1 h).1
 have hp : ∀ (i : Nat) (x : El zI), L[i + 1]? = some x → zB zI L (((i + 1 : Nat) : Int) - 1) = zB zI L (i : Int) := fun i x _ => by congr 1; omega
 constructor
 ·intro h
  have hF : zM6 L (L.filter (fun p => !p.2.2)).length := ⟨List.length_filter_le _ _, fun i x hx => by have := hlen i x hx; grind⟩
  generalize (L.filter (fun p => !p.2.2)).length = n at *
  have hF2 := hF.2
  refine ⟨fun i x hx => ?_, h.1⟩
  have h3 := h.2.2 i x hx
  have h4 := h.2.1
  have h5 := hF2 i x hx
  cases i with
  | zero => grind
  | succ i =>
   have hl := hlen _ _ hx
   have hy : L[i]? = some (L[i]'(by omega)) := List.getElem?_eq_getElem _
   have h6 := hF2 i _ hy
   rw [hp i x hx, zG hy]
   generalize L[i]'(by omega) = y at *
   grind
 ·intro h
  have h0 := h.1
  have hM : ∀ (i : Nat) (x y : El zI), L[i]? = some x → L[i + 1]? = some y → x.2.2 = true → y.2.2 = true := fun i x y hx hy hn => by
   have h1 := hp i y hy
   have h2 := h0 (i + 1) y hy
   rw [h1, zG hx] at h2
   grind
  obtain ⟨n, hF⟩ := zM6.of hM
  rw [hF.len]
  have hF2 := hF.2
  have hn := hF.1
  have h7 : ∀ i : Nat, i < L.length → ∃ x, L[i]? = some x := fun i hi => ⟨_, List.getElem?_eq_getElem hi⟩
  refine ⟨h.2, ⟨?_, ?_⟩, fun i x hx => ?_⟩
  ·obtain ⟨x, hx⟩ := h7 0 (by omega)
   have h1 := h0 0 x hx
   have h2 := hF2 0 x hx
   grind
  ·by_cases h3 : 3 < n
   ·obtain ⟨x, hx⟩ := h7 3 (by omega)
    have h1 := h0 3 x hx
    have h2 := hF2 3 x hx
    grind
   ·omega
  ·have h1 := h0 i x hx
   have h2 := hF2 i x hx
   grind)
theorem zdj (a0 : List (El z5)) (a1 : List (El .str)) (a2 : Int) : zLD a0 a1 a2 = bif ze (fun _ x => bif (!(zHX x).1) then false else bif (x.1 == (2 : Int)) && decide (x.2.2.2.1 ≥ a2) then false else ze (fun _ x => bif (!(yr x.2.1 a1).1) then false else (bif (!(yr x.2.2 a1).1) then false else true)) 0 x.2.2.1) 0 a0 then ((yB (a0.length : Int) (1 : Int) (6 : Int)).1, ()) else (false, ()) := by
 simp only [zLD, zLa, zQ, zR, zy]
 have : LB.run zCz (a0, a1, a2, (0 : Int), ()) = bif ze (fun _ x => bif (!(zHX x).1) then false else bif (x.1 == (2 : Int)) && decide (x.2.2.2.1 ≥ a2) then false else ze (fun i x => bif (!(yr x.2.1 a1).1) then false else (bif (!(yr x.2.2 a1).1) then false else true)) 0 x.2.2.1) 0 a0 then .brk (a0, a1, a2, (a0.length : Int), ()) else .ret (false, ()) := by
  refine LB.run_all (l := zCz) (L := a0) (fun i => (a0, a1, a2, (i : Int), ())) (r := (false, ())) (fun i x h => ?_) ?_
  ·have hi := (List.getElem?_eq_some_iff.1 h).1
   simp only [LB.b, zCz, zi, zQ, zR, zy]
   rw [ltT hi, cond_true, zM9, zG h]
   generalize ze _ 0 x.2.2.1 = A
   cases (!(zHX x).1) <;> cases (x.1 == (2 : Int)) <;> cases decide (x.2.2.2.1 ≥ a2) <;> cases A <;> rfl
  ·simp only [LB.b, zCz, zi, zQ, zR, zy]
   rw [xo]; rfl
 rw [this]
 cases ze _ 0 a0 <;> rfl
theorem zlb (r : El zC) : zA4 r = zA3 r := b1 (by
 rw [zdI]
 simp only [zA3, zGc, zi, zQ, zR]
 rw [zcN, zdj]
 have hu := zjQ r
 simp only [zMl, zAU, zlM, zlg, zmp, zWJ, z8, ct, Bool.not_eq_true', Bool.eq_false_iff, ne_eq, Bool.and_eq_true, beq_iff_eq, decide_eq_true_eq, zbS, and_true, and_false, or_false, false_or, Bool.false_eq_true, Decidable.not_not, zkY, zk9]
 grind)
theorem zim (d : El zN) (s : ByteArray) : zFS d s = zD5 d s := by
 unfold zFS
 rw [zCc, zgK]
 rfl
theorem zlA (d : El zN) : zCn d = zC7 d := b1 (by
 rw [zYm, zRM]
 simp only [zMl, zAU, zlb, zim, z8, ct, Bool.not_eq_true', Bool.eq_false_iff, ne_eq, bne_iff_ne, zw, Nat.zero_add, and_true, and_false, or_false, false_or, Bool.false_eq_true, Decidable.not_not]
 grind)
theorem zcm (b : El zp) (s : ByteArray) : xy b s = xJ b s := by
 unfold xy
 rw [zDe, ziv]
 rfl
theorem zjT (b : El zp) (s : ByteArray) : zFD b s = zD4 b s := by
 unfold zFD
 rw [zCx, zf4]
 rfl
theorem zW3 (f : El zr) : vl f = zAC f := b1 (by
 simp only [zAC, zLY, zi, zR]
 rw [zek, zd3]
 simp only [zMl, zhM, z8, ct, Bool.not_eq_true', Bool.eq_false_iff, ne_eq, decide_eq_true_eq, zbS, and_true, and_false, or_false, false_or, Bool.false_eq_true, Decidable.not_not]
 grind)
theorem zjq (t : El zD) : zD0 t = zDB t := b1 (by
 simp only [zD0, zJI, zDB, zHq, zi, zR]
 simp only [zRk, zW3, z8, ct, Bool.eq_false_iff, ne_eq, and_false, or_false, Bool.false_eq_true])
theorem zib (l : List (El zD)) : zFi l = zF5 l := b1 (by
 rw [zXG, zXl]
 simp only [zjq, z8, ct, Bool.not_eq_true', Bool.eq_false_iff, ne_eq, decide_eq_true_eq, zw, Nat.zero_add, and_true, and_false, or_false, false_or, Bool.false_eq_true, Decidable.not_not]
 constructor
 ·rintro ⟨h0, h⟩
  refine ⟨fun i x hx => ?_, by omega⟩
  have := h i x hx
  rwa [zG hx] at this
 ·rintro ⟨h, h0⟩
  refine ⟨by omega, fun i x hx => ?_⟩
  rw [zG hx]; exact h i x hx)
theorem zl5 (t : El zO) : zFO t = zDs t := b1 (by
 simp only [zFO, zL0, zDs, zJd, zi, zR]
 simp only [zW3, zjE, zAU, zhM, z8, ct, Bool.not_eq_true', Bool.eq_false_iff, ne_eq, Bool.and_eq_true, beq_iff_eq, bne_iff_ne, and_true, and_false, or_false, false_or, Bool.false_eq_true, Decidable.not_not, zdK]
 grind)
theorem zhm (s : El zH) (n : Int) : zAS s n = zAT s n := by rw [zfE, zgS]; rfl
theorem zcc (a b : List (El zK)) : yn a b = zDi a b := by rw [zEm, zMG]
theorem zRr (a b : El zr) : vH a b = yC a b := by simp only [vH, zHo, yC, zF6, zi, zR]; rw [zcc]
end
end Go.Proofs.YtipbfgknaihifaaGreat
namespace Go.Proofs.YtipbfgknaihifaaGreat
open Go.RowKit
noncomputable section
theorem zlW {α : Type} {p : α → Bool} {L : List α} {i : Nat} {x : α} (h : L[i]? = some x) (hx : p x = true) : zWb p L = (i : Int) ↔ ∀ (j : Nat) (y : α), j < i → L[j]? = some y → p y = false := by
 rcases zXM p L with ⟨h1, h2⟩ | ⟨k, y, h1, h2, h3, h4⟩
 ·rw [h2 x (zMh h)] at hx; cases hx
 ·rw [h1]
  constructor
  ·intro e; have : k = i := by omega
   subst this; exact h4
  ·intro h5
   rcases Nat.lt_trichotomy k i with h6 | h6 | h6
   ·rw [h5 k y h6 h2] at h3; cases h3
   ·rw [h6]
   ·rw [h4 i x h6 h] at hx; cases hx
theorem zHm {α : Type} {L : List α} {i j : Nat} {x : α} : (L.take i)[j]? = some x ↔ j < i ∧ L[j]? = some x := by
 rw [List.getElem?_take]; split <;> grind
def SFa (a b : El zr) : Prop := a.1.toList = b.1.toList ∧ a.2.length = b.2.length ∧ ∀ (i : Nat) (x y : El zK), a.2[i]? = some x → b.2[i]? = some y → x.1 = y.1 ∧ x.2.1 = y.2.1 ∧ x.2.2.toList = y.2.2.toList
theorem SFa.symm {a b : El zr} (h : SFa a b) : SFa b a := ⟨h.1.symm, h.2.1.symm, fun i x y hx hy => by have := h.2.2 i y x hy hx; exact ⟨this.1.symm, this.2.1.symm, this.2.2.symm⟩⟩
theorem SFa.refl (a : El zr) : SFa a a := ⟨rfl, rfl, fun i x y hx hy => by rw [hx] at hy; cases hy; exact ⟨rfl, rfl, rfl⟩⟩
theorem zMo {a b : El zr} : (yC a b).1 = true ↔ SFa a b := by
 unfold SFa; simp only [yC, zF6, zi, zR]
 rw [zMG]
 simp only [z8, ct, Bool.not_eq_true', Bool.eq_false_iff, ne_eq, Bool.and_eq_true, beq_iff_eq, bne_iff_ne, zw, Nat.zero_add, and_true, and_false, or_false, false_or, Bool.false_eq_true, Decidable.not_not]
 constructor
 ·rintro ⟨h1, h2, h3⟩
  have hl : a.2.length = b.2.length := by omega
  refine ⟨h1, hl, fun i x y hx hy => ?_⟩
  have := h3 i x hx
  rwa [zG hy] at this
 ·rintro ⟨h1, h2, h3⟩
  refine ⟨h1, by omega, fun i x hx => ?_⟩
  have hi := (List.getElem?_eq_some_iff.1 hx).1
  have hy : b.2[i]? = some (b.2[i]'(by omega)) := List.getElem?_eq_getElem _
  have := h3 i x _ hx hy
  rwa [zG hy]
theorem zNs {a b : El zr} : (yC a b).1 = false ↔ ¬ SFa a b := by rw [← zMo, Bool.not_eq_true]
theorem zSV (l0 : List (El zO)) (n : Nat) (hn : n ≤ l0.length) : LB.run vI (l0, (n : Int), (0 : Int), ()) = bif ze (fun _ y => !(yC (zB zO l0 (n : Int)).1 y.1).1) 0 (l0.take n) then .brk (l0, (n : Int), ((l0.take n).length : Int), ()) else .ret (false, ()) := by
 have hl : (l0.take n).length = n := by rw [List.length_take]; omega
 refine LB.run_all (l := vI) (L := (l0.take n)) (fun i => (l0, (n : Int), (i : Int), ())) (p := (fun _ y => !(yC (zB zO l0 (n : Int)).1 y.1).1)) (r := (false, ())) (fun i x h => ?_) ?_
 ·obtain ⟨hi, h⟩ := zHm.1 h
  simp only [LB.b, vI, zi, zQ, zR]
  rw [ltT hi, cond_true, zG h]
  cases (yC (zB zO l0 (n : Int)).1 x.1).1 <;> rfl
 ·simp only [LB.b, vI, zi, zQ, zR]
  rw [hl, xo]; rfl
theorem zaJ (l0 : List (El zO)) : zG5 l0 = bif ze (fun i x => bif (!(zDs x).1) then false else ze (fun _ y => !(yC x.1 y.1).1) 0 (l0.take i)) 0 l0 then (decide ((l0.length : Int) ≤ (30 : Int)), ()) else (false, ()) := by
 simp only [zG5, zJw, zQ, zR, zy]
 have : LB.run zCo (l0, (0 : Int), ()) = bif ze (fun i x => bif (!(zDs x).1) then false else ze (fun _ y => !(yC x.1 y.1).1) 0 (l0.take i)) 0 l0 then .brk (l0, (l0.length : Int), ()) else .ret (false, ()) := by
  refine LB.run_all (l := zCo) (L := l0) (fun i => (l0, (i : Int), ())) (r := (false, ())) (fun i x h => ?_) ?_
  ·have hi := (List.getElem?_eq_some_iff.1 h).1
   simp only [LB.b, zCo, zi, zQ, zR, zy]
   rw [ltT hi, cond_true, zSV l0 i (by omega), zG h]
   generalize ze _ 0 (l0.take i) = A
   cases (zDs x).1 <;> cases A <;> rfl
  ·simp only [LB.b, zCo, zi, zQ, zR, zy]
   rw [xo]; rfl
 rw [this]
 cases ze _ 0 l0 <;> rfl
theorem zkS (l : List (El zO)) (f : El zr) : zAE l f = (zWb (fun t : El zO => (yC t.1 f).1) l, ()) := by
 unfold zAE
 rw [zCF]
 unfold zAD
 simp only [zRr]
 show ((zE1 (xB (fun i x => bif (yC x.1 f).1 then (some ((i : Int), ())) else none) 0 l) (fun r => (r.1, ())) ((-1 : Int), ())).1, ()) = _
 rw [zKN (fun t : El zO => (yC t.1 f).1)]
theorem zkP (l : List (El zO)) : zGg l = zG5 l := b1 (by
 rw [zaZ, zaJ]
 simp only [zl5, zkS, z8, ct, Bool.not_eq_true', Bool.eq_false_iff, ne_eq, bne_iff_ne, decide_eq_true_eq, zw, Nat.zero_add, and_true, and_false, or_false, false_or, Bool.false_eq_true, Decidable.not_not, zHm]
 have key : ∀ (i : Nat) (x : El zO), l[i]? = some x → (zWb (fun t : El zO => (yC t.1 x.1).1) l = (i : Int) ↔ ∀ (j : Nat) (y : El zO), j < i ∧ l[j]? = some y → ¬ (yC x.1 y.1).1 = true) := fun i x hx => by
  rw [zlW hx (zMo.2 (SFa.refl _))]
  simp only [zNs, zMo]
  constructor
  ·rintro h j y ⟨h1, h2⟩ h3; exact h j y h1 h2 h3.symm
  ·rintro h j y h1 h2 h3; exact h j y ⟨h1, h2⟩ h3.symm
 constructor
 ·rintro ⟨h0, h⟩
  refine ⟨fun i x hx => ?_, by omega⟩
  have h1 := h i x hx
  rw [zG hx, key i x hx] at h1
  exact h1
 ·rintro ⟨h, h0⟩
  refine ⟨by omega, fun i x hx => ?_⟩
  rw [zG hx, key i x hx]
  exact h i x hx)
theorem zSD (l0 : List (El zU)) (n : Nat) (hn : n ≤ l0.length) : LB.run vC (l0, (n : Int), (0 : Int), ()) = bif ze (fun _ y => !((zB zU l0 (n : Int)).1.toList == y.1.toList)) 0 (l0.take n) then .brk (l0, (n : Int), ((l0.take n).length : Int), ()) else .ret (false, ()) := by
 have hl : (l0.take n).length = n := by rw [List.length_take]; omega
 refine LB.run_all (l := vC) (L := (l0.take n)) (fun i => (l0, (n : Int), (i : Int), ())) (p := (fun _ y => !((zB zU l0 (n : Int)).1.toList == y.1.toList))) (r := (false, ())) (fun i x h => ?_) ?_
 ·obtain ⟨hi, h⟩ := zHm.1 h
  simp only [LB.b, vC, zi, zQ, zR]
  rw [ltT hi, cond_true, zG h]
  cases ((zB zU l0 (n : Int)).1.toList == x.1.toList) <;> rfl
 ·simp only [LB.b, vC, zi, zQ, zR]
  rw [hl, xo]; rfl
theorem zZj (l0 : List (El zU)) : zHT l0 = bif ze (fun i x => bif (!(yB (((x.1.size : Nat)) : Int) (1 : Int) (200 : Int)).1) then false else bif (!(zAC x.2).1) then false else ze (fun _ y => !(x.1.toList == y.1.toList)) 0 (l0.take i)) 0 l0 then (decide ((l0.length : Int) ≤ (30 : Int)), ()) else (false, ()) := by
 simp only [zHT, zJ0, zQ, zR, zy]
 have : LB.run zCv (l0, (0 : Int), ()) = bif ze (fun i x => bif (!(yB (((x.1.size : Nat)) : Int) (1 : Int) (200 : Int)).1) then false else bif (!(zAC x.2).1) then false else ze (fun _ y => !(x.1.toList == y.1.toList)) 0 (l0.take i)) 0 l0 then .brk (l0, (l0.length : Int), ()) else .ret (false, ()) := by
  refine LB.run_all (l := zCv) (L := l0) (fun i => (l0, (i : Int), ())) (r := (false, ())) (fun i x h => ?_) ?_
  ·have hi := (List.getElem?_eq_some_iff.1 h).1
   simp only [LB.b, zCv, zi, zQ, zR, zy]
   rw [ltT hi, cond_true, zSD l0 i (by omega), zG h]
   generalize ze _ 0 (l0.take i) = A
   cases (yB (((x.1.size : Nat)) : Int) (1 : Int) (200 : Int)).1 <;> cases (zAC x.2).1 <;> cases A <;> rfl
  ·simp only [LB.b, zCv, zi, zQ, zR, zy]
   rw [xo]; rfl
 rw [this]
 cases ze _ 0 l0 <;> rfl
theorem zhQ {l : List (El zU)} {k : ByteArray} : (zFN l k).1 = true ↔ ∃ x, x ∈ l ∧ x.1.toList = k.toList := by
 unfold zFN y7
 rw [zCY]
 show decide ((zE1 (xB (fun i x => bif (x.1.toList == k.toList) then (some ((i : Int), ())) else none) 0 l) (fun r => (r.1, ())) ((-1 : Int), ())).1 ≥ 0) = true ↔ _
 rw [zKN (fun x : El zU => x.1.toList == k.toList), decide_eq_true_eq, zUt]
 simp only [beq_iff_eq]
theorem zjm (l : List (El zU)) : zHG l = zHT l := b1 (by
 rw [zca, zZj]
 simp only [zIi, zAU, zW3, z8, ct, Bool.not_eq_true', Bool.eq_false_iff, ne_eq, beq_iff_eq, decide_eq_true_eq, zw, Nat.zero_add, and_true, and_false, or_false, false_or, Bool.false_eq_true, Decidable.not_not, zHm, zhQ]
 have key : ∀ (i : Nat) (x : El zU), l[i]? = some x → ((¬ ∃ y, y ∈ (l.take (i : Int).toNat).drop (0 : Int).toNat ∧ y.1.toList = x.1.toList) ↔ ∀ (j : Nat) (y : El zU), j < i ∧ l[j]? = some y → ¬ x.1.toList = y.1.toList) := fun i x hx => by
  rw [Int.toNat_natCast]
  show (¬ ∃ y, y ∈ (l.take i) ∧ y.1.toList = x.1.toList) ↔ _
  constructor
  ·intro h j y hj e
   exact h ⟨y, zMh (zHm.2 hj), e.symm⟩
  ·rintro h ⟨y, hy, e⟩
   obtain ⟨j, hj⟩ := zVg hy
   exact h j y (zHm.1 hj) e.symm
 constructor
 ·rintro ⟨h0, h⟩
  refine ⟨fun i x hx => ?_, by omega⟩
  have h1 := h i x hx
  rw [zG hx, key i x hx] at h1
  exact h1
 ·rintro ⟨h, h0⟩
  refine ⟨by omega, fun i x hx => ?_⟩
  rw [zG hx, key i x hx]
  exact h i x hx)
theorem zX3 (d : El zN) (t : El ye) : zFu d t = bif ze (fun _ m => bif (!(yz d m).1) then false else bif ((m.2.2.length : Int) != (0 : Int)) then false else bif ((m.2.1.length : Int) != (xG (zB zC d.2 m.1)).1) then false else ze (fun _ n => (zAT t.1 n).2.1) 0 m.2.1) 0 t.2.1 then (decide ((t.2.1.length : Int) ≤ (1000 : Int)), ()) else (false, ()) := by
 simp only [zFu, zHw, zQ, zR, zy]
 have h0 : ∀ (w2 : El zA) (n5 : Int), LB.run xi (d, t, w2, (), (), n5, (), (0 : Int), ()) = bif ze (fun _ n => (zAT t.1 n).2.1) 0 w2.2.1 then .brk (d, t, w2, (), (), n5, (), (w2.2.1.length : Int), ()) else .ret (false, ()) := fun w2 n5 => by
  refine LB.run_all (l := xi) (L := w2.2.1) (fun i => (d, t, w2, (), (), n5, (), (i : Int), ())) (p := (fun _ n => (zAT t.1 n).2.1)) (r := (false, ())) (fun i x h => ?_) ?_
  ·have hi := (List.getElem?_eq_some_iff.1 h).1
   simp only [LB.b, xi, zi, zQ, zR]
   rw [ltT hi, cond_true, zG h]
   cases (zAT t.1 x).2.1 <;> rfl
  ·simp only [LB.b, xi, zi, zQ, zR]
   rw [xo]; rfl
 have : LB.run zBs (d, t, (), (), (0 : Int), ()) = bif ze (fun _ m => bif (!(yz d m).1) then false else bif ((m.2.2.length : Int) != (0 : Int)) then false else bif ((m.2.1.length : Int) != (xG (zB zC d.2 m.1)).1) then false else ze (fun _ n => (zAT t.1 n).2.1) 0 m.2.1) 0 t.2.1 then .brk (d, t, (), (), (t.2.1.length : Int), ()) else .ret (false, ()) := by
  refine LB.run_all (l := zBs) (L := t.2.1) (fun i => (d, t, (), (), (i : Int), ())) (r := (false, ())) (fun i x h => ?_) ?_
  ·have hi := (List.getElem?_eq_some_iff.1 h).1
   simp only [LB.b, zBs, zi, zQ, zR, zy]
   rw [ltT hi, cond_true, zG h, h0]
   generalize ze _ 0 x.2.1 = A
   cases (yz d x).1 <;> cases ((x.2.2.length : Int) != (0 : Int)) <;> cases ((x.2.1.length : Int) != (xG (zB zC d.2 x.1)).1) <;> cases A <;> rfl
  ·simp only [LB.b, zBs, zi, zQ, zR, zy]
   rw [xo]; rfl
 rw [this]
 cases ze _ 0 t.2.1 <;> rfl
theorem zZu (d : El zN) (t : El ye) : zG3 d t = bif decide ((t.2.1.length : Int) > (1000 : Int)) then (false, ()) else bif ze (fun _ m => bif (!(xA d m).1) then false else bif ((m.2.2.length : Int) != (0 : Int)) then false else bif ((m.2.1.length : Int) != (yb (zB zC d.2 m.1)).1) then false else ze (fun _ n => (zAS t.1 n).2.1) 0 m.2.1) 0 t.2.1 then (true, ()) else (false, ()) := by
 simp only [zG3, zJu, zi, zQ, zR, zy]
 generalize t.2.1 = L
 have h0 : ∀ (l16 : List (El zA)) (n17 n18 : Int) (l46 : List (El .int)), LB.run vD (d, t, (), (), l16, n17, n18, l46, (l46.length : Int), (0 : Int), ()) = bif ze (fun _ n => (zAS t.1 n).2.1) 0 l46 then .brk (d, t, (), (), l16, n17, n18, l46, (l46.length : Int), (l46.length : Int), ()) else .ret (false, ()) := fun l16 n17 n18 l46 => by
  refine LB.run_all (l := vD) (L := l46) (fun i => (d, t, (), (), l16, n17, n18, l46, (l46.length : Int), (i : Int), ())) (p := (fun _ n => (zAS t.1 n).2.1)) (r := (false, ())) (fun i x h => ?_) ?_
  ·have hi := (List.getElem?_eq_some_iff.1 h).1
   simp only [LB.b, vD, zi, zQ, zR]
   rw [ltT hi, cond_true, zG h]
   cases (zAS t.1 x).2.1 <;> rfl
  ·simp only [LB.b, vD, zi, zQ, zR]
   rw [xo]; rfl
 have : LB.run zC6 (d, t, (), (), L, (L.length : Int), (0 : Int), ()) = bif ze (fun _ m => bif (!(xA d m).1) then false else bif ((m.2.2.length : Int) != (0 : Int)) then false else bif ((m.2.1.length : Int) != (yb (zB zC d.2 m.1)).1) then false else ze (fun _ n => (zAS t.1 n).2.1) 0 m.2.1) 0 L then .brk (d, t, (), (), L, (L.length : Int), (L.length : Int), ()) else .ret (false, ()) := by
  refine LB.run_all (l := zC6) (L := L) (fun i => (d, t, (), (), L, (L.length : Int), (i : Int), ())) (r := (false, ())) (fun i x h => ?_) ?_
  ·have hi := (List.getElem?_eq_some_iff.1 h).1
   simp only [LB.b, zC6, zi, zQ, zR, zy]
   rw [ltT hi, cond_true, zG h, h0]
   generalize ze _ 0 x.2.1 = A
   cases (xA d x).1 <;> cases ((x.2.2.length : Int) != (0 : Int)) <;> cases ((x.2.1.length : Int) != (yb (zB zC d.2 x.1)).1) <;> cases A <;> rfl
  ·simp only [LB.b, zC6, zi, zQ, zR, zy]
   rw [xo]; rfl
 rw [this]
 cases ze _ 0 L <;> rfl
theorem zOE (d : El zN) (m : El zA) : xA d m = yz d m := rfl
theorem zj0 (d : El zN) (t : El ye) : zG3 d t = zFu d t := b1 (by
 rw [zZu, zX3]
 simp only [zOE, zWJ, zhm, z8, ct, Bool.not_eq_true', Bool.eq_false_iff, ne_eq, bne_iff_ne, decide_eq_true_eq, zw, and_true, and_false, or_false, false_or, Bool.false_eq_true, Decidable.not_not]
 grind)
theorem za3 (s : El zH) : zCe s = bif decide ((s.1.length : Int) > (40 : Int)) then (false, ()) else (bif (!(z3 s.2 (1 : Int) (1000000 : Int)).1) then (false, ()) else bif ze (fun i x => bif (!(vl x.2).1) then false else bif (!(z3 x.1 (1 : Int) (s.2 - (1 : Int))).1) then false else bif decide ((i : Int) > (0 : Int)) && decide (x.1 ≤ (zB zD s.1 ((i : Int) - (1 : Int))).1) then false else ze (fun _ y => !(vH x.2 y.2).1) 0 (s.1.take i)) 0 s.1 then (true, ()) else (false, ())) := by
 simp only [zCe, zGn, zi, zQ, zR, zy]
 have : LB.run zC5 (s, (), s.1, (s.1.length : Int), (0 : Int), ()) = bif ze (fun i x => bif (!(vl x.2).1) then false else bif (!(z3 x.1 (1 : Int) (s.2 - (1 : Int))).1) then false else bif decide ((i : Int) > (0 : Int)) && decide (x.1 ≤ (zB zD s.1 ((i : Int) - (1 : Int))).1) then false else ze (fun _ y => !(vH x.2 y.2).1) 0 (s.1.take i)) 0 s.1 then .brk (s, (), s.1, (s.1.length : Int), (s.1.length : Int), ()) else .ret (false, ()) := by
  refine LB.run_all (l := zC5) (L := s.1) (fun i => (s, (), s.1, (s.1.length : Int), (i : Int), ())) (r := (false, ())) (fun i x h => ?_) ?_
  ·have hi := (List.getElem?_eq_some_iff.1 h).1
   simp only [LB.b, zC5, zi, zQ, zR, zy]
   rw [ltT hi, cond_true, zG h, zH6, Int.toNat_natCast]
   have e : ze (fun i x_1 => bif (vH x.2 x_1.2).1 then false else true) 0 ((s.1.take i).drop (0 : Int).toNat) = ze (fun _ y => !(vH x.2 y.2).1) 0 (s.1.take i) := by
    refine congrArg (fun f => ze f 0 (s.1.take i)) ?_
    funext _ y; cases (vH x.2 y.2).1 <;> rfl
   rw [e]
   generalize ze _ 0 (s.1.take i) = A
   cases (vl x.2).1 <;> cases (z3 x.1 (1 : Int) (s.2 - (1 : Int))).1 <;> cases decide ((i : Int) > (0 : Int)) <;> cases decide (x.1 ≤ (zB zD s.1 ((i : Int) - (1 : Int))).1) <;> cases A <;> rfl
  ·simp only [LB.b, zC5, zi, zQ, zR, zy]
   rw [xo]; rfl
 rw [this]
 cases ze _ 0 s.1 <;> rfl
end
end Go.Proofs.YtipbfgknaihifaaGreat
namespace Go.Proofs.YtipbfgknaihifaaGreat
open Go.RowKit
noncomputable section
theorem zbk {α R : Type} (p : α → Bool) (g : α → R) (L : List α) : ∀ k, xB (fun _ x => bif p x then some (g x) else none) k L = (L.find? p).map g := by
 induction L with
 | nil => intro k; rfl
 | cons x L ih =>
  intro k
  simp only [xB, List.find?_cons]
  cases p x with
  | true => rfl
  | false => exact ih (k + 1)
theorem zaW (s : El zH) (f : El zr) : (zDq s f).1 = ((s.1.find? (fun x : El zD => (yC x.2 f).1)).map (fun x : El zD => (x.1 : Int))).getD 0 := by
 rw [zke]
 rw [zbk (fun x : El zD => (yC x.2 f).1) (fun x : El zD => ((x.1 : Int), ()))]
 cases s.1.find? (fun x : El zD => (yC x.2 f).1) <;> rfl
theorem zkh (s : El zH) : zCe s = zCu s := b1 (by
 rw [za3, zbj]
 simp only [zW3, zAU, zRr, z8, ct, Bool.not_eq_true', Bool.eq_false_iff, ne_eq, Bool.and_eq_true, bne_iff_ne, decide_eq_true_eq, zw, Nat.zero_add, and_true, and_false, or_false, false_or, Bool.false_eq_true, Decidable.not_not, zHm, zdK, zMo, zaW]
 generalize s.1 = L
 have key : ∀ (i : Nat) (x : El zD), (∀ (i : Nat) (x : El zD), L[i]? = some x → (1 : Int) ≤ x.1) → (∀ (i j : Nat) (x y : El zD), i < j → L[i]? = some x → L[j]? = some y → (x.1 : Int) < y.1) → L[i]? = some x → (((L.find? (fun y : El zD => (yC y.2 x.2).1)).map (fun x : El zD => (x.1 : Int))).getD 0 = x.1 ↔ ∀ (j : Nat) (y : El zD), j < i ∧ L[j]? = some y → ¬ SFa x.2 y.2) := fun i x h1 hs hx => by
  constructor
  ·intro h j y hj hc
   cases hf : L.find? (fun y : El zD => (yC y.2 x.2).1) with
   | none =>
    have := List.find?_eq_none.1 hf x (zMh hx)
    exact this (zMo.2 (SFa.refl _))
   | some z =>
    rw [hf] at h
    have hz : (z.1 : Int) = x.1 := h
    obtain ⟨hz1, k, hk, hzk, hk2⟩ := List.find?_eq_some_iff_getElem.1 hf
    have hzk' : L[k]? = some z := by rw [List.getElem?_eq_getElem hk, hzk]
    have hki : k = i := by
     rcases Nat.lt_trichotomy k i with h6 | h6 | h6
     ·have h7 := hs k i z x h6 hzk' hx; rw [hz] at h7; exact absurd h7 (Int.lt_irrefl _)
     ·exact h6
     ·have h7 := hs i k x z h6 hx hzk'; rw [hz] at h7; exact absurd h7 (Int.lt_irrefl _)
    subst hki
    have := hk2 j hj.1
    obtain ⟨hjl, hjy⟩ := List.getElem?_eq_some_iff.1 hj.2
    rw [hjy] at this
    have h9 := zMo.2 hc.symm
    rw [h9] at this; cases this
  ·intro h
   have hf : L.find? (fun y : El zD => (yC y.2 x.2).1) = some x := by
    rw [List.find?_eq_some_iff_getElem]
    obtain ⟨hi, hxi⟩ := List.getElem?_eq_some_iff.1 hx
    refine ⟨zMo.2 (SFa.refl _), i, hi, hxi, fun j hj => ?_⟩
    rw [Bool.not_eq_true', zNs]
    exact fun hc => h j _ ⟨hj, List.getElem?_eq_getElem (by omega)⟩ hc.symm
   rw [hf]; rfl
 have mono : (∀ (i : Nat) (x : El zD), L[i]? = some x → (i : Int) > 0 → ¬ (x.1 : Int) ≤ (zB zD L ((i : Int) - 1)).1) → (∀ (i j : Nat) (x y : El zD), i < j → L[i]? = some x → L[j]? = some y → (x.1 : Int) < y.1) := by
  intro h i j
  induction j with
  | zero => intro x y h1; omega
  | succ j ih =>
   intro x y h1 hx hy
   have hj : j < L.length := by have := (List.getElem?_eq_some_iff.1 hy).1; omega
   have hz : L[j]? = some (L[j]'hj) := List.getElem?_eq_getElem _
   have h2 := h (j + 1) y hy (by omega)
   rw [show ((j + 1 : Nat) : Int) - 1 = (j : Int) by omega, zG hz] at h2
   by_cases he : i = j
   ·subst he; rw [hx] at hz
    have : x = L[i]'hj := Option.some.inj hz
    rw [← this] at h2; exact Int.not_le.1 h2
   ·exact Int.lt_trans (ih x _ (by omega) hx hz) (Int.not_le.1 h2)
 constructor
 ·rintro ⟨h0, h1, h⟩
  have hp : ∀ (i : Nat) (x : El zD), L[i]? = some x → (1 : Int) ≤ x.1 := fun i x hx => (h i x hx).2.1.1
  have hm := mono (fun i x hx hi hc => (h i x hx).2.2.1 ⟨hi, hc⟩)
  refine ⟨h1, by omega, fun i x hx => ?_⟩
  have h2 := h i x hx
  have hk := key i x hp hm hx
  have h8 := hk.2 h2.2.2.2
  rw [h8]
  have h9 := hm
  grind
 ·rintro ⟨h1, h0, h⟩
  have hp : ∀ (i : Nat) (x : El zD), L[i]? = some x → (1 : Int) ≤ x.1 := fun i x hx => by have := h i x hx; grind
  have hm := mono (fun i x hx hi hc => by have := h i x hx; grind)
  refine ⟨by omega, h1, fun i x hx => ?_⟩
  have h2 := h i x hx
  have hk := key i x hp hm hx
  have h8 := hk.1 (by grind)
  grind)
theorem zla {l : List (El zO)} : (zGt l).1 = true ↔ ∃ t, t ∈ l ∧ (t.2.2.1 = (1 : Int) ∨ t.2.2.1 = (2 : Int)) := by
 rw [zb2]
 simp only [z8, ct, Bool.eq_false_iff, ne_eq, beq_iff_eq, zbS, and_true, and_false, false_or, Bool.false_eq_true]
 grind
theorem zlr {l : List (El zO)} : (yT l ()).1 = true ↔ ∃ t, t ∈ l ∧ (t.2.2.1 = (1 : Int) ∨ t.2.2.1 = (2 : Int)) := by
 unfold yT
 rw [zCW]
 show decide ((zE1 (xB (fun i x => bif (zEJ x).1 then (some ((i : Int), ())) else none) 0 l) (fun r => (r.1, ())) ((-1 : Int), ())).1 ≥ 0) = true ↔ _
 rw [zKN (fun x : El zO => (zEJ x).1), decide_eq_true_eq, zUt]
 simp only [zEJ, zLO, zi, zR]
 simp only [z8, ct, Bool.eq_false_iff, ne_eq, beq_iff_eq, and_true]
 grind
theorem zlo (d : El zN) (t : El ye) : zBB d t = zA8 d t := b1 (by
 simp only [zBB, zII, zA8, zIg, zQt, zNE, zQH, zNX, zFX, zFa, zi, zQ, zR]
 simp only [zlA, zkh, zkP, zib, zjm, zAU, zRk, zj0, z8, ct, Bool.not_eq_true', Bool.eq_false_iff, ne_eq, beq_iff_eq, decide_eq_true_eq, and_true, and_false, or_false, false_or, Bool.false_eq_true, Decidable.not_not, zla, zlr]
 grind)
theorem zlc (b : El zp) : zGZ b = zD1 b := b1 (by
 rw [zT7, zOQ]
 simp only [zlA, zcm, zjT, zMl, zlo, zAU, zRk, z8, ct, Bool.not_eq_true', Bool.eq_false_iff, ne_eq, bne_iff_ne, decide_eq_true_eq, zw, Nat.zero_add, and_true, and_false, or_false, false_or, Bool.false_eq_true, Decidable.not_not]
 grind)
end
end Go.Proofs.YtipbfgknaihifaaGreat
namespace Go.Proofs.YtipbfgknaihifaaGreat
open Go.RowKit
noncomputable section
theorem zY5 (l : List (El zF)) (s : ByteArray) : zFU l s = xW l s := by rw [zdg, ze7]
theorem zhC (a : El zj) (l : List (El zF)) : xT a l = xU a l := by simp only [xT, zLb, xU, zLl, zi, zR]; rw [zY5]
theorem zYx (a b : Int) : (zx a b).1 = if a < b then -1 else if a > b then 1 else 0 := by
 simp only [zCG, zx, zCO, zi, zR]
 simp only [bne_self_eq_false, cond_false]
 by_cases h1 : a < b
 ·rw [decide_eq_true h1, if_pos h1]; rfl
 ·by_cases h2 : a > b
  ·rw [decide_eq_false h1, decide_eq_true h2, if_neg h1, if_pos h2]; rfl
  ·rw [decide_eq_false h1, decide_eq_false h2, if_neg h1, if_neg h2]; rfl
theorem zmE (a b : ByteArray) : (zAd a b).1 = if Op.bytesLess a.toList b.toList = true then -1 else if a.toList = b.toList then 0 else 1 := by
 simp only [zAH, zAd, zAp, zi, zR]
 simp only [beq_self_eq_true, Bool.not_true, cond_false]
 cases h1 : Op.bytesLess a.toList b.toList
 ·simp only [cond_false, Bool.false_or]
  by_cases h2 : a.toList = b.toList
  ·rw [beq_iff_eq.2 h2, if_pos h2]; rfl
  ·rw [beq_eq_false_iff_ne.2 h2, if_neg h2]; rfl
 ·rfl
theorem nz (a : Int) : ((a != (0 : Int)) = true ∧ a ≠ 0) ∨ ((a != (0 : Int)) = false ∧ a = 0) := by
 by_cases h : a = 0
 ·exact .inr ⟨by rw [h]; rfl, h⟩
 ·exact .inl ⟨bne_iff_ne.2 h, h⟩
theorem zmt (a b c : Int) : (vu [a, b, c]).1 = if a ≠ 0 then a else if b ≠ 0 then b else c := by
 rw [zNI]
 rcases nz a with ⟨e1, h1⟩ | ⟨e1, h1⟩
 ·simp only [xB, e1]; rw [if_pos h1]; rfl
 ·rcases nz b with ⟨e2, h2⟩ | ⟨e2, h2⟩
  ·simp only [xB, e1, e2]; rw [if_neg (not_not_intro h1), if_pos h2]; rfl
  ·rcases nz c with ⟨e3, h3⟩ | ⟨e3, h3⟩
   ·simp only [xB, e1, e2, e3]; rw [if_neg (not_not_intro h1), if_neg (not_not_intro h2)]; rfl
   ·simp only [xB, e1, e2, e3]; rw [if_neg (not_not_intro h1), if_neg (not_not_intro h2), h3]; rfl
theorem zmc (a b : Int) : (vu [a, b]).1 = if a ≠ 0 then a else b := by
 rw [zNI]
 rcases nz a with ⟨e1, h1⟩ | ⟨e1, h1⟩
 ·simp only [xB, e1]; rw [if_pos h1]; rfl
 ·rcases nz b with ⟨e2, h2⟩ | ⟨e2, h2⟩
  ·simp only [xB, e1, e2]; rw [if_neg (not_not_intro h1)]; rfl
  ·simp only [xB, e1, e2]; rw [if_neg (not_not_intro h1), h2]; rfl
theorem zfY (a b : El zK) : zJJ a b = zJX a b := b1 (by
 unfold zJJ zHM; simp only [zJX, zI6, zi, zR]
 obtain ⟨a1, a2, a3⟩ := a
 obtain ⟨b1, b2, b3⟩ := b
 rw [zmt, zYx, zYx, zmE]
 simp only [z8, ct, Bool.eq_false_iff, ne_eq, bne_iff_ne, decide_eq_true_eq, Decidable.not_not]
 obtain ⟨a1, rfl⟩ : ∃ y : Int, y = a1 := ⟨_, rfl⟩
 obtain ⟨a2, rfl⟩ : ∃ y : Int, y = a2 := ⟨_, rfl⟩
 obtain ⟨b1, rfl⟩ : ∃ y : Int, y = b1 := ⟨_, rfl⟩
 obtain ⟨b2, rfl⟩ : ∃ y : Int, y = b2 := ⟨_, rfl⟩
 cases Op.bytesLess a3.toList b3.toList <;> grind)
theorem zk0 (c : El zP) (l : List (El zF)) : zHQ c l = zGk c l := by simp only [zHQ, zNL, zGk, zNH, zi, zR]; simp only [zhC, zfY]
theorem zgr (c : List (El zP)) (l : List (El zF)) : zFP c l = zE7 c l := by rw [zaO, zbn]; simp only [zk0]
def zbL (f : El zr) (l2 : List (El zF)) (i : Nat) (x : El zj) (s : List (El zF)) : (List (El zF) × Bool × Unit) ⊕ List (El zF) :=
 bif (x.1 == (2 : Int)) then (bif ((x.2.2.1 == (zB zK f.2 i).1) && ((x.2.2.2.1 == (zB zK f.2 i).2.1) && ((x.2.2.2.2.toList == (zB zK f.2 i).2.2.toList) && true))) then .inr s else .inl (l2, false, ()))
 else bif (x.1 == (1 : Int)) then (bif (xW s x.2.1).2.1 then (bif (((xW s x.2.1).1.1 == (zB zK f.2 i).1) && (((xW s x.2.1).1.2.1 == (zB zK f.2 i).2.1) && (((xW s x.2.1).1.2.2.toList == (zB zK f.2 i).2.2.toList) && true))) then .inr s else .inl (l2, false, ())) else .inr (s ++ [(x.2.1, zB zK f.2 i)])) else .inr s
theorem zcq (a : Int) : ((a == 2) = true ∧ (a == 1) = false) ∨ ((a == 2) = false ∧ (a == 1) = true) ∨ ((a == 2) = false ∧ (a == 1) = false) := by
 by_cases h : a = 2
 ·subst h; exact .inl ⟨rfl, rfl⟩
 ·by_cases h1 : a = 1
  ·subst h1; exact .inr (.inl ⟨rfl, rfl⟩)
  ·exact .inr (.inr ⟨beq_eq_false_iff_ne.2 h, beq_eq_false_iff_ne.2 h1⟩)
def stS {R σ T : Type} (o : R ⊕ σ) (g : σ → T) : St R T := match o with | .inl r => .ret r | .inr s => .brk (g s)
theorem zUI {l : LB} {α σ : Type} (L : List α) (emb : Nat → σ → l.d.T) (f : Nat → α → σ → l.r.T ⊕ σ)
  (hb : ∀ i x s, L[i]? = some x → l.b (emb i s) = match f i x s with | .inl r => .ret r | .inr s' => .go (emb (i + 1) s')) (he : ∀ s, l.b (emb L.length s) = .brk (emb L.length s)) (s : σ) :
  l.run (emb 0 s) = stS (zGv f 0 L s) (emb L.length) := by
 rw [LB.run_forS L emb f hb he s]; unfold stS; cases zGv f 0 L s <;> rfl
theorem zQy (p : El zI) (f : El zr) (l2 l8 : List (El zF)) : LB.run xQ (p, f, l2, (), (), l8, (0 : Int), ()) = stS (zGv (zbL f l2) 0 p.2.1 l8) fun s => (p, f, l2, (), (), s, (p.2.1.length : Int), ()) := by
 refine zUI (l := xQ) p.2.1 (fun i s => (p, f, l2, (), (), s, (i : Int), ())) (zbL f l2) (fun i x s h => ?_) (fun s => ?_) l8
 ·have hi := (List.getElem?_eq_some_iff.1 h).1
  simp only [LB.b, xQ, zi, zQ, zR, zbL]
  rw [ltT hi, cond_true, zG h]
  try dsimp only
  generalize ((x.2.2.1 == (zB zK f.2 i).1) && ((x.2.2.2.1 == (zB zK f.2 i).2.1) && ((x.2.2.2.2.toList == (zB zK f.2 i).2.2.toList) && true))) = A
  generalize (((xW s x.2.1).1.1 == (zB zK f.2 i).1) && (((xW s x.2.1).1.2.1 == (zB zK f.2 i).2.1) && (((xW s x.2.1).1.2.2.toList == (zB zK f.2 i).2.2.toList) && true))) = B
  generalize (xW s x.2.1).2.1 = C
  rcases zcq x.1 with ⟨h1, h2⟩ | ⟨h1, h2⟩ | ⟨h1, h2⟩ <;> rw [h1, h2] <;> cases A <;> cases B <;> cases C <;> rfl
 ·simp only [LB.b, xQ, zi, zQ, zR]
  rw [xo]; rfl
theorem zQU (L : List (El zj)) (f : El zr) (l2 l8 : List (El zF)) : LB.run xO (f, l2, (), l8, L, (L.length : Int), (0 : Int), ()) = stS (zGv (zbL f l2) 0 L l8) fun s => (f, l2, (), s, L, (L.length : Int), (L.length : Int), ()) := by
 refine zUI (l := xO) L (fun i s => (f, l2, (), s, L, (L.length : Int), (i : Int), ())) (zbL f l2) (fun i x s h => ?_) (fun s => ?_) l8
 ·have hi := (List.getElem?_eq_some_iff.1 h).1
  simp only [LB.b, xO, zi, zQ, zR, zbL]
  rw [ltT hi, cond_true, zG h, zY5]
  try dsimp only
  generalize ((x.2.2.1 == (zB zK f.2 i).1) && ((x.2.2.2.1 == (zB zK f.2 i).2.1) && ((x.2.2.2.2.toList == (zB zK f.2 i).2.2.toList) && true))) = A
  generalize (((xW s x.2.1).1.1 == (zB zK f.2 i).1) && (((xW s x.2.1).1.2.1 == (zB zK f.2 i).2.1) && (((xW s x.2.1).1.2.2.toList == (zB zK f.2 i).2.2.toList) && true))) = B
  generalize (xW s x.2.1).2.1 = C
  rcases zcq x.1 with ⟨h1, h2⟩ | ⟨h1, h2⟩ | ⟨h1, h2⟩ <;> rw [h1, h2] <;> cases A <;> cases B <;> cases C <;> rfl
 ·simp only [LB.b, xO, zi, zQ, zR]
  rw [xo]; rfl
theorem zcl (p : El zI) (f : El zr) (l : List (El zF)) : vf p f l = yI p f l := by
 simp only [vf, zFf, yI, zFv, zi, zQ, zR, zy]
 rw [zQU, zQy]
 have e1 : (f.1.toList == p.1.toList) = (p.1.toList == f.1.toList) := by rw [Bool.eq_iff_iff, beq_iff_eq, beq_iff_eq]; exact eq_comm
 have e2 : ((f.2.length : Int) != (p.2.1.length : Int)) = ((p.2.1.length : Int) != (f.2.length : Int)) := by rw [Bool.eq_iff_iff, bne_iff_ne, bne_iff_ne]; exact ne_comm
 rw [e1, e2]
 cases zGv (zbL f l) 0 p.2.1 l <;> rfl
theorem zaU (r : El zC) (s : El zH) (l : List (El zF)) : zFB r s l = bif ze (fun _ p => bif p.2.2 then ze (fun _ x => !(yI p x.2 l).2.1) 0 s.1 else true) 0 r.2.2.1 then (false, ()) else (true, ()) := by
 simp only [zFB, zJD, zQ, zR, zy]
 have h1 : ∀ n7 : Int, (zB zI r.2.2.1 n7).2.2 = true → LB.run xI (r, s, l, (), (), n7, (0 : Int), ()) = bif ze (fun _ x => !(yI (zB zI r.2.2.1 n7) x.2 l).2.1) 0 s.1 then .brk (r, s, l, (), (), n7, (s.1.length : Int), ()) else .ret (true, ()) := fun n7 hn => by
  refine LB.run_all (l := xI) (L := s.1) (fun i => (r, s, l, (), (), n7, (i : Int), ())) (p := (fun _ x => !(yI (zB zI r.2.2.1 n7) x.2 l).2.1)) (r := (true, ())) (fun i x h => ?_) ?_
  ·have hi := (List.getElem?_eq_some_iff.1 h).1
   simp only [LB.b, xI, zi, zQ, zR]
   rw [ltT hi, cond_true, hn, zG h]
   cases (yI (zB zI r.2.2.1 n7) x.2 l).2.1 <;> rfl
  ·simp only [LB.b, xI, zi, zQ, zR]
   rw [xo]; rfl
 have h2 : ∀ n7 : Int, (zB zI r.2.2.1 n7).2.2 = false → LB.run xI (r, s, l, (), (), n7, (0 : Int), ()) = .brk (r, s, l, (), (), n7, (0 : Int), ()) := fun n7 hn => by
  refine LB.run_scan (l := xI) (L := ([] : List Unit)) (fun _ => (r, s, l, (), (), n7, (0 : Int), ())) (f := (fun _ _ => none)) (fun i x h => by simp at h) ?_
  simp only [LB.b, xI, zi, zQ, zR]
  rw [hn]
  cases decide ((0 : Int) < (s.1.length : Int)) <;> rfl
 have : LB.run zCU (r, s, l, (), (), (0 : Int), ()) = bif ze (fun _ p => bif p.2.2 then ze (fun _ x => !(yI p x.2 l).2.1) 0 s.1 else true) 0 r.2.2.1 then .brk (r, s, l, (), (), (r.2.2.1.length : Int), ()) else .ret (true, ()) := by
  refine LB.run_all (l := zCU) (L := r.2.2.1) (fun i => (r, s, l, (), (), (i : Int), ())) (r := (true, ())) (fun i x h => ?_) ?_
  ·have hi := (List.getElem?_eq_some_iff.1 h).1
   simp only [LB.b, zCU, zi, zQ, zR, zy]
   rw [ltT hi, cond_true]
   cases hn : x.2.2 with
   | true =>
    rw [h1 i (by rw [zG h]; exact hn), zG h]
    generalize ze _ 0 s.1 = A
    cases A <;> rfl
   | false => rw [h2 i (by rw [zG h]; exact hn)]; rfl
  ·simp only [LB.b, zCU, zi, zQ, zR, zy]
   rw [xo]; rfl
 rw [this]
 cases ze _ 0 r.2.2.1 <;> rfl
theorem zlV {p : El zI} {s : El zH} {l : List (El zF)} : (zEO p s l).1 > 0 ↔ ∃ x, x ∈ s.1 ∧ (yI p x.2 l).2.1 = true := by
 rw [zfi]
 simp only [zcl]
 rw [zH1 (fun x : El zD => (yI p x.2 l).2.1)]
 rw [Int.zero_add]
 constructor
 ·intro h
  have h : 0 < (s.1.filter fun x : El zD => (yI p x.2 l).2.1).length := by omega
  obtain ⟨x, hx⟩ := List.exists_mem_of_length_pos h
  exact ⟨x, (List.mem_filter.1 hx).1, (List.mem_filter.1 hx).2⟩
 ·rintro ⟨x, h1, h2⟩
  have : 0 < (s.1.filter fun x : El zD => (yI p x.2 l).2.1).length := List.length_pos_of_mem (List.mem_filter.2 ⟨h1, h2⟩)
  omega
theorem zes (r : El zC) (s : El zH) (l : List (El zF)) : zFA r s l = zFB r s l := b1 (by
 rw [zbc, zaU]
 simp only [z8, ct, Bool.not_eq_true', Bool.eq_false_iff, ne_eq, decide_eq_true_eq, zbS, and_true, and_false, false_or, Bool.false_eq_true, zlV]
 grind)
theorem zkc (r : El zC) : (yU r false).1 = r.2.2.1.filter (fun p => !p.2.2) := by
 rw [zkH]
 have := zJA (fun x : El zI => x.2.2 == false) r.2.2.1 0 []
 refine this.trans ?_
 rw [List.nil_append]
 refine congrArg (fun f => List.filter f r.2.2.1) ?_
 funext x; cases x.2.2 <;> rfl
theorem zM6.take {L : List (El zI)} : ∀ {n : Nat}, zM6 L n → L.filter (fun p => !p.2.2) = L.take n := by
 induction L with
 | nil => intro n h; simp
 | cons x L ih =>
  intro n h
  have h0 := h.2 0 x rfl
  cases n with
  | zero =>
   have hx : x.2.2 = true := h0.2 (Nat.le_refl 0)
   rw [List.filter_cons_of_neg (by rw [hx]; decide)]
   rw [ih (n := 0) ⟨Nat.zero_le _, fun i y hy => ⟨fun _ => Nat.zero_le i, fun _ => (h.2 (i + 1) y (by simpa using hy)).2 (Nat.zero_le _)⟩⟩]; rfl
  | succ n =>
   have hx : x.2.2 = false := by
    cases e : x.2.2 with
    | false => rfl
    | true => have := h0.1 e; omega
   rw [List.filter_cons_of_pos (by rw [hx]; decide), List.take_succ_cons]
   congr 1
   refine ih ⟨by have := h.1; simp at this; exact this, fun i y hy => ?_⟩
   rw [h.2 (i + 1) y (by simpa using hy)]; omega
theorem zlT {r : El zC} {n : Nat} (hF : zM6 r.2.2.1 n) (s : El zH) : ∀ (N : Nat) (out : List (El zA)) (ids : List (El .int)) (l : List (El zF)), ids.length ≤ n → xY N out r s ids l = xC N out r s ids l := by
 intro N
 induction N with
 | zero => intro _ _ _ _; rfl
 | succ N ih =>
  intro out ids l hids
  show (vN (xY N) (xr N) out r s ids l).val = (vO (xC N) (xp N) out r s ids l).val
  have hn : (xG r).1 = (n : Int) := by rw [zFc, hF.len]
  have hp : (yU r false).1 = r.2.2.1.take n := by rw [zkc, hF.take]
  have hpl : (r.2.2.1.take n).length = n := by rw [List.length_take]; have := hF.1; omega
  simp only [vN, vO, zi, zQ, zR, zy]
  rw [hn, hp, hpl, zes, zgr]
  by_cases hc : ids.length = n
  ·rw [hc]
   have : (((n : Nat) : Int) == ((n : Nat) : Int)) = true := beq_self_eq_true _
   rw [this]; rfl
  ·have : ((ids.length : Int) == ((n : Nat) : Int)) = false := beq_eq_false_iff_ne.2 (by omega)
   rw [this, cond_false, cond_false]
   have hg : zB zI (r.2.2.1.take n) (ids.length : Int) = zB zI r.2.2.1 (ids.length : Int) := by
    have h1 : ids.length < r.2.2.1.length := by have := hF.1; omega
    have h2 : r.2.2.1[ids.length]? = some (r.2.2.1[ids.length]'h1) := List.getElem?_eq_getElem _
    rw [zG h2]
    exact zG (zHm.2 ⟨by omega, h2⟩)
   have hs : LB.run (yM (xC N) (xp N)) (out, r, s, (), ids, l, (), (), (0 : Int), ()) = .brk (zc (fun _ x o => bif (yI (zB zI r.2.2.1 (ids.length : Int)) x.2 l).2.1 then (xC N o r s (ids ++ [x.1]) (yI (zB zI r.2.2.1 (ids.length : Int)) x.2 l).1).1 else o) 0 s.1 out, r, s, (), ids, l, (), (), (s.1.length : Int), ()) := by
    refine LB.run_fold (l := yM (xC N) (xp N)) (L := s.1) (fun i o => (o, r, s, (), ids, l, (), (), (i : Int), ())) (fun i x o h => ?_) (fun o => ?_) (s := out)
    ·have hi := (List.getElem?_eq_some_iff.1 h).1
     simp only [LB.b, yM, zi, zQ, zR]
     rw [ltT hi, cond_true, zG h]
     try dsimp only
     cases (yI (zB zI r.2.2.1 (ids.length : Int)) x.2 l).2.1 <;> rfl
    ·simp only [LB.b, yM, zi, zQ, zR]
     rw [xo]; rfl
   have hi' : LB.run (yN (xY N) (xr N)) (out, r, s, (), ids, l, (), (), r.2.2.1.take n, s.1, (s.1.length : Int), (0 : Int), ()) = .brk (zc (fun _ x o => bif (yI (zB zI r.2.2.1 (ids.length : Int)) x.2 l).2.1 then (xC N o r s (ids ++ [x.1]) (yI (zB zI r.2.2.1 (ids.length : Int)) x.2 l).1).1 else o) 0 s.1 out, r, s, (), ids, l, (), (), r.2.2.1.take n, s.1, (s.1.length : Int), (s.1.length : Int), ()) := by
    refine LB.run_fold (l := yN (xY N) (xr N)) (L := s.1) (fun i o => (o, r, s, (), ids, l, (), (), r.2.2.1.take n, s.1, (s.1.length : Int), (i : Int), ())) (fun i x o h => ?_) (fun o => ?_) (s := out)
    ·have hi := (List.getElem?_eq_some_iff.1 h).1
     simp only [LB.b, yN, zi, zQ, zR]
     rw [ltT hi, cond_true, zG h, hg, zcl]
     try dsimp only
     rw [ih o (ids ++ [x.1]) (yI (zB zI r.2.2.1 (ids.length : Int)) x.2 l).1 (by simp; omega)]
     cases (yI (zB zI r.2.2.1 (ids.length : Int)) x.2 l).2.1 <;> rfl
    ·simp only [LB.b, yN, zi, zQ, zR]
     rw [xo]; rfl
   rw [hs, hi']; rfl
end
end Go.Proofs.YtipbfgknaihifaaGreat
namespace Go.Proofs.YtipbfgknaihifaaGreat
open Go.RowKit
noncomputable section
theorem zfx {L : List (El zI)} (h : (zFI L).1 = true) : ∃ n, zM6 L n := by
 rw [zOL] at h
 simp only [z8, ct, Bool.not_eq_true', Bool.eq_false_iff, ne_eq, beq_iff_eq, decide_eq_true_eq, zw, Nat.zero_add, and_true, and_false, or_false, false_or, Bool.false_eq_true, Decidable.not_not, zdK] at h
 have h0 := h.1
 refine zM6.of fun i x y hx hy hn => ?_
 have h2 := h0 (i + 1) y hy
 have h1 : zB zI L (((i + 1 : Nat) : Int) - 1) = zB zI L (i : Int) := by congr 1; omega
 rw [h1, zG hx] at h2
 grind
theorem znA {r : El zC} {n : Nat} (hF : zM6 r.2.2.1 n) (s : El zH) : yv r s = zEr r s := by
 simp only [yv, zGG, zEr, zN5, zQ, zR]
 rw [zlT hF s 64 [] [] [] (Nat.zero_le _)]
def zil (d : El zN) (s : El zH) : List (El zA) := zc (fun i r o => o ++ (zEr r s).1.map (fun m : El zA => (((i : Int), m.2) : El zA))) 0 d.2 []
theorem zfN (d : El zN) (s : El zH) : zIn d s = (zil d s, ()) := by
 simp only [zIn, zLe, zQ, zR, zy]
 have h1 : ∀ (n6 : Int) (L o : List (El zA)), ∃ l7 n8, LB.run xZ (d, s, (), (), o, n6, L, (0 : Int), ()) = .brk (d, s, (), (), o ++ L.map (fun m : El zA => ((n6, m.2) : El zA)), n6, l7, n8, ()) := fun n6 L o => by
  refine ⟨(L.take L.length).map (fun m : El zA => ((n6, m.2) : El zA)) ++ L.drop L.length, (L.length : Int), ?_⟩
  have := LB.run_fold (l := xZ) (L := L) (fun i (o : List (El zA)) => (d, s, (), (), o, n6, (L.take i).map (fun m : El zA => ((n6, m.2) : El zA)) ++ L.drop i, (i : Int), ())) (f := (fun _ m o => o ++ [((n6, m.2) : El zA)])) (fun i x o h => ?_) (fun o => ?_) (s := o)
  ·refine Eq.trans this ?_
   rw [zOa (fun m : El zA => ((n6, m.2) : El zA))]
  ·have hi := (List.getElem?_eq_some_iff.1 h).1
   have hx := (List.getElem?_eq_some_iff.1 h).2
   have hlen : ((L.take i).map (fun m : El zA => ((n6, m.2) : El zA)) ++ L.drop i).length = L.length := by simp; omega
   have hti : ((L.take i).map (fun m : El zA => ((n6, m.2) : El zA))).length = i := by simp; omega
   have hd : L.drop i = x :: L.drop (i + 1) := by rw [List.drop_eq_getElem_cons hi, hx]
   have hg : zB zA ((L.take i).map (fun m : El zA => ((n6, m.2) : El zA)) ++ L.drop i) (i : Int) = x := zG (by rw [List.getElem?_append_right (by omega), hti, Nat.sub_self, hd]; rfl)
   have hs : List.set ((L.take i).map (fun m : El zA => ((n6, m.2) : El zA)) ++ L.drop i) i ((n6, x.2) : El zA) = (L.take (i + 1)).map (fun m : El zA => ((n6, m.2) : El zA)) ++ L.drop (i + 1) := by
    rw [List.set_append_right _ _ (by omega), hti, Nat.sub_self, hd, List.set_cons_zero, List.take_add_one, h]
    simp
   have hg2 : zB zA (List.set ((L.take i).map (fun m : El zA => ((n6, m.2) : El zA)) ++ L.drop i) i ((n6, x.2) : El zA)) (i : Int) = ((n6, x.2) : El zA) := zG (List.getElem?_set_self (by omega))
   simp only [LB.b, xZ, zi, zQ, zR]
   rw [hlen, ltT hi, cond_true, hg, Int.toNat_natCast, hg2, hs]; rfl
  ·simp only [LB.b, xZ, zi, zQ, zR]
   have hlen : ((L.take L.length).map (fun m : El zA => ((n6, m.2) : El zA)) ++ L.drop L.length).length = L.length := by simp
   rw [hlen, xo]; rfl
 have : LB.run zAK (d, s, (), (), [], (0 : Int), ()) = .brk (d, s, (), (), zil d s, (d.2.length : Int), ()) := by
  refine LB.run_fold (l := zAK) (L := d.2) (fun i o => (d, s, (), (), o, (i : Int), ())) (fun i x o h => ?_) (fun o => ?_) (s := [])
  ·have hi := (List.getElem?_eq_some_iff.1 h).1
   simp only [LB.b, zAK, zi, zQ, zR, zy]
   rw [ltT hi, cond_true, zG h]
   obtain ⟨l7, n8, e⟩ := h1 (i : Int) (zEr x s).1 o
   rw [e]; rfl
  ·simp only [LB.b, zAK, zi, zQ, zR, zy]
   rw [xo]; rfl
 rw [this]; rfl
theorem zmd {d : El zN} (hF : ∀ r, r ∈ d.2 → ∃ n, zM6 r.2.2.1 n) (s : El zH) : zNP d s = zIn d s := by
 rw [zfN]
 simp only [zNP, zNt, zQ, zR, zy]
 have : LB.run zA2 (s, (), [], d.2, (d.2.length : Int), (0 : Int), ()) = .brk (s, (), zil d s, d.2, (d.2.length : Int), (d.2.length : Int), ()) := by
  refine LB.run_fold (l := zA2) (L := d.2) (fun i o => (s, (), o, d.2, (d.2.length : Int), (i : Int), ())) (fun i x o h => ?_) (fun o => ?_) (s := [])
  ·have hi := (List.getElem?_eq_some_iff.1 h).1
   simp only [LB.b, zA2, zi, zQ, zR, zy]
   rw [ltT hi, cond_true]
   try dsimp only
   rw [zY9, zG h]
   obtain ⟨n, hn⟩ := hF x (zMh h)
   rw [znA hn, zOa (fun m : El zA => (((i : Int), m.2) : El zA))]; rfl
  ·simp only [LB.b, zA2, zi, zQ, zR, zy]
   rw [xo]; rfl
 rw [this]; rfl
def zmC {R S : Type} (P : R → S → Prop) : Option R → Option S → Prop
 | none, none => True
 | some a, some b => P a b
 | _, _ => False
theorem zYV {α R S : Type} {P : R → S → Prop} {f : Nat → α → Option R} {g : Nat → α → Option S} : ∀ {L : List α} {k : Nat}, (∀ i x, L[i]? = some x → zmC P (f (k + i) x) (g (k + i) x)) → zmC P (xB f k L) (xB g k L)
 | [], _, _ => trivial
 | x :: L, k, h => by
  have h0 := h 0 x rfl
  rw [Nat.add_zero] at h0
  simp only [xB]
  cases e1 : f k x <;> cases e2 : g k x <;> rw [e1, e2] at h0
  ·exact zYV (L := L) (k := k + 1) fun i y hy => by have := h (i + 1) y (by simpa using hy); rwa [show k + 1 + i = k + (i + 1) by omega]
  ·exact h0.elim
  ·exact h0.elim
  ·exact h0
theorem zUe {α σ τ : Type} {R : σ → τ → Prop} {f : Nat → α → σ → σ} {g : Nat → α → τ → τ} : ∀ {L : List α} {k : Nat} {s : σ} {t : τ}, R s t → (∀ i x s t, L[i]? = some x → R s t → R (f (k + i) x s) (g (k + i) x t)) → R (zc f k L s) (zc g k L t)
 | [], _, _, _, h, _ => h
 | x :: L, k, s, t, h, hh => by
  simp only [zc]
  refine zUe (L := L) (k := k + 1) (hh 0 x s t rfl h) fun i y s t hy hr => ?_
  have := hh (i + 1) y s t (by simpa using hy) hr
  rwa [show k + 1 + i = k + (i + 1) by omega]
theorem zYZ (a b : El zA) : zGI a b = zEU a b := b1 (by
 unfold zGI; simp only [zEn, zCQ, zi, zR]
 rw [zUr, zH7]
 have hy : (vu [(zx a.1 b.1).1, (zx (a.2.1.length : Int) (b.2.1.length : Int)).1]).1 = (fun x y : Int => if x ≠ 0 then x else y) (if (a.1 : Int) < b.1 then -1 else if (a.1 : Int) > b.1 then 1 else 0) (if (a.2.1.length : Int) < (b.2.1.length : Int) then -1 else if (a.2.1.length : Int) > (b.2.1.length : Int) then 1 else 0) := by
  rw [zmc, zYx, zYx]
 generalize vu [(zx a.1 b.1).1, (zx (a.2.1.length : Int) (b.2.1.length : Int)).1] = y at *
 obtain ⟨y, ⟨⟩⟩ := y
 dsimp only at hy ⊢
 subst hy
 obtain ⟨a1, a2, a3⟩ := a
 obtain ⟨b1, b2, b3⟩ := b
 obtain ⟨a1, rfl⟩ : ∃ y : Int, y = a1 := ⟨_, rfl⟩
 obtain ⟨b1, rfl⟩ : ∃ y : Int, y = b1 := ⟨_, rfl⟩
 dsimp only
 have hr : ∀ hl : a2.length = b2.length, zmC (fun (x : Int × Unit) (y : Bool × Unit) => x.1 < 0 ↔ y.1 = true) (xB (fun i x => bif (decide ((i : Int) ≥ (b2.length : Int))) then (some ((1 : Int), ())) else (bif ((zx (zB .int a2 (i : Int)) (zB .int b2 (i : Int))).1 != (0 : Int)) then (some ((zx (zB .int a2 (i : Int)) (zB .int b2 (i : Int))).1, ())) else none)) 0 a2) (xB (fun i x => bif (x != (zB .int b2 (i : Int))) then (some (decide (x < (zB .int b2 (i : Int))), ())) else none) 0 a2) := fun hl => by
  refine zYV fun i x hx => ?_
  have hi := (List.getElem?_eq_some_iff.1 hx).1
  rw [Nat.zero_add, decide_eq_false (by omega), cond_false, zG hx, zYx]
  generalize zB .int b2 (i : Int) = y
  obtain ⟨x, rfl⟩ : ∃ z : Int, z = x := ⟨_, rfl⟩
  obtain ⟨y, rfl⟩ : ∃ z : Int, z = y := ⟨_, rfl⟩
  rcases Int.lt_trichotomy x y with h | h | h
  ·rw [if_pos h, bne_iff_ne.2 (show x ≠ y by omega)]
   show (-1 : Int) < 0 ↔ decide (x < y) = true
   simp [h]
  ·subst h
   rw [if_neg (Int.lt_irrefl _), if_neg (Int.lt_irrefl _), show (x != x) = false from bne_self_eq_false x]; trivial
  ·rw [if_neg (by omega), if_pos h, bne_iff_ne.2 (show x ≠ y by omega)]
   show (1 : Int) < 0 ↔ decide (x < y) = true
   simp; omega
 by_cases h1 : a1 = b1
 ·subst h1
  by_cases h2 : a2.length = b2.length
  ·have hr := hr h2
   rw [h2]
   simp only [Int.lt_irrefl, gt_iff_lt, if_false, bne_self_eq_false, cond_false, beq_self_eq_true, cond_true, ne_eq, not_true_eq_false, decide_false]
   generalize xB _ 0 a2 = A at *
   generalize xB _ 0 a2 = B at *
   cases A with
   | none => cases B with
    | none => simp [zE1]
    | some y => exact hr.elim
   | some x => cases B with
    | none => exact hr.elim
    | some y => exact decide_eq_true_iff.trans hr
  ·simp only [Int.lt_irrefl, gt_iff_lt, if_false, bne_self_eq_false, cond_false, ne_eq, not_true_eq_false]
   rw [bne_iff_ne.2 (show ((a2.length : Int)) ≠ (b2.length : Int) by omega), cond_true]
   by_cases h3 : (a2.length : Int) < (b2.length : Int)
   ·simp [h3]
   ·have h4 : (b2.length : Int) < (a2.length : Int) := by omega
    simp [h3, h4]
 ·rw [bne_iff_ne.2 h1, cond_true]
  by_cases h3 : a1 < b1
  ·simp [h3]
  ·have h4 : b1 < a1 := by omega
   simp [h3, h4])
theorem zhB (d : El zN) (a b : El zA) : zCJ d a b = zA7 d a b := by simp only [zCJ, zKw, zA7, zKu, zi, zQ, zR]; simp only [zOE, zYZ]
theorem zYJ (a b : El zA) : zGN a b = vt a b := by simp only [zGN, zGE, vt, zGK, zi, zR]; rw [zJc, zbb]
theorem zcM (l : List (El zA)) (m : El zA) : zAA l m = vF l m := b1 (by
 rw [zXa]
 unfold zAA yw
 rw [zCL]
 unfold zCI
 simp only [zYJ]
 show decide ((zE1 (xB (fun i x => bif (vt x m).1 then (some ((i : Int), ())) else none) 0 l) (fun r => (r.1, ())) ((-1 : Int), ())).1 ≥ 0) = true ↔ _
 rw [zKN (fun x : El zA => (vt x m).1), decide_eq_true_eq, zUt]
 simp only [z8, ct, Bool.eq_false_iff, ne_eq, zbS, and_true, and_false, false_or, Bool.false_eq_true]
 grind)
theorem zmN (d : El zN) (l f : List (El zA)) : zEZ d l f = zEV d l f := by
 rw [zWc, zUs]
 simp only [zOE, zcM, zhB]
 have h := zUe (R := fun (s : El zA × Bool) (t : Int) => (t = -1 ∧ s = (((0 : Int), (([] : List (El .int)), ([] : List (El zF)))), false)) ∨ (0 ≤ t ∧ t < (l.length : Int) ∧ s = (zB zA l t, true))) (f := fun i x (s : (El zA) × Bool) => bif (!(yz d x).1) then (s.1, s.2) else (bif (vF f x).1 then (s.1, s.2) else (bif (!s.2) then (x, true) else (bif (zA7 d x s.1).1 then (x, true) else (s.1, s.2))))) (g := fun i x (s : Int) => bif (yz d x).1 then (bif (!(vF f x).1) then (bif (decide (s < (0 : Int))) then (i : Int) else (bif (zA7 d x (zB zA l s)).1 then (i : Int) else s)) else s) else s) (L := l) (k := 0) (s := (((0 : Int), (([] : List (El .int)), ([] : List (El zF)))), false)) (t := -1) (.inl ⟨rfl, rfl⟩) (fun i x s t hx hr => by
  have hi := (List.getElem?_eq_some_iff.1 hx).1
  have hn : 0 ≤ ((0 + i : Nat) : Int) ∧ ((0 + i : Nat) : Int) < (l.length : Int) ∧ ((x, true) : El zA × Bool) = (zB zA l ((0 + i : Nat) : Int), true) := ⟨by omega, by omega, by rw [Nat.zero_add, zG hx]⟩
  cases (yz d x).1 with
  | false => exact hr
  | true =>
   cases (vF f x).1 with
   | true => exact hr
   | false =>
    rcases hr with ⟨rfl, rfl⟩ | ⟨h1, h2, rfl⟩
    ·exact .inr hn
    ·have : decide (t < 0) = false := decide_eq_false (by omega)
     simp only [this, Bool.not_true, Bool.not_false, cond_true, cond_false]
     cases (zA7 d x (zB zA l t)).1 with
     | true => exact .inr hn
     | false => exact .inr ⟨h1, h2, rfl⟩)
 unfold zGJ; simp only [zDp, zDr, zQ, zR]
 generalize zc _ 0 l (((0 : Int), (([] : List (El .int)), ([] : List (El zF)))), false) = A at *
 generalize zc _ 0 l (-1 : Int) = B at *
 rcases h with ⟨rfl, rfl⟩ | ⟨h1, h2, rfl⟩
 ·rfl
 ·rw [decide_eq_false (by omega), cond_false]
theorem zkx (b : El zp) (i : Int) : vS b i = zD7 b i := by simp only [vS, zDV, zD7, zIK, zQ, zR]; rw [zcm]
theorem zdx {b : El zp} (h : (zD1 b).1 = true) (i : Int) : ∀ r, r ∈ (zD7 b i).1.2 → ∃ n, zM6 r.2.2.1 n := by
 simp only [zD7, zIK, zQ, zR]
 generalize (xJ b (zB zg b.2.1 i).2.1).1 = k
 have hd : zB zN b.1 k = dflt zN ∨ zB zN b.1 k ∈ b.1 := by
  unfold zB
  rw [List.getD_eq_getElem?_getD]
  cases e : b.1[k.toNat]? with
  | none => exact .inl rfl
  | some d => exact .inr (zMh e)
 intro r hr
 rcases hd with hd | hd
 ·rw [hd] at hr
  exact absurd hr (by show r ∉ ([] : List (El zC)); simp)
 ·obtain ⟨j, hj⟩ := zVg hd
  rw [zOQ] at h
  simp only [z8, ct, Bool.not_eq_true', Bool.eq_false_iff, ne_eq, bne_iff_ne, decide_eq_true_eq, zw, Nat.zero_add, and_true, and_false, or_false, false_or, Bool.false_eq_true, Decidable.not_not] at h
  have h1 := (h.2.2.2.2.1 j _ hj).1
  rw [zRM] at h1
  simp only [z8, ct, Bool.not_eq_true', Bool.eq_false_iff, ne_eq, bne_iff_ne, zw, Nat.zero_add, and_true, and_false, or_false, false_or, Bool.false_eq_true, Decidable.not_not] at h1
  obtain ⟨m, hm⟩ := zVg hr
  have h2 := (h1.1 m r hm).1
  simp only [zA3, zGc, zi, zQ, zR] at h2
  simp only [z8, ct, Bool.eq_false_iff, ne_eq, and_false, or_false, Bool.false_eq_true] at h2
  exact zfx h2.2.2.1
theorem zeY (b : El zp) (i : Int) : zIu b i = zHC b i := by
 simp only [zIu, zJO, zHC, zJE, zON, zLF, zMc, zJv, zMZ, zJF, zi, zQ, zR]
 rw [zlc, zkx]
 cases h : (zD1 b).1 with
 | false => cases decide (i < 0) <;> cases decide (i ≥ (b.2.1.length : Int)) <;> rfl
 | true =>
  rw [zmd (zdx h i), zmN]
  cases decide (i < 0) <;> cases decide (i ≥ (b.2.1.length : Int)) <;> cases ((zB zg b.2.1 i).2.2.2.2.2.2.2.1 != (1 : Int)) <;> rfl
end
end Go.Proofs.YtipbfgknaihifaaGreat
namespace Go.Proofs.YtipbfgknaihifaaGreat
open Go.RowKit
def zRS (x : El zp) : V := .agg [.ext 0 zN x.1, .ext 0 zg x.2.1, .c (.int .i64 x.2.2.1), .c (.int .i64 x.2.2.2)]
theorem zms {w : World} {u : V} {y : Value} (h : Rv w u y) : ∀ (i : Nat) (u' : V) (y' : Value), [u][i]? = some u' → [y][i]? = some y' → Rv w u' y' := fun i u' y' hu hy => by
 cases i with
 | zero => simp at hu hy; subst hu hy; exact h
 | succ i => simp at hu
theorem zle {w : World} {u v : V} {y z : Value} (h : Rv w u y) (g : Rv w v z) : ∀ (i : Nat) (u' : V) (y' : Value), [u, v][i]? = some u' → [y, z][i]? = some y' → Rv w u' y' := fun i u' y' hu hy => by
 cases i with
 | zero => simp at hu hy; subst hu hy; exact h
 | succ i => exact zms g i u' y' (by simpa using hu) (by simpa using hy)
theorem zQl {x : El zp} {w : World} {v : Value} (h : Rv w (zRS x) v) :
  Calls Tryz.prog 8 #[v] w (fun e w' => ∃ A0 C0 A1 C1, e = .returned (.agg #[.slice A0 x.1.length C0, .slice A1 x.2.1.length C1, .int .i64 x.2.2.1, .int .i64 x.2.2.2]) ∧ Rv w' (zRS x) (.agg #[.slice A0 x.1.length C0, .slice A1 x.2.1.length C1, .int .i64 x.2.2.1, .int .i64 x.2.2.2]) ∧ Below w.heap.size w w') := by
 refine (zPe (d := zOR) zeE.ok (a := (x, ())) rfl trivial (xs := [v]) rfl (zms h)).mono ?_
 rintro e w' ⟨y, ρ', Z', rfl, hb, hr, hy⟩
 have hF : zOR.F (x, ()) = (x, ()) := zZr x
 rw [hF] at hr hy
 have hr : HR ρ' Z' [.arr (.d zN) x.1, .arr (.d zg) x.2.1] w' := hr
 have hy : Cn ρ' Z' w' (.agg [.obj 0, .obj 1, .c (.int .i64 x.2.2.1), .c (.int .i64 x.2.2.2)]) y := hy
 obtain ⟨Z1, a1, -, a3, -, -⟩ := hr.freezeL [0, 1]
 have a3 : HR ρ' Z1 [.frz zN x.1, .frz zg x.2.1] w' := a3
 have hk : Kp zAQ Z1 w' zAQ (Zw w') w' := ⟨fun _ _ h => h, fun q b h => a3.zl q b h, fun _ _ _ => rfl, fun o p b e => by simp [zAQ] at e⟩
 cases hy with
 | agg hl hc =>
  rename_i xs
  obtain ⟨x0, x1, x2, x3, rfl⟩ : ∃ x0 x1 x2 x3, xs = [x0, x1, x2, x3] := by
   match xs, hl with
   | [x0, x1, x2, x3], _ => exact ⟨x0, x1, x2, x3, rfl⟩
  obtain ⟨p0, g0, rfl⟩ := (hc 0 _ _ rfl rfl).obj_inv
  obtain ⟨p1, g1, rfl⟩ := (hc 1 _ _ rfl rfl).obj_inv
  obtain rfl := vK (hc 2 _ _ rfl rfl)
  obtain rfl := vK (hc 3 _ _ rfl rfl)
  have k2 := zH4 (hc 2 _ _ rfl rfl)
  have k3 := zH4 (hc 3 _ _ rfl rfl)
  have f0 : Rv w' (.ext 0 zN x.1) p0.x := (a3.ob 0 p0 _ g0 rfl).1.mono hk
  have f1 : Rv w' (.ext 0 zg x.2.1) p1.x := (a3.ob 1 p1 _ g1 rfl).1.mono hk
  obtain ⟨A0, C0, -, -, -, e0, -⟩ := f0.ext_inv
  obtain ⟨A1, C1, -, -, -, e1, -⟩ := f1.ext_inv
  refine ⟨A0, C0, A1, C1, by rw [e0, e1], ?_, hb⟩
  rw [e0] at f0
  rw [e1] at f1
  refine .agg (xs := [.slice A0 x.1.length C0, .slice A1 x.2.1.length C1, .int .i64 x.2.2.1, .int .i64 x.2.2.2]) rfl fun i u y hu hy => ?_
  match i with
  | 0 => simp at hu hy; subst hu hy; exact f0
  | 1 => simp at hu hy; subst hu hy; exact f1
  | 2 => simp at hu hy; subst hu hy; exact .c _ k2
  | 3 => simp at hu hy; subst hu hy; exact .c _ k3
  | i + 4 => simp at hu
theorem zhc {x : El zp} {w : World} {u v : Value} (h : Rv w (zRS x) u) (g : Rv w (zRS x) v) : Calls Tryz.prog 10 #[u, v] w (zhh true w) := by
 refine (zPe (d := zOV) zfC.ok (a := (x, x, ())) rfl trivial (xs := [u, v]) rfl (zle h g)).mono ?_
 rintro e w' ⟨y, ρ', Z', rfl, hb, -, hy⟩
 have hF : zOV.F (x, x, ()) = (true, ()) := zVE x
 rw [hF] at hy
 exact ⟨congrArg _ (vK hy), hb⟩
theorem zc4 {α : Type} (f g : α → Nat) (h : ∀ x, f x ≤ g x) (l : List α) : (l.map f).sum ≤ (l.map g).sum := by
 induction l with
 | nil => exact Nat.le_refl _
 | cons x l ih => simp only [List.map_cons, List.sum_cons]; have := h x; omega
theorem szr {r : El zC} (h : szE zC r ≤ 1048576) : SzR r := by
 have e : szE zC r = r.1.size + (0 + (szE (.lst zI) r.2.2.1 + (szE (.lst zP) r.2.2.2.1 + szE (.lst z5) r.2.2.2.2))) := rfl
 have e1 : szE (.lst zI) r.2.2.1 = r.2.2.1.length + (r.2.2.1.map (szE zI)).sum := rfl
 have e2 : szE (.lst zP) r.2.2.2.1 = r.2.2.2.1.length + (r.2.2.2.1.map (szE zP)).sum := rfl
 have e3 : szE (.lst z5) r.2.2.2.2 = r.2.2.2.2.length + (r.2.2.2.2.map (szE z5)).sum := rfl
 have h1 : zcr r.2.2.1 ≤ (r.2.2.1.map (szE zI)).sum := zc4 _ _ (fun p => by
  have : szE zI p = p.1.size + ((p.2.1.length + (p.2.1.map (szE zj)).sum) + 0) := rfl
  omega) _
 have h3 : zc8 r.2.2.2.2 ≤ (r.2.2.2.2.map (szE z5)).sum := zc4 _ _ (fun p => by
  have : szE z5 p = 0 + (p.2.1.size + ((p.2.2.1.length + (p.2.2.1.map (szE zq)).sum) + (0 + p.2.2.2.2.size))) := rfl
  omega) _
 unfold SzR zAZ vT
 show ((zcr r.2.2.1 : Nat) : Int) ≤ 16777216 ∧ 2 * (r.2.2.2.1.length : Int) + 2 * ((zc8 r.2.2.2.2 : Nat) : Int) ≤ 16777216
 omega
theorem szb {x : El zp} (h : szE zp x ≤ 1048576) : ∀ d ∈ x.1, ∀ r ∈ d.2, SzR r := fun d hd r hr => by
 have e : szE zp x = (x.1.length + (x.1.map (szE zN)).sum) + (szE (.lst zg) x.2.1 + (0 + 0)) := rfl
 have e1 : szE zN d = d.1.size + (d.2.length + (d.2.map (szE zC)).sum) := rfl
 have h1 := zW2 (szE zN) hd
 have h2 := zW2 (szE zC) hr
 exact szr (by omega)
theorem zj1 {b : BookD} {w : World} {a0 a1 : Option Addr} {c0 c1 : Nat} (h : Cel.rd w.heap.size w [.slice a0 b.Defs.length c0, .slice a1 b.Works.length c1, .int .i64 b.Now, .int .i64 b.Ring] b) (hs : zJl b ≤ 1048576) :
  Rv w (zRS (Br.f b)) (.agg #[.slice a0 b.Defs.length c0, .slice a1 b.Works.length c1, .int .i64 b.Now, .int .i64 b.Ring]) := zl7 (t := zp) (Br.h h) (Nat.le_refl _) (by rw [zhs]; exact hs)
end Go.Proofs.YtipbfgknaihifaaGreat
namespace Go.Proofs.YtipbfgknaihifaaGreat
open Go.RowKit
open Cel (rd own rd_len rd_one own_rd own_lt rd_below rd_mono own_keep)
theorem zcP {x : El zp} (i : Int) {w : World} {v : Value} (h : Rv w (zRS x) v) (hi0 : zEy i) (hp : szE zp x ≤ 1048576) : Calls Tryz.prog 7 #[v, .int .i64 i] w (zhh (zHC x i).1 w) := by
 refine (zPe (d := zMs) zas.ok (a := (x, i, ())) rfl (szb hp) (xs := [v, .int .i64 i]) rfl (zle h (.c _ (ink hi0.1 hi0.2)))).mono ?_
 rintro e w' ⟨y, ρ', Z', rfl, hb, -, hy⟩
 exact ⟨congrArg _ (vK hy), hb⟩
theorem za6 {x : El zp} (i : Int) {w : World} {v : Value} (h : Rv w (zRS x) v) (hi0 : zEy i) (hp : szE zp x ≤ 1048576) : Calls Tryz.prog 9 #[v, .int .i64 i] w (zhh (zIu x i).1 w) := by
 refine (zPe (d := zMy) zcV.ok (a := (x, i, ())) rfl (szb hp) (xs := [v, .int .i64 i]) rfl (zle h (.c _ (ink hi0.1 hi0.2)))).mono ?_
 rintro e w' ⟨y, ρ', Z', rfl, hb, -, hy⟩
 exact ⟨congrArg _ (vK hy), hb⟩
set_option maxHeartbeats 1000000 in
set_option maxRecDepth 20000 in
theorem zNe (b : BookD) (i : Int) (v0 v1 : Value) (w : World) (s0 : Sl w b.Defs v0) (s1 : Sl w b.Works v1) (hx : zcg b) (hr : rd w.heap.size w [v0, v1, .int .i64 b.Now, .int .i64 b.Ring] b) (hi0 : zEy i) :
  Calls Tryz.prog 3 #[.agg #[v0, v1, .int .i64 b.Now, .int .i64 b.Ring], .int .i64 i] w (zhh true w) := by
 obtain ⟨a0, c0, rfl, hl0, -⟩ := s0.open
 obtain ⟨a1, c1, rfl, hl1, -⟩ := s1.open
 go_enter Tryz.func3, Tryz.ntmps3
 go_wp2_with fail
 refine (zh0 b _ _ 1048576 _ hx (s0.to (by simp)) (s1.to (by simp)) (by omega) (by omega)).mono ?_
 rintro e w1 ⟨rfl, hb1⟩
 have B1 := via (w0 := w) (by simp) hb1
 have X1 : Bx w1 w.heap.size [.slice a0 b.Defs.length c0, .slice a1 b.Works.length c1, .int .i64 b.Now, .int .i64 b.Ring] := Bx.via (by simp) hb1
 by_cases hs : ((zJl b : Nat) : Int) ≤ 1048576
 rotate_left
 ·rw [yF hs]
  go_wp2
  go_ret
  exact ⟨rfl, B1⟩
 rw [yH hs]
 have hs2 : zJl b ≤ 1048576 := by omega
 have hv := zj1 hr hs2
 have hz : szE zp (Br.f b) ≤ 1048576 := by rw [zhs]; exact hs2
 generalize (Br.f b : El zp) = x at *
 have k0 := X1.c 0 _ rfl
 have k1 := X1.c 1 _ rfl
 have k2 := X1.c 2 _ rfl
 have k3 := X1.c 3 _ rfl
 go_wp2_with fail
 refine (zQl (hv.to B1)).mono ?_
 rintro e w2 ⟨A0, C0, A1, C1, rfl, o0, hb2⟩
 have B2 := via B1 hb2
 have X2 := X1.via hb2
 clear k0 k1 k2 k3 X1 B1 hb1
 go_wp2_with fail
 refine (zcP i o0 hi0 hz).mono ?_
 rintro e w3 ⟨rfl, hb3⟩
 have B3 := via B2 hb3
 have X3 := X2.via hb3
 clear X2 B2 hb2 o0
 have k0 := X3.c 0 _ rfl
 have k1 := X3.c 1 _ rfl
 have k2 := X3.c 2 _ rfl
 have k3 := X3.c 3 _ rfl
 go_wp2_with fail
 refine (zQl (hv.to B3)).mono ?_
 rintro e w4 ⟨D0, E0, D1, E1, rfl, r0, hb4⟩
 have B4 := via B3 hb4
 have X4 := X3.via hb4
 clear k0 k1 k2 k3 X3 B3 hb3
 have Y4 : Bx (w4.alloc (.cells #[.slice D0 x.1.length E0, .slice D1 x.2.1.length E1, .int .i64 x.2.2.1, .int .i64 x.2.2.2] 31)) w4.heap.size [.slice D0 x.1.length E0, .slice D1 x.2.1.length E1, .int .i64 x.2.2.1, .int .i64 x.2.2.2] := zlY _ _ _ rfl
 have X4' := zjN X4 (.cells #[.slice D0 x.1.length E0, .slice D1 x.2.1.length E1, .int .i64 x.2.2.1, .int .i64 x.2.2.2] 31)
 go_wp2_with fail
 refine (za6 i (r0.to ?hb9) hi0 hz).mono ?_
 case hb9 => simp
 rintro e w5 ⟨rfl, hb5⟩
 have B5 := via (w0 := w) (by simp [B4]) hb5
 have X5 := X4'.via hb5
 have Y5 := Y4.via hb5
 replace r0 := (r0.to (by simp)).to hb5
 clear X4 X4' Y4 hb4 hb5 B4
 generalize w4.heap.size = g at *
 rw [zeY]
 generalize (zHC x i).1 = N at *
 have x0 := X5.c 0 _ rfl
 have x1 := X5.c 1 _ rfl
 have x2 := X5.c 2 _ rfl
 have x3 := X5.c 3 _ rfl
 have y0 := Y5.c 0 _ rfl
 have y1 := Y5.c 1 _ rfl
 have y2 := Y5.c 2 _ rfl
 have y3 := Y5.c 3 _ rfl
 go_wp2
 refine wp_region_noPanic ?_
 refine wp_region_held_drew (S := (fun w' => w'.cell? ⟨w.heap.size, 0, none⟩ = some (.slice a0 b.Defs.length c0) ∧ w'.cell? ⟨w.heap.size, 1, none⟩ = some (.slice a1 b.Works.length c1) ∧ w'.cell? ⟨w.heap.size, 2, none⟩ = some (.int .i64 b.Now) ∧ w'.cell? ⟨w.heap.size, 3, none⟩ = some (.int .i64 b.Ring) ∧ w'.cell? ⟨g, 0, none⟩ = some (.slice D0 x.1.length E0) ∧ w'.cell? ⟨g, 1, none⟩ = some (.slice D1 x.2.1.length E1) ∧ w'.cell? ⟨g, 2, none⟩ = some (.int .i64 x.2.2.1) ∧ w'.cell? ⟨g, 3, none⟩ = some (.int .i64 x.2.2.2))) (by kernel_rfl) ?_ (fun hHeld0 => ?_)
 ·go_keep
 refine' wpAnyH_take (i := 0) (oi := _) (v := _) ?hi201_0 (by kernel_rfl) (by kernel_rfl) (by kernel_rfl) (fun _ _ _ h => (h : False).elim) ?hy201_0 (by assumption) ?rest201_0
 case hi201_0 => simp only [List.getElem?_toArray, List.getElem?_cons_zero]; exact rfl
 case hy201_0 =>
  refine Or.inl ⟨by rfl, ?_⟩
  intro w hSw
  (try dsimp only at hSw)
  go_simp
  (try with_reducible rfl)
 simp only [Act.put, List.setIfInBounds_toArray, List.set_cons_zero, List.set_cons_succ]
 refine' wpAnyH_take (i := 1) (oi := _) (v := _) ?hi201_1 (by kernel_rfl) (by kernel_rfl) (by kernel_rfl) (fun _ _ _ h => (h : False).elim) ?hy201_1 (by assumption) ?rest201_1
 case hi201_1 => simp only [List.getElem?_toArray, List.getElem?_cons_succ, List.getElem?_cons_zero]; exact rfl
 case hy201_1 =>
  refine Or.inl ⟨by rfl, ?_⟩
  intro w hSw
  (try dsimp only at hSw)
  go_simp
  (try with_reducible rfl)
 simp only [Act.put, List.setIfInBounds_toArray, List.set_cons_zero, List.set_cons_succ]
 refine wpAnyH_ready (rs := [2]) (by kernel_rfl) (by simp) ?_
 refine' AllReadyH.cons (o := _) ?hi201_2 (fun K hK => ?_) AllReadyH.nil
 case hi201_2 => simp only [List.getElem?_toArray, List.getElem?_cons_succ, List.getElem?_cons_zero]; exact rfl
 go_simp
 go_at_call 8
 refine (zQl (hv.to (by simp [B5]))).mono ?_
 rintro e w6 ⟨F0, G0, F1, G1, rfl, q0, hb6⟩
 have B6 := via (w0 := w) (by simp [B5]) hb6
 have U6 : Below w5.heap.size w5 w6 := via (by simp) hb6
 have X6 := X5.via U6
 have Y6 := Y5.via U6
 have m0 := X6.c 0 _ rfl
 have m1 := X6.c 1 _ rfl
 have m2 := X6.c 2 _ rfl
 have m3 := X6.c 3 _ rfl
 have n0 := Y6.c 0 _ rfl
 have n1 := Y6.c 1 _ rfl
 have n2 := Y6.c 2 _ rfl
 have n3 := Y6.c 3 _ rfl
 go_wp2_with fail
 refine hK.out _ _ ?_ (fun hHeld2 => ?_)
 ·go_keep
 clear hK K hHeld0
 refine wpAnyH_ready (rs := [3]) (by kernel_rfl) (by simp) ?_
 refine' AllReadyH.cons (o := _) ?hi201_3 (fun K hK => ?_) AllReadyH.nil
 case hi201_3 => simp only [List.getElem?_toArray, List.getElem?_cons_succ, List.getElem?_cons_zero]; exact rfl
 go_simp
 go_at_call 10
 refine (zhc ((r0.to U6).to ?hb7) (q0.to ?hb8)).mono ?_
 case hb7 => simp
 case hb8 => simp
 rintro e w7 ⟨rfl, hb7⟩
 have B7 := via (w0 := w) (by simp [B6]) hb7
 have U7 : Below w6.heap.size w6 w7 := via (by simp) hb7
 have X7 := X6.via U7
 have Y7 := Y6.via U7
 have o0 := X7.c 0 _ rfl
 have o1 := X7.c 1 _ rfl
 have o2 := X7.c 2 _ rfl
 have o3 := X7.c 3 _ rfl
 have p0 := Y7.c 0 _ rfl
 have p1 := Y7.c 1 _ rfl
 have p2 := Y7.c 2 _ rfl
 have p3 := Y7.c 3 _ rfl
 go_wp2_with fail
 refine hK.out _ _ ?_ (fun hHeld3 => ?_)
 ·go_keep
 clear hK K hHeld2
 refine' wpAnyH_take (i := 4) (oi := _) (v := _) ?hi201_4 (by kernel_rfl) (by kernel_rfl) (by kernel_rfl) (fun _ _ _ h => (h : False).elim) ?hy201_4 (by assumption) ?rest201_4
 case hi201_4 => simp only [List.getElem?_toArray, List.getElem?_cons_succ, List.getElem?_cons_zero]; exact rfl
 case hy201_4 =>
  refine Or.inl ⟨by rfl, ?_⟩
  intro w hSw
  (try dsimp only at hSw)
  go_simp
  (try with_reducible rfl)
 simp only [Act.put, List.setIfInBounds_toArray, List.set_cons_zero, List.set_cons_succ]
 refine wpAnyH_done (by kernel_rfl) ?_ _
 clear hHeld3
 refine NoPanic.normal ?_
 go_wp2
 go_ret
 exact ⟨rfl, B7⟩
theorem zgf (vs : List Value) (b : BookD) (i : Int) (w : World) (hr : rd w.heap.size w vs b) (hi0 : zEy i) :
  Calls Tryz.prog 3 #[.agg vs.toArray, .int .i64 i] w (zhh true w) := by
 obtain ⟨v0, v1, rfl, hx, s0, s1⟩ := zkg hr
 exact zNe b i v0 v1 w s0 s1 hx hr hi0
end Go.Proofs.YtipbfgknaihifaaGreat
