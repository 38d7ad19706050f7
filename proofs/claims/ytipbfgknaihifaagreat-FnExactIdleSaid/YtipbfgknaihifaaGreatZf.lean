/- Parts of a proof. -/
import Derived.Test.YtipbfgknaihifaaGreatZe
namespace Go.Proofs.YtipbfgknaihifaaGreat
open Go.RowKit
noncomputable section
@[reducible] def zDc : LB := ⟨[], ⟨26, [], [(0, vd (.lst .int)), (1, vd (.lst .int)), (5, vd .int)]⟩, ⟨26, [], [(4, vd .bool)]⟩, 0, fun x => (fun (l0 : List (El .int)) (l1 : List (El .int)) (n5 : Int) => (bif decide (n5 < (l0.length : Int)) then (.ix n5 l0 (.ix n5 l1 (bif ((zB .int l0 n5) != (zB .int l1 n5)) then (.v (.ret (false, ()))) else (.ik (n5 + (1 : Int)) (.v (.go (l0, l1, (n5 + (1 : Int)), ()))))))) else (.v (.brk (l0, l1, n5, ()))) : Tr (St _ _))) x.1 x.2.1 x.2.2.1⟩
theorem zWA (l0 : List (El .int)) (l1 : List (El .int)) : LB.run zDc (l0, l1, (0 : Int), ()) = bif zd (fun i x => bif (x != (zB .int l1 (i : Int))) then false else true) 0 l0 then .brk (l0, l1, (l0.length : Int), ()) else .ret (false, ()) := LB.run_all (l := zDc) (fun i => (l0, l1, (i : Int), ())) (fun i x h => by
  simp only [LB.b, zDc, zi, zQ, zR, cond_true, yM h, zG h]
  cases (x != (zB .int l1 (i : Int))) <;> rfl) (by simp only [LB.b, zDc, xl]; rfl)
theorem zV6 : SF zDc fun x : List (El .int) × List (El .int) × Int × Unit => (0 ≤ x.2.2.1 ∧ (x.1.length : Int) ≤ (x.2.1.length : Int), (x.1.length : Int) - x.2.2.1) := xz (by
 rintro ⟨(l0 : List (El .int)), (l1 : List (El .int)), (n5 : Int), ⟨⟩⟩ hI hw
 have _ : (l0.length : Int) ≤ 16777216 := zE (hw.1.1)
 simp [zDc] at hI ⊢
 repeat' first | intro _ | apply And.intro
 all_goals omega)
def zLo (a0 : List (El .int)) (a1 : List (El .int)) : Tr (Bool × Unit) := bif ((a0.length : Int) != (a1.length : Int)) then (.v (false, ())) else (.lp zDc (a0, a1, (0 : Int), ()) (fun r1 => .v (r1.1, ())) (fun _ => .v (true, ())))
def zIq a0 a1 := (zLo a0 a1).val
@[reducible] def zUp : FnD := ⟨[vd (.lst .int), vd (.lst .int)], [vd .bool], true, fun _ => none, fun a => zIq a.1 a.2.1⟩
theorem zeH (a0 : List (El .int)) (a1 : List (El .int)) (_ : xG zUp.args (a0, a1, ())) : (zLo a0 a1).ok := by
 unfold zLo
 refine zp (fun _ => trivial) (fun h1 => ?_)
 replace h1 := zAp h1
 refine zI ?_ ?_
 ·exact zV6 _ ⟨by (dsimp only <;> omega), by (dsimp only <;> omega)⟩
 ·simp
def zeo : Con Tryz.prog := yD mo g0 [] [zDc] 246 zUp (fn := Tryz.f246) ⟨lk, trivial⟩ (fun a hw _ => yT (by kernel_rfl) (zeH a.1 a.2.1 hw) rfl)
theorem zgq (a0 : List (El .int)) (a1 : List (El .int)) : zIq a0 a1 = bif ((a0.length : Int) != (a1.length : Int)) then (false, ()) else (bif zd (fun i x => bif (x != (zB .int a1 (i : Int))) then false else true) 0 a0 then (true, ()) else (false, ())) := by
 simp only [zIq, zLo, zR, zi, zx, zQ]
 rw [zWA, z7] <;> rfl
def zL2 (a0 : El zF) (a1 : El zF) : Tr (Bool × Unit) := bif (!(a0.1.toList == a1.1.toList)) then (.v (false, ())) else (bif (!(zDf a0.2 a1.2).1) then (.v (false, ())) else (.v (true, ())))
def zEM a0 a1 := (zL2 a0 a1).val
@[reducible] def zen : FnD := ⟨[va zF, va zF], [vd .bool], true, fun _ => none, fun a => zEM a.1 a.2.1⟩
def zhT : Con Tryz.prog := yD mo g0 [zN6] [] 271 zen (fn := Tryz.f271) trivial (fun a _ _ => yT (t' := zL2 a.1 a.2.1) (by kernel_rfl) (by simp [zL2]) rfl)
@[reducible] def zBP : LB := ⟨[], ⟨27, [], [(0, vd (.lst zF)), (1, vd (.lst zF)), (5, vd .int)]⟩, ⟨27, [], [(4, vd .bool)]⟩, 0, fun x => (fun (l0 : List (El zF)) (l1 : List (El zF)) (n5 : Int) => (bif decide (n5 < (l0.length : Int)) then (.ix n5 l0 (.ix n5 l1 (bif (!(zEM (zB zF l0 n5) (zB zF l1 n5)).1) then (.v (.ret (false, ()))) else (.ik (n5 + (1 : Int)) (.v (.go (l0, l1, (n5 + (1 : Int)), ()))))))) else (.v (.brk (l0, l1, n5, ()))) : Tr (St _ _))) x.1 x.2.1 x.2.2.1⟩
theorem zTR (l0 : List (El zF)) (l1 : List (El zF)) : LB.run zBP (l0, l1, (0 : Int), ()) = bif zd (fun i x => bif (!(zEM x (zB zF l1 (i : Int))).1) then false else true) 0 l0 then .brk (l0, l1, (l0.length : Int), ()) else .ret (false, ()) := LB.run_all (l := zBP) (fun i => (l0, l1, (i : Int), ())) (fun i x h => by
  simp only [LB.b, zBP, zi, zQ, zR, cond_true, yM h, zG h]
  cases (!(zEM x (zB zF l1 (i : Int))).1) <;> rfl) (by simp only [LB.b, zBP, xl]; rfl)
theorem zTd : SF zBP fun x : List (El zF) × List (El zF) × Int × Unit => (0 ≤ x.2.2.1 ∧ (x.1.length : Int) ≤ (x.2.1.length : Int), (x.1.length : Int) - x.2.2.1) := xz (by
 rintro ⟨(l0 : List (El zF)), (l1 : List (El zF)), (n5 : Int), ⟨⟩⟩ hI hw
 have _ : (l0.length : Int) ≤ 16777216 := zE (hw.1.1)
 simp [zBP] at hI ⊢
 repeat' first | intro _ | apply And.intro
 all_goals omega)
def zKK (a0 : List (El zF)) (a1 : List (El zF)) : Tr (Bool × Unit) := bif ((a0.length : Int) != (a1.length : Int)) then (.v (false, ())) else (.lp zBP (a0, a1, (0 : Int), ()) (fun r2 => .v (r2.1, ())) (fun _ => .v (true, ())))
def zHe a0 a1 := (zKK a0 a1).val
@[reducible] def zRV : FnD := ⟨[vd (.lst zF), vd (.lst zF)], [vd .bool], true, fun _ => none, fun a => zHe a.1 a.2.1⟩
theorem zad (a0 : List (El zF)) (a1 : List (El zF)) (_ : xG zRV.args (a0, a1, ())) : (zKK a0 a1).ok := by
 unfold zKK
 refine zp (fun _ => trivial) (fun h1 => ?_)
 replace h1 := zAp h1
 refine zI ?_ ?_
 ·exact zTd _ ⟨by (dsimp only <;> omega), by (dsimp only <;> omega)⟩
 ·simp
def zb1 : Con Tryz.prog := yD mo g0 [zhT] [zBP] 247 zRV (fn := Tryz.f247) ⟨lk, trivial⟩ (fun a hw _ => yT (by kernel_rfl) (zad a.1 a.2.1 hw) rfl)
theorem zc1 (a0 : List (El zF)) (a1 : List (El zF)) : zHe a0 a1 = bif ((a0.length : Int) != (a1.length : Int)) then (false, ()) else (bif zd (fun i x => bif (!(zEM x (zB zF a1 (i : Int))).1) then false else true) 0 a0 then (true, ()) else (false, ())) := by
 simp only [zHe, zKK, zR, zi, zx, zQ]
 rw [zTR, z7] <;> rfl
def zJX (a0 : El zA) (a1 : El zA) : Tr (Bool × Unit) := bif (a0.1 != a1.1) then (.v (false, ())) else (bif (!(zIq a0.2.1 a1.2.1).1) then (.v (false, ())) else (bif (!(zHe a0.2.2 a1.2.2).1) then (.v (false, ())) else (.v (true, ()))))
def zDi a0 a1 := (zJX a0 a1).val
@[reducible] def zcy : FnD := ⟨[va zA, va zA], [vd .bool], true, fun _ => none, fun a => zDi a.1 a.2.1⟩
def zcm : Con Tryz.prog := yD mo g0 [zeo, zb1] [] 204 zcy (fn := Tryz.f204) trivial (fun a _ _ => yT (t' := zJX a.1 a.2.1) (by kernel_rfl) (by simp [zJX]) rfl)
@[reducible] def zAf : LB := ⟨[], ⟨27, [], [(0, vd (.lst zA)), (1, vd (.lst zA)), (5, vd .int)]⟩, ⟨27, [], [(4, vd .bool)]⟩, 0, fun x => (fun (l0 : List (El zA)) (l1 : List (El zA)) (n5 : Int) => (bif decide (n5 < (l0.length : Int)) then (.ix n5 l0 (.ix n5 l1 (bif (!(zDi (zB zA l0 n5) (zB zA l1 n5)).1) then (.v (.ret (false, ()))) else (.ik (n5 + (1 : Int)) (.v (.go (l0, l1, (n5 + (1 : Int)), ()))))))) else (.v (.brk (l0, l1, n5, ()))) : Tr (St _ _))) x.1 x.2.1 x.2.2.1⟩
theorem zQt (l0 : List (El zA)) (l1 : List (El zA)) : LB.run zAf (l0, l1, (0 : Int), ()) = bif zd (fun i x => bif (!(zDi x (zB zA l1 (i : Int))).1) then false else true) 0 l0 then .brk (l0, l1, (l0.length : Int), ()) else .ret (false, ()) := LB.run_all (l := zAf) (fun i => (l0, l1, (i : Int), ())) (fun i x h => by
  simp only [LB.b, zAf, zi, zQ, zR, cond_true, yM h, zG h]
  cases (!(zDi x (zB zA l1 (i : Int))).1) <;> rfl) (by simp only [LB.b, zAf, xl]; rfl)
theorem zRb : SF zAf fun x : List (El zA) × List (El zA) × Int × Unit => (0 ≤ x.2.2.1 ∧ (x.1.length : Int) ≤ (x.2.1.length : Int), (x.1.length : Int) - x.2.2.1) := xz (by
 rintro ⟨(l0 : List (El zA)), (l1 : List (El zA)), (n5 : Int), ⟨⟩⟩ hI hw
 have _ : (l0.length : Int) ≤ 16777216 := zE (hw.1.1)
 simp [zAf] at hI ⊢
 repeat' first | intro _ | apply And.intro
 all_goals omega)
def zIA (a0 : List (El zA)) (a1 : List (El zA)) : Tr (Bool × Unit) := bif ((a0.length : Int) != (a1.length : Int)) then (.v (false, ())) else (.lp zAf (a0, a1, (0 : Int), ()) (fun r2 => .v (r2.1, ())) (fun _ => .v (true, ())))
def zFm a0 a1 := (zIA a0 a1).val
@[reducible] def zPJ : FnD := ⟨[vd (.lst zA), vd (.lst zA)], [vd .bool], true, fun _ => none, fun a => zFm a.1 a.2.1⟩
theorem zYr (a0 : List (El zA)) (a1 : List (El zA)) (_ : xG zPJ.args (a0, a1, ())) : (zIA a0 a1).ok := by
 unfold zIA
 refine zp (fun _ => trivial) (fun h1 => ?_)
 replace h1 := zAp h1
 refine zI ?_ ?_
 ·exact zRb _ ⟨by (dsimp only <;> omega), by (dsimp only <;> omega)⟩
 ·simp
def zZZ : Con Tryz.prog := yD mo g0 [zcm] [zAf] 146 zPJ (fn := Tryz.f146) ⟨lk, trivial⟩ (fun a hw _ => yT (by kernel_rfl) (zYr a.1 a.2.1 hw) rfl)
theorem zX5 (a0 : List (El zA)) (a1 : List (El zA)) : zFm a0 a1 = bif ((a0.length : Int) != (a1.length : Int)) then (false, ()) else (bif zd (fun i x => bif (!(zDi x (zB zA a1 (i : Int))).1) then false else true) 0 a0 then (true, ()) else (false, ())) := by
 simp only [zFm, zIA, zR, zi, zx, zQ]
 rw [zQt, z7] <;> rfl
def zMR (a0 : El zP) (a1 : El zP) : Tr (Bool × Unit) := bif (!(zFR a0.1 a1.1).1) then (.v (false, ())) else (bif (!(a0.2.1.toList == a1.2.1.toList)) then (.v (false, ())) else (bif (a0.2.2.1 != a1.2.2.1) then (.v (false, ())) else (bif (a0.2.2.2.1 != a1.2.2.2.1) then (.v (false, ())) else (bif (a0.2.2.2.2.1 != a1.2.2.2.2.1) then (.v (false, ())) else (bif (!(zDf a0.2.2.2.2.2 a1.2.2.2.2.2).1) then (.v (false, ())) else (.v (true, ())))))))
def zET a0 a1 := (zMR a0 a1).val
@[reducible] def zhE : FnD := ⟨[va zP, va zP], [vd .bool], true, fun _ => none, fun a => zET a.1 a.2.1⟩
def zer : Con Tryz.prog := yD mo g0 [zL4, zN6] [] 205 zhE (fn := Tryz.f205) trivial (fun a _ _ => yT (t' := zMR a.1 a.2.1) (by kernel_rfl) (by simp [zMR]) rfl)
@[reducible] def zBX : LB := ⟨[], ⟨27, [], [(0, vd (.lst zP)), (1, vd (.lst zP)), (5, vd .int)]⟩, ⟨27, [], [(4, vd .bool)]⟩, 0, fun x => (fun (l0 : List (El zP)) (l1 : List (El zP)) (n5 : Int) => (bif decide (n5 < (l0.length : Int)) then (.ix n5 l0 (.ix n5 l1 (bif (!(zET (zB zP l0 n5) (zB zP l1 n5)).1) then (.v (.ret (false, ()))) else (.ik (n5 + (1 : Int)) (.v (.go (l0, l1, (n5 + (1 : Int)), ()))))))) else (.v (.brk (l0, l1, n5, ()))) : Tr (St _ _))) x.1 x.2.1 x.2.2.1⟩
theorem zTl (l0 : List (El zP)) (l1 : List (El zP)) : LB.run zBX (l0, l1, (0 : Int), ()) = bif zd (fun i x => bif (!(zET x (zB zP l1 (i : Int))).1) then false else true) 0 l0 then .brk (l0, l1, (l0.length : Int), ()) else .ret (false, ()) := LB.run_all (l := zBX) (fun i => (l0, l1, (i : Int), ())) (fun i x h => by
  simp only [LB.b, zBX, zi, zQ, zR, cond_true, yM h, zG h]
  cases (!(zET x (zB zP l1 (i : Int))).1) <;> rfl) (by simp only [LB.b, zBX, xl]; rfl)
theorem zTk : SF zBX fun x : List (El zP) × List (El zP) × Int × Unit => (0 ≤ x.2.2.1 ∧ (x.1.length : Int) ≤ (x.2.1.length : Int), (x.1.length : Int) - x.2.2.1) := xz (by
 rintro ⟨(l0 : List (El zP)), (l1 : List (El zP)), (n5 : Int), ⟨⟩⟩ hI hw
 have _ : (l0.length : Int) ≤ 16777216 := zE (hw.1.1)
 simp [zBX] at hI ⊢
 repeat' first | intro _ | apply And.intro
 all_goals omega)
def zJz (a0 : List (El zP)) (a1 : List (El zP)) : Tr (Bool × Unit) := bif ((a0.length : Int) != (a1.length : Int)) then (.v (false, ())) else (.lp zBX (a0, a1, (0 : Int), ()) (fun r2 => .v (r2.1, ())) (fun _ => .v (true, ())))
def zGv a0 a1 := (zJz a0 a1).val
@[reducible] def zR3 : FnD := ⟨[vd (.lst zP), vd (.lst zP)], [vd .bool], true, fun _ => none, fun a => zGv a.1 a.2.1⟩
theorem zaz (a0 : List (El zP)) (a1 : List (El zP)) (_ : xG zR3.args (a0, a1, ())) : (zJz a0 a1).ok := by
 unfold zJz
 refine zp (fun _ => trivial) (fun h1 => ?_)
 replace h1 := zAp h1
 refine zI ?_ ?_
 ·exact zTk _ ⟨by (dsimp only <;> omega), by (dsimp only <;> omega)⟩
 ·simp
def zbB : Con Tryz.prog := yD mo g0 [zer] [zBX] 147 zR3 (fn := Tryz.f147) ⟨lk, trivial⟩ (fun a hw _ => yT (by kernel_rfl) (zaz a.1 a.2.1 hw) rfl)
theorem zan (a0 : List (El zP)) (a1 : List (El zP)) : zGv a0 a1 = bif ((a0.length : Int) != (a1.length : Int)) then (false, ()) else (bif zd (fun i x => bif (!(zET x (zB zP a1 (i : Int))).1) then false else true) 0 a0 then (true, ()) else (false, ())) := by
 simp only [zGv, zJz, zR, zi, zx, zQ]
 rw [zTl, z7] <;> rfl
def zJb (a0 : El zD) (a1 : El zD) : Tr (Bool × Unit) := bif (a0.1 != a1.1) then (.v (false, ())) else (bif (!(zFR a0.2 a1.2).1) then (.v (false, ())) else (.v (true, ())))
def zDb a0 a1 := (zJb a0 a1).val
@[reducible] def zbO : FnD := ⟨[va zD, va zD], [vd .bool], true, fun _ => none, fun a => zDb a.1 a.2.1⟩
def zcL : Con Tryz.prog := yD mo g0 [zL4] [] 206 zbO (fn := Tryz.f206) trivial (fun a _ _ => yT (t' := zJb a.1 a.2.1) (by kernel_rfl) (by simp [zJb]) rfl)
@[reducible] def zAs : LB := ⟨[], ⟨27, [], [(0, vd (.lst zD)), (1, vd (.lst zD)), (5, vd .int)]⟩, ⟨27, [], [(4, vd .bool)]⟩, 0, fun x => (fun (l0 : List (El zD)) (l1 : List (El zD)) (n5 : Int) => (bif decide (n5 < (l0.length : Int)) then (.ix n5 l0 (.ix n5 l1 (bif (!(zDb (zB zD l0 n5) (zB zD l1 n5)).1) then (.v (.ret (false, ()))) else (.ik (n5 + (1 : Int)) (.v (.go (l0, l1, (n5 + (1 : Int)), ()))))))) else (.v (.brk (l0, l1, n5, ()))) : Tr (St _ _))) x.1 x.2.1 x.2.2.1⟩
theorem zSA (l0 : List (El zD)) (l1 : List (El zD)) : LB.run zAs (l0, l1, (0 : Int), ()) = bif zd (fun i x => bif (!(zDb x (zB zD l1 (i : Int))).1) then false else true) 0 l0 then .brk (l0, l1, (l0.length : Int), ()) else .ret (false, ()) := LB.run_all (l := zAs) (fun i => (l0, l1, (i : Int), ())) (fun i x h => by
  simp only [LB.b, zAs, zi, zQ, zR, cond_true, yM h, zG h]
  cases (!(zDb x (zB zD l1 (i : Int))).1) <;> rfl) (by simp only [LB.b, zAs, xl]; rfl)
theorem zRq : SF zAs fun x : List (El zD) × List (El zD) × Int × Unit => (0 ≤ x.2.2.1 ∧ (x.1.length : Int) ≤ (x.2.1.length : Int), (x.1.length : Int) - x.2.2.1) := xz (by
 rintro ⟨(l0 : List (El zD)), (l1 : List (El zD)), (n5 : Int), ⟨⟩⟩ hI hw
 have _ : (l0.length : Int) ≤ 16777216 := zE (hw.1.1)
 simp [zAs] at hI ⊢
 repeat' first | intro _ | apply And.intro
 all_goals omega)
def zH3 (a0 : List (El zD)) (a1 : List (El zD)) : Tr (Bool × Unit) := bif ((a0.length : Int) != (a1.length : Int)) then (.v (false, ())) else (.lp zAs (a0, a1, (0 : Int), ()) (fun r2 => .v (r2.1, ())) (fun _ => .v (true, ())))
def zGJ a0 a1 := (zH3 a0 a1).val
@[reducible] def zPi : FnD := ⟨[vd (.lst zD), vd (.lst zD)], [vd .bool], true, fun _ => none, fun a => zGJ a.1 a.2.1⟩
theorem zYd (a0 : List (El zD)) (a1 : List (El zD)) (_ : xG zPi.args (a0, a1, ())) : (zH3 a0 a1).ok := by
 unfold zH3
 refine zp (fun _ => trivial) (fun h1 => ?_)
 replace h1 := zAp h1
 refine zI ?_ ?_
 ·exact zRq _ ⟨by (dsimp only <;> omega), by (dsimp only <;> omega)⟩
 ·simp
def zYm : Con Tryz.prog := yD mo g0 [zcL] [zAs] 148 zPi (fn := Tryz.f148) ⟨lk, trivial⟩ (fun a hw _ => yT (by kernel_rfl) (zYd a.1 a.2.1 hw) rfl)
theorem zZt (a0 : List (El zD)) (a1 : List (El zD)) : zGJ a0 a1 = bif ((a0.length : Int) != (a1.length : Int)) then (false, ()) else (bif zd (fun i x => bif (!(zDb x (zB zD a1 (i : Int))).1) then false else true) 0 a0 then (true, ()) else (false, ())) := by
 simp only [zGJ, zH3, zR, zi, zx, zQ]
 rw [zSA, z7] <;> rfl
def zMF (a0 : El zV) (a1 : El zV) : Tr (Bool × Unit) := bif (!(a0.1.toList == a1.1.toList)) then (.v (false, ())) else (bif (!(zFR a0.2 a1.2).1) then (.v (false, ())) else (.v (true, ())))
def zEZ a0 a1 := (zMF a0 a1).val
@[reducible] def zed : FnD := ⟨[va zV, va zV], [vd .bool], true, fun _ => none, fun a => zEZ a.1 a.2.1⟩
def zeq : Con Tryz.prog := yD mo g0 [zL4] [] 207 zed (fn := Tryz.f207) trivial (fun a _ _ => yT (t' := zMF a.1 a.2.1) (by kernel_rfl) (by simp [zMF]) rfl)
@[reducible] def zBa : LB := ⟨[], ⟨27, [], [(0, vd (.lst zV)), (1, vd (.lst zV)), (5, vd .int)]⟩, ⟨27, [], [(4, vd .bool)]⟩, 0, fun x => (fun (l0 : List (El zV)) (l1 : List (El zV)) (n5 : Int) => (bif decide (n5 < (l0.length : Int)) then (.ix n5 l0 (.ix n5 l1 (bif (!(zEZ (zB zV l0 n5) (zB zV l1 n5)).1) then (.v (.ret (false, ()))) else (.ik (n5 + (1 : Int)) (.v (.go (l0, l1, (n5 + (1 : Int)), ()))))))) else (.v (.brk (l0, l1, n5, ()))) : Tr (St _ _))) x.1 x.2.1 x.2.2.1⟩
theorem zSq (l0 : List (El zV)) (l1 : List (El zV)) : LB.run zBa (l0, l1, (0 : Int), ()) = bif zd (fun i x => bif (!(zEZ x (zB zV l1 (i : Int))).1) then false else true) 0 l0 then .brk (l0, l1, (l0.length : Int), ()) else .ret (false, ()) := LB.run_all (l := zBa) (fun i => (l0, l1, (i : Int), ())) (fun i x h => by
  simp only [LB.b, zBa, zi, zQ, zR, cond_true, yM h, zG h]
  cases (!(zEZ x (zB zV l1 (i : Int))).1) <;> rfl) (by simp only [LB.b, zBa, xl]; rfl)
theorem zTn : SF zBa fun x : List (El zV) × List (El zV) × Int × Unit => (0 ≤ x.2.2.1 ∧ (x.1.length : Int) ≤ (x.2.1.length : Int), (x.1.length : Int) - x.2.2.1) := xz (by
 rintro ⟨(l0 : List (El zV)), (l1 : List (El zV)), (n5 : Int), ⟨⟩⟩ hI hw
 have _ : (l0.length : Int) ≤ 16777216 := zE (hw.1.1)
 simp [zBa] at hI ⊢
 repeat' first | intro _ | apply And.intro
 all_goals omega)
def zKD (a0 : List (El zV)) (a1 : List (El zV)) : Tr (Bool × Unit) := bif ((a0.length : Int) != (a1.length : Int)) then (.v (false, ())) else (.lp zBa (a0, a1, (0 : Int), ()) (fun r2 => .v (r2.1, ())) (fun _ => .v (true, ())))
def zGx a0 a1 := (zKD a0 a1).val
@[reducible] def zQL : FnD := ⟨[vd (.lst zV), vd (.lst zV)], [vd .bool], true, fun _ => none, fun a => zGx a.1 a.2.1⟩
theorem zc7 (a0 : List (El zV)) (a1 : List (El zV)) (_ : xG zQL.args (a0, a1, ())) : (zKD a0 a1).ok := by
 unfold zKD
 refine zp (fun _ => trivial) (fun h1 => ?_)
 replace h1 := zAp h1
 refine zI ?_ ?_
 ·exact zTn _ ⟨by (dsimp only <;> omega), by (dsimp only <;> omega)⟩
 ·simp
def zav : Con Tryz.prog := yD mo g0 [zeq] [zBa] 149 zQL (fn := Tryz.f149) ⟨lk, trivial⟩ (fun a hw _ => yT (by kernel_rfl) (zc7 a.1 a.2.1 hw) rfl)
theorem za8 (a0 : List (El zV)) (a1 : List (El zV)) : zGx a0 a1 = bif ((a0.length : Int) != (a1.length : Int)) then (false, ()) else (bif zd (fun i x => bif (!(zEZ x (zB zV a1 (i : Int))).1) then false else true) 0 a0 then (true, ()) else (false, ())) := by
 simp only [zGx, zKD, zR, zi, zx, zQ]
 rw [zSq, z7] <;> rfl
def zLz (a0 : El yf) (a1 : El yf) : Tr (Bool × Unit) := bif (!(zJR a0.1 a1.1).1) then (.v (false, ())) else (bif (!(zFm a0.2.1 a1.2.1).1) then (.v (false, ())) else (bif (!(zGv a0.2.2.1 a1.2.2.1).1) then (.v (false, ())) else (bif (!(zGJ a0.2.2.2.1 a1.2.2.2.1).1) then (.v (false, ())) else (bif (!(zGx a0.2.2.2.2.1 a1.2.2.2.2.1).1) then (.v (false, ())) else (bif (a0.2.2.2.2.2.1 != a1.2.2.2.2.2.1) then (.v (false, ())) else (bif (a0.2.2.2.2.2.2 != a1.2.2.2.2.2.2) then (.v (false, ())) else (.v (true, ()))))))))
def zL9 a0 a1 := (zLz a0 a1).val
@[reducible] def zfO : FnD := ⟨[va yf, va yf], [vd .bool], true, fun _ => none, fun a => zL9 a.1 a.2.1⟩
def zf3 : Con Tryz.prog := yD mo g0 [za7, zZZ, zbB, zYm, zav] [] 89 zfO (fn := Tryz.f89) trivial (fun a _ _ => yT (t' := zLz a.1 a.2.1) (by kernel_rfl) (by simp [zLz]) rfl)
def zMW (a0 : El ze) (a1 : El ze) : Tr (Bool × Unit) := bif (!(a0.1.toList == a1.1.toList)) then (.v (false, ())) else (bif (!(a0.2.1.toList == a1.2.1.toList)) then (.v (false, ())) else (bif (!(zL9 a0.2.2 a1.2.2).1) then (.v (false, ())) else (.v (true, ()))))
def zEN a0 a1 := (zMW a0 a1).val
@[reducible] def zhd : FnD := ⟨[va ze, va ze], [vd .bool], true, fun _ => none, fun a => zEN a.1 a.2.1⟩
def zfB : Con Tryz.prog := yD mo g0 [zf3] [] 49 zhd (fn := Tryz.f49) trivial (fun a _ _ => yT (t' := zMW a.1 a.2.1) (by kernel_rfl) (by simp [zMW]) rfl)
@[reducible] def zBW : LB := ⟨[], ⟨27, [], [(0, vd (.lst ze)), (1, vd (.lst ze)), (5, vd .int)]⟩, ⟨27, [], [(4, vd .bool)]⟩, 0, fun x => (fun (l0 : List (El ze)) (l1 : List (El ze)) (n5 : Int) => (bif decide (n5 < (l0.length : Int)) then (.ix n5 l0 (.ix n5 l1 (bif (!(zEN (zB ze l0 n5) (zB ze l1 n5)).1) then (.v (.ret (false, ()))) else (.ik (n5 + (1 : Int)) (.v (.go (l0, l1, (n5 + (1 : Int)), ()))))))) else (.v (.brk (l0, l1, n5, ()))) : Tr (St _ _))) x.1 x.2.1 x.2.2.1⟩
theorem zSk (l0 : List (El ze)) (l1 : List (El ze)) : LB.run zBW (l0, l1, (0 : Int), ()) = bif zd (fun i x => bif (!(zEN x (zB ze l1 (i : Int))).1) then false else true) 0 l0 then .brk (l0, l1, (l0.length : Int), ()) else .ret (false, ()) := LB.run_all (l := zBW) (fun i => (l0, l1, (i : Int), ())) (fun i x h => by
  simp only [LB.b, zBW, zi, zQ, zR, cond_true, yM h, zG h]
  cases (!(zEN x (zB ze l1 (i : Int))).1) <;> rfl) (by simp only [LB.b, zBW, xl]; rfl)
theorem zTb : SF zBW fun x : List (El ze) × List (El ze) × Int × Unit => (0 ≤ x.2.2.1 ∧ (x.1.length : Int) ≤ (x.2.1.length : Int), (x.1.length : Int) - x.2.2.1) := xz (by
 rintro ⟨(l0 : List (El ze)), (l1 : List (El ze)), (n5 : Int), ⟨⟩⟩ hI hw
 have _ : (l0.length : Int) ≤ 16777216 := zE (hw.1.1)
 simp [zBW] at hI ⊢
 repeat' first | intro _ | apply And.intro
 all_goals omega)
def zJm (a0 : List (El ze)) (a1 : List (El ze)) : Tr (Bool × Unit) := bif ((a0.length : Int) != (a1.length : Int)) then (.v (false, ())) else (.lp zBW (a0, a1, (0 : Int), ()) (fun r2 => .v (r2.1, ())) (fun _ => .v (true, ())))
def zHW a0 a1 := (zJm a0 a1).val
@[reducible] def zQ0 : FnD := ⟨[vd (.lst ze), vd (.lst ze)], [vd .bool], true, fun _ => none, fun a => zHW a.1 a.2.1⟩
theorem zbh (a0 : List (El ze)) (a1 : List (El ze)) (_ : xG zQ0.args (a0, a1, ())) : (zJm a0 a1).ok := by
 unfold zJm
 refine zp (fun _ => trivial) (fun h1 => ?_)
 replace h1 := zAp h1
 refine zI ?_ ?_
 ·exact zTb _ ⟨by (dsimp only <;> omega), by (dsimp only <;> omega)⟩
 ·simp
def zdP : Con Tryz.prog := yD mo g0 [zfB] [zBW] 24 zQ0 (fn := Tryz.f24) ⟨lk, trivial⟩ (fun a hw _ => yT (by kernel_rfl) (zbh a.1 a.2.1 hw) rfl)
theorem zb3 (a0 : List (El ze)) (a1 : List (El ze)) : zHW a0 a1 = bif ((a0.length : Int) != (a1.length : Int)) then (false, ()) else (bif zd (fun i x => bif (!(zEN x (zB ze a1 (i : Int))).1) then false else true) 0 a0 then (true, ()) else (false, ())) := by
 simp only [zHW, zJm, zR, zi, zx, zQ]
 rw [zSk, z7] <;> rfl
def zMA (a0 : El zO) (a1 : El zO) : Tr (Bool × Unit) := bif (!(zJB a0.1 a1.1).1) then (.v (false, ())) else (bif (!(zHW a0.2.1 a1.2.1).1) then (.v (false, ())) else (bif (a0.2.2.1 != a1.2.2.1) then (.v (false, ())) else (bif (a0.2.2.2 != a1.2.2.2) then (.v (false, ())) else (.v (true, ())))))
def zOe a0 a1 := (zMA a0 a1).val
@[reducible] def zOu : FnD := ⟨[va zO, va zO], [vd .bool], true, fun _ => none, fun a => zOe a.1 a.2.1⟩
def zgr : Con Tryz.prog := yD mo g0 [ze4, zdP] [] 10 zOu (fn := Tryz.f10) trivial (fun a _ _ => yT (t' := zMA a.1 a.2.1) (by kernel_rfl) (by simp [zMA]) rfl)
@[reducible] def xD : LB := ⟨[], ⟨28, [.d zO], [(1, .pt 0 0), (3, vd .int), (4, vd .int)]⟩, ⟨28, [], [(2, vd .int)]⟩, 0, fun x => (fun (w0 : El zO) (n3 : Int) (n4 : Int) => (bif decide (n4 < n3) then (.ck (zI8 w0) (bif (vC w0).1 then (.ik (w0.2.2.2 + n4) (.ck (n3 ≠ 0) (.ck (zIz w0 (Int.tmod (w0.2.2.2 + n4) n3)) (bif (vF w0 (Int.tmod (w0.2.2.2 + n4) n3)).1 then (.v (.ret ((Int.tmod (w0.2.2.2 + n4) n3), ()))) else (.ik (n4 + (1 : Int)) (.v (.go (w0, (), n3, (n4 + (1 : Int)), ())))))))) else (.v (.brk (w0, (), n3, n4, ()))))) else (.v (.brk (w0, (), n3, n4, ()))) : Tr (St _ _))) x.1 x.2.2.1 x.2.2.2.1⟩
theorem zRn : SF xD fun x : El zO × Unit × Int × Int × Unit => (0 ≤ x.2.2.2.1 ∧ x.2.2.1 = (x.1.2.1.length : Int) ∧ ∀ d ∈ x.1.1, ∀ r ∈ d.2, SzR r, x.2.2.1 - x.2.2.2.1) := xz (by
 rintro ⟨(w0 : El zO), ⟨⟩, (n3 : Int), (n4 : Int), ⟨⟩⟩ hI hw
 dsimp only at hI ⊢
 obtain ⟨i0, i1, k0⟩ := hI
 have _ : -9223372036854775808 ≤ n3 ∧ n3 ≤ 9223372036854775807 := zw hw.2.2.1
 have hb : (w0.2.1.length : Int) ≤ 16777216 := zE (hw.1.2.1.1)
 refine ⟨by omega, ?_⟩
 refine xM (fun h1 => ?_) (fun h1 => ?_)
 ·replace h1 : n4 < n3 := of_decide_eq_true h1
  refine yR ?_ ?_
  ·exact k0
  ·refine xM (fun h2 => ?_) (fun h2 => ?_)
   ·have hB := h2
    refine yR ?_ ?_
    ·exact (by have := zOw hB; exact ink (by omega) (by omega))
    ·refine yR ?_ ?_
     ·first | omega | (simp <;> omega)
     ·refine yR ?_ ?_
      ·exact fun h1 h2 => ⟨(zU4 hB ⟨h1, h2⟩).1, zfl (zU4 hB ⟨h1, h2⟩).2⟩
      ·refine xM (fun h3 => ?_) (fun h3 => ?_)
       ·exact trivial
       ·refine yR ?_ ?_
        ·exact ink (by omega) (by omega)
        ·exact show (0 ≤ (n4 + (1 : Int)) ∧ n3 = (w0.2.1.length : Int) ∧ ∀ d ∈ w0.1, ∀ r ∈ d.2, SzR r) ∧ n3 - (n4 + (1 : Int)) < n3 - n4 ∧ 0 < n3 - n4 from ⟨⟨by (first | omega | rfl | assumption | (simp <;> omega)), by (first | omega | rfl | assumption | (simp <;> omega)), by (first | omega | rfl | assumption | (simp <;> omega))⟩, by (first | omega | (simp only [List.length_set]; omega)), by (first | omega | (simp only [List.length_set]; omega))⟩
   ·exact trivial
 ·replace h1 : ¬ (n4 < n3) := of_decide_eq_false h1
  exact trivial)
def zF0 (a0 : El zO) : Tr (Int × Unit) := .lp xD (a0, (), (a0.2.1.length : Int), (0 : Int), ()) (fun r3 => .v (r3.1, ())) (fun _ => .v ((-1 : Int), ()))
def vK a0 := (zF0 a0).val
def zIF (a0 : El zO) : Prop := ∀ d ∈ a0.1, ∀ r ∈ d.2, SzR r
@[reducible] def zKm : FnD := ⟨[va zO], [vd .int], true, fun a => some (zIF a.1), fun a => vK a.1⟩
theorem zZP (a0 : El zO) (_ : xG zKm.args (a0, ())) (hp : zIF a0) : (zF0 a0).ok := by
 unfold zIF at hp
 unfold zF0
 refine zI ?_ ?_
 ·exact zRn _ ⟨by (dsimp only <;> first | omega | rfl | assumption | (simp <;> omega)), by (dsimp only <;> first | omega | rfl | assumption | (simp <;> omega)), by (dsimp only <;> first | omega | rfl | assumption | (simp <;> omega))⟩
 ·simp
def zPF : Con Tryz.prog := yD mo g0 [zgS, zfr] [xD] 13 zKm (fn := Tryz.f13) ⟨lk, trivial⟩ (fun a hw h => yT (by kernel_rfl) (zZP a.1 hw h) rfl)
@[reducible] def xJ : LB := ⟨[], ⟨41, [.d zO, .pr (.d .int) (.pr (.o (.d .int)) (.o (.d zF)))], [(0, .pt 0 0), (1, .fn 22 []), (5, .pt 1 0), (7, vd .int), (17, vd .int), (18, vd .int)]⟩, ⟨41, [.d zO, .pr (.d .int) (.pr (.o (.d .int)) (.o (.d zF)))], [(4, vd .int), (5, .pt 1 0), (6, vd .bool)]⟩, 0, fun x => (fun (w0 : El zO) (w1 : El zA) (_f1 : TyL []) (n7 : Int) (n17 : Int) (n18 : Int) => (bif decide (n18 < n17) then (.ik (w0.2.2.2 + n18) (.ck (n7 ≠ 0) (.ck (zFE w0 (Int.tmod (w0.2.2.2 + n18) n7)) (let y1 := (zA3 w0 (Int.tmod (w0.2.2.2 + n18) n7)); bif y1.2.1 then (.v (.ret (w0, y1.1, (Int.tmod (w0.2.2.2 + n18) n7), (), true, ()))) else (.ik (n18 + (1 : Int)) (.v (.go (w0, w1, (), (), (), n7, n17, (n18 + (1 : Int)), ())))))))) else (.v (.brk (w0, w1, (), (), (), n7, n17, n18, ()))) : Tr (St _ _))) x.1 x.2.1 x.2.2.2.1 x.2.2.2.2.2.1 x.2.2.2.2.2.2.1 x.2.2.2.2.2.2.2.1⟩
theorem zK2 (w0 : El zO) (w1 : El zA) (f1 : TyL []) (n7 : Int) : LB.run xJ (w0, w1, (), f1, (), n7, (w0.2.1.length : Int), (0 : Int), ()) = zCY (yt (fun i _ => bif (zA3 w0 (Int.tmod (w0.2.2.2 + (i : Int)) n7)).2.1 then (some (w0, (zA3 w0 (Int.tmod (w0.2.2.2 + (i : Int)) n7)).1, (Int.tmod (w0.2.2.2 + (i : Int)) n7), (), true, ())) else none) 0 w0.2.1) (w0, w1, (), f1, (), n7, (w0.2.1.length : Int), (w0.2.1.length : Int), ()) := LB.run_scan (l := xJ) (fun i => (w0, w1, (), f1, (), n7, (w0.2.1.length : Int), (i : Int), ())) (fun i x h => by
  simp only [LB.b, xJ, zi, zQ, zR, cond_true, yM h]
  cases (zA3 w0 (Int.tmod (w0.2.2.2 + (i : Int)) n7)).2.1 <;> rfl) (by simp only [LB.b, xJ, xl]; rfl)
theorem zK7 : SF xJ fun x : El zO × El zA × Unit × TyL [] × Unit × Int × Int × Int × Unit => (0 ≤ x.2.2.2.2.2.2.2.1 ∧ x.2.2.2.2.2.2.1 = (x.1.2.1.length : Int) ∧ (zAb x.1).1 = true ∧ x.2.2.2.2.2.1 = (x.1.2.1.length : Int), x.2.2.2.2.2.2.1 - x.2.2.2.2.2.2.2.1) := xz (by
 rintro ⟨(w0 : El zO), (w1 : El zA), ⟨⟩, (f1 : TyL []), ⟨⟩, (n7 : Int), (n17 : Int), (n18 : Int), ⟨⟩⟩ hI hw
 dsimp only at hI ⊢
 obtain ⟨i0, i1, k0, k1⟩ := hI
 have _ : -9223372036854775808 ≤ n7 ∧ n7 ≤ 9223372036854775807 := zw hw.2.2.2.2.2.1
 have _ : -9223372036854775808 ≤ n17 ∧ n17 ≤ 9223372036854775807 := zw hw.2.2.2.2.2.2.1
 have hb : (w0.2.1.length : Int) ≤ 16777216 := zE (hw.1.2.1.1)
 refine ⟨by omega, ?_⟩
 refine xM (fun h1 => ?_) (fun h1 => ?_)
 ·replace h1 : n18 < n17 := of_decide_eq_true h1
  refine yR ?_ ?_
  ·exact (by have := zUO k0; exact ink (by omega) (by omega))
  ·refine yR ?_ ?_
   ·first | omega | (simp <;> omega)
   ·refine yR ?_ ?_
    ·exact (by have := zUO k0; have := mdB (a := w0.2.2.2 + n18) (n := n7) (by omega) (by omega); exact zim k0 ⟨by omega, by omega⟩)
    ·refine xM (fun h2 => ?_) (fun h2 => ?_)
     ·exact trivial
     ·refine yR ?_ ?_
      ·exact ink (by omega) (by omega)
      ·exact show (0 ≤ (n18 + (1 : Int)) ∧ n17 = (w0.2.1.length : Int) ∧ (zAb w0).1 = true ∧ n7 = (w0.2.1.length : Int)) ∧ n17 - (n18 + (1 : Int)) < n17 - n18 ∧ 0 < n17 - n18 from ⟨⟨by (first | omega | rfl | assumption | (simp <;> omega)), by (first | omega | rfl | assumption | (simp <;> omega)), by (first | omega | rfl | assumption | (simp <;> omega)), by (first | omega | rfl | assumption | (simp <;> omega))⟩, by (first | omega | (simp only [List.length_set]; omega)), by (first | omega | (simp only [List.length_set]; omega))⟩
 ·replace h1 : ¬ (n18 < n17) := of_decide_eq_false h1
  exact trivial)
def zCZ (a0 : El zO) (_a1 : TyL []) : Tr (Int × El zA × Bool × El zO × Unit) := .lp xJ (a0, ((0 : Int), (([] : List (El .int)), ([] : List (El zF)))), (), (), (), (a0.2.1.length : Int), (a0.2.1.length : Int), (0 : Int), ()) (fun r2 => .v (r2.2.2.1, r2.2.1, r2.2.2.2.2.1, r2.1, ())) (fun t2 => .v ((-1 : Int), ((0 : Int), (([] : List (El .int)), ([] : List (El zF)))), false, t2.1, ()))
def zCa a0 a1 := (zCZ a0 a1).val
def zCb (a0 : El zO) (_a1 : TyL []) : Prop := (zAb a0).1 = true
@[reducible] def zH5 : FnD := ⟨[.ref (.d zO), .fn 22 []], [vd .int, .val true (.pr (.d .int) (.pr (.o (.d .int)) (.o (.d zF)))), vd .bool, .ref (.d zO)], false, fun a => some (zCb a.1 a.2.1), fun a => zCa a.1 a.2.1⟩
theorem zNp (a0 : El zO) (a1 : TyL []) (_ : xG zH5.args (a0, a1, ())) (hp : zCb a0 a1) : (zCZ a0 a1).ok := by
 unfold zCb at hp
 unfold zCZ
 refine zI ?_ ?_
 ·exact zK7 _ ⟨by (dsimp only <;> first | omega | rfl | assumption | (simp <;> omega)), by (dsimp only <;> first | omega | rfl | assumption | (simp <;> omega)), by (dsimp only <;> first | omega | rfl | assumption | (simp <;> omega)), by (dsimp only <;> first | omega | rfl | assumption | (simp <;> omega))⟩
 ·simp
def zN0 : Con Tryz.prog := yD mo g0 [zQg] [xJ] 25 zH5 (fn := Tryz.f25) ⟨lk, trivial⟩ (fun a hw h => yT (by kernel_rfl) (zNp a.1 a.2.1 hw h) rfl)
theorem zN5 (a0 : El zO) (a1 : TyL []) : zCa a0 a1 = zCh (yt (fun i _ => bif (zA3 a0 (Int.tmod (a0.2.2.2 + (i : Int)) (a0.2.1.length : Int))).2.1 then (some (a0, (zA3 a0 (Int.tmod (a0.2.2.2 + (i : Int)) (a0.2.1.length : Int))).1, (Int.tmod (a0.2.2.2 + (i : Int)) (a0.2.1.length : Int)), (), true, ())) else none) 0 a0.2.1) (fun (r1 : xJ.r.T) => (r1.2.2.1, r1.2.1, r1.2.2.2.2.1, r1.1, ())) ((-1 : Int), ((0 : Int), (([] : List (El .int)), ([] : List (El zF)))), false, a0, ()) := by
 simp only [zCa, zCZ, zR, zx, zQ]
 rw [zK2, xI] <;> rfl
def zGI (a0 : El zO) : Tr (Int × Unit) := .ck (zIp a0) (bif (!(zAb a0).1) then (.v ((-1 : Int), ())) else (.ck (zCb a0 ()) (.v ((zCa a0 ()).1, ()))))
def zFs a0 := (zGI a0).val
def zKb (a0 : El zO) : Prop := ∀ d ∈ a0.1, ∀ r ∈ d.2, SzR r
@[reducible] def zKf : FnD := ⟨[va zO], [vd .int], true, fun a => some (zKb a.1), fun a => zFs a.1⟩
theorem zZ6 (a0 : El zO) (_ : xG zKf.args (a0, ())) (hp : zKb a0) : (zGI a0).ok := by
 unfold zKb at hp
 unfold zGI
 refine zI ?_ ?_
 ·exact hp
 ·refine zp (fun _ => trivial) (fun h1 => ?_)
  have hB := (vQ h1)
  refine zI ?_ ?_
  ·exact hB
  ·simp
def zYC : Con Tryz.prog := yD mo g0 [zUY, zN0] [] 14 zKf (fn := Tryz.f14) trivial (fun a hw h => yT (by kernel_rfl) (zZ6 a.1 hw h) rfl)
def zXT (a0 : El zO) : Tr (Bool × Unit) := .ck (zIF a0) (.v (decide ((vK a0).1 < (0 : Int)), ()))
def zP6 a0 := (zXT a0).val
def zWB (a0 : El zO) : Prop := ∀ d ∈ a0.1, ∀ r ∈ d.2, SzR r
@[reducible] def zXN : FnD := ⟨[va zO], [vd .bool], true, fun a => some (zWB a.1), fun a => zP6 a.1⟩
theorem zlh (a0 : El zO) (_ : xG zXN.args (a0, ())) (hp : zWB a0) : (zXT a0).ok := by
 unfold zWB at hp
 unfold zXT
 refine zI ?_ ?_
 ·exact hp
 ·trivial
def zkn : Con Tryz.prog := yD mo g0 [zPF] [] 11 zXN (fn := Tryz.f11) trivial (fun a hw h => yT (by kernel_rfl) (zlh a.1 hw h) rfl)
@[reducible] def zFy : LB := ⟨[], ⟨14, [.d zO], [(1, .pt 0 0), (6, vd .int), (7, vd .int)]⟩, ⟨14, [], [(2, vd .bool)]⟩, 0, fun x => (fun (w0 : El zO) (n6 : Int) (n7 : Int) => (bif decide (n7 < n6) then (.ck (zJk w0 n7) (bif (vv w0 n7).1 then (.v (.ret (false, ()))) else (.ik (n7 + (1 : Int)) (.v (.go (w0, (), n6, (n7 + (1 : Int)), ())))))) else (.v (.brk (w0, (), n6, n7, ()))) : Tr (St _ _))) x.1 x.2.2.1 x.2.2.2.1⟩
theorem zcC (w0 : El zO) : LB.run zFy (w0, (), (w0.2.1.length : Int), (0 : Int), ()) = bif zd (fun i _ => bif (vv w0 (i : Int)).1 then false else true) 0 w0.2.1 then .brk (w0, (), (w0.2.1.length : Int), (w0.2.1.length : Int), ()) else .ret (false, ()) := LB.run_all (l := zFy) (fun i => (w0, (), (w0.2.1.length : Int), (i : Int), ())) (fun i x h => by
  simp only [LB.b, zFy, zi, zQ, zR, cond_true, yM h]
  cases (vv w0 (i : Int)).1 <;> rfl) (by simp only [LB.b, zFy, xl]; rfl)
theorem zbM : SF zFy fun x : El zO × Unit × Int × Int × Unit => (0 ≤ x.2.2.2.1 ∧ x.2.2.1 = (x.1.2.1.length : Int) ∧ ∀ d ∈ x.1.1, ∀ r ∈ d.2, SzR r, x.2.2.1 - x.2.2.2.1) := xz (by
 rintro ⟨(w0 : El zO), ⟨⟩, (n6 : Int), (n7 : Int), ⟨⟩⟩ hI hw
 obtain ⟨i0, i1, k0⟩ := hI
 dsimp only at i0 i1 k0
 have _ : -9223372036854775808 ≤ n6 ∧ n6 ≤ 9223372036854775807 := zw hw.2.2.1
 have _ : (w0.2.1.length : Int) ≤ 16777216 := zE (hw.1.2.1.1)
 simp [zFy, -Prod.forall]
 repeat' first | exact k0 | assumption | intro _ | apply And.intro
 all_goals omega)
def zP8 (a0 : El zO) : Tr (Bool × Unit) := .lp zFy (a0, (), (a0.2.1.length : Int), (0 : Int), ()) (fun r1 => .v (r1.1, ())) (fun _ => .v (true, ()))
def zN4 a0 := (zP8 a0).val
def zWR (a0 : El zO) : Prop := ∀ d ∈ a0.1, ∀ r ∈ d.2, SzR r
@[reducible] def zWx : FnD := ⟨[va zO], [vd .bool], true, fun a => some (zWR a.1), fun a => zN4 a.1⟩
theorem zlI (a0 : El zO) (_ : xG zWx.args (a0, ())) (hp : zWR a0) : (zP8 a0).ok := by
 unfold zWR at hp
 unfold zP8
 refine zI ?_ ?_
 ·exact zbM _ ⟨by (dsimp only <;> first | omega | assumption | (simp <;> omega)), by (dsimp only <;> first | omega | assumption | (simp <;> omega)), by (dsimp only <;> first | omega | assumption | (simp <;> omega))⟩
 ·simp
def zls : Con Tryz.prog := yD mo g0 [zcq] [zFy] 12 zWx (fn := Tryz.f12) ⟨lk, trivial⟩ (fun a hw h => yT (by kernel_rfl) (zlI a.1 hw h) rfl)
theorem zk3 (a0 : El zO) : zN4 a0 = bif zd (fun i _ => bif (vv a0 (i : Int)).1 then false else true) 0 a0.2.1 then (true, ()) else (false, ()) := by
 simp only [zN4, zP8, zR, zx, zQ]
 rw [zcC, z7] <;> rfl
end
end Go.Proofs.YtipbfgknaihifaaGreat

namespace Go.Proofs.YtipbfgknaihifaaGreat
open Go.RowKit
theorem zVF {α β : Type} (f : α → β) : ∀ (L : List α) (k : Nat) (s : List β), k + L.length ≤ s.length → zg (fun i x s => List.set s (Int.toNat (i : Int)) (f x)) k L s = s.take k ++ L.map f ++ s.drop (k + L.length)
 | [], k, s, _ => by simp [zg]
 | x :: L, k, s, h => by
  simp only [List.length_cons] at h
  have e : Int.toNat ((k : Nat) : Int) = k := Int.toNat_natCast k
  simp only [zg]
  rw [e]
  rw [zVF f L (k + 1) (s.set k (f x)) (by simp; omega)]
  have h1 : (s.set k (f x)).take (k + 1) = s.take k ++ [f x] := by
   rw [List.take_add_one, List.take_set_of_le (Nat.le_refl k), List.getElem?_set_self (by omega)]; rfl
  have h2 : (s.set k (f x)).drop (k + 1 + L.length) = s.drop (k + (L.length + 1)) := by
   rw [List.drop_set_of_lt (by omega)]; congr 1; omega
  rw [h1, h2]; simp
theorem y9 {α : Type} (L : List α) (z : α) : zg (fun i x s => List.set s (Int.toNat (i : Int)) x) 0 L (List.replicate (Int.toNat (L.length : Int)) z) = L := by
 have := zVF (fun x : α => x) L 0 (List.replicate (Int.toNat (L.length : Int)) z) (by simp)
 rw [this]; simp
theorem vS {t : Ty} {q : El t → El t → Bool} (h : ∀ x, q x x = true) (l : List (El t)) : zd (fun i x => bif (!(q x (zB t l (i : Int)))) then false else true) 0 l = true := by
 rw [zr]
 intro i x hx
 rw [Nat.zero_add, zG hx, h x]; rfl
theorem xh (a : _) : zFv a = (a, ()) := by
 rfl
theorem x7 (a : _) : zDv a = (a, ()) := by
 simp only [zDv, xh]
theorem xw (a : _) : zIr a = (a, ()) := by
 rw [zfF]
 simp only [x7]
 rw [y9]
theorem vq (a : _) : zJA a = (a, ()) := by
 simp only [zJA, xw]
theorem vB (a : _) : zIc a = (a, ()) := by
 rw [zey]
 simp only [vq]
 rw [y9]
theorem vY (a : _) : zGj a = (a, ()) := by
 simp only [zGj, x7]
theorem x4 (a : _) : zHH a = (a, ()) := by
 rw [zas]
 simp only [vY]
 rw [y9]
theorem vt (a : _) : zGn a = (a, ()) := by
 simp only [zGn, x7]
theorem vI (a : _) : zG0 a = (a, ()) := by
 rw [zc8]
 simp only [vt]
 rw [y9]
theorem zBI (a : _) : zIa a = (a, ()) := by
 simp only [zIa, vI]
theorem zAU (a : _) : zIY a = (a, ()) := by
 rw [zfk]
 simp only [zBI]
 rw [y9]
theorem zA1 (a : _) : zGm a = (a, ()) := by
 simp only [zGm, vB, x4, zAU]
theorem zAE (a : _) : zG6 a = (a, ()) := by
 rw [zdH]
 simp only [zA1]
 rw [y9]
theorem zDm (a : _) : zJC a = (a, ()) := by
 simp only [zJC, zAE]
theorem zBt (a : _) : zIn a = (a, ()) := by
 rw [zgJ]
 simp only [zDm]
 rw [y9]
theorem zC0 (a : _) : zIX a = (a, ()) := by
 rw [ze1]
 simp only [xh]
 rw [y9]
theorem zAT (a : _) : zFI a = (a, ()) := by
 simp only [zFI, zC0]
theorem zEC (a : _) : zGt a = (a, ()) := by
 simp only [zGt, zAT]
theorem zDa (a : _) : zGy a = (a, ()) := by
 rw [zcO]
 simp only [zEC]
 rw [y9]
theorem zDU (a : _) : zJY a = (a, ()) := by
 simp only [zJY, zDa]
theorem zD6 (a : _) : zIm a = (a, ()) := by
 rw [zez]
 rw [y9]
theorem zFX (a : _) : zGr a = (a, ()) := by
 simp only [zGr, xh]
theorem zEG (a : _) : zHG a = (a, ()) := by
 rw [zcV]
 simp only [zFX]
 rw [y9]
theorem zF7 (a : _) : zFM a = (a, ()) := by
 simp only [zFM, zD6, zEG]
theorem zE6 (a : _) : zFw a = (a, ()) := by
 rw [zZx]
 simp only [zF7]
 rw [y9]
theorem zJO (a : _) : zGp a = (a, ()) := by
 simp only [zGp, xh, zAT]
theorem zH2 (a : _) : zHg a = (a, ()) := by
 rw [zcx]
 simp only [zJO]
 rw [y9]
theorem zKj (a : _) : zFa a = (a, ()) := by
 simp only [zFa, zAT]
theorem zJL (a : _) : zGD a = (a, ()) := by
 rw [zYj]
 simp only [zKj]
 rw [y9]
theorem zR4 (a : _) : zGq a = (a, ()) := by
 simp only [zGq, zAT]
theorem zPA (a : _) : zHf a = (a, ()) := by
 rw [zdC]
 simp only [zR4]
 rw [y9]
theorem zRm (a : _) : zLj a = (a, ()) := by
 simp only [zLj, zDU, zE6, zH2, zJL, zPA]
theorem zdR (a : _) : zGk a = (a, ()) := by
 simp only [zGk, zRm]
theorem zYK (a : _) : zHk a = (a, ()) := by
 rw [zbf]
 simp only [zdR]
 rw [y9]
theorem zbn (a : _) : zOt a = (a, ()) := by
 simp only [zOt, zBt, zYK]
theorem zIB (a : _) : zDf a a = (true, ()) := by
 simp [zDf, zOU, zR, ]
theorem zKd (a : _) : zCN a a = (true, ()) := by
 simp [zCN, zNO, zR, zIB]
theorem zXE (a : _) : zIZ a a = (true, ()) := by
 rw [zei]
 rw [vS (q := fun x y => (zCN x y).1) (fun x => by rw [zKd])]
 simp
theorem zX3 (a : _) : zGA a a = (true, ()) := by
 simp [zGA, zNb, zR, zXE]
theorem zWr (a : _) : zIt a a = (true, ()) := by
 rw [zfT]
 rw [vS (q := fun x y => (zGA x y).1) (fun x => by rw [zX3])]
 simp
theorem zXC (a : _) : zED a a = (true, ()) := by
 simp [zED, zMY, zR, zKd]
theorem zSs (a : _) : zG1 a a = (true, ()) := by
 rw [zb6]
 rw [vS (q := fun x y => (zED x y).1) (fun x => by rw [zXC])]
 simp
theorem zWV (a : _) : zEH a a = (true, ()) := by
 simp [zEH, zLR, zR, zKd]
theorem zSZ (a : _) : zG8 a a = (true, ()) := by
 rw [zaS]
 rw [vS (q := fun x y => (zEH x y).1) (fun x => by rw [zWV])]
 simp
theorem zYc (a : _) : zF1 a a = (true, ()) := by
 simp [zF1, zNN, zR, zSZ]
theorem zVs (a : _) : zIi a a = (true, ()) := by
 rw [zeu]
 rw [vS (q := fun x y => (zF1 x y).1) (fun x => by rw [zYc])]
 simp
theorem zVz (a : _) : zEX a a = (true, ()) := by
 simp [zEX, zL7, zR, zWr, zSs, zVs]
theorem zTK (a : _) : zHY a a = (true, ()) := by
 rw [zab]
 rw [vS (q := fun x y => (zEX x y).1) (fun x => by rw [zVz])]
 simp
theorem zYA (a : _) : zFo a a = (true, ()) := by
 simp [zFo, zNc, zR, zTK]
theorem zWd (a : _) : zJB a a = (true, ()) := by
 rw [zfj]
 rw [vS (q := fun x y => (zFo x y).1) (fun x => by rw [zYA])]
 simp
theorem zVd (a : _) : zIf a a = (true, ()) := by
 rw [zgW]
 rw [vS (q := fun x y => (zDf x y).1) (fun x => by rw [zIB])]
 simp
theorem zGe (a : _) : zFR a a = (true, ()) := by
 simp [zFR, zL5, zR, zVd]
theorem zXQ (a : _) : zES a a = (true, ()) := by
 simp [zES, zLX, zR, zGe]
theorem zTT (a : _) : zHc a a = (true, ()) := by
 rw [zao]
 rw [vS (q := fun x y => (zES x y).1) (fun x => by rw [zXQ])]
 simp
theorem zTD (a : _) : zJR a a = (true, ()) := by
 simp [zJR, zJi, zR, zTT]
theorem zXJ (a : _) : zIq a a = (true, ()) := by
 rw [zgq]
 have : zd (fun i x => bif (x != (zB .int a (i : Int))) then false else true) 0 a = true := by
  rw [zr]; intro i x hx; rw [Nat.zero_add, zG hx]; simp
 rw [this]; simp
theorem zW9 (a : _) : zEM a a = (true, ()) := by
 simp [zEM, zL2, zR, zIB]
theorem zSv (a : _) : zHe a a = (true, ()) := by
 rw [zc1]
 rw [vS (q := fun x y => (zEM x y).1) (fun x => by rw [zW9])]
 simp
theorem zSl (a : _) : zDi a a = (true, ()) := by
 simp [zDi, zJX, zR, zXJ, zSv]
theorem zQy (a : _) : zFm a a = (true, ()) := by
 rw [zX5]
 rw [vS (q := fun x y => (zDi x y).1) (fun x => by rw [zSl])]
 simp
theorem zVp (a : _) : zET a a = (true, ()) := by
 simp [zET, zMR, zR, zIB, zGe]
theorem zTZ (a : _) : zGv a a = (true, ()) := by
 rw [zan]
 rw [vS (q := fun x y => (zET x y).1) (fun x => by rw [zVp])]
 simp
theorem zTs (a : _) : zDb a a = (true, ()) := by
 simp [zDb, zJb, zR, zGe]
theorem zQZ (a : _) : zGJ a a = (true, ()) := by
 rw [zZt]
 rw [vS (q := fun x y => (zDb x y).1) (fun x => by rw [zTs])]
 simp
theorem zXP (a : _) : zEZ a a = (true, ()) := by
 simp [zEZ, zMF, zR, zGe]
theorem zS5 (a : _) : zGx a a = (true, ()) := by
 rw [za8]
 rw [vS (q := fun x y => (zEZ x y).1) (fun x => by rw [zXP])]
 simp
theorem zXa (a : _) : zL9 a a = (true, ()) := by
 simp [zL9, zLz, zR, zTD, zQy, zTZ, zQZ, zS5]
theorem zVj (a : _) : zEN a a = (true, ()) := by
 simp [zEN, zMW, zR, zXa]
theorem zTX (a : _) : zHW a a = (true, ()) := by
 rw [zb3]
 rw [vS (q := fun x y => (zEN x y).1) (fun x => by rw [zVj])]
 simp
theorem zXF (a : _) : zOe a a = (true, ()) := by
 simp [zOe, zMA, zR, zWd, zTX]
end Go.Proofs.YtipbfgknaihifaaGreat
namespace Go.Proofs.YtipbfgknaihifaaGreat
open Go.RowKit
theorem b1 {x y : Bool × Unit} (h : x.1 = true ↔ y.1 = true) : x = y := by
 obtain ⟨x, ⟨⟩⟩ := x
 obtain ⟨y, ⟨⟩⟩ := y
 have := Bool.eq_iff_iff.2 h
 simp only at this; rw [this]
theorem ct {c x y : Bool} : (bif c then x else y) = true ↔ (c = true ∧ x = true) ∨ (c = false ∧ y = true) := by cases c <;> simp
theorem zAa (a b c : Int) : z3 a b c = yB a b c := rfl
theorem zQK (a : Int) : zFN a = ((yB a 0 1000000000).1, ()) := by unfold zFN; rw [zAa]
theorem zWQ (c : Int) : xk c = yy c := by
 simp only [xk, zFf, yy, zHz, zHi, zJG, zM0, zJe, yB, zJU, zi, zQ, zR]
theorem zk5 (c : Int) : zBy c = zD7 c := by
 simp only [zBy, zKH, zD7, zJd, yB, zJU, zi, zQ, zR]
theorem zkl (c : Int) : zHi c = yB c 97 122 := rfl
theorem zeI {a b c : Int} : (yB a b c).1 = true ↔ b ≤ a ∧ a ≤ c := by
 simp only [yB, zJU, zi, zR]
 simp only [z6, ct, Bool.eq_false_iff, ne_eq, decide_eq_true_eq, and_false, or_false, Bool.false_eq_true]
theorem zaH {s : ByteArray} {n : Int} : (zFV s n).1 = true ↔ (s.size : Int) ≤ n ∧ ∀ (i : Nat) (x : UInt8), s.data.toList[i]? = some x → (yy (x.toNat : Int)).1 = true := by
 rw [zg9]
 simp only [z6, ct, Bool.not_eq_true', Bool.eq_false_iff, ne_eq, decide_eq_true_eq, zr, and_true, and_false, or_false, false_or, Bool.false_eq_true, Decidable.not_not, zWQ]
 grind
theorem zkQ {s : ByteArray} : (zFB s).1 = true ↔ (s.size : Int) ≤ 20 ∧ ∀ (i : Nat) (x : UInt8), s.data.toList[i]? = some x → (yy (x.toNat : Int)).1 = true := by
 rw [zdO]
 simp only [z6, ct, Bool.not_eq_true', Bool.eq_false_iff, ne_eq, decide_eq_true_eq, zr, and_true, and_false, or_false, false_or, Bool.false_eq_true, Decidable.not_not]
 grind
theorem zlC (s : ByteArray) : zFV s 20 = zFB s := b1 (by rw [zaH, zkQ])
theorem zdx {s : ByteArray} (h : 0 < s.size) : s.data.toList[0]? = some (bt s 0) := by
 have : s.data.toList[0]? = some (s.data.toList[0]'h) := List.getElem?_eq_getElem h
 have := zUf (i := 0) this
 rw [List.getElem?_eq_getElem h]
 exact congrArg some this.symm
theorem zMy (s : ByteArray) : xi s = yQ s := b1 (by
 rw [zhe]
 simp only [xi, zLv, zi, zQ, zR]
 simp only [z6, ct, Bool.not_eq_true', Bool.eq_false_iff, ne_eq, beq_iff_eq, decide_eq_true_eq, zr, Nat.zero_add, and_true, and_false, or_false, false_or, Bool.false_eq_true, Decidable.not_not, zaH, zkl, zeI]
 have h0 := zdx (s := s)
 have : ((0:Nat):Int) = 0 := rfl
 have h2 : ∀ (i : Nat) (x : UInt8), s.data.toList[i]? = some x → i < s.size := fun i x h => (List.getElem?_eq_some_iff.1 h).1
 grind)
theorem ziV (v : El zK) : zCC v = zEp v := b1 (by
 simp only [zCC, zOW, zEp, zOY, zi, zR]
 simp only [z6, ct, Bool.eq_false_iff, ne_eq, beq_iff_eq, and_false, or_false, Bool.false_eq_true, zAa, zlC]
 grind)
theorem znX (s : ByteArray) : zK1 s = zHQ s := b1 (by
 rw [zcA, zhw]
 simp only [z6, ct, Bool.not_eq_true', Bool.eq_false_iff, ne_eq, beq_iff_eq, decide_eq_true_eq, zr, Nat.zero_add, and_true, and_false, or_false, false_or, Bool.false_eq_true, Decidable.not_not, zWQ, zk5, zeI]
 have h0 := zdx (s := s)
 have h2 : ∀ (i : Nat) (x : UInt8), s.data.toList[i]? = some x → i < s.size := fun i x h => (List.getElem?_eq_some_iff.1 h).1
 have : ((0:Nat):Int) = 0 := rfl
 grind)
theorem zlv (a : El zo) : zF5 a = zD1 a := b1 (by
 simp only [zF5, zOM, zD1, zNf, zi, zR]
 simp only [z6, ct, Bool.eq_false_iff, ne_eq, Bool.and_eq_true, beq_iff_eq, and_true, and_false, or_false, Bool.false_eq_true, znX, ziV]
 grind)
theorem znY (p : El zJ) : zD0 p = zAj p := b1 (by
 rw [ziE, zYD]
 simp only [z6, ct, Bool.not_eq_true', Bool.eq_false_iff, ne_eq, decide_eq_true_eq, zr, and_true, and_false, or_false, false_or, Bool.false_eq_true, Decidable.not_not, zMy, zlv]
 grind)
theorem zir (a : El zo) : zCP a = zBx a := b1 (by
 simp only [zCP, zLH, zBx, zHh, zi, zR]
 simp only [z6, ct, Bool.eq_false_iff, ne_eq, bne_iff_ne, and_false, or_false, Bool.false_eq_true, Decidable.not_not, zlv]
 grind)
theorem zms (a : El zS) : zFZ a = zFF a := b1 (by
 simp only [zFZ, zLZ, zFF, zLQ, zi, zR]
 simp only [z6, ct, Bool.eq_false_iff, ne_eq, bne_iff_ne, and_false, or_false, Bool.false_eq_true, Decidable.not_not, zir, zAa]
 simp only [zBx, zHh, zi, zR]
 simp only [z6, ct, Bool.eq_false_iff, ne_eq, bne_iff_ne, and_false, or_false, Bool.false_eq_true]
 grind)
theorem zmP (a : El zq) : zFT a = zFD a := b1 (by
 simp only [zFT, zLk, zFD, zLK, zi, zR]
 simp only [z6, ct, Bool.eq_false_iff, ne_eq, Bool.and_eq_true, beq_iff_eq, and_true, and_false, or_false, Bool.false_eq_true, zir])
theorem zmh {a : El z5} : (zCQ a).1 = true ↔ (yQ a.2.1).1 = true ∧ (zAI a.2.2.1).1 = true := by
 rw [zf7, zgH]
 simp only [z6, ct, Bool.not_eq_true', Bool.eq_false_iff, ne_eq, decide_eq_true_eq, zr, and_true, and_false, or_false, false_or, Bool.false_eq_true, Decidable.not_not, zMy, zmP]
 grind
theorem zhs (s : ByteArray) : zGo s = zHV s := b1 (by
 simp only [zGo, zLl, zHV, zHU, zi, zR]
 simp only [z6, ct, Bool.eq_false_iff, ne_eq, beq_iff_eq, and_true, zMy])
theorem znd (a : El z5) : zHA a = zHZ a := b1 (by
 simp only [zHA, zNQ, zHZ, zN8, zi, zR]
 simp only [zi, zR, z6, ct, Bool.eq_false_iff, ne_eq, beq_iff_eq, and_true, and_false, or_false, false_or, Bool.false_eq_true, zhs, zmh, zAa, zHV, zHU]
 by_cases h1 : a.1 = 1
 ·simp only [h1]; grind
 by_cases h2 : a.1 = 2
 ·simp only [h2]; grind
 by_cases h3 : a.1 = 3
 ·simp only [h3]; grind
 by_cases h4 : a.1 = 4
 ·simp only [h4]; grind
 by_cases h5 : a.1 = 5
 ·simp only [h5]; grind
 by_cases h6 : a.1 = 6
 ·simp only [h6]; grind
 grind)
end Go.Proofs.YtipbfgknaihifaaGreat
namespace Go.Proofs.YtipbfgknaihifaaGreat
open Go.RowKit
noncomputable section
theorem zWe {α : Type} {L : List α} {x : α} (h : x ∈ L) : ∃ i : Nat, L[i]? = some x := List.mem_iff_getElem?.1 h
theorem zNI {α : Type} {L : List α} {i : Nat} {x : α} (h : L[i]? = some x) : x ∈ L := List.mem_iff_getElem?.2 ⟨i, h⟩
theorem za6 {α : Type} {p : α → Bool} {k : Nat} {L : List α} : zd (fun _ x => p x) k L = true ↔ ∀ x, x ∈ L → p x = true := by
 rw [zr]
 exact ⟨fun h x hx => by obtain ⟨i, hi⟩ := zWe hx; exact h i x hi, fun h i x hi => h x (zNI hi)⟩
def zVf {α : Type} (p : α → Bool) (L : List α) : Int := zCh (yt (fun i x => bif p x then some (i : Int) else none) 0 L) (fun r => r) (-1)
theorem zK5 {α : Type} (p : α → Bool) (L : List α) : zCh (yt (fun i x => bif p x then some ((i : Int), ()) else none) 0 L) (fun r => (r.1, ())) (-1, ()) = (zVf p L, ()) := by
 unfold zVf
 have : ∀ k, yt (fun i x => bif p x then some ((i : Int), ()) else none) k L = (yt (fun i x => bif p x then some (i : Int) else none) k L).map fun r => (r, ()) := by
  induction L with
  | nil => intro k; rfl
  | cons x L ih => intro k; simp only [yt]; cases p x with
   | true => rfl
   | false => exact ih (k + 1)
 rw [this]
 cases yt (fun i x => bif p x then some (i : Int) else none) 0 L <;> rfl
theorem zXy {α : Type} (p : α → Bool) (L : List α) : (zVf p L = -1 ∧ ∀ x, x ∈ L → p x = false) ∨ ∃ (i : Nat) (x : α), zVf p L = (i : Int) ∧ L[i]? = some x ∧ p x = true ∧ ∀ (j : Nat) (y : α), j < i → L[j]? = some y → p y = false := by
 unfold zVf
 have : ∀ k, (yt (fun i x => bif p x then some (i : Int) else none) k L = none ∧ ∀ x, x ∈ L → p x = false) ∨ ∃ (i : Nat) (x : α), yt (fun i x => bif p x then some (i : Int) else none) k L = some ((k + i : Nat) : Int) ∧ L[i]? = some x ∧ p x = true ∧ ∀ (j : Nat) (y : α), j < i → L[j]? = some y → p y = false := by
  induction L with
  | nil => intro k; exact .inl ⟨rfl, fun x hx => by cases hx⟩
  | cons x L ih =>
   intro k
   simp only [yt]
   cases e : p x with
   | true => exact .inr ⟨0, x, rfl, rfl, e, fun j y hj => by omega⟩
   | false =>
    rcases ih (k + 1) with ⟨h1, h2⟩ | ⟨i, y, h1, h2, h3, h4⟩
    ·refine .inl ⟨h1, fun z hz => ?_⟩
     rcases List.mem_cons.1 hz with h | h
     ·rw [h]; exact e
     ·exact h2 z h
    ·refine .inr ⟨i + 1, y, by rw [show k + (i + 1) = k + 1 + i by omega]; exact h1, by simpa using h2, h3, fun j z hj hz => ?_⟩
     cases j with
     | zero => simp at hz; rw [← hz]; exact e
     | succ j => exact h4 j z (by omega) (by simpa using hz)
 rcases this 0 with ⟨h1, h2⟩ | ⟨i, x, h1, h2⟩
 ·rw [h1]; exact .inl ⟨rfl, h2⟩
 ·rw [h1, Nat.zero_add]; exact .inr ⟨i, x, rfl, h2⟩
theorem zXY {α : Type} {p : α → Bool} {L : List α} : zVf p L ≥ 0 ↔ ∃ x, x ∈ L ∧ p x = true := by
 rcases zXy p L with ⟨h1, h2⟩ | ⟨i, x, h1, h2, h3, h4⟩
 ·rw [h1]; constructor
  ·intro h; omega
  ·rintro ⟨x, hx, e⟩; rw [h2 x hx] at e; cases e
 ·rw [h1]; exact ⟨fun _ => ⟨x, zNI h2, h3⟩, fun _ => by omega⟩
def zAt (l : List (El .str)) (t : ByteArray) : Prop := ∃ x : ByteArray, x ∈ l ∧ x.toList = t.toList
theorem zhv {l : List (El .str)} {t : ByteArray} : (vx l t).1 = true ↔ zAt l t := by
 rw [zio]
 simp only [z6, ct, Bool.eq_false_iff, ne_eq, beq_iff_eq, za6, and_true, and_false, false_or, Bool.false_eq_true]
 unfold zAt
 grind
theorem zl5 {l : List (El .str)} {t : ByteArray} : (zu l t).1 = true ↔ zAt l t := by
 unfold zu
 rw [zGK]
 show decide ((zCh (yt (fun i x => bif (t.toList == x.toList) then (some ((i : Int), ())) else none) 0 l) (fun r => (r.1, ())) ((-1 : Int), ())).1 ≥ 0) = true ↔ _
 rw [zK5 (fun x : ByteArray => t.toList == x.toList), decide_eq_true_eq, zXY]
 unfold zAt
 simp only [beq_iff_eq]
 constructor <;> rintro ⟨x, h, e⟩ <;> exact ⟨x, h, e.symm⟩
theorem zm3 (l : List (El .str)) (t : ByteArray) : zu l t = vx l t := b1 (by rw [zl5, zhv])
theorem zK4 (t : ByteArray) : zAt [] t ↔ False := ⟨fun ⟨_, h, _⟩ => (by cases h), fun h => False.elim h⟩
theorem ziN (l : List (El .str)) (s t : ByteArray) : zAt (l ++ [s]) t ↔ zAt l t ∨ s.toList = t.toList := by
 unfold zAt
 constructor
 ·rintro ⟨x, hx, e⟩
  rcases List.mem_append.1 hx with h | h
  ·exact .inl ⟨x, h, e⟩
  ·rw [List.mem_singleton] at h; subst h; exact .inr e
 ·rintro (⟨x, h, e⟩ | e)
  ·exact ⟨x, List.mem_append_left _ h, e⟩
  ·exact ⟨s, by simp, e⟩
def zIo (l : List (El .str)) (s : ByteArray) : List (El .str) := bif (!(vx l s).1) then l ++ [s] else l
theorem zSD (l : List (El .str)) (s : ByteArray) : zAM l s = (zIo l s, ()) := by
 unfold zIo; simp only [zAM, zG2, zi, zQ, zR]
 rw [zm3]
 cases (vx l s).1 <;> rfl
theorem zYp (l : List (El .str)) (s t : ByteArray) : zAt (zIo l s) t ↔ zAt l t ∨ s.toList = t.toList := by
 unfold zIo
 cases h : (vx l s).1 with
 | true =>
  have h1 := zhv.1 h
  show zAt l t ↔ _
  refine ⟨.inl, fun h2 => ?_⟩
  rcases h2 with h2 | h2
  ·exact h2
  ·obtain ⟨x, hx, e⟩ := h1; exact ⟨x, hx, e.trans h2⟩
 | false => exact ziN l s t
def zIS (a : El zo) (t : ByteArray) : Prop := a.1 = (1 : Int) ∧ a.2.1.toList = t.toList
theorem zHt (args : List (El zo)) (t : ByteArray) (l : List (El .str)) : zAt (yJ l args).1 t ↔ zAt l t ∨ ∃ a, a ∈ args ∧ zIS a t := by
 rw [zSI]
 show zAt (zg _ 0 args l) t ↔ _
 generalize 0 = k
 induction args generalizing k l with
 | nil => simp [zg]
 | cons a args ih =>
  simp only [zg]
  rw [ih]
  have h2 : zAt (bif a.1 == (1 : Int) then (zAM l a.2.1).1 else l) t ↔ zAt l t ∨ zIS a t := by
   unfold zIS
   by_cases hK : a.1 = (1 : Int)
   ·rw [beq_iff_eq.2 hK, cond_true, zSD, zYp]; simp [hK]
   ·rw [beq_eq_false_iff_ne.2 hK, cond_false]; simp [hK]
  rw [h2]
  simp only [List.mem_cons, exists_eq_or_imp, or_assoc]
theorem zhr (p : El zJ) (t : ByteArray) : zAt (xj p).1 t ↔ ∃ a, a ∈ p.2.1 ∧ zIS a t := by
 have h := zHt p.2.1 t []
 rw [zK4, false_or] at h
 rw [← h, zSI, zeP]
 have : (fun (_ : Nat) (x : El zo) (s : List (El .str)) => bif (x.1 == (1 : Int)) then (bif (!(vx s x.2.1).1) then (s ++ [x.2.1]) else s) else s) = fun _ x s => bif (x.1 == (1 : Int)) then (zAM s x.2.1).1 else s := by
  funext _ x s; rw [zSD]; rfl
 exact Eq.to_iff (congrArg (fun f => zAt (zg f 0 p.2.1 []) t) this)
theorem zd9 (l : List (El .str)) (t : ByteArray) (o : List (El .str)) : zAt (zg (fun _ y s => zIo s y) 0 l o) t ↔ zAt o t ∨ zAt l t := by
 generalize 0 = k
 induction l generalizing k o with
 | nil => exact ⟨fun h => .inl h, fun h => h.elim id fun h => ((zK4 t).1 h).elim⟩
 | cons x xs ih =>
  simp only [zg]
  rw [ih, zYp]
  have : zAt (x :: xs) t ↔ x.toList = t.toList ∨ zAt xs t := by unfold zAt; simp
  rw [this, or_assoc]
def zE5 (pats : List (El zJ)) (t : ByteArray) : Prop := ∃ p, p ∈ pats ∧ p.2.2 = false ∧ ∃ a, a ∈ p.2.1 ∧ zIS a t
theorem zl6 (r : El zC) (t : ByteArray) : zAt (zDC r).1 t ↔ zE5 r.2.2.1 t := by
 rw [zdJ]
 have : ∀ (pats : List (El zJ)) (k : Nat) (l : List (El .str)), zAt (zg (fun i x (s : List (El .str)) => bif (!x.2.2) then (yJ s x.2.1).1 else s) k pats l) t ↔ zAt l t ∨ zE5 pats t := by
  intro pats
  unfold zE5
  induction pats with
  | nil => intro k l; simp [zg]
  | cons p ps ih =>
   intro k l
   simp only [zg]
   rw [ih]
   have h2 : zAt (bif (!p.2.2) then (yJ l p.2.1).1 else l) t ↔ zAt l t ∨ (p.2.2 = false ∧ ∃ a, a ∈ p.2.1 ∧ zIS a t) := by
    cases h : p.2.2
    ·rw [Bool.not_false, cond_true, zHt]; simp
    ·simp
   rw [h2]
   simp only [List.mem_cons, exists_eq_or_imp, or_assoc]
 refine (this _ _ _).trans ?_
 rw [zK4, false_or]
theorem zSn (w0 : El zC) (n4 : Int) (l5 l3 : List (El .str)) (hn : (zB zJ w0.2.2.1 n4).2.2 = false) : LB.run yv (w0, (), l3, n4, l5, (0 : Int), ()) = .brk (w0, (), zg (fun _ y s => zIo s y) 0 l5 l3, n4, l5, (l5.length : Int), ()) := by
 refine LB.run_fold (l := yv) (L := l5) (fun i s => (w0, (), s, n4, l5, (i : Int), ())) (f := (fun _ y s => zIo s y)) (fun i x s h => ?_) (fun s => ?_) (s := l3)
 ·have hi := (List.getElem?_eq_some_iff.1 h).1
  simp only [LB.b, yv, zi, zQ, zR, zIo]
  rw [ltT hi, cond_true, hn, zG h]
  cases (vx s x).1 <;> rfl
 ·simp only [LB.b, yv, zi, zQ, zR]
  rw [xl]; rfl
theorem zTr (w0 : El zC) (n4 : Int) (l5 l3 : List (El .str)) (hn : (zB zJ w0.2.2.1 n4).2.2 = true) : LB.run yv (w0, (), l3, n4, l5, (0 : Int), ()) = .brk (w0, (), l3, n4, l5, (0 : Int), ()) := by
 refine LB.run_scan (l := yv) (L := ([] : List Unit)) (fun _ => (w0, (), l3, n4, l5, (0 : Int), ())) (f := (fun _ _ => none)) (fun i x h => by simp at h) ?_
 simp only [LB.b, yv, zi, zQ, zR]
 rw [hn]
 cases decide ((0 : Int) < (l5.length : Int)) <;> rfl
theorem zbs (r : El zC) : zEB r = (zg (fun _ p s => bif p.2.2 then s else zg (fun _ y s => zIo s y) 0 (xj p).1 s) 0 r.2.2.1 [], ()) := by
 simp only [zEB, zJg, zQ, zR, zx]
 have : LB.run vg (r, (), [], (0 : Int), ()) = .brk (r, (), zg (fun _ p s => bif p.2.2 then s else zg (fun _ y s => zIo s y) 0 (xj p).1 s) 0 r.2.2.1 [], (r.2.2.1.length : Int), ()) := by
  refine LB.run_fold (l := vg) (L := r.2.2.1) (fun i s => (r, (), s, (i : Int), ())) (f := (fun _ p s => bif p.2.2 then s else zg (fun _ y s => zIo s y) 0 (xj p).1 s)) (fun i x s h => ?_) (fun s => ?_) (s := [])
  ·have hi := (List.getElem?_eq_some_iff.1 h).1
   simp only [LB.b, vg, zi, zQ, zR, zx]
   rw [ltT hi, cond_true]
   cases hn : x.2.2 with
   | true => rw [zTr r i _ s (by rw [zG h]; exact hn)]; rfl
   | false => rw [zSn r i _ s (by rw [zG h]; exact hn), zG h]; rfl
  ·simp only [LB.b, vg, zi, zQ, zR, zx]
   rw [xl]; rfl
 rw [this]; rfl
theorem znZ (r : El zC) (t : ByteArray) : zAt (zEB r).1 t ↔ zE5 r.2.2.1 t := by
 rw [zbs]
 have : ∀ (pats : List (El zJ)) (k : Nat) (l : List (El .str)), zAt (zg (fun _ p s => bif p.2.2 then s else zg (fun _ y s => zIo s y) 0 (xj p).1 s) k pats l) t ↔ zAt l t ∨ zE5 pats t := by
  intro pats
  unfold zE5
  induction pats with
  | nil => intro k l; simp [zg]
  | cons p ps ih =>
   intro k l
   simp only [zg]
   rw [ih]
   have h2 : zAt (bif p.2.2 then l else zg (fun _ y s => zIo s y) 0 (xj p).1 l) t ↔ zAt l t ∨ (p.2.2 = false ∧ ∃ a, a ∈ p.2.1 ∧ zIS a t) := by
    cases h : p.2.2
    ·rw [cond_false, zd9, zhr]; simp
    ·simp
   rw [h2]
   simp only [List.mem_cons, exists_eq_or_imp, or_assoc]
 refine (this _ _ _).trans ?_
 rw [zK4, false_or]
theorem zdh {a b : El zo} {t : ByteArray} : (∃ c, c ∈ [a, b] ∧ zIS c t) ↔ zIS a t ∨ zIS b t := by simp
theorem zih (l : List (El zS)) (t : ByteArray) : ∀ k o, zAt (zg (fun _ x (s : List (El .str)) => (yJ s [x.2.1, x.2.2]).1) k l o) t ↔ zAt o t ∨ ∃ c, c ∈ l ∧ (zIS c.2.1 t ∨ zIS c.2.2 t) := by
 induction l with
 | nil => intro k o; simp [zg]
 | cons c cs ih =>
  intro k o
  simp only [zg]
  rw [ih, zHt, zdh]
  simp only [List.mem_cons, exists_eq_or_imp, or_assoc]
theorem zig (l : List (El zq)) (t : ByteArray) : ∀ k o, zAt (zg (fun _ x (s : List (El .str)) => (yJ s [x.2.1, x.2.2]).1) k l o) t ↔ zAt o t ∨ ∃ c, c ∈ l ∧ (zIS c.2.1 t ∨ zIS c.2.2 t) := by
 induction l with
 | nil => intro k o; simp [zg]
 | cons c cs ih =>
  intro k o
  simp only [zg]
  rw [ih, zHt, zdh]
  simp only [List.mem_cons, exists_eq_or_imp, or_assoc]
theorem zlt (l : List (El z5)) (t : ByteArray) : ∀ k o, zAt (zg (fun _ a s => zg (fun _ x (s : List (El .str)) => (yJ s [x.2.1, x.2.2]).1) 0 a.2.2.1 s) k l o) t ↔ zAt o t ∨ ∃ a, a ∈ l ∧ ∃ c, c ∈ a.2.2.1 ∧ (zIS c.2.1 t ∨ zIS c.2.2 t) := by
 induction l with
 | nil => intro k o; simp [zg]
 | cons a rest ih =>
  intro k o
  simp only [zg]
  rw [ih, zig]
  simp only [List.mem_cons, exists_eq_or_imp, or_assoc]
theorem zZI (r : El zC) : zAG r = (zg (fun _ a s => zg (fun _ x (s : List (El .str)) => (yJ s [x.2.1, x.2.2]).1) 0 a.2.2.1 s) 0 r.2.2.2.2 (zg (fun _ x (s : List (El .str)) => (yJ s [x.2.1, x.2.2]).1) 0 r.2.2.2.1 []), ()) := by
 simp only [zAG, zH0, zQ, zR, zx]
 have h : ∀ (l26 : List (El z5)) (l3 : List (El .str)), LB.run xq (l3, l26, (l26.length : Int), (0 : Int), ()) = .brk (zg (fun _ a s => zg (fun i x (s : List (El .str)) => (yJ s [x.2.1, x.2.2]).1) 0 a.2.2.1 s) 0 l26 l3, l26, (l26.length : Int), (l26.length : Int), ()) := by
  intro l26 l3
  refine LB.run_fold (l := xq) (L := l26) (fun i s => (s, l26, (l26.length : Int), (i : Int), ())) (f := (fun _ a s => zg (fun i x (s : List (El .str)) => (yJ s [x.2.1, x.2.2]).1) 0 a.2.2.1 s)) (fun i x s h => ?_) (fun s => ?_) (s := l3)
  ·have hi := (List.getElem?_eq_some_iff.1 h).1
   simp only [LB.b, xq, zi, zQ, zR, zx]
   rw [ltT hi, cond_true, zSG, zG h]; rfl
  ·simp only [LB.b, xq, zi, zQ, zR, zx]
   rw [xl]; rfl
 rw [zRp]
 show (LB.run xq (_, r.2.2.2.2, (r.2.2.2.2.length : Int), (0 : Int), ())).fin _ _ = _
 rw [h]; rfl
theorem zLB (r : El zC) (t : ByteArray) : zAt (zAG r).1 t ↔ (∃ c, c ∈ r.2.2.2.1 ∧ (zIS c.2.1 t ∨ zIS c.2.2 t)) ∨ ∃ a, a ∈ r.2.2.2.2 ∧ ∃ c, c ∈ a.2.2.1 ∧ (zIS c.2.1 t ∨ zIS c.2.2 t) := by
 rw [zZI]
 refine (zlt _ _ _ _).trans ?_
 rw [zih, zK4, false_or]
def zSJ (r : El zC) (a : El zo) : Prop := a.1 = (1 : Int) → zE5 r.2.2.1 a.2.1
theorem zQ6 {pats : List (El zJ)} {s t : ByteArray} (e : s.toList = t.toList) (h : zE5 pats s) : zE5 pats t := by
 obtain ⟨p, h1, h2, a, h3, h4, h5⟩ := h
 exact ⟨p, h1, h2, a, h3, h4, h5.trans e⟩
theorem zC4 (r : El zC) (a : El zo) : (∀ t, zIS a t → zE5 r.2.2.1 t) ↔ zSJ r a :=
 ⟨fun h hK => h a.2.1 ⟨hK, rfl⟩, fun h _ ht => zQ6 ht.2 (h ht.1)⟩
theorem zkw {r : El zC} {a : El zo} : (yu a (zEB r).1).1 = true ↔ zSJ r a := by
 unfold zSJ; simp only [yu, zKJ, zi, zR]
 simp only [z6, ct, Bool.eq_false_iff, ne_eq, bne_iff_ne, and_true, Decidable.not_not, zhv, znZ]
 grind
theorem zjg (r : El zC) : (∀ x, x ∈ (zAG r).1 → zAt (zDC r).1 x) ↔ (∀ c, c ∈ r.2.2.2.1 → zSJ r c.2.1 ∧ zSJ r c.2.2) ∧ ∀ a, a ∈ r.2.2.2.2 → ∀ c, c ∈ a.2.2.1 → zSJ r c.2.1 ∧ zSJ r c.2.2 := by
 have h0 : (∀ x, x ∈ (zAG r).1 → zAt (zDC r).1 x) ↔ ∀ t, zAt (zAG r).1 t → zE5 r.2.2.1 t := by
  constructor
  ·rintro h t ⟨x, hx, e⟩
   exact zQ6 e ((zl6 r x).1 (h x hx))
  ·intro h x hx
   exact (zl6 r x).2 (h x ⟨x, hx, rfl⟩)
 rw [h0]
 constructor
 ·intro h
  refine ⟨fun c hc => ⟨(zC4 r _).1 fun t ht => h t ((zLB r t).2 (.inl ⟨c, hc, .inl ht⟩)), (zC4 r _).1 fun t ht => h t ((zLB r t).2 (.inl ⟨c, hc, .inr ht⟩))⟩, fun a ha c hc => ⟨(zC4 r _).1 fun t ht => h t ((zLB r t).2 (.inr ⟨a, ha, c, hc, .inl ht⟩)), (zC4 r _).1 fun t ht => h t ((zLB r t).2 (.inr ⟨a, ha, c, hc, .inr ht⟩))⟩⟩
 ·rintro ⟨h1, h2⟩ t ht
  rcases (zLB r t).1 ht with ⟨c, hc, h | h⟩ | ⟨a, ha, c, hc, h | h⟩
  ·exact (zC4 r _).2 (h1 c hc).1 t h
  ·exact (zC4 r _).2 (h1 c hc).2 t h
  ·exact (zC4 r _).2 (h2 a ha c hc).1 t h
  ·exact (zC4 r _).2 (h2 a ha c hc).2 t h
end
end Go.Proofs.YtipbfgknaihifaaGreat
namespace Go.Proofs.YtipbfgknaihifaaGreat
open Go.RowKit
noncomputable section
theorem zVv (r : El zC) : yd r = xP r := by rw [zY9, zYe]
def zNo (L : List (El zJ)) (n : Nat) : Prop := n ≤ L.length ∧ ∀ (i : Nat) (x : El zJ), L[i]? = some x → (x.2.2 = true ↔ n ≤ i)
theorem zNo.len {L : List (El zJ)} : ∀ {n : Nat}, zNo L n → (L.filter (fun p => !p.2.2)).length = n := by
 induction L with
 | nil => intro n h; have := h.1; simp at this; simp [this]
 | cons x L ih =>
  intro n h
  have h0 := h.2 0 x rfl
  cases n with
  | zero =>
   have hx : x.2.2 = true := h0.2 (Nat.le_refl 0)
   rw [List.filter_cons_of_neg (by rw [hx]; decide)]
   exact ih ⟨Nat.zero_le _, fun i y hy => ⟨fun _ => Nat.zero_le i, fun _ => (h.2 (i + 1) y (by simpa using hy)).2 (Nat.zero_le _)⟩⟩
  | succ n =>
   have hx : x.2.2 = false := by
    cases e : x.2.2 with
    | false => rfl
    | true => have := h0.1 e; omega
   rw [List.filter_cons_of_pos (by rw [hx]; decide), List.length_cons]
   congr 1
   refine ih ⟨by have := h.1; simp at this; exact this, fun i y hy => ?_⟩
   rw [h.2 (i + 1) y (by simpa using hy)]; omega
theorem zNo.of {L : List (El zJ)} : (∀ (i : Nat) (x y : El zJ), L[i]? = some x → L[i + 1]? = some y → x.2.2 = true → y.2.2 = true) → ∃ n, zNo L n := by
 induction L with
 | nil => intro _; exact ⟨0, Nat.le_refl _, fun i x h => by simp at h⟩
 | cons x L ih =>
  intro h
  obtain ⟨n, h1, h2⟩ := ih fun i a b ha hb => h (i + 1) a b (by simpa using ha) (by simpa using hb)
  cases e : x.2.2 with
  | false =>
   refine ⟨n + 1, by simpa using h1, fun i y hy => ?_⟩
   cases i with
   | zero => simp at hy; rw [← hy, e]; simp
   | succ i => rw [h2 i y (by simpa using hy)]; omega
  | true =>
   have hn : n = 0 := by
    cases n with
    | zero => rfl
    | succ n =>
     obtain ⟨y, hy⟩ : ∃ y, L[0]? = some y := ⟨L[0]'(by omega), List.getElem?_eq_getElem _⟩
     have := (h2 0 y hy).1 (h 0 x y rfl (by simpa using hy) e)
     omega
   refine ⟨0, Nat.zero_le _, fun i y hy => ⟨fun _ => Nat.zero_le _, fun _ => ?_⟩⟩
   cases i with
   | zero => simp at hy; rw [← hy, e]
   | succ i => exact (h2 i y (by simpa using hy)).2 (by omega)
theorem zm0 (r : El zC) : zFJ r = zFQ r.2.2.1 := b1 (by
 rw [zUd, zOh]
 have hc := zFk r
 simp only [zVv, zAa, hc, znY, z6, ct, Bool.not_eq_true', Bool.eq_false_iff, ne_eq, beq_iff_eq, decide_eq_true_eq, zr, Nat.zero_add, and_true, and_false, or_false, false_or, Bool.false_eq_true, Decidable.not_not, zeI]
 generalize r.2.2.1 = L
 have hlen : ∀ (i : Nat) (x : El zJ), L[i]? = some x → i < L.length := fun i x h => (List.getElem?_eq_some_iff.1 h).1
 have hp : ∀ (i : Nat) (x : El zJ), L[i + 1]? = some x → zB zJ L (((i + 1 : Nat) : Int) - 1) = zB zJ L (i : Int) := fun i x _ => by congr 1; omega
 constructor
 ·intro h
  have hF : zNo L (L.filter (fun p => !p.2.2)).length := ⟨List.length_filter_le _ _, fun i x hx => by have := hlen i x hx; grind⟩
  generalize (L.filter (fun p => !p.2.2)).length = n at *
  have hF2 := hF.2
  refine ⟨fun i x hx => ?_, h.1⟩
  have h3 := h.2.2 i x hx
  have h4 := h.2.1
  have h5 := hF2 i x hx
  cases i with
  | zero => grind
  | succ i =>
   have hl := hlen _ _ hx
   have hy : L[i]? = some (L[i]'(by omega)) := List.getElem?_eq_getElem _
   have h6 := hF2 i _ hy
   rw [hp i x hx, zG hy]
   generalize L[i]'(by omega) = y at *
   grind
 ·intro h
  have h0 := h.1
  have hM : ∀ (i : Nat) (x y : El zJ), L[i]? = some x → L[i + 1]? = some y → x.2.2 = true → y.2.2 = true := fun i x y hx hy hn => by
   have h1 := hp i y hy
   have h2 := h0 (i + 1) y hy
   rw [h1, zG hx] at h2
   grind
  obtain ⟨n, hF⟩ := zNo.of hM
  rw [hF.len]
  have hF2 := hF.2
  have hn := hF.1
  have h7 : ∀ i : Nat, i < L.length → ∃ x, L[i]? = some x := fun i hi => ⟨_, List.getElem?_eq_getElem hi⟩
  refine ⟨h.2, ⟨?_, ?_⟩, fun i x hx => ?_⟩
  ·obtain ⟨x, hx⟩ := h7 0 (by omega)
   have h1 := h0 0 x hx
   have h2 := hF2 0 x hx
   grind
  ·by_cases h3 : 3 < n
   ·obtain ⟨x, hx⟩ := h7 3 (by omega)
    have h1 := h0 3 x hx
    have h2 := hF2 3 x hx
    grind
   ·omega
  ·have h1 := h0 i x hx
   have h2 := hF2 i x hx
   grind)
theorem zf8 (a0 : List (El z5)) (a1 : List (El .str)) (a2 : Int) : zMP a0 a1 a2 = bif zd (fun _ x => bif (!(zHZ x).1) then false else bif (x.1 == (2 : Int)) && decide (x.2.2.2.1 ≥ a2) then false else zd (fun _ x => bif (!(yu x.2.1 a1).1) then false else (bif (!(yu x.2.2 a1).1) then false else true)) 0 x.2.2.1) 0 a0 then ((yB (a0.length : Int) (1 : Int) (6 : Int)).1, ()) else (false, ()) := by
 simp only [zMP, zLu, zQ, zR, zx]
 have : LB.run zDZ (a0, a1, a2, (0 : Int), ()) = bif zd (fun _ x => bif (!(zHZ x).1) then false else bif (x.1 == (2 : Int)) && decide (x.2.2.2.1 ≥ a2) then false else zd (fun i x => bif (!(yu x.2.1 a1).1) then false else (bif (!(yu x.2.2 a1).1) then false else true)) 0 x.2.2.1) 0 a0 then .brk (a0, a1, a2, (a0.length : Int), ()) else .ret (false, ()) := by
  refine LB.run_all (l := zDZ) (L := a0) (fun i => (a0, a1, a2, (i : Int), ())) (r := (false, ())) (fun i x h => ?_) ?_
  ·have hi := (List.getElem?_eq_some_iff.1 h).1
   simp only [LB.b, zDZ, zi, zQ, zR, zx]
   rw [ltT hi, cond_true, zOL, zG h]
   generalize zd _ 0 x.2.2.1 = A
   cases (!(zHZ x).1) <;> cases (x.1 == (2 : Int)) <;> cases decide (x.2.2.2.1 ≥ a2) <;> cases A <;> rfl
  ·simp only [LB.b, zDZ, zi, zQ, zR, zx]
   rw [xl]; rfl
 rw [this]
 cases zd _ 0 a0 <;> rfl
theorem zm1 (r : El zC) : zBD r = zBB r := b1 (by
 rw [zfC]
 simp only [zBB, zGl, zi, zQ, zR]
 rw [zbx, zf8]
 have hu := zjg r
 simp only [zMy, zAa, zm0, zms, znd, zVv, z6, ct, Bool.not_eq_true', Bool.eq_false_iff, ne_eq, Bool.and_eq_true, beq_iff_eq, decide_eq_true_eq, za6, and_true, and_false, or_false, false_or, Bool.false_eq_true, Decidable.not_not, zkw, zl5]
 grind)
theorem zkC (d : El zN) (s : ByteArray) : zFe d s = zEW d s := by
 unfold zFe
 rw [zDh, zgt]
 rfl
theorem zly (d : El zN) : zDQ d = zCx d := b1 (by
 rw [zZE, zRh]
 simp only [zMy, zAa, zm1, zkC, z6, ct, Bool.not_eq_true', Bool.eq_false_iff, ne_eq, bne_iff_ne, zr, Nat.zero_add, and_true, and_false, or_false, false_or, Bool.false_eq_true, Decidable.not_not]
 grind)
theorem zdp (b : El zO) (s : ByteArray) : x6 b s = xQ b s := by
 unfold x6
 rw [zDp, zjz]
 rfl
theorem zh0 (b : El zO) (s : ByteArray) : zFP b s = zEJ b s := by
 unfold zFP
 rw [zCj, zhP]
 rfl
theorem zW8 (f : El zt) : vp f = zAH f := b1 (by
 simp only [zAH, zLf, zi, zR]
 rw [zgo, zfN]
 simp only [zMy, ziV, z6, ct, Bool.not_eq_true', Bool.eq_false_iff, ne_eq, decide_eq_true_eq, za6, and_true, and_false, or_false, false_or, Bool.false_eq_true, Decidable.not_not]
 grind)
theorem zk7 (t : El zD) : zD8 t = zDV t := b1 (by
 simp only [zD8, zJw, zDV, zIE, zi, zR]
 simp only [zQK, zW8, z6, ct, Bool.eq_false_iff, ne_eq, and_false, or_false, Bool.false_eq_true])
theorem zjd (l : List (El zD)) : zFu l = zF3 l := b1 (by
 rw [zXz, zZd]
 simp only [zk7, z6, ct, Bool.not_eq_true', Bool.eq_false_iff, ne_eq, decide_eq_true_eq, zr, Nat.zero_add, and_true, and_false, or_false, false_or, Bool.false_eq_true, Decidable.not_not]
 constructor
 ·rintro ⟨h0, h⟩
  refine ⟨fun i x hx => ?_, by omega⟩
  have := h i x hx
  rwa [zG hx] at this
 ·rintro ⟨h, h0⟩
  refine ⟨by omega, fun i x hx => ?_⟩
  rw [zG hx]; exact h i x hx)
theorem znC (t : El zP) : zFA t = zEA t := b1 (by
 simp only [zFA, zMQ, zEA, zKI, zi, zR]
 simp only [zW8, zhs, zAa, ziV, z6, ct, Bool.not_eq_true', Bool.eq_false_iff, ne_eq, Bool.and_eq_true, beq_iff_eq, bne_iff_ne, and_true, and_false, or_false, false_or, Bool.false_eq_true, Decidable.not_not, zeI]
 grind)
theorem zjR (s : El zH) (n : Int) : zAd s n = zAZ s n := by rw [zes, zg8]; rfl
theorem zcB (a b : List (El zK)) : yo a b = zDw a b := by rw [zEf, zMj]
theorem zRQ (a b : El zt) : vH a b = yC a b := by simp only [vH, zHw, yC, zFr, zi, zR]; rw [zcB]
end
end Go.Proofs.YtipbfgknaihifaaGreat
namespace Go.Proofs.YtipbfgknaihifaaGreat
open Go.RowKit
noncomputable section
theorem zmi {α : Type} {p : α → Bool} {L : List α} {i : Nat} {x : α} (h : L[i]? = some x) (hx : p x = true) : zVf p L = (i : Int) ↔ ∀ (j : Nat) (y : α), j < i → L[j]? = some y → p y = false := by
 rcases zXy p L with ⟨h1, h2⟩ | ⟨k, y, h1, h2, h3, h4⟩
 ·rw [h2 x (zNI h)] at hx; cases hx
 ·rw [h1]
  constructor
  ·intro e; have : k = i := by omega
   subst this; exact h4
  ·intro h5
   rcases Nat.lt_trichotomy k i with h6 | h6 | h6
   ·rw [h5 k y h6 h2] at h3; cases h3
   ·rw [h6]
   ·rw [h4 i x h6 h] at hx; cases hx
theorem zHv {α : Type} {L : List α} {i j : Nat} {x : α} : (L.take i)[j]? = some x ↔ j < i ∧ L[j]? = some x := by
 rw [List.getElem?_take]; split <;> grind
def SFa (a b : El zt) : Prop := a.1.toList = b.1.toList ∧ a.2.length = b.2.length ∧ ∀ (i : Nat) (x y : El zK), a.2[i]? = some x → b.2[i]? = some y → x.1 = y.1 ∧ x.2.1 = y.2.1 ∧ x.2.2.toList = y.2.2.toList
theorem SFa.symm {a b : El zt} (h : SFa a b) : SFa b a := ⟨h.1.symm, h.2.1.symm, fun i x y hx hy => by have := h.2.2 i y x hy hx; exact ⟨this.1.symm, this.2.1.symm, this.2.2.symm⟩⟩
theorem SFa.refl (a : El zt) : SFa a a := ⟨rfl, rfl, fun i x y hx hy => by rw [hx] at hy; cases hy; exact ⟨rfl, rfl, rfl⟩⟩
theorem zNF {a b : El zt} : (yC a b).1 = true ↔ SFa a b := by
 unfold SFa; simp only [yC, zFr, zi, zR]
 rw [zMj]
 simp only [z6, ct, Bool.not_eq_true', Bool.eq_false_iff, ne_eq, Bool.and_eq_true, beq_iff_eq, bne_iff_ne, zr, Nat.zero_add, and_true, and_false, or_false, false_or, Bool.false_eq_true, Decidable.not_not]
 constructor
 ·rintro ⟨h1, h2, h3⟩
  have hl : a.2.length = b.2.length := by omega
  refine ⟨h1, hl, fun i x y hx hy => ?_⟩
  have := h3 i x hx
  rwa [zG hy] at this
 ·rintro ⟨h1, h2, h3⟩
  refine ⟨h1, by omega, fun i x hx => ?_⟩
  have hi := (List.getElem?_eq_some_iff.1 hx).1
  have hy : b.2[i]? = some (b.2[i]'(by omega)) := List.getElem?_eq_getElem _
  have := h3 i x _ hx hy
  rwa [zG hy]
theorem zOZ {a b : El zt} : (yC a b).1 = false ↔ ¬ SFa a b := by rw [← zNF, Bool.not_eq_true]
theorem zTY (l0 : List (El zP)) (n : Nat) (hn : n ≤ l0.length) : LB.run vO (l0, (n : Int), (0 : Int), ()) = bif zd (fun _ y => !(yC (zB zP l0 (n : Int)).1 y.1).1) 0 (l0.take n) then .brk (l0, (n : Int), ((l0.take n).length : Int), ()) else .ret (false, ()) := by
 have hl : (l0.take n).length = n := by rw [List.length_take]; omega
 refine LB.run_all (l := vO) (L := (l0.take n)) (fun i => (l0, (n : Int), (i : Int), ())) (p := (fun _ y => !(yC (zB zP l0 (n : Int)).1 y.1).1)) (r := (false, ())) (fun i x h => ?_) ?_
 ·obtain ⟨hi, h⟩ := zHv.1 h
  simp only [LB.b, vO, zi, zQ, zR]
  rw [ltT hi, cond_true, zG h]
  cases (yC (zB zP l0 (n : Int)).1 x.1).1 <;> rfl
 ·simp only [LB.b, vO, zi, zQ, zR]
  rw [hl, xl]; rfl
theorem zdF (l0 : List (El zP)) : zHJ l0 = bif zd (fun i x => bif (!(zEA x).1) then false else zd (fun _ y => !(yC x.1 y.1).1) 0 (l0.take i)) 0 l0 then (decide ((l0.length : Int) ≤ (30 : Int)), ()) else (false, ()) := by
 simp only [zHJ, zJs, zQ, zR, zx]
 have : LB.run zDI (l0, (0 : Int), ()) = bif zd (fun i x => bif (!(zEA x).1) then false else zd (fun _ y => !(yC x.1 y.1).1) 0 (l0.take i)) 0 l0 then .brk (l0, (l0.length : Int), ()) else .ret (false, ()) := by
  refine LB.run_all (l := zDI) (L := l0) (fun i => (l0, (i : Int), ())) (r := (false, ())) (fun i x h => ?_) ?_
  ·have hi := (List.getElem?_eq_some_iff.1 h).1
   simp only [LB.b, zDI, zi, zQ, zR, zx]
   rw [ltT hi, cond_true, zTY l0 i (by omega), zG h]
   generalize zd _ 0 (l0.take i) = A
   cases (zEA x).1 <;> cases A <;> rfl
  ·simp only [LB.b, zDI, zi, zQ, zR, zx]
   rw [xl]; rfl
 rw [this]
 cases zd _ 0 l0 <;> rfl
theorem zlR (l : List (El zP)) (f : El zt) : zAQ l f = (zVf (fun t : El zP => (yC t.1 f).1) l, ()) := by
 unfold zAQ
 rw [zCH]
 unfold zAK
 simp only [zRQ]
 show ((zCh (yt (fun i x => bif (yC x.1 f).1 then (some ((i : Int), ())) else none) 0 l) (fun r => (r.1, ())) ((-1 : Int), ())).1, ()) = _
 rw [zK5 (fun t : El zP => (yC t.1 f).1)]
theorem zlb (l : List (El zP)) : zHP l = zHJ l := b1 (by
 rw [zbJ, zdF]
 simp only [znC, zlR, z6, ct, Bool.not_eq_true', Bool.eq_false_iff, ne_eq, bne_iff_ne, decide_eq_true_eq, zr, Nat.zero_add, and_true, and_false, or_false, false_or, Bool.false_eq_true, Decidable.not_not, zHv]
 have key : ∀ (i : Nat) (x : El zP), l[i]? = some x → (zVf (fun t : El zP => (yC t.1 x.1).1) l = (i : Int) ↔ ∀ (j : Nat) (y : El zP), j < i ∧ l[j]? = some y → ¬ (yC x.1 y.1).1 = true) := fun i x hx => by
  rw [zmi hx (zNF.2 (SFa.refl _))]
  simp only [zOZ, zNF]
  constructor
  ·rintro h j y ⟨h1, h2⟩ h3; exact h j y h1 h2 h3.symm
  ·rintro h j y h1 h2 h3; exact h j y ⟨h1, h2⟩ h3.symm
 constructor
 ·rintro ⟨h0, h⟩
  refine ⟨fun i x hx => ?_, by omega⟩
  have h1 := h i x hx
  rw [zG hx, key i x hx] at h1
  exact h1
 ·rintro ⟨h, h0⟩
  refine ⟨by omega, fun i x hx => ?_⟩
  rw [zG hx, key i x hx]
  exact h i x hx)
theorem zS4 (l0 : List (El zV)) (n : Nat) (hn : n ≤ l0.length) : LB.run vJ (l0, (n : Int), (0 : Int), ()) = bif zd (fun _ y => !((zB zV l0 (n : Int)).1.toList == y.1.toList)) 0 (l0.take n) then .brk (l0, (n : Int), ((l0.take n).length : Int), ()) else .ret (false, ()) := by
 have hl : (l0.take n).length = n := by rw [List.length_take]; omega
 refine LB.run_all (l := vJ) (L := (l0.take n)) (fun i => (l0, (n : Int), (i : Int), ())) (p := (fun _ y => !((zB zV l0 (n : Int)).1.toList == y.1.toList))) (r := (false, ())) (fun i x h => ?_) ?_
 ·obtain ⟨hi, h⟩ := zHv.1 h
  simp only [LB.b, vJ, zi, zQ, zR]
  rw [ltT hi, cond_true, zG h]
  cases ((zB zV l0 (n : Int)).1.toList == x.1.toList) <;> rfl
 ·simp only [LB.b, vJ, zi, zQ, zR]
  rw [hl, xl]; rfl
theorem za3 (l0 : List (El zV)) : zHF l0 = bif zd (fun i x => bif (!(yB (((x.1.size : Nat)) : Int) (1 : Int) (200 : Int)).1) then false else bif (!(zAH x.2).1) then false else zd (fun _ y => !(x.1.toList == y.1.toList)) 0 (l0.take i)) 0 l0 then (decide ((l0.length : Int) ≤ (30 : Int)), ()) else (false, ()) := by
 simp only [zHF, zJo, zQ, zR, zx]
 have : LB.run zDX (l0, (0 : Int), ()) = bif zd (fun i x => bif (!(yB (((x.1.size : Nat)) : Int) (1 : Int) (200 : Int)).1) then false else bif (!(zAH x.2).1) then false else zd (fun _ y => !(x.1.toList == y.1.toList)) 0 (l0.take i)) 0 l0 then .brk (l0, (l0.length : Int), ()) else .ret (false, ()) := by
  refine LB.run_all (l := zDX) (L := l0) (fun i => (l0, (i : Int), ())) (r := (false, ())) (fun i x h => ?_) ?_
  ·have hi := (List.getElem?_eq_some_iff.1 h).1
   simp only [LB.b, zDX, zi, zQ, zR, zx]
   rw [ltT hi, cond_true, zS4 l0 i (by omega), zG h]
   generalize zd _ 0 (l0.take i) = A
   cases (yB (((x.1.size : Nat)) : Int) (1 : Int) (200 : Int)).1 <;> cases (zAH x.2).1 <;> cases A <;> rfl
  ·simp only [LB.b, zDX, zi, zQ, zR, zx]
   rw [xl]; rfl
 rw [this]
 cases zd _ 0 l0 <;> rfl
theorem ziI {l : List (El zV)} {k : ByteArray} : (zFc l k).1 = true ↔ ∃ x, x ∈ l ∧ x.1.toList = k.toList := by
 unfold zFc y8
 rw [zCu]
 show decide ((zCh (yt (fun i x => bif (x.1.toList == k.toList) then (some ((i : Int), ())) else none) 0 l) (fun r => (r.1, ())) ((-1 : Int), ())).1 ≥ 0) = true ↔ _
 rw [zK5 (fun x : El zV => x.1.toList == k.toList), decide_eq_true_eq, zXY]
 simp only [beq_iff_eq]
theorem zln (l : List (El zV)) : zHD l = zHF l := b1 (by
 rw [zcv, za3]
 simp only [zI4, zAa, zW8, z6, ct, Bool.not_eq_true', Bool.eq_false_iff, ne_eq, beq_iff_eq, decide_eq_true_eq, zr, Nat.zero_add, and_true, and_false, or_false, false_or, Bool.false_eq_true, Decidable.not_not, zHv, ziI]
 have key : ∀ (i : Nat) (x : El zV), l[i]? = some x → ((¬ ∃ y, y ∈ (l.take (i : Int).toNat).drop (0 : Int).toNat ∧ y.1.toList = x.1.toList) ↔ ∀ (j : Nat) (y : El zV), j < i ∧ l[j]? = some y → ¬ x.1.toList = y.1.toList) := fun i x hx => by
  rw [Int.toNat_natCast]
  show (¬ ∃ y, y ∈ (l.take i) ∧ y.1.toList = x.1.toList) ↔ _
  constructor
  ·intro h j y hj e
   exact h ⟨y, zNI (zHv.2 hj), e.symm⟩
  ·rintro h ⟨y, hy, e⟩
   obtain ⟨j, hj⟩ := zWe hy
   exact h j y (zHv.1 hj) e.symm
 constructor
 ·rintro ⟨h0, h⟩
  refine ⟨fun i x hx => ?_, by omega⟩
  have h1 := h i x hx
  rw [zG hx, key i x hx] at h1
  exact h1
 ·rintro ⟨h, h0⟩
  refine ⟨by omega, fun i x hx => ?_⟩
  rw [zG hx, key i x hx]
  exact h i x hx)
theorem zX4 (d : El zN) (t : El yf) : zFx d t = bif zd (fun _ m => bif (!(y5 d m).1) then false else bif ((m.2.2.length : Int) != (0 : Int)) then false else bif ((m.2.1.length : Int) != (xP (zB zC d.2 m.1)).1) then false else zd (fun _ n => (zAZ t.1 n).2.1) 0 m.2.1) 0 t.2.1 then (decide ((t.2.1.length : Int) ≤ (1000 : Int)), ()) else (false, ()) := by
 simp only [zFx, zHs, zQ, zR, zx]
 have h0 : ∀ (w2 : El zA) (n5 : Int), LB.run xm (d, t, w2, (), (), n5, (), (0 : Int), ()) = bif zd (fun _ n => (zAZ t.1 n).2.1) 0 w2.2.1 then .brk (d, t, w2, (), (), n5, (), (w2.2.1.length : Int), ()) else .ret (false, ()) := fun w2 n5 => by
  refine LB.run_all (l := xm) (L := w2.2.1) (fun i => (d, t, w2, (), (), n5, (), (i : Int), ())) (p := (fun _ n => (zAZ t.1 n).2.1)) (r := (false, ())) (fun i x h => ?_) ?_
  ·have hi := (List.getElem?_eq_some_iff.1 h).1
   simp only [LB.b, xm, zi, zQ, zR]
   rw [ltT hi, cond_true, zG h]
   cases (zAZ t.1 x).2.1 <;> rfl
  ·simp only [LB.b, xm, zi, zQ, zR]
   rw [xl]; rfl
 have : LB.run zBz (d, t, (), (), (0 : Int), ()) = bif zd (fun _ m => bif (!(y5 d m).1) then false else bif ((m.2.2.length : Int) != (0 : Int)) then false else bif ((m.2.1.length : Int) != (xP (zB zC d.2 m.1)).1) then false else zd (fun _ n => (zAZ t.1 n).2.1) 0 m.2.1) 0 t.2.1 then .brk (d, t, (), (), (t.2.1.length : Int), ()) else .ret (false, ()) := by
  refine LB.run_all (l := zBz) (L := t.2.1) (fun i => (d, t, (), (), (i : Int), ())) (r := (false, ())) (fun i x h => ?_) ?_
  ·have hi := (List.getElem?_eq_some_iff.1 h).1
   simp only [LB.b, zBz, zi, zQ, zR, zx]
   rw [ltT hi, cond_true, zG h, h0]
   generalize zd _ 0 x.2.1 = A
   cases (y5 d x).1 <;> cases ((x.2.2.length : Int) != (0 : Int)) <;> cases ((x.2.1.length : Int) != (xP (zB zC d.2 x.1)).1) <;> cases A <;> rfl
  ·simp only [LB.b, zBz, zi, zQ, zR, zx]
   rw [xl]; rfl
 rw [this]
 cases zd _ 0 t.2.1 <;> rfl
theorem zbb (d : El zN) (t : El yf) : zHK d t = bif decide ((t.2.1.length : Int) > (1000 : Int)) then (false, ()) else bif zd (fun _ m => bif (!(xB d m).1) then false else bif ((m.2.2.length : Int) != (0 : Int)) then false else bif ((m.2.1.length : Int) != (yd (zB zC d.2 m.1)).1) then false else zd (fun _ n => (zAd t.1 n).2.1) 0 m.2.1) 0 t.2.1 then (true, ()) else (false, ()) := by
 simp only [zHK, zKE, zi, zQ, zR, zx]
 generalize t.2.1 = L
 have h0 : ∀ (l16 : List (El zA)) (n17 n18 : Int) (l46 : List (El .int)), LB.run vN (d, t, (), (), l16, n17, n18, l46, (l46.length : Int), (0 : Int), ()) = bif zd (fun _ n => (zAd t.1 n).2.1) 0 l46 then .brk (d, t, (), (), l16, n17, n18, l46, (l46.length : Int), (l46.length : Int), ()) else .ret (false, ()) := fun l16 n17 n18 l46 => by
  refine LB.run_all (l := vN) (L := l46) (fun i => (d, t, (), (), l16, n17, n18, l46, (l46.length : Int), (i : Int), ())) (p := (fun _ n => (zAd t.1 n).2.1)) (r := (false, ())) (fun i x h => ?_) ?_
  ·have hi := (List.getElem?_eq_some_iff.1 h).1
   simp only [LB.b, vN, zi, zQ, zR]
   rw [ltT hi, cond_true, zG h]
   cases (zAd t.1 x).2.1 <;> rfl
  ·simp only [LB.b, vN, zi, zQ, zR]
   rw [xl]; rfl
 have : LB.run zCp (d, t, (), (), L, (L.length : Int), (0 : Int), ()) = bif zd (fun _ m => bif (!(xB d m).1) then false else bif ((m.2.2.length : Int) != (0 : Int)) then false else bif ((m.2.1.length : Int) != (yd (zB zC d.2 m.1)).1) then false else zd (fun _ n => (zAd t.1 n).2.1) 0 m.2.1) 0 L then .brk (d, t, (), (), L, (L.length : Int), (L.length : Int), ()) else .ret (false, ()) := by
  refine LB.run_all (l := zCp) (L := L) (fun i => (d, t, (), (), L, (L.length : Int), (i : Int), ())) (r := (false, ())) (fun i x h => ?_) ?_
  ·have hi := (List.getElem?_eq_some_iff.1 h).1
   simp only [LB.b, zCp, zi, zQ, zR, zx]
   rw [ltT hi, cond_true, zG h, h0]
   generalize zd _ 0 x.2.1 = A
   cases (xB d x).1 <;> cases ((x.2.2.length : Int) != (0 : Int)) <;> cases ((x.2.1.length : Int) != (yd (zB zC d.2 x.1)).1) <;> cases A <;> rfl
  ·simp only [LB.b, zCp, zi, zQ, zR, zx]
   rw [xl]; rfl
 rw [this]
 cases zd _ 0 L <;> rfl
theorem zOg (d : El zN) (m : El zA) : xB d m = y5 d m := rfl
theorem zlG (d : El zN) (t : El yf) : zHK d t = zFx d t := b1 (by
 rw [zbb, zX4]
 simp only [zOg, zVv, zjR, z6, ct, Bool.not_eq_true', Bool.eq_false_iff, ne_eq, bne_iff_ne, decide_eq_true_eq, zr, and_true, and_false, or_false, false_or, Bool.false_eq_true, Decidable.not_not]
 grind)
theorem zbG (s : El zH) : zDA s = bif decide ((s.1.length : Int) > (40 : Int)) then (false, ()) else (bif (!(z3 s.2 (1 : Int) (1000000 : Int)).1) then (false, ()) else bif zd (fun i x => bif (!(vp x.2).1) then false else bif (!(z3 x.1 (1 : Int) (s.2 - (1 : Int))).1) then false else bif decide ((i : Int) > (0 : Int)) && decide (x.1 ≤ (zB zD s.1 ((i : Int) - (1 : Int))).1) then false else zd (fun _ y => !(vH x.2 y.2).1) 0 (s.1.take i)) 0 s.1 then (true, ()) else (false, ())) := by
 simp only [zDA, zHj, zi, zQ, zR, zx]
 have : LB.run zDg (s, (), s.1, (s.1.length : Int), (0 : Int), ()) = bif zd (fun i x => bif (!(vp x.2).1) then false else bif (!(z3 x.1 (1 : Int) (s.2 - (1 : Int))).1) then false else bif decide ((i : Int) > (0 : Int)) && decide (x.1 ≤ (zB zD s.1 ((i : Int) - (1 : Int))).1) then false else zd (fun _ y => !(vH x.2 y.2).1) 0 (s.1.take i)) 0 s.1 then .brk (s, (), s.1, (s.1.length : Int), (s.1.length : Int), ()) else .ret (false, ()) := by
  refine LB.run_all (l := zDg) (L := s.1) (fun i => (s, (), s.1, (s.1.length : Int), (i : Int), ())) (r := (false, ())) (fun i x h => ?_) ?_
  ·have hi := (List.getElem?_eq_some_iff.1 h).1
   simp only [LB.b, zDg, zi, zQ, zR, zx]
   rw [ltT hi, cond_true, zG h, zIK, Int.toNat_natCast]
   have e : zd (fun i x_1 => bif (vH x.2 x_1.2).1 then false else true) 0 ((s.1.take i).drop (0 : Int).toNat) = zd (fun _ y => !(vH x.2 y.2).1) 0 (s.1.take i) := by
    refine congrArg (fun f => zd f 0 (s.1.take i)) ?_
    funext _ y; cases (vH x.2 y.2).1 <;> rfl
   rw [e]
   generalize zd _ 0 (s.1.take i) = A
   cases (vp x.2).1 <;> cases (z3 x.1 (1 : Int) (s.2 - (1 : Int))).1 <;> cases decide ((i : Int) > (0 : Int)) <;> cases decide (x.1 ≤ (zB zD s.1 ((i : Int) - (1 : Int))).1) <;> cases A <;> rfl
  ·simp only [LB.b, zDg, zi, zQ, zR, zx]
   rw [xl]; rfl
 rw [this]
 cases zd _ 0 s.1 <;> rfl
end
end Go.Proofs.YtipbfgknaihifaaGreat
namespace Go.Proofs.YtipbfgknaihifaaGreat
open Go.RowKit
noncomputable section
theorem za2 {α R : Type} (p : α → Bool) (g : α → R) (L : List α) : ∀ k, yt (fun _ x => bif p x then some (g x) else none) k L = (L.find? p).map g := by
 induction L with
 | nil => intro k; rfl
 | cons x L ih =>
  intro k
  simp only [yt, List.find?_cons]
  cases p x with
  | true => rfl
  | false => exact ih (k + 1)
theorem zdB (s : El zH) (f : El zt) : (zD4 s f).1 = ((s.1.find? (fun x : El zD => (yC x.2 f).1)).map (fun x : El zD => (x.1 : Int))).getD 0 := by
 rw [zkq]
 rw [za2 (fun x : El zD => (yC x.2 f).1) (fun x : El zD => ((x.1 : Int), ()))]
 cases s.1.find? (fun x : El zD => (yC x.2 f).1) <;> rfl
theorem zkr (s : El zH) : zDA s = zDS s := b1 (by
 rw [zbG, zcw]
 simp only [zW8, zAa, zRQ, z6, ct, Bool.not_eq_true', Bool.eq_false_iff, ne_eq, Bool.and_eq_true, bne_iff_ne, decide_eq_true_eq, zr, Nat.zero_add, and_true, and_false, or_false, false_or, Bool.false_eq_true, Decidable.not_not, zHv, zeI, zNF, zdB]
 generalize s.1 = L
 have key : ∀ (i : Nat) (x : El zD), (∀ (i : Nat) (x : El zD), L[i]? = some x → (1 : Int) ≤ x.1) → (∀ (i j : Nat) (x y : El zD), i < j → L[i]? = some x → L[j]? = some y → (x.1 : Int) < y.1) → L[i]? = some x → (((L.find? (fun y : El zD => (yC y.2 x.2).1)).map (fun x : El zD => (x.1 : Int))).getD 0 = x.1 ↔ ∀ (j : Nat) (y : El zD), j < i ∧ L[j]? = some y → ¬ SFa x.2 y.2) := fun i x h1 hs hx => by
  constructor
  ·intro h j y hj hc
   cases hf : L.find? (fun y : El zD => (yC y.2 x.2).1) with
   | none =>
    have := List.find?_eq_none.1 hf x (zNI hx)
    exact this (zNF.2 (SFa.refl _))
   | some z =>
    rw [hf] at h
    have hz : (z.1 : Int) = x.1 := h
    obtain ⟨hz1, k, hk, hzk, hk2⟩ := List.find?_eq_some_iff_getElem.1 hf
    have hzk' : L[k]? = some z := by rw [List.getElem?_eq_getElem hk, hzk]
    have hki : k = i := by
     rcases Nat.lt_trichotomy k i with h6 | h6 | h6
     ·have h7 := hs k i z x h6 hzk' hx; rw [hz] at h7; exact absurd h7 (Int.lt_irrefl _)
     ·exact h6
     ·have h7 := hs i k x z h6 hx hzk'; rw [hz] at h7; exact absurd h7 (Int.lt_irrefl _)
    subst hki
    have := hk2 j hj.1
    obtain ⟨hjl, hjy⟩ := List.getElem?_eq_some_iff.1 hj.2
    rw [hjy] at this
    have h9 := zNF.2 hc.symm
    rw [h9] at this; cases this
  ·intro h
   have hf : L.find? (fun y : El zD => (yC y.2 x.2).1) = some x := by
    rw [List.find?_eq_some_iff_getElem]
    obtain ⟨hi, hxi⟩ := List.getElem?_eq_some_iff.1 hx
    refine ⟨zNF.2 (SFa.refl _), i, hi, hxi, fun j hj => ?_⟩
    rw [Bool.not_eq_true', zOZ]
    exact fun hc => h j _ ⟨hj, List.getElem?_eq_getElem (by omega)⟩ hc.symm
   rw [hf]; rfl
 have mono : (∀ (i : Nat) (x : El zD), L[i]? = some x → (i : Int) > 0 → ¬ (x.1 : Int) ≤ (zB zD L ((i : Int) - 1)).1) → (∀ (i j : Nat) (x y : El zD), i < j → L[i]? = some x → L[j]? = some y → (x.1 : Int) < y.1) := by
  intro h i j
  induction j with
  | zero => intro x y h1; omega
  | succ j ih =>
   intro x y h1 hx hy
   have hj : j < L.length := by have := (List.getElem?_eq_some_iff.1 hy).1; omega
   have hz : L[j]? = some (L[j]'hj) := List.getElem?_eq_getElem _
   have h2 := h (j + 1) y hy (by omega)
   rw [show ((j + 1 : Nat) : Int) - 1 = (j : Int) by omega, zG hz] at h2
   by_cases he : i = j
   ·subst he; rw [hx] at hz
    have : x = L[i]'hj := Option.some.inj hz
    rw [← this] at h2; exact Int.not_le.1 h2
   ·exact Int.lt_trans (ih x _ (by omega) hx hz) (Int.not_le.1 h2)
 constructor
 ·rintro ⟨h0, h1, h⟩
  have hp : ∀ (i : Nat) (x : El zD), L[i]? = some x → (1 : Int) ≤ x.1 := fun i x hx => (h i x hx).2.1.1
  have hm := mono (fun i x hx hi hc => (h i x hx).2.2.1 ⟨hi, hc⟩)
  refine ⟨h1, by omega, fun i x hx => ?_⟩
  have h2 := h i x hx
  have hk := key i x hp hm hx
  have h8 := hk.2 h2.2.2.2
  rw [h8]
  have h9 := hm
  grind
 ·rintro ⟨h1, h0, h⟩
  have hp : ∀ (i : Nat) (x : El zD), L[i]? = some x → (1 : Int) ≤ x.1 := fun i x hx => by have := h i x hx; grind
  have hm := mono (fun i x hx hi hc => by have := h i x hx; grind)
  refine ⟨by omega, h1, fun i x hx => ?_⟩
  have h2 := h i x hx
  have hk := key i x hp hm hx
  have h8 := hk.1 (by grind)
  grind)
theorem zmu {l : List (El zP)} : (zHa l).1 = true ↔ ∃ t, t ∈ l ∧ (t.2.2.1 = (1 : Int) ∨ t.2.2.1 = (2 : Int)) := by
 rw [zaL]
 simp only [z6, ct, Bool.eq_false_iff, ne_eq, beq_iff_eq, za6, and_true, and_false, false_or, Bool.false_eq_true]
 grind
theorem zmE {l : List (El zP)} : (yX l ()).1 = true ↔ ∃ t, t ∈ l ∧ (t.2.2.1 = (1 : Int) ∨ t.2.2.1 = (2 : Int)) := by
 unfold yX
 rw [zDG]
 show decide ((zCh (yt (fun i x => bif (zEQ x).1 then (some ((i : Int), ())) else none) 0 l) (fun r => (r.1, ())) ((-1 : Int), ())).1 ≥ 0) = true ↔ _
 rw [zK5 (fun x : El zP => (zEQ x).1), decide_eq_true_eq, zXY]
 simp only [zEQ, zLh, zi, zR]
 simp only [z6, ct, Bool.eq_false_iff, ne_eq, beq_iff_eq, and_true]
 grind
theorem zmp (d : El zN) (t : El yf) : zBG d t = zBA d t := b1 (by
 simp only [zBG, zI9, zBA, zI2, zRS, zN1, zQI, zOS, zFg, zFl, zi, zQ, zR]
 simp only [zly, zkr, zlb, zjd, zln, zAa, zQK, zlG, z6, ct, Bool.not_eq_true', Bool.eq_false_iff, ne_eq, beq_iff_eq, decide_eq_true_eq, and_true, and_false, or_false, false_or, Bool.false_eq_true, Decidable.not_not, zmu, zmE]
 grind)
theorem zVZ (b : El zO) : zAb b = vC b := b1 (by
 rw [zOz, zLi]
 simp only [zly, zdp, zh0, zMy, zmp, zAa, zQK, z6, ct, Bool.not_eq_true', Bool.eq_false_iff, ne_eq, bne_iff_ne, decide_eq_true_eq, zr, Nat.zero_add, and_true, and_false, or_false, false_or, Bool.false_eq_true, Decidable.not_not]
 grind)
end
end Go.Proofs.YtipbfgknaihifaaGreat
namespace Go.Proofs.YtipbfgknaihifaaGreat
open Go.RowKit
noncomputable section
theorem zYk (l : List (El zF)) (s : ByteArray) : zFL l s = xY l s := by rw [zek, zfc]
theorem zji (a : El zo) (l : List (El zF)) : xb a l = xW a l := by simp only [xb, zLF, xW, zLc, zi, zR]; rw [zYk]
theorem zXw (a b : Int) : (z0 a b).1 = if a < b then -1 else if a > b then 1 else 0 := by
 simp only [zB3, z0, zCc, zi, zR]
 simp only [bne_self_eq_false, cond_false]
 by_cases h1 : a < b
 ·rw [decide_eq_true h1, if_pos h1]; rfl
 ·by_cases h2 : a > b
  ·rw [decide_eq_false h1, decide_eq_true h2, if_neg h1, if_pos h2]; rfl
  ·rw [decide_eq_false h1, decide_eq_false h2, if_neg h1, if_neg h2]; rfl
theorem zm8 (a b : ByteArray) : (zAn a b).1 = if Op.bytesLess a.toList b.toList = true then -1 else if a.toList = b.toList then 0 else 1 := by
 simp only [zAS, zAn, zAg, zi, zR]
 simp only [beq_self_eq_true, Bool.not_true, cond_false]
 cases h1 : Op.bytesLess a.toList b.toList
 ·simp only [cond_false, Bool.false_or]
  by_cases h2 : a.toList = b.toList
  ·rw [beq_iff_eq.2 h2, if_pos h2]; rfl
  ·rw [beq_eq_false_iff_ne.2 h2, if_neg h2]; rfl
 ·rfl
theorem nz (a : Int) : ((a != (0 : Int)) = true ∧ a ≠ 0) ∨ ((a != (0 : Int)) = false ∧ a = 0) := by
 by_cases h : a = 0
 ·exact .inr ⟨by rw [h]; rfl, h⟩
 ·exact .inl ⟨bne_iff_ne.2 h, h⟩
theorem znl (a b c : Int) : (zAA [a, b, c]).1 = if a ≠ 0 then a else if b ≠ 0 then b else c := by
 rw [zNS]
 rcases nz a with ⟨e1, h1⟩ | ⟨e1, h1⟩
 ·simp only [yt, e1]; rw [if_pos h1]; rfl
 ·rcases nz b with ⟨e2, h2⟩ | ⟨e2, h2⟩
  ·simp only [yt, e1, e2]; rw [if_neg (not_not_intro h1), if_pos h2]; rfl
  ·rcases nz c with ⟨e3, h3⟩ | ⟨e3, h3⟩
   ·simp only [yt, e1, e2, e3]; rw [if_neg (not_not_intro h1), if_neg (not_not_intro h2)]; rfl
   ·simp only [yt, e1, e2, e3]; rw [if_neg (not_not_intro h1), if_neg (not_not_intro h2), h3]; rfl
theorem zna (a b : Int) : (zAA [a, b]).1 = if a ≠ 0 then a else b := by
 rw [zNS]
 rcases nz a with ⟨e1, h1⟩ | ⟨e1, h1⟩
 ·simp only [yt, e1]; rw [if_pos h1]; rfl
 ·rcases nz b with ⟨e2, h2⟩ | ⟨e2, h2⟩
  ·simp only [yt, e1, e2]; rw [if_neg (not_not_intro h1)]; rfl
  ·simp only [yt, e1, e2]; rw [if_neg (not_not_intro h1), h2]; rfl
theorem zhF (a b : El zK) : zJj a b = zJh a b := b1 (by
 unfold zJj zHS; simp only [zJh, zJM, zi, zR]
 obtain ⟨a1, a2, a3⟩ := a
 obtain ⟨b1, b2, b3⟩ := b
 rw [znl, zXw, zXw, zm8]
 simp only [z6, ct, Bool.eq_false_iff, ne_eq, bne_iff_ne, decide_eq_true_eq, Decidable.not_not]
 obtain ⟨a1, rfl⟩ : ∃ y : Int, y = a1 := ⟨_, rfl⟩
 obtain ⟨a2, rfl⟩ : ∃ y : Int, y = a2 := ⟨_, rfl⟩
 obtain ⟨b1, rfl⟩ : ∃ y : Int, y = b1 := ⟨_, rfl⟩
 obtain ⟨b2, rfl⟩ : ∃ y : Int, y = b2 := ⟨_, rfl⟩
 cases Op.bytesLess a3.toList b3.toList <;> grind)
theorem zk1 (c : El zS) (l : List (El zF)) : zHX c l = zHd c l := by simp only [zHX, zNu, zHd, zOI, zi, zR]; simp only [zji, zhF]
theorem zhH (c : List (El zS)) (l : List (El zF)) : zFS c l = zFC c l := by rw [zco, zcc]; simp only [zk1]
def zal (f : El zt) (l2 : List (El zF)) (i : Nat) (x : El zo) (s : List (El zF)) : (List (El zF) × Bool × Unit) ⊕ List (El zF) :=
 bif (x.1 == (2 : Int)) then (bif ((x.2.2.1 == (zB zK f.2 i).1) && ((x.2.2.2.1 == (zB zK f.2 i).2.1) && ((x.2.2.2.2.toList == (zB zK f.2 i).2.2.toList) && true))) then .inr s else .inl (l2, false, ()))
 else bif (x.1 == (1 : Int)) then (bif (xY s x.2.1).2.1 then (bif (((xY s x.2.1).1.1 == (zB zK f.2 i).1) && (((xY s x.2.1).1.2.1 == (zB zK f.2 i).2.1) && (((xY s x.2.1).1.2.2.toList == (zB zK f.2 i).2.2.toList) && true))) then .inr s else .inl (l2, false, ())) else .inr (s ++ [(x.2.1, zB zK f.2 i)])) else .inr s
theorem zdb (a : Int) : ((a == 2) = true ∧ (a == 1) = false) ∨ ((a == 2) = false ∧ (a == 1) = true) ∨ ((a == 2) = false ∧ (a == 1) = false) := by
 by_cases h : a = 2
 ·subst h; exact .inl ⟨rfl, rfl⟩
 ·by_cases h1 : a = 1
  ·subst h1; exact .inr (.inl ⟨rfl, rfl⟩)
  ·exact .inr (.inr ⟨beq_eq_false_iff_ne.2 h, beq_eq_false_iff_ne.2 h1⟩)
def stS {R σ T : Type} (o : R ⊕ σ) (g : σ → T) : St R T := match o with | .inl r => .ret r | .inr s => .brk (g s)
theorem zU8 {l : LB} {α σ : Type} (L : List α) (emb : Nat → σ → l.d.T) (f : Nat → α → σ → l.r.T ⊕ σ)
  (hb : ∀ i x s, L[i]? = some x → l.b (emb i s) = match f i x s with | .inl r => .ret r | .inr s' => .go (emb (i + 1) s')) (he : ∀ s, l.b (emb L.length s) = .brk (emb L.length s)) (s : σ) :
  l.run (emb 0 s) = stS (zG3 f 0 L s) (emb L.length) := by
 rw [LB.run_forS L emb f hb he s]; unfold stS; cases zG3 f 0 L s <;> rfl
theorem zQC (p : El zJ) (f : El zt) (l2 l8 : List (El zF)) : LB.run xZ (p, f, l2, (), (), l8, (0 : Int), ()) = stS (zG3 (zal f l2) 0 p.2.1 l8) fun s => (p, f, l2, (), (), s, (p.2.1.length : Int), ()) := by
 refine zU8 (l := xZ) p.2.1 (fun i s => (p, f, l2, (), (), s, (i : Int), ())) (zal f l2) (fun i x s h => ?_) (fun s => ?_) l8
 ·have hi := (List.getElem?_eq_some_iff.1 h).1
  simp only [LB.b, xZ, zi, zQ, zR, zal]
  rw [ltT hi, cond_true, zG h]
  try dsimp only
  generalize ((x.2.2.1 == (zB zK f.2 i).1) && ((x.2.2.2.1 == (zB zK f.2 i).2.1) && ((x.2.2.2.2.toList == (zB zK f.2 i).2.2.toList) && true))) = A
  generalize (((xY s x.2.1).1.1 == (zB zK f.2 i).1) && (((xY s x.2.1).1.2.1 == (zB zK f.2 i).2.1) && (((xY s x.2.1).1.2.2.toList == (zB zK f.2 i).2.2.toList) && true))) = B
  generalize (xY s x.2.1).2.1 = C
  rcases zdb x.1 with ⟨h1, h2⟩ | ⟨h1, h2⟩ | ⟨h1, h2⟩ <;> rw [h1, h2] <;> cases A <;> cases B <;> cases C <;> rfl
 ·simp only [LB.b, xZ, zi, zQ, zR]
  rw [xl]; rfl
theorem zRl (L : List (El zo)) (f : El zt) (l2 l8 : List (El zF)) : LB.run xa (f, l2, (), l8, L, (L.length : Int), (0 : Int), ()) = stS (zG3 (zal f l2) 0 L l8) fun s => (f, l2, (), s, L, (L.length : Int), (L.length : Int), ()) := by
 refine zU8 (l := xa) L (fun i s => (f, l2, (), s, L, (L.length : Int), (i : Int), ())) (zal f l2) (fun i x s h => ?_) (fun s => ?_) l8
 ·have hi := (List.getElem?_eq_some_iff.1 h).1
  simp only [LB.b, xa, zi, zQ, zR, zal]
  rw [ltT hi, cond_true, zG h, zYk]
  try dsimp only
  generalize ((x.2.2.1 == (zB zK f.2 i).1) && ((x.2.2.2.1 == (zB zK f.2 i).2.1) && ((x.2.2.2.2.toList == (zB zK f.2 i).2.2.toList) && true))) = A
  generalize (((xY s x.2.1).1.1 == (zB zK f.2 i).1) && (((xY s x.2.1).1.2.1 == (zB zK f.2 i).2.1) && (((xY s x.2.1).1.2.2.toList == (zB zK f.2 i).2.2.toList) && true))) = B
  generalize (xY s x.2.1).2.1 = C
  rcases zdb x.1 with ⟨h1, h2⟩ | ⟨h1, h2⟩ | ⟨h1, h2⟩ <;> rw [h1, h2] <;> cases A <;> cases B <;> cases C <;> rfl
 ·simp only [LB.b, xa, zi, zQ, zR]
  rw [xl]; rfl
theorem zdi (p : El zJ) (f : El zt) (l : List (El zF)) : vi p f l = yI p f l := by
 simp only [vi, zF6, yI, zGF, zi, zQ, zR, zx]
 rw [zRl, zQC]
 have e1 : (f.1.toList == p.1.toList) = (p.1.toList == f.1.toList) := by rw [Bool.eq_iff_iff, beq_iff_eq, beq_iff_eq]; exact eq_comm
 have e2 : ((f.2.length : Int) != (p.2.1.length : Int)) = ((p.2.1.length : Int) != (f.2.length : Int)) := by rw [Bool.eq_iff_iff, bne_iff_ne, bne_iff_ne]; exact ne_comm
 rw [e1, e2]
 cases zG3 (zal f l) 0 p.2.1 l <;> rfl
theorem zaP (r : El zC) (s : El zH) (l : List (El zF)) : zFO r s l = bif zd (fun _ p => bif p.2.2 then zd (fun _ x => !(yI p x.2 l).2.1) 0 s.1 else true) 0 r.2.2.1 then (false, ()) else (true, ()) := by
 simp only [zFO, zJV, zQ, zR, zx]
 have h1 : ∀ n7 : Int, (zB zJ r.2.2.1 n7).2.2 = true → LB.run xO (r, s, l, (), (), n7, (0 : Int), ()) = bif zd (fun _ x => !(yI (zB zJ r.2.2.1 n7) x.2 l).2.1) 0 s.1 then .brk (r, s, l, (), (), n7, (s.1.length : Int), ()) else .ret (true, ()) := fun n7 hn => by
  refine LB.run_all (l := xO) (L := s.1) (fun i => (r, s, l, (), (), n7, (i : Int), ())) (p := (fun _ x => !(yI (zB zJ r.2.2.1 n7) x.2 l).2.1)) (r := (true, ())) (fun i x h => ?_) ?_
  ·have hi := (List.getElem?_eq_some_iff.1 h).1
   simp only [LB.b, xO, zi, zQ, zR]
   rw [ltT hi, cond_true, hn, zG h]
   cases (yI (zB zJ r.2.2.1 n7) x.2 l).2.1 <;> rfl
  ·simp only [LB.b, xO, zi, zQ, zR]
   rw [xl]; rfl
 have h2 : ∀ n7 : Int, (zB zJ r.2.2.1 n7).2.2 = false → LB.run xO (r, s, l, (), (), n7, (0 : Int), ()) = .brk (r, s, l, (), (), n7, (0 : Int), ()) := fun n7 hn => by
  refine LB.run_scan (l := xO) (L := ([] : List Unit)) (fun _ => (r, s, l, (), (), n7, (0 : Int), ())) (f := (fun _ _ => none)) (fun i x h => by simp at h) ?_
  simp only [LB.b, xO, zi, zQ, zR]
  rw [hn]
  cases decide ((0 : Int) < (s.1.length : Int)) <;> rfl
 have : LB.run zDY (r, s, l, (), (), (0 : Int), ()) = bif zd (fun _ p => bif p.2.2 then zd (fun _ x => !(yI p x.2 l).2.1) 0 s.1 else true) 0 r.2.2.1 then .brk (r, s, l, (), (), (r.2.2.1.length : Int), ()) else .ret (true, ()) := by
  refine LB.run_all (l := zDY) (L := r.2.2.1) (fun i => (r, s, l, (), (), (i : Int), ())) (r := (true, ())) (fun i x h => ?_) ?_
  ·have hi := (List.getElem?_eq_some_iff.1 h).1
   simp only [LB.b, zDY, zi, zQ, zR, zx]
   rw [ltT hi, cond_true]
   cases hn : x.2.2 with
   | true =>
    rw [h1 i (by rw [zG h]; exact hn), zG h]
    generalize zd _ 0 s.1 = A
    cases A <;> rfl
   | false => rw [h2 i (by rw [zG h]; exact hn)]; rfl
  ·simp only [LB.b, zDY, zi, zQ, zR, zx]
   rw [xl]; rfl
 rw [this]
 cases zd _ 0 r.2.2.1 <;> rfl
theorem znB {p : El zJ} {s : El zH} {l : List (El zF)} : (zEI p s l).1 > 0 ↔ ∃ x, x ∈ s.1 ∧ (yI p x.2 l).2.1 = true := by
 rw [zft]
 simp only [zdi]
 rw [zH7 (fun x : El zD => (yI p x.2 l).2.1)]
 rw [Int.zero_add]
 constructor
 ·intro h
  have h : 0 < (s.1.filter fun x : El zD => (yI p x.2 l).2.1).length := by omega
  obtain ⟨x, hx⟩ := List.exists_mem_of_length_pos h
  exact ⟨x, (List.mem_filter.1 hx).1, (List.mem_filter.1 hx).2⟩
 ·rintro ⟨x, h1, h2⟩
  have : 0 < (s.1.filter fun x : El zD => (yI p x.2 l).2.1).length := List.length_pos_of_mem (List.mem_filter.2 ⟨h1, h2⟩)
  omega
theorem zeR (r : El zC) (s : El zH) (l : List (El zF)) : zFH r s l = zFO r s l := b1 (by
 rw [zbT, zaP]
 simp only [z6, ct, Bool.not_eq_true', Bool.eq_false_iff, ne_eq, decide_eq_true_eq, za6, and_true, and_false, false_or, Bool.false_eq_true, znB]
 grind)
theorem zlZ (r : El zC) : (yV r false).1 = r.2.2.1.filter (fun p => !p.2.2) := by
 rw [zlo]
 have := zJ9 (fun x : El zJ => x.2.2 == false) r.2.2.1 0 []
 refine this.trans ?_
 rw [List.nil_append]
 refine congrArg (fun f => List.filter f r.2.2.1) ?_
 funext x; cases x.2.2 <;> rfl
theorem zNo.take {L : List (El zJ)} : ∀ {n : Nat}, zNo L n → L.filter (fun p => !p.2.2) = L.take n := by
 induction L with
 | nil => intro n h; simp
 | cons x L ih =>
  intro n h
  have h0 := h.2 0 x rfl
  cases n with
  | zero =>
   have hx : x.2.2 = true := h0.2 (Nat.le_refl 0)
   rw [List.filter_cons_of_neg (by rw [hx]; decide)]
   rw [ih (n := 0) ⟨Nat.zero_le _, fun i y hy => ⟨fun _ => Nat.zero_le i, fun _ => (h.2 (i + 1) y (by simpa using hy)).2 (Nat.zero_le _)⟩⟩]; rfl
  | succ n =>
   have hx : x.2.2 = false := by
    cases e : x.2.2 with
    | false => rfl
    | true => have := h0.1 e; omega
   rw [List.filter_cons_of_pos (by rw [hx]; decide), List.take_succ_cons]
   congr 1
   refine ih ⟨by have := h.1; simp at this; exact this, fun i y hy => ?_⟩
   rw [h.2 (i + 1) y (by simpa using hy)]; omega
theorem zm5 {r : El zC} {n : Nat} (hF : zNo r.2.2.1 n) (s : El zH) : ∀ (N : Nat) (out : List (El zA)) (ids : List (El .int)) (l : List (El zF)), ids.length ≤ n → xd N out r s ids l = xC N out r s ids l := by
 intro N
 induction N with
 | zero => intro _ _ _ _; rfl
 | succ N ih =>
  intro out ids l hids
  show (vU (xd N) (xu N) out r s ids l).val = (vT (xC N) (xv N) out r s ids l).val
  have hn : (xP r).1 = (n : Int) := by rw [zFk, hF.len]
  have hp : (yV r false).1 = r.2.2.1.take n := by rw [zlZ, hF.take]
  have hpl : (r.2.2.1.take n).length = n := by rw [List.length_take]; have := hF.1; omega
  simp only [vU, vT, zi, zQ, zR, zx]
  rw [hn, hp, hpl, zeR, zhH]
  by_cases hc : ids.length = n
  ·rw [hc]
   have : (((n : Nat) : Int) == ((n : Nat) : Int)) = true := beq_self_eq_true _
   rw [this]; rfl
  ·have : ((ids.length : Int) == ((n : Nat) : Int)) = false := beq_eq_false_iff_ne.2 (by omega)
   rw [this, cond_false, cond_false]
   have hg : zB zJ (r.2.2.1.take n) (ids.length : Int) = zB zJ r.2.2.1 (ids.length : Int) := by
    have h1 : ids.length < r.2.2.1.length := by have := hF.1; omega
    have h2 : r.2.2.1[ids.length]? = some (r.2.2.1[ids.length]'h1) := List.getElem?_eq_getElem _
    rw [zG h2]
    exact zG (zHv.2 ⟨by omega, h2⟩)
   have hs : LB.run (yO (xC N) (xv N)) (out, r, s, (), ids, l, (), (), (0 : Int), ()) = .brk (zg (fun _ x o => bif (yI (zB zJ r.2.2.1 (ids.length : Int)) x.2 l).2.1 then (xC N o r s (ids ++ [x.1]) (yI (zB zJ r.2.2.1 (ids.length : Int)) x.2 l).1).1 else o) 0 s.1 out, r, s, (), ids, l, (), (), (s.1.length : Int), ()) := by
    refine LB.run_fold (l := yO (xC N) (xv N)) (L := s.1) (fun i o => (o, r, s, (), ids, l, (), (), (i : Int), ())) (fun i x o h => ?_) (fun o => ?_) (s := out)
    ·have hi := (List.getElem?_eq_some_iff.1 h).1
     simp only [LB.b, yO, zi, zQ, zR]
     rw [ltT hi, cond_true, zG h]
     try dsimp only
     cases (yI (zB zJ r.2.2.1 (ids.length : Int)) x.2 l).2.1 <;> rfl
    ·simp only [LB.b, yO, zi, zQ, zR]
     rw [xl]; rfl
   have hi' : LB.run (yN (xd N) (xu N)) (out, r, s, (), ids, l, (), (), r.2.2.1.take n, s.1, (s.1.length : Int), (0 : Int), ()) = .brk (zg (fun _ x o => bif (yI (zB zJ r.2.2.1 (ids.length : Int)) x.2 l).2.1 then (xC N o r s (ids ++ [x.1]) (yI (zB zJ r.2.2.1 (ids.length : Int)) x.2 l).1).1 else o) 0 s.1 out, r, s, (), ids, l, (), (), r.2.2.1.take n, s.1, (s.1.length : Int), (s.1.length : Int), ()) := by
    refine LB.run_fold (l := yN (xd N) (xu N)) (L := s.1) (fun i o => (o, r, s, (), ids, l, (), (), r.2.2.1.take n, s.1, (s.1.length : Int), (i : Int), ())) (fun i x o h => ?_) (fun o => ?_) (s := out)
    ·have hi := (List.getElem?_eq_some_iff.1 h).1
     simp only [LB.b, yN, zi, zQ, zR]
     rw [ltT hi, cond_true, zG h, hg, zdi]
     try dsimp only
     rw [ih o (ids ++ [x.1]) (yI (zB zJ r.2.2.1 (ids.length : Int)) x.2 l).1 (by simp; omega)]
     cases (yI (zB zJ r.2.2.1 (ids.length : Int)) x.2 l).2.1 <;> rfl
    ·simp only [LB.b, yN, zi, zQ, zR]
     rw [xl]; rfl
   rw [hs, hi']; rfl
end
end Go.Proofs.YtipbfgknaihifaaGreat
namespace Go.Proofs.YtipbfgknaihifaaGreat
open Go.RowKit
noncomputable section
theorem ze3 {L : List (El zJ)} (h : (zFQ L).1 = true) : ∃ n, zNo L n := by
 rw [zOh] at h
 simp only [z6, ct, Bool.not_eq_true', Bool.eq_false_iff, ne_eq, beq_iff_eq, decide_eq_true_eq, zr, Nat.zero_add, and_true, and_false, or_false, false_or, Bool.false_eq_true, Decidable.not_not, zeI] at h
 have h0 := h.1
 refine zNo.of fun i x y hx hy hn => ?_
 have h2 := h0 (i + 1) y hy
 have h1 : zB zJ L (((i + 1 : Nat) : Int) - 1) = zB zJ L (i : Int) := by congr 1; omega
 rw [h1, zG hx] at h2
 grind
theorem znw {r : El zC} {n : Nat} (hF : zNo r.2.2.1 n) (s : El zH) : yw r s = zE2 r s := by
 simp only [yw, zGT, zE2, zNk, zQ, zR]
 rw [zm5 hF s 64 [] [] [] (Nat.zero_le _)]
def zij (d : El zN) (s : El zH) : List (El zA) := zg (fun i r o => o ++ (zE2 r s).1.map (fun m : El zA => (((i : Int), m.2) : El zA))) 0 d.2 []
theorem zg4 (d : El zN) (s : El zH) : zIv d s = (zij d s, ()) := by
 simp only [zIv, zLL, zQ, zR, zx]
 have h1 : ∀ (n6 : Int) (L o : List (El zA)), ∃ l7 n8, LB.run xc (d, s, (), (), o, n6, L, (0 : Int), ()) = .brk (d, s, (), (), o ++ L.map (fun m : El zA => ((n6, m.2) : El zA)), n6, l7, n8, ()) := fun n6 L o => by
  refine ⟨(L.take L.length).map (fun m : El zA => ((n6, m.2) : El zA)) ++ L.drop L.length, (L.length : Int), ?_⟩
  have := LB.run_fold (l := xc) (L := L) (fun i (o : List (El zA)) => (d, s, (), (), o, n6, (L.take i).map (fun m : El zA => ((n6, m.2) : El zA)) ++ L.drop i, (i : Int), ())) (f := (fun _ m o => o ++ [((n6, m.2) : El zA)])) (fun i x o h => ?_) (fun o => ?_) (s := o)
  ·refine Eq.trans this ?_
   rw [zO0 (fun m : El zA => ((n6, m.2) : El zA))]
  ·have hi := (List.getElem?_eq_some_iff.1 h).1
   have hx := (List.getElem?_eq_some_iff.1 h).2
   have hlen : ((L.take i).map (fun m : El zA => ((n6, m.2) : El zA)) ++ L.drop i).length = L.length := by simp; omega
   have hti : ((L.take i).map (fun m : El zA => ((n6, m.2) : El zA))).length = i := by simp; omega
   have hd : L.drop i = x :: L.drop (i + 1) := by rw [List.drop_eq_getElem_cons hi, hx]
   have hg : zB zA ((L.take i).map (fun m : El zA => ((n6, m.2) : El zA)) ++ L.drop i) (i : Int) = x := zG (by rw [List.getElem?_append_right (by omega), hti, Nat.sub_self, hd]; rfl)
   have hs : List.set ((L.take i).map (fun m : El zA => ((n6, m.2) : El zA)) ++ L.drop i) i ((n6, x.2) : El zA) = (L.take (i + 1)).map (fun m : El zA => ((n6, m.2) : El zA)) ++ L.drop (i + 1) := by
    rw [List.set_append_right _ _ (by omega), hti, Nat.sub_self, hd, List.set_cons_zero, List.take_add_one, h]
    simp
   have hg2 : zB zA (List.set ((L.take i).map (fun m : El zA => ((n6, m.2) : El zA)) ++ L.drop i) i ((n6, x.2) : El zA)) (i : Int) = ((n6, x.2) : El zA) := zG (List.getElem?_set_self (by omega))
   simp only [LB.b, xc, zi, zQ, zR]
   rw [hlen, ltT hi, cond_true, hg, Int.toNat_natCast, hg2, hs]; rfl
  ·simp only [LB.b, xc, zi, zQ, zR]
   have hlen : ((L.take L.length).map (fun m : El zA => ((n6, m.2) : El zA)) ++ L.drop L.length).length = L.length := by simp
   rw [hlen, xl]; rfl
 have : LB.run zAP (d, s, (), (), [], (0 : Int), ()) = .brk (d, s, (), (), zij d s, (d.2.length : Int), ()) := by
  refine LB.run_fold (l := zAP) (L := d.2) (fun i o => (d, s, (), (), o, (i : Int), ())) (fun i x o h => ?_) (fun o => ?_) (s := [])
  ·have hi := (List.getElem?_eq_some_iff.1 h).1
   simp only [LB.b, zAP, zi, zQ, zR, zx]
   rw [ltT hi, cond_true, zG h]
   obtain ⟨l7, n8, e⟩ := h1 (i : Int) (zE2 x s).1 o
   rw [e]; rfl
  ·simp only [LB.b, zAP, zi, zQ, zR, zx]
   rw [xl]; rfl
 rw [this]; rfl
theorem znR {d : El zN} (hF : ∀ r, r ∈ d.2 → ∃ n, zNo r.2.2.1 n) (s : El zH) : zN3 d s = zIv d s := by
 rw [zg4]
 simp only [zN3, zOE, zQ, zR, zx]
 have : LB.run zBJ (s, (), [], d.2, (d.2.length : Int), (0 : Int), ()) = .brk (s, (), zij d s, d.2, (d.2.length : Int), (d.2.length : Int), ()) := by
  refine LB.run_fold (l := zBJ) (L := d.2) (fun i o => (s, (), o, d.2, (d.2.length : Int), (i : Int), ())) (fun i x o h => ?_) (fun o => ?_) (s := [])
  ·have hi := (List.getElem?_eq_some_iff.1 h).1
   simp only [LB.b, zBJ, zi, zQ, zR, zx]
   rw [ltT hi, cond_true]
   try dsimp only
   rw [zZW, zG h]
   obtain ⟨n, hn⟩ := hF x (zNI h)
   rw [znw hn, zO0 (fun m : El zA => (((i : Int), m.2) : El zA))]; rfl
  ·simp only [LB.b, zBJ, zi, zQ, zR, zx]
   rw [xl]; rfl
 rw [this]; rfl
def zmw {R S : Type} (P : R → S → Prop) : Option R → Option S → Prop
 | none, none => True
 | some a, some b => P a b
 | _, _ => False
theorem zYL {α R S : Type} {P : R → S → Prop} {f : Nat → α → Option R} {g : Nat → α → Option S} : ∀ {L : List α} {k : Nat}, (∀ i x, L[i]? = some x → zmw P (f (k + i) x) (g (k + i) x)) → zmw P (yt f k L) (yt g k L)
 | [], _, _ => trivial
 | x :: L, k, h => by
  have h0 := h 0 x rfl
  rw [Nat.add_zero] at h0
  simp only [yt]
  cases e1 : f k x <;> cases e2 : g k x <;> rw [e1, e2] at h0
  ·exact zYL (L := L) (k := k + 1) fun i y hy => by have := h (i + 1) y (by simpa using hy); rwa [show k + 1 + i = k + (i + 1) by omega]
  ·exact h0.elim
  ·exact h0.elim
  ·exact h0
theorem zUu {α σ τ : Type} {R : σ → τ → Prop} {f : Nat → α → σ → σ} {g : Nat → α → τ → τ} : ∀ {L : List α} {k : Nat} {s : σ} {t : τ}, R s t → (∀ i x s t, L[i]? = some x → R s t → R (f (k + i) x s) (g (k + i) x t)) → R (zg f k L s) (zg g k L t)
 | [], _, _, _, h, _ => h
 | x :: L, k, s, t, h, hh => by
  simp only [zg]
  refine zUu (L := L) (k := k + 1) (hh 0 x s t rfl h) fun i y s t hy hr => ?_
  have := hh (i + 1) y s t (by simpa using hy) hr
  rwa [show k + 1 + i = k + (i + 1) by omega]
theorem zZS (a b : El zA) : zGW a b = zEw a b := b1 (by
 unfold zGW; simp only [zEs, zCX, zi, zR]
 rw [zXb, zIN]
 have hy : (zAA [(z0 a.1 b.1).1, (z0 (a.2.1.length : Int) (b.2.1.length : Int)).1]).1 = (fun x y : Int => if x ≠ 0 then x else y) (if (a.1 : Int) < b.1 then -1 else if (a.1 : Int) > b.1 then 1 else 0) (if (a.2.1.length : Int) < (b.2.1.length : Int) then -1 else if (a.2.1.length : Int) > (b.2.1.length : Int) then 1 else 0) := by
  rw [zna, zXw, zXw]
 generalize zAA [(z0 a.1 b.1).1, (z0 (a.2.1.length : Int) (b.2.1.length : Int)).1] = y at *
 obtain ⟨y, ⟨⟩⟩ := y
 dsimp only at hy ⊢
 subst hy
 obtain ⟨a1, a2, a3⟩ := a
 obtain ⟨b1, b2, b3⟩ := b
 obtain ⟨a1, rfl⟩ : ∃ y : Int, y = a1 := ⟨_, rfl⟩
 obtain ⟨b1, rfl⟩ : ∃ y : Int, y = b1 := ⟨_, rfl⟩
 dsimp only
 have hr : ∀ hl : a2.length = b2.length, zmw (fun (x : Int × Unit) (y : Bool × Unit) => x.1 < 0 ↔ y.1 = true) (yt (fun i x => bif (decide ((i : Int) ≥ (b2.length : Int))) then (some ((1 : Int), ())) else (bif ((z0 (zB .int a2 (i : Int)) (zB .int b2 (i : Int))).1 != (0 : Int)) then (some ((z0 (zB .int a2 (i : Int)) (zB .int b2 (i : Int))).1, ())) else none)) 0 a2) (yt (fun i x => bif (x != (zB .int b2 (i : Int))) then (some (decide (x < (zB .int b2 (i : Int))), ())) else none) 0 a2) := fun hl => by
  refine zYL fun i x hx => ?_
  have hi := (List.getElem?_eq_some_iff.1 hx).1
  rw [Nat.zero_add, decide_eq_false (by omega), cond_false, zG hx, zXw]
  generalize zB .int b2 (i : Int) = y
  obtain ⟨x, rfl⟩ : ∃ z : Int, z = x := ⟨_, rfl⟩
  obtain ⟨y, rfl⟩ : ∃ z : Int, z = y := ⟨_, rfl⟩
  rcases Int.lt_trichotomy x y with h | h | h
  ·rw [if_pos h, bne_iff_ne.2 (show x ≠ y by omega)]
   show (-1 : Int) < 0 ↔ decide (x < y) = true
   simp [h]
  ·subst h
   rw [if_neg (Int.lt_irrefl _), if_neg (Int.lt_irrefl _), show (x != x) = false from bne_self_eq_false x]; trivial
  ·rw [if_neg (by omega), if_pos h, bne_iff_ne.2 (show x ≠ y by omega)]
   show (1 : Int) < 0 ↔ decide (x < y) = true
   simp; omega
 by_cases h1 : a1 = b1
 ·subst h1
  by_cases h2 : a2.length = b2.length
  ·have hr := hr h2
   rw [h2]
   simp only [Int.lt_irrefl, gt_iff_lt, if_false, bne_self_eq_false, cond_false, beq_self_eq_true, cond_true, ne_eq, not_true_eq_false, decide_false]
   generalize yt _ 0 a2 = A at *
   generalize yt _ 0 a2 = B at *
   cases A with
   | none => cases B with
    | none => simp [zCh]
    | some y => exact hr.elim
   | some x => cases B with
    | none => exact hr.elim
    | some y => exact decide_eq_true_iff.trans hr
  ·simp only [Int.lt_irrefl, gt_iff_lt, if_false, bne_self_eq_false, cond_false, ne_eq, not_true_eq_false]
   rw [bne_iff_ne.2 (show ((a2.length : Int)) ≠ (b2.length : Int) by omega), cond_true]
   by_cases h3 : (a2.length : Int) < (b2.length : Int)
   ·simp [h3]
   ·have h4 : (b2.length : Int) < (a2.length : Int) := by omega
    simp [h3, h4]
 ·rw [bne_iff_ne.2 h1, cond_true]
  by_cases h3 : a1 < b1
  ·simp [h3]
  ·have h4 : b1 < a1 := by omega
   simp [h3, h4])
theorem zkJ (d : El zN) (a b : El zA) : zCR d a b = zBF d a b := by simp only [zCR, zLy, zBF, zLW, zi, zQ, zR]; simp only [zOg, zZS]
theorem zYq (a b : El zA) : zGP a b = zAB a b := by simp only [zGP, zGY, zAB, zGa, zi, zR]; rw [zJ0, zcT]
theorem zc0 (l : List (El zA)) (m : El zA) : zAF l m = vM l m := b1 (by
 rw [zZX]
 unfold zAF yx
 rw [zCT]
 unfold zCS
 simp only [zYq]
 show decide ((zCh (yt (fun i x => bif (zAB x m).1 then (some ((i : Int), ())) else none) 0 l) (fun r => (r.1, ())) ((-1 : Int), ())).1 ≥ 0) = true ↔ _
 rw [zK5 (fun x : El zA => (zAB x m).1), decide_eq_true_eq, zXY]
 simp only [z6, ct, Bool.eq_false_iff, ne_eq, za6, and_true, and_false, false_or, Bool.false_eq_true]
 grind)
theorem zmZ (d : El zN) (l f : List (El zA)) : zE1 d l f = zEh d l f := by
 rw [zXW, zXe]
 simp only [zOg, zc0, zkJ]
 have h := zUu (R := fun (s : El zA × Bool) (t : Int) => (t = -1 ∧ s = (((0 : Int), (([] : List (El .int)), ([] : List (El zF)))), false)) ∨ (0 ≤ t ∧ t < (l.length : Int) ∧ s = (zB zA l t, true))) (f := fun i x (s : (El zA) × Bool) => bif (!(y5 d x).1) then (s.1, s.2) else (bif (vM f x).1 then (s.1, s.2) else (bif (!s.2) then (x, true) else (bif (zBF d x s.1).1 then (x, true) else (s.1, s.2))))) (g := fun i x (s : Int) => bif (y5 d x).1 then (bif (!(vM f x).1) then (bif (decide (s < (0 : Int))) then (i : Int) else (bif (zBF d x (zB zA l s)).1 then (i : Int) else s)) else s) else s) (L := l) (k := 0) (s := (((0 : Int), (([] : List (El .int)), ([] : List (El zF)))), false)) (t := -1) (.inl ⟨rfl, rfl⟩) (fun i x s t hx hr => by
  have hi := (List.getElem?_eq_some_iff.1 hx).1
  have hn : 0 ≤ ((0 + i : Nat) : Int) ∧ ((0 + i : Nat) : Int) < (l.length : Int) ∧ ((x, true) : El zA × Bool) = (zB zA l ((0 + i : Nat) : Int), true) := ⟨by omega, by omega, by rw [Nat.zero_add, zG hx]⟩
  cases (y5 d x).1 with
  | false => exact hr
  | true =>
   cases (vM f x).1 with
   | true => exact hr
   | false =>
    rcases hr with ⟨rfl, rfl⟩ | ⟨h1, h2, rfl⟩
    ·exact .inr hn
    ·have : decide (t < 0) = false := decide_eq_false (by omega)
     simp only [this, Bool.not_true, Bool.not_false, cond_true, cond_false]
     cases (zBF d x (zB zA l t)).1 with
     | true => exact .inr hn
     | false => exact .inr ⟨h1, h2, rfl⟩)
 unfold zGV; simp only [zD2, zD3, zQ, zR]
 generalize zg _ 0 l (((0 : Int), (([] : List (El .int)), ([] : List (El zF)))), false) = A at *
 generalize zg _ 0 l (-1 : Int) = B at *
 rcases h with ⟨rfl, rfl⟩ | ⟨h1, h2, rfl⟩
 ·rfl
 ·rw [decide_eq_false (by omega), cond_false]
theorem zkd (b : El zO) (i : Int) : vX b i = zER b i := by simp only [vX, zDl, zER, zI0, zQ, zR]; rw [zdp]
theorem zgL {b : El zO} (h : (vC b).1 = true) (i : Int) : ∀ r, r ∈ (zER b i).1.2 → ∃ n, zNo r.2.2.1 n := by
 simp only [zER, zI0, zQ, zR]
 generalize (xQ b (zB ze b.2.1 i).2.1).1 = k
 have hd : zB zN b.1 k = dflt zN ∨ zB zN b.1 k ∈ b.1 := by
  unfold zB
  rw [List.getD_eq_getElem?_getD]
  cases e : b.1[k.toNat]? with
  | none => exact .inl rfl
  | some d => exact .inr (zNI e)
 intro r hr
 rcases hd with hd | hd
 ·rw [hd] at hr
  exact absurd hr (by show r ∉ ([] : List (El zC)); simp)
 ·obtain ⟨j, hj⟩ := zWe hd
  rw [zLi] at h
  simp only [z6, ct, Bool.not_eq_true', Bool.eq_false_iff, ne_eq, bne_iff_ne, decide_eq_true_eq, zr, Nat.zero_add, and_true, and_false, or_false, false_or, Bool.false_eq_true, Decidable.not_not] at h
  have h1 := (h.2.2.2.2.1 j _ hj).1
  rw [zRh] at h1
  simp only [z6, ct, Bool.not_eq_true', Bool.eq_false_iff, ne_eq, bne_iff_ne, zr, Nat.zero_add, and_true, and_false, or_false, false_or, Bool.false_eq_true, Decidable.not_not] at h1
  obtain ⟨m, hm⟩ := zWe hr
  have h2 := (h1.1 m r hm).1
  simp only [zBB, zGl, zi, zQ, zR] at h2
  simp only [z6, ct, Bool.eq_false_iff, ne_eq, and_false, or_false, Bool.false_eq_true] at h2
  exact ze3 h2.2.2.1
theorem zVC (b : El zO) (i : Int) : vv b i = zJx b i := by
 simp only [vv, zHR, zJx, zJl, vF, zMM, zA3, zKU, zNA, zKG, zi, zQ, zR]
 rw [zVZ, zkd]
 cases h : (vC b).1 with
 | false => cases decide (i < 0) <;> cases decide (i ≥ (b.2.1.length : Int)) <;> rfl
 | true =>
  rw [znR (zgL h i), zmZ]
  cases decide (i < 0) <;> cases decide (i ≥ (b.2.1.length : Int)) <;> cases ((zB ze b.2.1 i).2.2.2.2.2.2.2.1 != (1 : Int)) <;> rfl
end
end Go.Proofs.YtipbfgknaihifaaGreat
namespace Go.Proofs.YtipbfgknaihifaaGreat
open Go.RowKit
def zON (x : El zO) : V := .agg [.ext 0 zN x.1, .ext 0 ze x.2.1, .c (.int .i64 x.2.2.1), .c (.int .i64 x.2.2.2)]
theorem zhA {w : World} {u : V} {y : Value} (h : Rv w u y) : ∀ (i : Nat) (u' : V) (y' : Value), [u][i]? = some u' → [y][i]? = some y' → Rv w u' y' := fun i u' y' hu hy => by
 cases i with
 | zero => simp at hu hy; subst hu hy; exact h
 | succ i => simp at hu
theorem znv {w : World} {u v : V} {y z : Value} (h : Rv w u y) (g : Rv w v z) : ∀ (i : Nat) (u' : V) (y' : Value), [u, v][i]? = some u' → [y, z][i]? = some y' → Rv w u' y' := fun i u' y' hu hy => by
 cases i with
 | zero => simp at hu hy; subst hu hy; exact h
 | succ i => exact zhA g i u' y' (by simpa using hu) (by simpa using hy)
theorem zIj {x : El zO} {w : World} {v : Value} (h : Rv w (zON x) v) :
  Calls Tryz.prog 8 #[v] w (fun e w' => ∃ A0 C0 A1 C1, e = .returned (.agg #[.slice A0 x.1.length C0, .slice A1 x.2.1.length C1, .int .i64 x.2.2.1, .int .i64 x.2.2.2]) ∧ Rv w' (zON x) (.agg #[.slice A0 x.1.length C0, .slice A1 x.2.1.length C1, .int .i64 x.2.2.1, .int .i64 x.2.2.2]) ∧ Below w.heap.size w w') := by
 refine (zME (d := zOm) zfs.ok (a := (x, ())) rfl trivial (xs := [v]) rfl (zhA h)).mono ?_
 rintro e w' ⟨y, ρ', Z', rfl, hb, hr, hy⟩
 have hF : zOm.F (x, ()) = (x, ()) := zbn x
 rw [hF] at hr hy
 have hr : HR ρ' Z' [.arr (.d zN) x.1, .arr (.d ze) x.2.1] w' := hr
 have hy : Cn ρ' Z' w' (.agg [.obj 0, .obj 1, .c (.int .i64 x.2.2.1), .c (.int .i64 x.2.2.2)]) y := hy
 obtain ⟨Z1, a1, -, a3, -, -⟩ := hr.freezeL [0, 1]
 have a3 : HR ρ' Z1 [.frz zN x.1, .frz ze x.2.1] w' := a3
 have hk : Kp zAX Z1 w' zAX (Zw w') w' := ⟨fun _ _ h => h, fun q b h => a3.zl q b h, fun _ _ _ => rfl, fun o p b e => by simp [zAX] at e⟩
 cases hy with
 | agg hl hc =>
  rename_i xs
  obtain ⟨x0, x1, x2, x3, rfl⟩ : ∃ x0 x1 x2 x3, xs = [x0, x1, x2, x3] := by
   match xs, hl with
   | [x0, x1, x2, x3], _ => exact ⟨x0, x1, x2, x3, rfl⟩
  obtain ⟨p0, g0, rfl⟩ := (hc 0 _ _ rfl rfl).obj_inv
  obtain ⟨p1, g1, rfl⟩ := (hc 1 _ _ rfl rfl).obj_inv
  obtain rfl := vG (hc 2 _ _ rfl rfl)
  obtain rfl := vG (hc 3 _ _ rfl rfl)
  have k2 := zIU (hc 2 _ _ rfl rfl)
  have k3 := zIU (hc 3 _ _ rfl rfl)
  have f0 : Rv w' (.ext 0 zN x.1) p0.x := (a3.ob 0 p0 _ g0 rfl).1.mono hk
  have f1 : Rv w' (.ext 0 ze x.2.1) p1.x := (a3.ob 1 p1 _ g1 rfl).1.mono hk
  obtain ⟨A0, C0, -, -, -, e0, -⟩ := f0.ext_inv
  obtain ⟨A1, C1, -, -, -, e1, -⟩ := f1.ext_inv
  refine ⟨A0, C0, A1, C1, by rw [e0, e1], ?_, hb⟩
  rw [e0] at f0
  rw [e1] at f1
  refine .agg (xs := [.slice A0 x.1.length C0, .slice A1 x.2.1.length C1, .int .i64 x.2.2.1, .int .i64 x.2.2.2]) rfl fun i u y hu hy => ?_
  match i with
  | 0 => simp at hu hy; subst hu hy; exact f0
  | 1 => simp at hu hy; subst hu hy; exact f1
  | 2 => simp at hu hy; subst hu hy; exact .c _ k2
  | 3 => simp at hu hy; subst hu hy; exact .c _ k3
  | i + 4 => simp at hu
theorem zZr {x : El zO} {w : World} {u v : Value} (h : Rv w (zON x) u) (g : Rv w (zON x) v) : Calls Tryz.prog 10 #[u, v] w (zcr true w) := by
 refine (zME (d := zOu) zgr.ok (a := (x, x, ())) rfl trivial (xs := [u, v]) rfl (znv h g)).mono ?_
 rintro e w' ⟨y, ρ', Z', rfl, hb, -, hy⟩
 have hF : zOu.F (x, x, ()) = (true, ()) := zXF x
 rw [hF] at hy
 exact ⟨congrArg _ (vG hy), hb⟩
theorem zde {α : Type} (f g : α → Nat) (h : ∀ x, f x ≤ g x) (l : List α) : (l.map f).sum ≤ (l.map g).sum := by
 induction l with
 | nil => exact Nat.le_refl _
 | cons x l ih => simp only [List.map_cons, List.sum_cons]; have := h x; omega
theorem szr {r : El zC} (h : szE zC r ≤ 1048576) : SzR r := by
 have e : szE zC r = r.1.size + (0 + (szE (.lst zJ) r.2.2.1 + (szE (.lst zS) r.2.2.2.1 + szE (.lst z5) r.2.2.2.2))) := rfl
 have e1 : szE (.lst zJ) r.2.2.1 = r.2.2.1.length + (r.2.2.1.map (szE zJ)).sum := rfl
 have e2 : szE (.lst zS) r.2.2.2.1 = r.2.2.2.1.length + (r.2.2.2.1.map (szE zS)).sum := rfl
 have e3 : szE (.lst z5) r.2.2.2.2 = r.2.2.2.2.length + (r.2.2.2.2.map (szE z5)).sum := rfl
 have h1 : zdk r.2.2.1 ≤ (r.2.2.1.map (szE zJ)).sum := zde _ _ (fun p => by
  have : szE zJ p = p.1.size + ((p.2.1.length + (p.2.1.map (szE zo)).sum) + 0) := rfl
  omega) _
 have h3 : zdt r.2.2.2.2 ≤ (r.2.2.2.2.map (szE z5)).sum := zde _ _ (fun p => by
  have : szE z5 p = 0 + (p.2.1.size + ((p.2.2.1.length + (p.2.2.1.map (szE zq)).sum) + (0 + p.2.2.2.2.size))) := rfl
  omega) _
 unfold SzR zAv vZ
 show ((zdk r.2.2.1 : Nat) : Int) ≤ 16777216 ∧ 2 * (r.2.2.2.1.length : Int) + 2 * ((zdt r.2.2.2.2 : Nat) : Int) ≤ 16777216
 omega
theorem szb {x : El zO} (h : szE zO x ≤ 1048576) : ∀ d ∈ x.1, ∀ r ∈ d.2, SzR r := fun d hd r hr => by
 have e : szE zO x = (x.1.length + (x.1.map (szE zN)).sum) + (szE (.lst ze) x.2.1 + (0 + 0)) := rfl
 have e1 : szE zN d = d.1.size + (d.2.length + (d.2.map (szE zC)).sum) := rfl
 have h1 := zWO (szE zN) hd
 have h2 := zWO (szE zC) hr
 exact szr (by omega)
theorem zdU {b : BookD} {w : World} {a0 a1 : Option Addr} {c0 c1 : Nat} (h : Cel.rd w.heap.size w [.slice a0 b.Defs.length c0, .slice a1 b.Works.length c1, .int .i64 b.Now, .int .i64 b.Ring] b) (hs : zGc b ≤ 1048576) :
  Rv w (zON (Br.f b)) (.agg #[.slice a0 b.Defs.length c0, .slice a1 b.Works.length c1, .int .i64 b.Now, .int .i64 b.Ring]) := zmq (t := zO) (Br.h h) (Nat.le_refl _) (by rw [zbl]; exact hs)
end Go.Proofs.YtipbfgknaihifaaGreat
namespace Go.Proofs.YtipbfgknaihifaaGreat
open Go.RowKit
theorem zlA {l : LB} {x t : l.d.T} (h : l.b x = .brk t) : l.run x = .brk t := by
 rw [LB.run_eq (n := 1) (by simp only [whl, h]; rfl)]
 simp only [whl, h]
theorem zUj {α R R' X : Type} {f : Nat → α → Option R} {g : Nat → α → Option R'} (F : R → X) (G : R' → X) (d : X) : ∀ (L : List α) (k : Nat), (∀ i x, L[i]? = some x → (f (k + i) x).map F = (g (k + i) x).map G) → zCh (yt f k L) F d = zCh (yt g k L) G d
 | [], _, _ => rfl
 | x :: L, k, h => by
  have h0 := h 0 x rfl
  rw [Nat.add_zero] at h0
  simp only [yt]
  cases e1 : f k x <;> cases e2 : g k x <;> rw [e1, e2] at h0 <;> simp at h0
  ·exact zUj F G d L (k + 1) fun i y hy => by
    have := h (i + 1) y (by simpa using hy)
    rwa [show k + (i + 1) = k + 1 + i by omega] at this
  ·exact h0
theorem zk0 {b : El zO} (h : (vC b).1 = true) {i : Int} (hi : 0 ≤ i ∧ i < (b.2.1.length : Int)) : (zA3 b i).2.1 = (vF b i).1 := by
 have := zVC b i
 simp only [vv, zHR, zJx, zJl, zi, zQ, zR] at this
 rw [zVZ, h, decide_eq_false (by omega), decide_eq_false (by omega)] at this
 simp only [Bool.not_true, cond_false, cond_true, Prod.mk.injEq, and_true] at this
 exact this
theorem zRJ (b : El zO) : zFs b = vK b := by
 simp only [zFs, zGI, vK, zF0, zi, zQ, zR, zx]
 rw [zVZ]
 cases h : (vC b).1 with
 | false =>
  have : LB.run xD (b, (), (b.2.1.length : Int), (0 : Int), ()) = .brk (b, (), (b.2.1.length : Int), (0 : Int), ()) := by
   refine zlA (l := xD) ?_
   simp only [LB.b, xD, zi, zQ, zR, h]
   cases decide ((0 : Int) < (b.2.1.length : Int)) <;> rfl
  rw [this]; rfl
 | true =>
  have hr := zOw h
  have e : LB.run xD (b, (), (b.2.1.length : Int), (0 : Int), ()) = zCY (yt (fun i _ => bif (vF b (Int.tmod (b.2.2.2 + (i : Int)) (b.2.1.length : Int))).1 then some ((Int.tmod (b.2.2.2 + (i : Int)) (b.2.1.length : Int)), ()) else none) 0 b.2.1) (b, (), (b.2.1.length : Int), (b.2.1.length : Int), ()) := by
   refine LB.run_scan (l := xD) (fun i => (b, (), (b.2.1.length : Int), (i : Int), ())) (fun i x hx => ?_) ?_
   ·simp only [LB.b, xD, zi, zQ, zR, h, yM hx, cond_true]
    cases (vF b (Int.tmod (b.2.2.2 + (i : Int)) (b.2.1.length : Int))).1 <;> rfl
   ·simp only [LB.b, xD, zi, zQ, zR, xl]; rfl
  rw [e, xI]
  simp only [Bool.not_true, cond_false]
  rw [zN5]
  have opt : ∀ {R X Y : Type} (o : Option R) (F : R → X) (d : X) (q : X → Y), q (zCh o F d) = zCh o (fun r => q (F r)) (q d) := fun o F d q => by cases o <;> rfl
  refine (opt _ _ _ (fun z : Int × El zA × Bool × El zO × Unit => (z.1, ()))).trans ?_
  refine zUj _ _ _ _ _ fun i x hx => ?_
  have hi := (List.getElem?_eq_some_iff.1 hx).1
  have hm := mdB (a := b.2.2.2 + (i : Int)) (n := (b.2.1.length : Int)) (by omega) (by omega)
  simp only [Nat.zero_add]
  rw [zk0 h hm]
  cases (vF b (Int.tmod (b.2.2.2 + (i : Int)) (b.2.1.length : Int))).1 <;> rfl
theorem zU0 {α : Type} {f : Nat → α → Option (Int × Unit)} : ∀ (L : List α) (k : Nat), (∀ i x r, L[i]? = some x → f (k + i) x = some r → 0 ≤ r.1) → ((zCh (yt f k L) (fun r => r.1) (-1 : Int) < 0) ↔ ∀ i x, L[i]? = some x → f (k + i) x = none)
 | [], _, _ => by simp [yt, zCh]
 | x :: L, k, h => by
  have ih := zU0 (f := f) L (k + 1) fun i y r hy hf => h (i + 1) y r (by simpa using hy) (by rwa [show k + (i + 1) = k + 1 + i by omega])
  simp only [yt]
  cases e : f k x with
  | some r =>
   have := h 0 x r rfl e
   constructor
   ·intro h1
    have h1 : r.1 < 0 := h1
    omega
   ·intro h1
    have := h1 0 x rfl
    rw [Nat.add_zero, e] at this; cases this
  | none =>
   rw [ih]
   constructor
   ·intro h1 i y hy
    cases i with
    | zero => simp at hy; subst hy; exact e
    | succ i => rw [show k + (i + 1) = k + 1 + i by omega]; exact h1 i y (by simpa using hy)
   ·intro h1 i y hy
    rw [show k + 1 + i = k + (i + 1) by omega]; exact h1 (i + 1) y (by simpa using hy)
theorem ziB {r n k : Int} (hr : 0 ≤ r) (hr2 : r ≤ n) (hk : 0 ≤ k) (hk2 : k < n) : ∃ i : Nat, (i : Int) < n ∧ Int.tmod (r + i) n = k := by
 by_cases h : r ≤ k
 ·exact ⟨(k - r).toNat, by omega, by rw [show r + ((k - r).toNat : Int) = k by omega]; exact Int.tmod_eq_of_lt hk hk2⟩
 ·refine ⟨(k + n - r).toNat, by omega, ?_⟩
  rw [show r + ((k + n - r).toNat : Int) = k + n by omega, Int.tmod_eq_emod_of_nonneg (by omega), Int.add_emod_right, Int.emod_eq_of_lt hk hk2]
theorem zmy {b : El zO} (h : (vC b).1 = true) : (vK b).1 = zCh (yt (fun i (_ : El ze) => bif (vF b (Int.tmod (b.2.2.2 + (i : Int)) (b.2.1.length : Int))).1 then some ((Int.tmod (b.2.2.2 + (i : Int)) (b.2.1.length : Int)), ()) else none) 0 b.2.1) (fun r => r.1) (-1) := by
 simp only [vK, zF0, zQ, zR, zx]
 have e : LB.run xD (b, (), (b.2.1.length : Int), (0 : Int), ()) = zCY (yt (fun i _ => bif (vF b (Int.tmod (b.2.2.2 + (i : Int)) (b.2.1.length : Int))).1 then some ((Int.tmod (b.2.2.2 + (i : Int)) (b.2.1.length : Int)), ()) else none) 0 b.2.1) (b, (), (b.2.1.length : Int), (b.2.1.length : Int), ()) := by
  refine LB.run_scan (l := xD) (fun i => (b, (), (b.2.1.length : Int), (i : Int), ())) (fun i x hx => ?_) ?_
  ·simp only [LB.b, xD, zi, zQ, zR, h, yM hx, cond_true]
   cases (vF b (Int.tmod (b.2.2.2 + (i : Int)) (b.2.1.length : Int))).1 <;> rfl
  ·simp only [LB.b, xD, zi, zQ, zR, xl]; rfl
 rw [e, xI]
 generalize yt _ 0 b.2.1 = o
 cases o <;> rfl
theorem zmB (b : El zO) : zN4 b = zP6 b := by
 rw [zk3]
 show _ = (decide ((vK b).1 < 0), ())
 have hs : ∀ i, (vv b i).1 = bif (vC b).1 then (vF b i).1 else false := fun i => by
  rw [zVC]; simp only [zJx, zJl, zi, zQ, zR]
  cases (vC b).1 <;> rfl
 cases h : (vC b).1 with
 | false =>
  have h1 : zd (fun i (_ : El ze) => bif (vv b (i : Int)).1 then false else true) 0 b.2.1 = true := by
   rw [zr]; intro i x _; rw [hs, h]; rfl
  have h2 : (vK b).1 = -1 := by
   rw [← zRJ]
   simp only [zFs, zGI, zi, zQ, zR]
   rw [zVZ, h]; rfl
  rw [h1, h2]; rfl
 | true =>
  have hr := zOw h
  have key : ((vK b).1 < 0) ↔ ∀ k : Int, 0 ≤ k → k < (b.2.1.length : Int) → (vF b k).1 = false := by
   rw [zmy h, zU0]
   ·constructor
    ·intro h1 k hk hk2
     obtain ⟨i, hi, e⟩ := ziB hr.1 hr.2.1 hk hk2
     have := h1 i _ (List.getElem?_eq_getElem (by omega))
     rw [Nat.zero_add, e] at this
     cases hc : (vF b k).1 with
     | false => rfl
     | true => rw [hc] at this; cases this
    ·intro h1 i x hx
     have hi := (List.getElem?_eq_some_iff.1 hx).1
     have hm := mdB (a := b.2.2.2 + (i : Int)) (n := (b.2.1.length : Int)) (by omega) (by omega)
     rw [Nat.zero_add, h1 _ hm.1 hm.2]; rfl
   ·intro i x r hx hf
    have hi := (List.getElem?_eq_some_iff.1 hx).1
    have hm := mdB (a := b.2.2.2 + (i : Int)) (n := (b.2.1.length : Int)) (by omega) (by omega)
    rw [Nat.zero_add] at hf
    revert hf
    cases (vF b (Int.tmod (b.2.2.2 + (i : Int)) (b.2.1.length : Int))).1 with
    | false => intro hf; cases hf
    | true => intro hf; cases hf; exact hm.1
  by_cases hn : (vK b).1 < 0
  ·have h1 : zd (fun i (_ : El ze) => bif (vv b (i : Int)).1 then false else true) 0 b.2.1 = true := by
    rw [zr]; intro i x hx
    have hi := (List.getElem?_eq_some_iff.1 hx).1
    rw [Nat.zero_add, hs, h, cond_true, key.1 hn _ (by omega) (by omega)]; rfl
   rw [h1, decide_eq_true hn]; rfl
  ·have h1 : zd (fun i (_ : El ze) => bif (vv b (i : Int)).1 then false else true) 0 b.2.1 = false := by
    rw [Bool.eq_false_iff, ne_eq, zr]
    intro h2
    refine hn (key.2 fun k hk hk2 => ?_)
    have := h2 k.toNat _ (List.getElem?_eq_getElem (by omega))
    rw [Nat.zero_add, hs, h, cond_true, show ((k.toNat : Nat) : Int) = k by omega] at this
    cases hc : (vF b k).1 with
    | false => rfl
    | true => rw [hc] at this; cases this
   rw [h1, decide_eq_false hn]; rfl
end Go.Proofs.YtipbfgknaihifaaGreat
namespace Go.Proofs.YtipbfgknaihifaaGreat
open Go.RowKit
open Cel (rd own rd_len rd_one own_rd own_lt rd_below rd_mono own_keep)
theorem zZa {x : El zO} {w : World} {v : Value} (h : Rv w (zON x) v) (hp : szE zO x ≤ 1048576) : Calls Tryz.prog 13 #[v] w (zCV (vK x).1 w) := by
 refine (zME (d := zKm) zPF.ok (a := (x, ())) rfl (szb hp) (xs := [v]) rfl (zhA h)).mono ?_
 rintro e w' ⟨y, ρ', Z', rfl, hb, -, hy⟩
 exact ⟨congrArg _ (vG hy), hb⟩
theorem zYI {x : El zO} {w : World} {v : Value} (h : Rv w (zON x) v) (hp : szE zO x ≤ 1048576) : Calls Tryz.prog 14 #[v] w (zCV (zFs x).1 w) := by
 refine (zME (d := zKf) zYC.ok (a := (x, ())) rfl (szb hp) (xs := [v]) rfl (zhA h)).mono ?_
 rintro e w' ⟨y, ρ', Z', rfl, hb, -, hy⟩
 exact ⟨congrArg _ (vG hy), hb⟩
set_option maxHeartbeats 1000000 in
set_option maxRecDepth 20000 in
theorem zM1 (b : BookD) (v0 v1 : Value) (w : World) (s0 : Sl w b.Defs v0) (s1 : Sl w b.Works v1) (hx : zWp b) (hr : rd w.heap.size w [v0, v1, .int .i64 b.Now, .int .i64 b.Ring] b) :
  Calls Tryz.prog 5 #[.agg #[v0, v1, .int .i64 b.Now, .int .i64 b.Ring]] w (zcr true w) := by
 obtain ⟨a0, c0, rfl, hl0, -⟩ := s0.open
 obtain ⟨a1, c1, rfl, hl1, -⟩ := s1.open
 go_enter Tryz.func5, Tryz.ntmps5
 go_wp2_with fail
 refine (zYH b _ _ 1048576 _ hx (s0.to (by simp)) (s1.to (by simp)) (by omega) (by omega)).mono ?_
 rintro e w1 ⟨rfl, hb1⟩
 have B1 := via (w0 := w) (by simp) hb1
 have X1 : Bx w1 w.heap.size [.slice a0 b.Defs.length c0, .slice a1 b.Works.length c1, .int .i64 b.Now, .int .i64 b.Ring] := Bx.via (by simp) hb1
 by_cases hs : ((zGc b : Nat) : Int) ≤ 1048576
 rotate_left
 ·rw [yG hs]
  go_wp2
  go_ret
  exact ⟨rfl, B1⟩
 rw [yF hs]
 have hs2 : zGc b ≤ 1048576 := by omega
 have hv := zdU hr hs2
 have hz : szE zO (Br.f b) ≤ 1048576 := by rw [zbl]; exact hs2
 generalize (Br.f b : El zO) = x at *
 have k0 := X1.c 0 _ rfl
 have k1 := X1.c 1 _ rfl
 have k2 := X1.c 2 _ rfl
 have k3 := X1.c 3 _ rfl
 go_wp2_with fail
 refine (zIj (hv.to B1)).mono ?_
 rintro e w2 ⟨A0, C0, A1, C1, rfl, o0, hb2⟩
 have B2 := via B1 hb2
 have X2 := X1.via hb2
 clear k0 k1 k2 k3 X1 B1 hb1
 go_wp2_with fail
 refine (zZa o0 hz).mono ?_
 rintro e w3 ⟨rfl, hb3⟩
 have B3 := via B2 hb3
 have X3 := X2.via hb3
 clear X2 B2 hb2 o0
 have k0 := X3.c 0 _ rfl
 have k1 := X3.c 1 _ rfl
 have k2 := X3.c 2 _ rfl
 have k3 := X3.c 3 _ rfl
 go_wp2_with fail
 refine (zIj (hv.to B3)).mono ?_
 rintro e w4 ⟨D0, E0, D1, E1, rfl, r0, hb4⟩
 have B4 := via B3 hb4
 have X4 := X3.via hb4
 clear k0 k1 k2 k3 X3 B3 hb3
 have Y4 : Bx (w4.alloc (.cells #[.slice D0 x.1.length E0, .slice D1 x.2.1.length E1, .int .i64 x.2.2.1, .int .i64 x.2.2.2] 31)) w4.heap.size [.slice D0 x.1.length E0, .slice D1 x.2.1.length E1, .int .i64 x.2.2.1, .int .i64 x.2.2.2] := zhn _ _ _ rfl
 have X4' := zYx X4 (.cells #[.slice D0 x.1.length E0, .slice D1 x.2.1.length E1, .int .i64 x.2.2.1, .int .i64 x.2.2.2] 31)
 go_wp2_with fail
 refine (zYI (r0.to ?hb9) hz).mono ?_
 case hb9 => simp
 rintro e w5 ⟨rfl, hb5⟩
 have B5 := via (w0 := w) (by simp [B4]) hb5
 have X5 := X4'.via hb5
 have Y5 := Y4.via hb5
 replace r0 := (r0.to (by simp)).to hb5
 clear X4 X4' Y4 hb4 hb5 B4
 generalize w4.heap.size = g at *
 rw [zRJ]
 generalize (vK x).1 = N at *
 have x0 := X5.c 0 _ rfl
 have x1 := X5.c 1 _ rfl
 have x2 := X5.c 2 _ rfl
 have x3 := X5.c 3 _ rfl
 have y0 := Y5.c 0 _ rfl
 have y1 := Y5.c 1 _ rfl
 have y2 := Y5.c 2 _ rfl
 have y3 := Y5.c 3 _ rfl
 go_wp2
 refine wp_region_noPanic ?_
 refine wp_region_held_drew (S := (fun w' => w'.cell? ⟨w.heap.size, 0, none⟩ = some (.slice a0 b.Defs.length c0) ∧ w'.cell? ⟨w.heap.size, 1, none⟩ = some (.slice a1 b.Works.length c1) ∧ w'.cell? ⟨w.heap.size, 2, none⟩ = some (.int .i64 b.Now) ∧ w'.cell? ⟨w.heap.size, 3, none⟩ = some (.int .i64 b.Ring) ∧ w'.cell? ⟨g, 0, none⟩ = some (.slice D0 x.1.length E0) ∧ w'.cell? ⟨g, 1, none⟩ = some (.slice D1 x.2.1.length E1) ∧ w'.cell? ⟨g, 2, none⟩ = some (.int .i64 x.2.2.1) ∧ w'.cell? ⟨g, 3, none⟩ = some (.int .i64 x.2.2.2))) (by kernel_rfl) ?_ (fun hHeld0 => ?_)
 ·go_keep
 refine' wpAnyH_take (i := 0) (oi := _) (v := _) ?hi201_0 (by kernel_rfl) (by kernel_rfl) (by kernel_rfl) (fun _ _ _ h => (h : False).elim) ?hy201_0 (by assumption) ?rest201_0
 case hi201_0 => simp only [List.getElem?_toArray, List.getElem?_cons_zero]; exact rfl
 case hy201_0 =>
  refine Or.inl ⟨by rfl, ?_⟩
  intro w hSw
  (try dsimp only at hSw)
  go_simp
  (try with_reducible rfl)
 simp only [Act.put, List.setIfInBounds_toArray, List.set_cons_zero, List.set_cons_succ]
 refine' wpAnyH_take (i := 1) (oi := _) (v := _) ?hi201_1 (by kernel_rfl) (by kernel_rfl) (by kernel_rfl) (fun _ _ _ h => (h : False).elim) ?hy201_1 (by assumption) ?rest201_1
 case hi201_1 => simp only [List.getElem?_toArray, List.getElem?_cons_succ, List.getElem?_cons_zero]; exact rfl
 case hy201_1 =>
  refine Or.inl ⟨by rfl, ?_⟩
  intro w hSw
  (try dsimp only at hSw)
  go_simp
  (try with_reducible rfl)
 simp only [Act.put, List.setIfInBounds_toArray, List.set_cons_zero, List.set_cons_succ]
 refine wpAnyH_ready (rs := [2]) (by kernel_rfl) (by simp) ?_
 refine' AllReadyH.cons (o := _) ?hi201_2 (fun K hK => ?_) AllReadyH.nil
 case hi201_2 => simp only [List.getElem?_toArray, List.getElem?_cons_succ, List.getElem?_cons_zero]; exact rfl
 go_simp
 go_at_call 8
 refine (zIj (hv.to (by simp [B5]))).mono ?_
 rintro e w6 ⟨F0, G0, F1, G1, rfl, q0, hb6⟩
 have B6 := via (w0 := w) (by simp [B5]) hb6
 have U6 : Below w5.heap.size w5 w6 := via (by simp) hb6
 have X6 := X5.via U6
 have Y6 := Y5.via U6
 have m0 := X6.c 0 _ rfl
 have m1 := X6.c 1 _ rfl
 have m2 := X6.c 2 _ rfl
 have m3 := X6.c 3 _ rfl
 have n0 := Y6.c 0 _ rfl
 have n1 := Y6.c 1 _ rfl
 have n2 := Y6.c 2 _ rfl
 have n3 := Y6.c 3 _ rfl
 go_wp2_with fail
 refine hK.out _ _ ?_ (fun hHeld2 => ?_)
 ·go_keep
 clear hK K hHeld0
 refine wpAnyH_ready (rs := [3]) (by kernel_rfl) (by simp) ?_
 refine' AllReadyH.cons (o := _) ?hi201_3 (fun K hK => ?_) AllReadyH.nil
 case hi201_3 => simp only [List.getElem?_toArray, List.getElem?_cons_succ, List.getElem?_cons_zero]; exact rfl
 go_simp
 go_at_call 10
 refine (zZr ((r0.to U6).to ?hb7) (q0.to ?hb8)).mono ?_
 case hb7 => simp
 case hb8 => simp
 rintro e w7 ⟨rfl, hb7⟩
 have B7 := via (w0 := w) (by simp [B6]) hb7
 have U7 : Below w6.heap.size w6 w7 := via (by simp) hb7
 have X7 := X6.via U7
 have Y7 := Y6.via U7
 have o0 := X7.c 0 _ rfl
 have o1 := X7.c 1 _ rfl
 have o2 := X7.c 2 _ rfl
 have o3 := X7.c 3 _ rfl
 have p0 := Y7.c 0 _ rfl
 have p1 := Y7.c 1 _ rfl
 have p2 := Y7.c 2 _ rfl
 have p3 := Y7.c 3 _ rfl
 go_wp2_with fail
 refine hK.out _ _ ?_ (fun hHeld3 => ?_)
 ·go_keep
 clear hK K hHeld2
 refine' wpAnyH_take (i := 4) (oi := _) (v := _) ?hi201_4 (by kernel_rfl) (by kernel_rfl) (by kernel_rfl) (fun _ _ _ h => (h : False).elim) ?hy201_4 (by assumption) ?rest201_4
 case hi201_4 => simp only [List.getElem?_toArray, List.getElem?_cons_succ, List.getElem?_cons_zero]; exact rfl
 case hy201_4 =>
  refine Or.inl ⟨by rfl, ?_⟩
  intro w hSw
  (try dsimp only at hSw)
  go_simp
  (try with_reducible rfl)
 simp only [Act.put, List.setIfInBounds_toArray, List.set_cons_zero, List.set_cons_succ]
 refine wpAnyH_done (by kernel_rfl) ?_ _
 clear hHeld3
 refine NoPanic.normal ?_
 go_wp2
 go_ret
 exact ⟨rfl, B7⟩
theorem zNz (vs : List Value) (b : BookD) (w : World) (hr : rd w.heap.size w vs b) :
  Calls Tryz.prog 5 #[.agg vs.toArray] w (zcr true w) := by
 obtain ⟨v0, v1, rfl, hx, s0, s1⟩ := zds hr
 exact zM1 b v0 v1 w s0 s1 hx hr
end Go.Proofs.YtipbfgknaihifaaGreat
namespace Go.Proofs.YtipbfgknaihifaaGreat
open Go.RowKit
open Cel (rd own rd_len rd_one own_rd own_lt rd_below rd_mono own_keep)
theorem zlH {x : El zO} {w : World} {v : Value} (h : Rv w (zON x) v) (hp : szE zO x ≤ 1048576) : Calls Tryz.prog 11 #[v] w (zcr (zP6 x).1 w) := by
 refine (zME (d := zXN) zkn.ok (a := (x, ())) rfl (szb hp) (xs := [v]) rfl (zhA h)).mono ?_
 rintro e w' ⟨y, ρ', Z', rfl, hb, -, hy⟩
 exact ⟨congrArg _ (vG hy), hb⟩
theorem zk8 {x : El zO} {w : World} {v : Value} (h : Rv w (zON x) v) (hp : szE zO x ≤ 1048576) : Calls Tryz.prog 12 #[v] w (zcr (zN4 x).1 w) := by
 refine (zME (d := zWx) zls.ok (a := (x, ())) rfl (szb hp) (xs := [v]) rfl (zhA h)).mono ?_
 rintro e w' ⟨y, ρ', Z', rfl, hb, -, hy⟩
 exact ⟨congrArg _ (vG hy), hb⟩
set_option maxHeartbeats 1000000 in
set_option maxRecDepth 20000 in
theorem zRt (b : BookD) (v0 v1 : Value) (w : World) (s0 : Sl w b.Defs v0) (s1 : Sl w b.Works v1) (hx : zWp b) (hr : rd w.heap.size w [v0, v1, .int .i64 b.Now, .int .i64 b.Ring] b) :
  Calls Tryz.prog 4 #[.agg #[v0, v1, .int .i64 b.Now, .int .i64 b.Ring]] w (zcr true w) := by
 obtain ⟨a0, c0, rfl, hl0, -⟩ := s0.open
 obtain ⟨a1, c1, rfl, hl1, -⟩ := s1.open
 go_enter Tryz.func4, Tryz.ntmps4
 go_wp2_with fail
 refine (zYH b _ _ 1048576 _ hx (s0.to (by simp)) (s1.to (by simp)) (by omega) (by omega)).mono ?_
 rintro e w1 ⟨rfl, hb1⟩
 have B1 := via (w0 := w) (by simp) hb1
 have X1 : Bx w1 w.heap.size [.slice a0 b.Defs.length c0, .slice a1 b.Works.length c1, .int .i64 b.Now, .int .i64 b.Ring] := Bx.via (by simp) hb1
 by_cases hs : ((zGc b : Nat) : Int) ≤ 1048576
 rotate_left
 ·rw [yG hs]
  go_wp2
  go_ret
  exact ⟨rfl, B1⟩
 rw [yF hs]
 have hs2 : zGc b ≤ 1048576 := by omega
 have hv := zdU hr hs2
 have hz : szE zO (Br.f b) ≤ 1048576 := by rw [zbl]; exact hs2
 generalize (Br.f b : El zO) = x at *
 have k0 := X1.c 0 _ rfl
 have k1 := X1.c 1 _ rfl
 have k2 := X1.c 2 _ rfl
 have k3 := X1.c 3 _ rfl
 go_wp2_with fail
 refine (zIj (hv.to B1)).mono ?_
 rintro e w2 ⟨A0, C0, A1, C1, rfl, o0, hb2⟩
 have B2 := via B1 hb2
 have X2 := X1.via hb2
 clear k0 k1 k2 k3 X1 B1 hb1
 go_wp2_with fail
 refine (zlH o0 hz).mono ?_
 rintro e w3 ⟨rfl, hb3⟩
 have B3 := via B2 hb3
 have X3 := X2.via hb3
 clear X2 B2 hb2 o0
 have k0 := X3.c 0 _ rfl
 have k1 := X3.c 1 _ rfl
 have k2 := X3.c 2 _ rfl
 have k3 := X3.c 3 _ rfl
 go_wp2_with fail
 refine (zIj (hv.to B3)).mono ?_
 rintro e w4 ⟨D0, E0, D1, E1, rfl, r0, hb4⟩
 have B4 := via B3 hb4
 have X4 := X3.via hb4
 clear k0 k1 k2 k3 X3 B3 hb3
 have Y4 : Bx (w4.alloc (.cells #[.slice D0 x.1.length E0, .slice D1 x.2.1.length E1, .int .i64 x.2.2.1, .int .i64 x.2.2.2] 31)) w4.heap.size [.slice D0 x.1.length E0, .slice D1 x.2.1.length E1, .int .i64 x.2.2.1, .int .i64 x.2.2.2] := zhn _ _ _ rfl
 have X4' := zYx X4 (.cells #[.slice D0 x.1.length E0, .slice D1 x.2.1.length E1, .int .i64 x.2.2.1, .int .i64 x.2.2.2] 31)
 go_wp2_with fail
 refine (zk8 (r0.to ?hb9) hz).mono ?_
 case hb9 => simp
 rintro e w5 ⟨rfl, hb5⟩
 have B5 := via (w0 := w) (by simp [B4]) hb5
 have X5 := X4'.via hb5
 have Y5 := Y4.via hb5
 replace r0 := (r0.to (by simp)).to hb5
 clear X4 X4' Y4 hb4 hb5 B4
 generalize w4.heap.size = g at *
 rw [zmB]
 generalize (zP6 x).1 = N at *
 have x0 := X5.c 0 _ rfl
 have x1 := X5.c 1 _ rfl
 have x2 := X5.c 2 _ rfl
 have x3 := X5.c 3 _ rfl
 have y0 := Y5.c 0 _ rfl
 have y1 := Y5.c 1 _ rfl
 have y2 := Y5.c 2 _ rfl
 have y3 := Y5.c 3 _ rfl
 go_wp2
 refine wp_region_noPanic ?_
 refine wp_region_held_drew (S := (fun w' => w'.cell? ⟨w.heap.size, 0, none⟩ = some (.slice a0 b.Defs.length c0) ∧ w'.cell? ⟨w.heap.size, 1, none⟩ = some (.slice a1 b.Works.length c1) ∧ w'.cell? ⟨w.heap.size, 2, none⟩ = some (.int .i64 b.Now) ∧ w'.cell? ⟨w.heap.size, 3, none⟩ = some (.int .i64 b.Ring) ∧ w'.cell? ⟨g, 0, none⟩ = some (.slice D0 x.1.length E0) ∧ w'.cell? ⟨g, 1, none⟩ = some (.slice D1 x.2.1.length E1) ∧ w'.cell? ⟨g, 2, none⟩ = some (.int .i64 x.2.2.1) ∧ w'.cell? ⟨g, 3, none⟩ = some (.int .i64 x.2.2.2))) (by kernel_rfl) ?_ (fun hHeld0 => ?_)
 ·go_keep
 refine' wpAnyH_take (i := 0) (oi := _) (v := _) ?hi201_0 (by kernel_rfl) (by kernel_rfl) (by kernel_rfl) (fun _ _ _ h => (h : False).elim) ?hy201_0 (by assumption) ?rest201_0
 case hi201_0 => simp only [List.getElem?_toArray, List.getElem?_cons_zero]; exact rfl
 case hy201_0 =>
  refine Or.inl ⟨by rfl, ?_⟩
  intro w hSw
  (try dsimp only at hSw)
  go_simp
  (try with_reducible rfl)
 simp only [Act.put, List.setIfInBounds_toArray, List.set_cons_zero, List.set_cons_succ]
 refine' wpAnyH_take (i := 1) (oi := _) (v := _) ?hi201_1 (by kernel_rfl) (by kernel_rfl) (by kernel_rfl) (fun _ _ _ h => (h : False).elim) ?hy201_1 (by assumption) ?rest201_1
 case hi201_1 => simp only [List.getElem?_toArray, List.getElem?_cons_succ, List.getElem?_cons_zero]; exact rfl
 case hy201_1 =>
  refine Or.inl ⟨by rfl, ?_⟩
  intro w hSw
  (try dsimp only at hSw)
  go_simp
  (try with_reducible rfl)
 simp only [Act.put, List.setIfInBounds_toArray, List.set_cons_zero, List.set_cons_succ]
 refine wpAnyH_ready (rs := [2]) (by kernel_rfl) (by simp) ?_
 refine' AllReadyH.cons (o := _) ?hi201_2 (fun K hK => ?_) AllReadyH.nil
 case hi201_2 => simp only [List.getElem?_toArray, List.getElem?_cons_succ, List.getElem?_cons_zero]; exact rfl
 go_simp
 go_at_call 8
 refine (zIj (hv.to (by simp [B5]))).mono ?_
 rintro e w6 ⟨F0, G0, F1, G1, rfl, q0, hb6⟩
 have B6 := via (w0 := w) (by simp [B5]) hb6
 have U6 : Below w5.heap.size w5 w6 := via (by simp) hb6
 have X6 := X5.via U6
 have Y6 := Y5.via U6
 have m0 := X6.c 0 _ rfl
 have m1 := X6.c 1 _ rfl
 have m2 := X6.c 2 _ rfl
 have m3 := X6.c 3 _ rfl
 have n0 := Y6.c 0 _ rfl
 have n1 := Y6.c 1 _ rfl
 have n2 := Y6.c 2 _ rfl
 have n3 := Y6.c 3 _ rfl
 go_wp2_with fail
 refine hK.out _ _ ?_ (fun hHeld2 => ?_)
 ·go_keep
 clear hK K hHeld0
 refine wpAnyH_ready (rs := [3]) (by kernel_rfl) (by simp) ?_
 refine' AllReadyH.cons (o := _) ?hi201_3 (fun K hK => ?_) AllReadyH.nil
 case hi201_3 => simp only [List.getElem?_toArray, List.getElem?_cons_succ, List.getElem?_cons_zero]; exact rfl
 go_simp
 go_at_call 10
 refine (zZr ((r0.to U6).to ?hb7) (q0.to ?hb8)).mono ?_
 case hb7 => simp
 case hb8 => simp
 rintro e w7 ⟨rfl, hb7⟩
 have B7 := via (w0 := w) (by simp [B6]) hb7
 have U7 : Below w6.heap.size w6 w7 := via (by simp) hb7
 have X7 := X6.via U7
 have Y7 := Y6.via U7
 have o0 := X7.c 0 _ rfl
 have o1 := X7.c 1 _ rfl
 have o2 := X7.c 2 _ rfl
 have o3 := X7.c 3 _ rfl
 have p0 := Y7.c 0 _ rfl
 have p1 := Y7.c 1 _ rfl
 have p2 := Y7.c 2 _ rfl
 have p3 := Y7.c 3 _ rfl
 go_wp2_with fail
 refine hK.out _ _ ?_ (fun hHeld3 => ?_)
 ·go_keep
 clear hK K hHeld2
 refine' wpAnyH_take (i := 4) (oi := _) (v := _) ?hi201_4 (by kernel_rfl) (by kernel_rfl) (by kernel_rfl) (fun _ _ _ h => (h : False).elim) ?hy201_4 (by assumption) ?rest201_4
 case hi201_4 => simp only [List.getElem?_toArray, List.getElem?_cons_succ, List.getElem?_cons_zero]; exact rfl
 case hy201_4 =>
  refine Or.inl ⟨by rfl, ?_⟩
  intro w hSw
  (try dsimp only at hSw)
  go_simp
  (try with_reducible rfl)
 simp only [Act.put, List.setIfInBounds_toArray, List.set_cons_zero, List.set_cons_succ]
 refine wpAnyH_done (by kernel_rfl) ?_ _
 clear hHeld3
 refine NoPanic.normal ?_
 go_wp2
 go_ret
 exact ⟨rfl, B7⟩
theorem zTv (vs : List Value) (b : BookD) (w : World) (hr : rd w.heap.size w vs b) :
  Calls Tryz.prog 4 #[.agg vs.toArray] w (zcr true w) := by
 obtain ⟨v0, v1, rfl, hx, s0, s1⟩ := zds hr
 exact zRt b v0 v1 w s0 s1 hx hr
end Go.Proofs.YtipbfgknaihifaaGreat
