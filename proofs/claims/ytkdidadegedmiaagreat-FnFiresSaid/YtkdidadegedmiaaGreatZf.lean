/- Parts of a proof. -/
import Derived.Test.YtkdidadegedmiaaGreatZe
import Derived.WalkSmall
import Derived.ProofKit
import Derived.OpenShut
import Derived.Deep.Slices
import Derived.Test.YtkdidadegedmiaaGreatRows
namespace Go.Proofs.YtkdidadegedmiaaGreat
open Go.RowKit
set_option linter.defProp false
noncomputable section
abbrev zEl (a0 : El zN) (a1 : El zF) : Tr (El zA × Bool × Unit) := let k1 := (((0 : Int), (([] : Li .int), ([] : Li zH))), false, ()); cond (a1.2.2.2.2.2.1 != (1 : Int)) (.v k1) (.ck (zKi a0 a1) (cond (!(zBX a0 a1).1) (.v k1) (.ck (zRZ a0 a1.1) (let y1 := (zAP a0 (zRB a0 a1.1).1 a1.2.1); .v (y1.1, y1.2.1, ())))))
def yN a0 a1 := (zEl a0 a1).val
def zHo (a0 : El zN) (_a1 : El zF) : Prop := ∀ r ∈ a0.2, SzR r
abbrev zb1 := fq [va zN, va zF] [.val true (.pr (.d .int) (.pr (.o (.d .int)) (.o (.d zH)))), vd .bool] (U2 zHo) (U2 yN)
theorem znu : Ok zb1 (U2 zEl) := by
 rintro ⟨(a0 : El zN), (a1 : El zF), ⟨⟩⟩ hw hp
 replace hp : zHo a0 a1 := hp
 show (zEl a0 a1).ok
 unfold zHo at hp
 unfold zEl
 refine yK (fun _ => trivial) (fun h1 => ?_)
 replace h1 := zT9 h1
 refine zg ?_ ?_
 ·exact hp
 ·refine yK (fun _ => trivial) (fun h2 => ?_)
  have hI := (zAT h2)
  refine zg ?_ ?_
  ·exact zna hI
  ·simp
def zaz := cn mo [zqn, zey, zbg] [] 7 zb1 Tryz.f7 (U2 zEl) znu
theorem zm8 {d : El zN} {x : El zF} (h : (yN d x).2.1 = true) : (zBX d x).1 = true := by
 revert h
 simp only [yN, zEl, z0, ze, zY]
 cases (x.2.2.2.2.2.1 != (1 : Int)) with
 | true => intro h; cases h
 | false =>
  cases (zBX d x).1 with
  | true => intro _; rfl
  | false => intro h; cases h
abbrev zGT : LB := ⟨[1, 2], ⟨29, [.pr (.o (.d zD)) (.d .int), .pr (.o (.d zD)) (.d .int)], [(2, .pt 0 0), (3, .pt 1 0), (10, vd (.lst zD)), (11, vd .int), (12, vd .int)], []⟩, ⟨29, [], [], []⟩, 0, U7 fun (w0 w1 : El zE) _ _ (l10 : Li zD) (n11 n12 : Int) => cond (decide (n12 < n11)) (.ix n12 l10 (let k1 := zB zD l10 n12; let y1 := (yh k1.2); .ck (((w1.1.length + [(k1.1, y1.1)].length : Nat) : Int) ≤ 16777216) (.ik (n12 + 1) (.v (.go (w0, ((w1.1 ++ [(k1.1, y1.1)]), w1.2), (), (), l10, n11, (n12 + 1), ())))))) (.v (.brk (w0, w1, (), (), l10, n11, n12, ())))⟩
def zMs (w0 : El zE) (l10 : Li zD) (w1 : El zE) := rF (l := zGT) (L := l10) (fun i (s : (El zE)) => (w0, s, (), (), l10, (l10.length : Int), i, ())) (fun i x s => ((s.1 ++ [(x.1, (yh x.2).1)]), s.2)) w1
theorem zVN : SF zGT (U7 fun _ (w1 : El zE) _ _ (l10 : Li zD) (n11 n12 : Int) => (0 ≤ n12 ∧ n11 = (l10.length : Int) ∧ (w1.1.length : Int) ≤ n12, n11 - n12)) := sfA
abbrev zHb (a0 : El zE) : Tr (El zE × Unit) := .lp zGT ((([] : Li zD), (0 : Int)), (([] : Li zD), a0.2), (), (), a0.1, (a0.1.length : Int), (0 : Int), ()) (fun _ => .bad) (fun t1 => .v (t1.2.1, ()))
def zE5 a0 := (zHb a0).val
abbrev zQ9 := gd [va zE] [.val true (.pr (.o (.d zD)) (.d .int))] (U1 zE5)
theorem zeC : Ok zQ9 (U1 zHb) := zNF zVN zMs
def zdI := cn mo [zA8] [zGT] 86 zQ9 Tryz.f86 (U1 zHb) zeC
def zdO (a0 : El zE) := (by
 simp only [zE5, zHb, zY, zq, ze]
 rewrite [zMs, xL]
 dsimp only : zE5 a0 = _)
abbrev zD1 : LB := ⟨[], ⟨19, [], [(3, vo zA), (6, vd (.lst zA)), (7, vd .int), (8, vd .int)], []⟩, ⟨19, [], [], []⟩, 0, U4 fun (l3 l6 : Li zA) (n7 n8 : Int) => cond (decide (n8 < n7)) (.ix n8 l6 (let y1 := (zAx (zB zA l6 n8)); .ck (((l3.length + [y1.1].length : Nat) : Int) ≤ 16777216) (.ik (n8 + 1) (.v (.go ((l3 ++ [y1.1]), l6, n7, (n8 + 1), ())))))) (.v (.brk (l3, l6, n7, n8, ())))⟩
def zJj (l6 l3 : Li zA) := rF (l := zD1) (L := l6) (fun i (s : (Li zA)) => (s, l6, (l6.length : Int), i, ())) (fun i x s => (s ++ [(zAx x).1])) l3
theorem zSk : SF zD1 (U4 fun (l3 l6 : Li zA) (n7 n8 : Int) => (0 ≤ n8 ∧ n7 = (l6.length : Int) ∧ (l3.length : Int) ≤ n8, n7 - n8)) := sfA
abbrev zFC (a0 : Li zA) : Tr (Li zA × Unit) := .lp zD1 (([] : Li zA), a0, (a0.length : Int), (0 : Int), ()) (fun _ => .bad) (fun t1 => .v (t1.1, ()))
def zC4 a0 := (zFC a0).val
abbrev zNy := gd [vd (.lst zA)] [vo zA] (U1 zC4)
theorem zWo : Ok zNy (U1 zFC) := zNF zSk zJj
def zXv := cn mo [zLZ] [zD1] 87 zNy Tryz.f87 (U1 zFC) zWo
def zXo (a0 : Li zA) := (by
 simp only [zC4, zFC, zY, zq, ze]
 rewrite [zJj, xL]
 dsimp only : zC4 a0 = _)
abbrev zGD : LB := ⟨[], ⟨22, [], [(3, vo zC), (6, vd (.lst zC)), (7, vd .int), (8, vd .int)], []⟩, ⟨22, [], [], []⟩, 0, U4 fun (l3 l6 : Li zC) (n7 n8 : Int) => cond (decide (n8 < n7)) (.ix n8 l6 (let y1 := (yh (zB zC l6 n8).1); let k1 := (y1.1, (zB zC l6 n8).2); .ck (((l3.length + [k1].length : Nat) : Int) ≤ 16777216) (.ik (n8 + 1) (.v (.go ((l3 ++ [k1]), l6, n7, (n8 + 1), ())))))) (.v (.brk (l3, l6, n7, n8, ())))⟩
def zMz (l6 l3 : Li zC) := rF (l := zGD) (L := l6) (fun i (s : (Li zC)) => (s, l6, (l6.length : Int), i, ())) (fun i x s => (s ++ [((yh x.1).1, x.2)])) l3
theorem zVB : SF zGD (U4 fun (l3 l6 : Li zC) (n7 n8 : Int) => (0 ≤ n8 ∧ n7 = (l6.length : Int) ∧ (l3.length : Int) ≤ n8, n7 - n8)) := sfA
abbrev zHd (a0 : Li zC) : Tr (Li zC × Unit) := .lp zGD (([] : Li zC), a0, (a0.length : Int), (0 : Int), ()) (fun _ => .bad) (fun t1 => .v (t1.1, ()))
def xq a0 := (zHd a0).val
abbrev zRP := gd [vd (.lst zC)] [vo zC] (U1 xq)
theorem zdU : Ok zRP (U1 zHd) := zNF zVB zMz
def zL7 := cn mo [zA8] [zGD] 88 zRP Tryz.f88 (U1 zHd) zdU
def zSO (a0 : Li zC) := (by
 simp only [xq, zHd, zY, zq, ze]
 rewrite [zMz, xL]
 dsimp only : xq a0 = _)
theorem zSZ (l : List _) : ((xq l).1).length = l.length := by
 rw [zSO]; simp [vM]
abbrev zE1 : LB := ⟨[], ⟨23, [], [(3, vo zD), (6, vd (.lst zD)), (7, vd .int), (8, vd .int)], []⟩, ⟨23, [], [], []⟩, 0, U4 fun (l3 l6 : Li zD) (n7 n8 : Int) => cond (decide (n8 < n7)) (.ix n8 l6 (let y1 := (yh (zB zD l6 n8).2); let k1 := ((zB zD l6 n8).1, y1.1); .ck (((l3.length + [k1].length : Nat) : Int) ≤ 16777216) (.ik (n8 + 1) (.v (.go ((l3 ++ [k1]), l6, n7, (n8 + 1), ())))))) (.v (.brk (l3, l6, n7, n8, ())))⟩
def zKd (l6 l3 : Li zD) := rF (l := zE1) (L := l6) (fun i (s : (Li zD)) => (s, l6, (l6.length : Int), i, ())) (fun i x s => (s ++ [(x.1, (yh x.2).1)])) l3
theorem zTH : SF zE1 (U4 fun (l3 l6 : Li zD) (n7 n8 : Int) => (0 ≤ n8 ∧ n7 = (l6.length : Int) ∧ (l3.length : Int) ≤ n8, n7 - n8)) := sfA
abbrev zGH (a0 : Li zD) : Tr (Li zD × Unit) := .lp zE1 (([] : Li zD), a0, (a0.length : Int), (0 : Int), ()) (fun _ => .bad) (fun t1 => .v (t1.1, ()))
def xd a0 := (zGH a0).val
abbrev zPn := gd [vd (.lst zD)] [vo zD] (U1 xd)
theorem zaT : Ok zPn (U1 zGH) := zNF zTH zKd
def zP4 := cn mo [zA8] [zE1] 89 zPn Tryz.f89 (U1 zGH) zaT
def zQA (a0 : Li zD) := (by
 simp only [xd, zGH, zY, zq, ze]
 rewrite [zKd, xL]
 dsimp only : xd a0 = _)
theorem zaA (l : List _) : ((xd l).1).length = l.length := by
 rw [zQA]; simp [vM]
abbrev zGV : LB := ⟨[], ⟨23, [], [(3, vo zP), (6, vd (.lst zP)), (7, vd .int), (8, vd .int)], []⟩, ⟨23, [], [], []⟩, 0, U4 fun (l3 l6 : Li zP) (n7 n8 : Int) => cond (decide (n8 < n7)) (.ix n8 l6 (let y1 := (yh (zB zP l6 n8).2); let k1 := ((zB zP l6 n8).1, y1.1); .ck (((l3.length + [k1].length : Nat) : Int) ≤ 16777216) (.ik (n8 + 1) (.v (.go ((l3 ++ [k1]), l6, n7, (n8 + 1), ())))))) (.v (.brk (l3, l6, n7, n8, ())))⟩
def zMy (l6 l3 : Li zP) := rF (l := zGV) (L := l6) (fun i (s : (Li zP)) => (s, l6, (l6.length : Int), i, ())) (fun i x s => (s ++ [(x.1, (yh x.2).1)])) l3
theorem zVA : SF zGV (U4 fun (l3 l6 : Li zP) (n7 n8 : Int) => (0 ≤ n8 ∧ n7 = (l6.length : Int) ∧ (l3.length : Int) ≤ n8, n7 - n8)) := sfA
abbrev zHZ (a0 : Li zP) : Tr (Li zP × Unit) := .lp zGV (([] : Li zP), a0, (a0.length : Int), (0 : Int), ()) (fun _ => .bad) (fun t1 => .v (t1.1, ()))
def zE0 a0 := (zHZ a0).val
abbrev zRU := gd [vd (.lst zP)] [vo zP] (U1 zE0)
theorem zd1 : Ok zRU (U1 zHZ) := zNF zVA zMy
def zdT := cn mo [zA8] [zGV] 90 zRU Tryz.f90 (U1 zHZ) zd1
def zc7 (a0 : Li zP) := (by
 simp only [zE0, zHZ, zY, zq, ze]
 rewrite [zMy, xL]
 dsimp only : zE0 a0 = _)
def zEi (a0 : El zF) : El zF × Unit := (((zE5 a0.1).1, ((zC4 a0.2.1).1, ((xq a0.2.2.1).1, ((xd a0.2.2.2.1).1, ((zE0 a0.2.2.2.2.1).1, a0.2.2.2.2.2))))), ())
abbrev ze3 := gd [va zF] [.val true (.pr (.pr (.o (.d zD)) (.d .int)) (.pr (.o (.d zA)) (.pr (.o (.d zC)) (.pr (.o (.d zD)) (.pr (.o (.d zP)) (.d (.pr .int .int)))))))] (U1 zEi)
def zf8 := cv mo [zdI, zXv, zL7, zP4, zdT] 28 ze3 Tryz.f28
abbrev zGo (a0 : El zU) : Tr (Bool × Unit) := let k6 := ((a0.2.2.2.2.toList == (⟨#[]⟩ : ByteArray).toList), ()); let k9 := a0.2.2.2.1 == (0 : Int); let k4 : Tr _ := cond k9 (.v k6) (.v (false, ())); let k8 := a0.2.2.1 == (0 : Int); let k1 : Tr _ := cond k8 k4 (.v (false, ())); let k2 : Tr _ := cond (yS a0.2.1).1 (cond k8 (cond (z9 a0.2.2.2.1 0 100000).1 (.v k6) (.v (false, ()))) (.v (false, ()))) (.v (false, ())); let k3 : Tr _ := cond (yS a0.2.1).1 (cond k8 (cond k9 (.v ((zBQ a0.2.2.2.2).1, ())) (.v (false, ()))) (.v (false, ()))) (.v (false, ())); let k7 : Tr _ := cond (yS a0.2.1).1 k1 (.v (false, ())); cond (a0.2.1.1.toList == (⟨#[]⟩ : ByteArray).toList) (cond (a0.1 == (1 : Int)) k7 (let k5 := (a0.2.1.2.length : Int) == 0; cond (a0.1 == (2 : Int)) (cond k5 (cond (decide (a0.2.2.1 ≥ (1 : Int))) k4 (.v (false, ()))) (.v (false, ()))) (cond (a0.1 == (3 : Int)) k3 (cond (a0.1 == (4 : Int)) k2 (cond (a0.1 == (5 : Int)) (cond (a0.1 == (5 : Int)) (cond k5 k1 (.v (false, ()))) (.v (false, ()))) (cond (a0.1 == (6 : Int)) (cond k5 k1 (.v (false, ()))) (.v (false, ())))))))) (cond (a0.1 == (1 : Int)) k7 (cond (a0.1 == (2 : Int)) (.v (false, ())) (cond (a0.1 == (3 : Int)) k3 (cond (a0.1 == (4 : Int)) k2 (cond (a0.1 == (5 : Int)) (cond (a0.1 == (5 : Int)) (.v (false, ())) (.v (false, ()))) (cond (a0.1 == (6 : Int)) (.v (false, ())) (.v (false, ()))))))))
def x7 a0 := (zGo a0).val
abbrev zgV := fd [va zU] [vd .bool] (U1 x7)
def zfO := cn mo [zHm, zPK, zAB] [] 264 zgV Tryz.f264 (U1 zGo) (fun _ _ _ => by simp [zGo])
abbrev zMW (a0 a1 : El zL) : Tr (Bool × Unit) := cond (a0.1 == (1 : Int)) (cond (a1.1 == (1 : Int)) (cond (zBT a0).1 (.v ((zBT a1).1, ())) (.v (false, ()))) (.v (false, ()))) (.v (false, ()))
def zCx a0 a1 := (zMW a0 a1).val
abbrev zkP := fd [va zL, va zL] [vd .bool] (U2 zCx)
def zWD := cn mo [zN0] [] 387 zkP Tryz.f387 (U2 zMW) (fun _ _ _ => by simp [zMW])
abbrev zOk (a0 : Int) : Tr (El zL × Bool × Unit) := let k1 := ((1 : Int), (a0, (⟨#[]⟩ : ByteArray))); cond (!(zBT k1).1) (.v (((0 : Int), ((0 : Int), (⟨#[]⟩ : ByteArray))), false, ())) (.v (k1, true, ()))
def zHt a0 := (zOk a0).val
abbrev zoK := fd [vd .int] [va zL, vd .bool] (U1 zHt)
def zcK := cn mo [zN0] [] 388 zoK Tryz.f388 (U1 zOk) (fun _ _ _ => by simp [zOk])
abbrev zMN (a0 a1 : El zL) : Tr (El zL × Bool × Unit) := cond (!(zCx a0 a1).1) (.v (((0 : Int), ((0 : Int), (⟨#[]⟩ : ByteArray))), false, ())) (let y1 := (zHt (IntKind.wrap .i64 (a0.2.1 + a1.2.1))); .v (y1.1, y1.2.1, ()))
def zMb a0 a1 := (zMN a0 a1).val
abbrev zih := fd [va zL, va zL] [va zL, vd .bool] (U2 zMb)
def zkT : Gv := ⟨true, fun _ => none, false⟩
def zh9 := cn mo [zWD, zcK] [] 368 zih Tryz.f368 (U2 zMN) (fun _ _ _ => by simp [zMN]) (g := zkT)
abbrev zLB (a0 a1 : El zL) : Tr (El zL × Bool × Unit) := cond (!(zCx a0 a1).1) (.v (((0 : Int), ((0 : Int), (⟨#[]⟩ : ByteArray))), false, ())) (let y1 := (zHt (IntKind.wrap .i64 (a0.2.1 - a1.2.1))); .v (y1.1, y1.2.1, ()))
def zLj a0 a1 := (zLB a0 a1).val
abbrev zkm := fd [va zL, va zL] [va zL, vd .bool] (U2 zLj)
def zjz : Gv := ⟨true, fun _ => none, false⟩
def zis := cn mo [zWD, zcK] [] 369 zkm Tryz.f369 (U2 zLB) (fun _ _ _ => by simp [zLB]) (g := zjz)
abbrev zLF (a0 : El zo) (a1 : Li zH) : Tr (El zL × Bool × Unit) := let k2 := zFg a0.2.1 a1; cond (!k2.2.1) (.v (k2.1, k2.2.1, ())) (cond (a0.1.toList == (⟨#[]⟩ : ByteArray).toList) (.v (k2.1, k2.2.1, ())) (let k3 := (((0 : Int), ((0 : Int), (⟨#[]⟩ : ByteArray))), false, ()); let k4 := zFg a0.2.2 a1; let k1 : Tr _ := cond k4.2.1 (cond (a0.1.toList == (⟨#[45]⟩ : ByteArray).toList) (let y1 := (zLj k2.1 k4.1); .v (y1.1, y1.2.1, ())) (.v k3)) (.v k3); cond k4.2.1 (cond (a0.1.toList == (⟨#[43]⟩ : ByteArray).toList) (let y1 := (zMb k2.1 k4.1); .v (y1.1, y1.2.1, ())) k1) k1))
def zBD a0 a1 := (zLF a0 a1).val
abbrev ziT := fd [va zo, vd (.lst zH)] [va zL, vd .bool] (U2 zBD)
def zjR := cn mo [zcl, zh9, zis] [] 331 ziT Tryz.f331 (U2 zLF) (fun _ _ _ => by simp [zLF])
abbrev zBW : LB := ⟨[], ⟨31, [], [(1, vd (.lst zH)), (6, vo zL), (11, vd (.lst zo)), (12, vd .int), (13, vd .int)], []⟩, ⟨31, [], [(4, vo zL), (5, vd .bool)], []⟩, 0, U5 fun (l1 : Li zH) (l6 : Li zL) (l11 : Li zo) (n12 n13 : Int) => cond (decide (n13 < n12)) (.ix n13 l11 (let y1 := (zBD (zB zo l11 n13) l1); cond (!y1.2.1) (.v (.ret (([] : Li zL), false, ()))) (.ck (((l6.length + [y1.1].length : Nat) : Int) ≤ 16777216) (.ik (n13 + 1) (.v (.go (l1, (l6 ++ [y1.1]), l11, n12, (n13 + 1), ()))))))) (.v (.brk (l1, l6, l11, n12, n13, ())))⟩
theorem zTW : SF zBW (U5 fun _ (l6 : Li zL) (l11 : Li zo) (n12 n13 : Int) => (0 ≤ n13 ∧ n12 = (l11.length : Int) ∧ (l6.length : Int) ≤ n13, n12 - n13)) := sfA
abbrev zGO (a0 : Li zo) (a1 : Li zH) : Tr (Li zL × Bool × Unit) := .lp zBW (a1, ([] : Li zL), a0, (a0.length : Int), (0 : Int), ()) (fun r2 => .v (r2.1, r2.2.1, ())) (fun t1 => .v (t1.2.1, true, ()))
def zGM a0 a1 := (zGO a0 a1).val
abbrev zPo := fd [vd (.lst zo), vd (.lst zH)] [vo zL, vd .bool] (U2 zGM)
theorem zaV : Ok zPo (U2 zGO) := vN zTW
def zaB := cn mo [zjR] [zBW] 263 zPo Tryz.f263 (U2 zGO) zaV
abbrev zJV (a0 : El zp) (a1 : El zA) : Tr (El zU × Bool × Unit) := let k6 := ((⟨#[]⟩ : ByteArray), ([] : Li zL)); let k7 := ((0 : Int), (⟨#[]⟩ : ByteArray)); cond (a0.1 == (2 : Int)) (.ix a0.2.2.2.1 a1.2.1 (let k3 := (a0.1, (k6, ((zB .int a1.2.1 a0.2.2.2.1), k7))); .v (k3, (x7 k3).1, ()))) (let k1 := (k6, ((0 : Int), k7)); let k2 : Tr _ := (let y1 := (zGM a0.2.2.1 a1.2.2); cond (!y1.2.1) (.v (((0 : Int), k1), false, ())) (let k5 := (a0.1, ((a0.2.1, y1.1), ((0 : Int), a0.2.2.2))); .v (k5, (x7 k5).1, ()))); let k4 : Tr _ := .v ((a0.1, k1), (x7 (a0.1, k1)).1, ()); cond (a0.1 == (1 : Int)) (cond (a0.1 == (1 : Int)) k2 k4) (cond (a0.1 == (3 : Int)) (cond (a0.1 == (3 : Int)) k2 k4) (cond (a0.1 == (4 : Int)) k2 k4)))
def zAR a0 a1 := (zJV a0 a1).val
@[simp] def zUn (a0 : El zp) (a1 : El zA) : Prop := a0.1 = (2 : Int) → 0 ≤ a0.2.2.2.1 ∧ a0.2.2.2.1 < (a1.2.1.length : Int)
abbrev zUl := fq [va zp, va zA] [.val true (.pr (.d .int) (.pr (.pr (.d .str) (.o (.d zL))) (.d zL))), vd .bool] (U2 zUn) (U2 zAR)
theorem zfD : Ok zUl (U2 zJV) := okG trivial trivial trivial
def zgP := cn mo [zfO, zaB] [] 168 zUl Tryz.f168 (U2 zJV) zfD
abbrev zAV : LB := ⟨[1], ⟨54, [.d zA], [(3, .pt 0 0), (6, vo zU), (34, vd (.lst zp)), (35, vd .int), (36, vd .int)], []⟩, ⟨54, [], [(4, vo zU), (5, vd .bool)], []⟩, 0, U6 fun (w0 : El zA) _ (l6 : Li zU) (l34 : Li zp) (n35 n36 : Int) => cond (decide (n36 < n35)) (.ix n36 l34 (.ck (zUn (zB zp l34 n36) w0) (let y1 := (zAR (zB zp l34 n36) w0); cond (!y1.2.1) (.v (.ret (([] : Li zU), false, ()))) (.ck (((l6.length + [y1.1].length : Nat) : Int) ≤ 16777216) (.ik (n36 + 1) (.v (.go (w0, (), (l6 ++ [y1.1]), l34, n35, (n36 + 1), ())))))))) (.v (.brk (w0, (), l6, l34, n35, n36, ())))⟩
theorem zU1 : SF zAV (U6 fun (w0 : El zA) _ (l6 : Li zU) (l34 : Li zp) (n35 n36 : Int) => (0 ≤ n36 ∧ n35 = (l34.length : Int) ∧ (l6.length : Int) ≤ n36 ∧ (∀ x ∈ l34, x.1 = (2 : Int) → @LE.le Int _ 0 x.2.2.2.1 ∧ @LT.lt Int _ x.2.2.2.1 (w0.2.1.length : Int)), n35 - n36)) := by
 refine sfk fun x hI hw => ?_
 have hb := SD.Bd.of hw
 clear hw
 obtain ⟨w0, u, l6, l7, m, n8, ⟨⟩⟩ := x
 simp only [SD.Bd, BdB, BdR, AD.Bd, Bd, lim, U6] at hb hI ⊢
 replace hb : (l7.length : Int) ≤ 16777216 := by simp_all
 obtain ⟨h1, hm, h2, h3⟩ : 0 ≤ (n8 : Int) ∧ (m : Int) = (l7.length : Int) ∧ (l6.length : Int) ≤ (n8 : Int) ∧ _ := hI
 obtain rfl : m = (l7.length : Int) := hm
 revert h1 h2
 generalize hn : (n8 : Int) = n
 intro h1 h2
 refine ⟨by omega, ?_⟩
 refine xI (fun c => ?_) (fun _ => trivial)
 replace c : n < (l7.length : Int) := of_decide_eq_true c
 refine z7 ⟨h1, c⟩ (z7 (h3 _ (zV ⟨h1, c⟩)) (xI (fun _ => trivial) (fun _ => z7 ?_ (z7 ?_ ?_))))
 ·simp only [List.length_singleton]; exact (zHF c hb h2).1
 ·exact (zM0 h1 c hb).1
 ·show (_ ∧ _ ∧ _ ∧ _) ∧ _
  simp only [List.length_append, List.length_singleton]
  exact ⟨⟨(zM0 h1 c hb).2.1, trivial, (zHF c hb h2).2.1, h3⟩, (zM0 h1 c hb).2.2⟩
abbrev zDa (a0 : El zN) (a1 : El zA) : Tr (Li zU × Bool × Unit) := let k2 := (([] : Li zU), false, ()); cond (!(vf a0 a1).1) (.v k2) (.ix a1.1 a0.2 (let k1 := zB zG a0.2 a1.1; cond ((a1.2.1.length : Int) != (yF k1).1) (.v k2) (.ix a1.1 a0.2 (.lp zAV (a1, (), ([] : Li zU), k1.2.2.2.2, (k1.2.2.2.2.length : Int), (0 : Int), ()) (fun r4 => .v (r4.1, r4.2.1, ())) (fun t1 => .v (t1.2.2.1, true, ()))))))
def zHO a0 a1 := (zDa a0 a1).val
@[simp] def zRr (a0 : El zN) (_a1 : El zA) : Prop := (zCr a0).1 = true
abbrev zRl := gq [va zN, va zA] [vo zU, vd .bool] (U2 zRr) (U2 zHO)
theorem zdW : Ok zRl (U2 zDa) := fun a hw hp => by
 obtain ⟨(a0 : El zN), (a1 : El zA), ⟨⟩⟩ := a
 replace hp : (zCr a0).1 = true := hp
 show (zDa a0 a1).ok
 unfold zDa
 refine yK (fun _ => trivial) (fun h2 => ?_)
 have hr := zLp (zAT h2)
 refine zg hr (yK (fun _ => trivial) (fun h3 => zg hr (zg (zU1 _ ⟨Int.le_refl 0, rfl, Int.le_refl 0, ?_⟩) (okF.2 (xM (A := fun _ _ => True) (I := fun _ _ => True) (fun x _ => ?_) trivial (fun _ _ => trivial) (fun _ _ => trivial))))))
 ·have h4 : (a1.2.1.length : Int) = (yF (zB zG a0.2 a1.1)).1 := by simpa using h3
  intro x hx g
  have := zov hp hr.1 hr.2 x hx g
  rw [← h4] at this
  exact this
 ·exact LB.post (l := zAV) (fun _ => True) (fun x _ => by cases LB.b zAV x <;> trivial) trivial
def zdj := cn mo [zLA, zgP, zJw] [zAV] 91 zRl Tryz.f91 (U2 zDa) zdW
abbrev zEM : LB := ⟨[], ⟨23, [], [(3, vo zC), (8, vd .int), (9, vd .int)], []⟩, ⟨23, [], [], []⟩, 0, U3 fun (l3 : Li zC) (n8 n9 : Int) => cond (decide (n9 < n8)) (.ix n9 l3 (cond (zDN (zB zC l3 n9)).1 (.ix n9 l3 (.ik (n9 + 1) (.v (.go ((List.set l3 (Int.toNat n9) ((zB zC l3 n9).1, ((zB zC l3 n9).2.1, ((4 : Int), (zB zC l3 n9).2.2.2)))), n8, (n9 + 1), ()))))) (.ik (n9 + 1) (.v (.go (l3, n8, (n9 + 1), ())))))) (.v (.brk (l3, n8, n9, ())))⟩
theorem zd3 : PO zEM (fun _ _ => False) (U3 fun _ (n80 : Int) _ => U3 fun _ (n8 : Int) _ => n80 = n8) := poA
theorem zez : SF zEM (U3 fun (l3 : Li zC) (n8 n9 : Int) => (0 ≤ n9 ∧ n8 ≤ (l3.length : Int), n8 - n9)) := sfA
abbrev zPH (a0 : Li zC) : Tr (Li zC × Unit) := .lp zEM ((xq a0).1, ((xq a0).1.length : Int), (0 : Int), ()) (fun _ => .bad) (fun t1 => .v (t1.1, ()))
def zK1 a0 := (zPH a0).val
abbrev zbj := gd [vd (.lst zC)] [vo zC] (U1 zK1)
theorem zn2 : Ok zbj (U1 zPH) := okG (an zez (an zd3 trivial)) (an @zSZ trivial) trivial
def zbl := cn mo [zL7, za0] [zEM] 269 zbj Tryz.f269 (U1 zPH) zn2
def zG2 (a0 : El zF) (a1 : Int) : El zF × Unit := ((a0.1, (a0.2.1, ((zK1 a0.2.2.1).1, (([] : Li zD), (a0.2.2.2.2.1, (a1, a0.2.2.2.2.2.2)))))), ())
abbrev zUv := gd [zEu, vd .int] [zEu] (U2 zG2)
def zM6 := cv mo [zbl] 175 zUv Tryz.f175
abbrev zJQ (a0 : Li zP) : Tr (El zK × Bool × Unit) := let k2 := (a0.length : Int); cond (k2 == (0 : Int)) (.v (((⟨#[]⟩ : ByteArray), ([] : Li zL)), false, ())) (let k1 := k2 - (1 : Int); .ik k1 (.ix k1 a0 (.v ((yh (zB zP a0 k1).2).1, true, ()))))
def zGq a0 := (zJQ a0).val
abbrev zUc := gd [vd (.lst zP)] [va zK, vd .bool] (U1 zGq)
theorem zgy : Ok zUc (U1 zJQ) := okA
def zUJ := cn mo [zA8] [] 332 zUc Tryz.f332 (U1 zJQ) zgy
def yI (a0 : El zF) (a1 : Int) : El zF × Unit := ((a0.1, (a0.2.1, ((zK1 a0.2.2.1).1, (([] : Li zD), (a0.2.2.2.2.1, (a1, a0.2.2.2.2.2.2)))))), ())
abbrev zQH := gd [zAv, vd .int] [zAv] (U2 yI)
def zBs := cv mo [zbl] 175 zQH Tryz.f175
def v6 (a0 : El zC) (a1 : El zK) : Bool × Unit := ((xp a0.1 a1).1, ())
abbrev zRg := fd [va zC, .bx zK 0] [vd .bool] (U2 v6)
def zJN := cv mo [zJq] 334 zRg Tryz.f334
abbrev yP : LB := ⟨[], ⟨19, [], [(0, vd (.lst zC)), (1, .fn 334 [zK]), (7, vd .int), (8, vd .int)], []⟩, ⟨19, [], [(4, vd .int)], []⟩, 0, U4 fun (l0 : Li zC) (f1 : TyL [zK]) (n7 n8 : Int) => cond (decide (n8 < n7)) (.ix n8 l0 (cond (v6 (zB zC l0 n8) f1.1).1 (.v (.ret (n8, ()))) (.ik (n8 + 1) (.v (.go (l0, (f1.1, ()), n7, (n8 + 1), ())))))) (.v (.brk (l0, (f1.1, ()), n7, n8, ())))⟩
def zBc (l0 : Li zC) (f1 : TyL [zK]) := rS (l := yP) (L := l0) (fun i => (l0, f1, (l0.length : Int), i, ())) (fun i x => bif (v6 x f1.1).1 then (some ((i : Int), ())) else none)
theorem zBP : SF yP (U4 fun (l0 : Li zC) _ (n7 n8 : Int) => (0 ≤ n8 ∧ n7 = (l0.length : Int), n7 - n8)) := sfA
abbrev yT (a0 : Li zC) (a1 : TyL [zK]) : Tr (Int × Unit) := .lp yP (a0, (a1.1, ()), (a0.length : Int), (0 : Int), ()) (fun r2 => .v (r2.1, ())) (fun _ => .v ((-1 : Int), ()))
def zX a0 a1 := (yT a0 a1).val
abbrev vO := fd [vd (.lst zC), .fn 334 [zK]] [vd .int] (U2 zX)
theorem zCM : Ok vO (U2 yT) := vN zBP
def zCF := cn mo [zJN] [yP] 118 vO Tryz.f118 (U2 yT) zCM
def vT (a0 : Li zC) (a1 : TyL [zK]) := (by
 simp only [zX, yT, zY, zq, ze]
 rewrite [zBc, xH]
 dsimp only : zX a0 a1 = _)
theorem zCE (l : Li zC) (f) : -1 ≤ (zX l f).1 ∧ (zX l f).1 < (l.length : Int) := by
 rw [vT]; exact zsC _ _
abbrev zZ : LB := ⟨[], ⟨42, [], [(0, vo zC), (1, .fn 334 [zK]), (5, vd .int), (6, vd .int)], []⟩, ⟨42, [], [], []⟩, 0, U4 fun (l0 : Li zC) (f1 : TyL [zK]) (n5 n6 : Int) => cond (decide (n6 < (l0.length : Int))) (.ix n6 l0 (cond (!(v6 (zB zC l0 n6) f1.1).1) (.ix n5 l0 (.ik (n5 + 1) (.ik (n6 + 1) (.v (.go ((List.set l0 (Int.toNat n5) (zB zC l0 n6)), (f1.1, ()), (n5 + 1), (n6 + 1), ())))))) (.ik (n6 + 1) (.v (.go (l0, (f1.1, ()), n5, (n6 + 1), ())))))) (.v (.brk (l0, (f1.1, ()), n5, n6, ())))⟩
theorem zBv : PO zZ (fun _ _ => False) (U4 fun _ (f10 : TyL [zK]) _ _ => U4 fun (l0 : Li zC) (f1 : TyL [zK]) (n5 n6 : Int) => f1 = f10 ∧ (0 ≤ n5 ∧ n5 < n6 ∧ n6 ≤ (l0.length : Int))) := poG trivial trivial trivial
theorem zBt : SF zZ (U4 fun (l0 : Li zC) _ (n5 n6 : Int) => (0 ≤ n6 ∧ (0 ≤ n5 ∧ n5 < n6 ∧ n6 ≤ (l0.length : Int)), (l0.length : Int) - n6)) := sfG trivial trivial trivial
abbrev zw (a0 : Li zC) (a1 : TyL [zK]) : Tr (Li zC × Unit) := let y1 := (zX a0 (a1.1, ())); cond (y1.1 == (-1 : Int)) (.v (a0, ())) (.ik (y1.1 + (1 : Int)) (.lp zZ (a0, (a1.1, ()), y1.1, (y1.1 + (1 : Int)), ()) (fun _ => .bad) (fun t2 => let k2 := (t2.1.length : Int); .ck (0 ≤ t2.2.2.1 ∧ t2.2.2.1 ≤ k2 ∧ k2 ≤ k2 ∧ 0 < k2) (.ck (0 < k2) (let k1 := (t2.1.take t2.2.2.1.toNat ++ List.replicate (k2.toNat - t2.2.2.1.toNat) (((⟨#[]⟩ : ByteArray), ([] : Li zL)), ((⟨#[]⟩ : ByteArray), ((0 : Int), ((0 : Int), ((0 : Int), ((0 : Int), ((0 : Int), (⟨#[]⟩ : ByteArray))))))))) ++ t2.1.drop k2.toNat; .ck (0 ≤ t2.2.2.1 ∧ t2.2.2.1 ≤ (k1.length : Int)) (.v ((List.take t2.2.2.1.toNat k1), ())))))))
def yA a0 a1 := (zw a0 a1).val
abbrev vj := gd [vo zC, .fn 334 [zK]] [vo zC] (U2 yA)
theorem zCj : Ok vj (U2 zw) := fun a hw hp => by
 obtain ⟨(a0 : Li zC), (a1 : TyL [zK]), ⟨⟩⟩ := a
 have hb := BdA.of hw
 simp only [BdA, AD.Bd, Bd, lim] at hb
 have hl : (a0.length : Int) ≤ 16777216 := hb.1
 show (zw a0 a1).ok
 unfold zw
 dsimp only
 have hn := zCE a0 (a1.1, ())
 refine yK (fun _ => trivial) (fun h => ?_)
 have hc := zu3 hn.1 hn.2 hl (by simpa using h)
 refine zg hc.1 (zg (zBt _ hc.2) (okF.2 (xM zBv ⟨rfl, hc.2.2⟩ (fun r hr => hr.elim) (fun t ht => ?_))))
 obtain ⟨l, f, n5, n6, ⟨⟩⟩ := t
 obtain ⟨_, h5, h6, h7⟩ := ht
 have hA := zvK h5 h6 h7
 refine zg hA (zg hA.2.2.2 (zg ?_ trivial))
 simp only [List.length_append, List.length_take, List.length_drop, List.length_replicate]
 exact zvF hA.1 hA.2.1
def vi := cn mo [zCF, zJN] [zZ] 333 vj Tryz.f333 (U2 zw) zCj
abbrev zE9 (a0 : Li zC) (a1 : El zK) (a2 : ByteArray) (a3 : Int) : Tr (Li zC × Bool × Unit) := let k1 := ((xq a0).1, false, ()); cond (!(yc a0).1) (.v k1) (cond (!(yS a1).1) (.v k1) (cond (!(zBQ a2).1) (.v k1) (cond (!(zDO a3).1) (.v k1) (cond (decide ((zBN a0 a1).1 ≥ (0 : Int))) (.v ((xq a0).1, true, ())) (cond ((a0.length : Int) == 30) (.v k1) (let k2 := ((yh a1).1, (a2, ((1 : Int), ((0 : Int), (a3, ((0 : Int), ((0 : Int), (⟨#[]⟩ : ByteArray)))))))); .ck ((((xq a0).1.length + [k2].length : Nat) : Int) ≤ 16777216) (.v (((xq a0).1 ++ [k2]), true, ()))))))))
def xg a0 a1 a2 a3 := (zE9 a0 a1 a2 a3).val
abbrev zRF := gd [vd (.lst zC), va zK, vd .str, vd .int] [vo zC, vd .bool] (U4 xg)
theorem zeL : Ok zRF (U4 zE9) := okG trivial (an @zSZ (an @@zWO trivial)) trivial
def zHi := cn mo [zL7, zYe, zNQ, zA8, zTa, zPK, zHm] [] 173 zRF Tryz.f173 (U4 zE9) zeL
abbrev zG6 (a0 : El zF) : Tr (El zF × Unit) := let y1 := (zGq a0.2.2.2.2.1); cond (!y1.2.1) (cond (a0.2.2.2.2.2.1 == (5 : Int)) (.v ((yI a0 6).1, ())) (.v ((yI a0 4).1, ()))) (let y2 := (yA a0.2.2.1 (y1.1, ())); cond (decide ((y2.1.length : Int) ≥ 30)) (.v ((a0.1, (a0.2.1, ((xg ([] : Li zC) y1.1 (⟨#[]⟩ : ByteArray) a0.2.2.2.2.2.2).1, a0.2.2.2))), ())) (.v ((a0.1, (a0.2.1, ((xg y2.1 y1.1 (⟨#[]⟩ : ByteArray) a0.2.2.2.2.2.2).1, a0.2.2.2))), ())))
def zM7 a0 := (zG6 a0).val
abbrev zVX := gd [zEu] [zAv] (U1 zM7)
def zUx := cn mo [zUJ, zBs, vi, zHi] [] 265 zVX Tryz.f265 (U1 zG6) (fun _ _ _ => by simp [zG6])
def zM9 (a0 : El zF) (a1 : Int) : El zF × Unit := ((zM7 (zG2 a0 a1).1).1, ())
abbrev zVH := gd [zEu, vd .int] [zAv] (U2 zM9)
def zVJ := cv mo [zM6, zUx] 169 zVH Tryz.f169
def zD9 (a0 : El zF) : El zF × Unit := ((zM9 a0 3).1, ())
abbrev zVL := gd [zEu] [zAv] (U1 zD9)
def zMw := cv mo [zVJ] 92 zVL Tryz.f92
abbrev zR8 : LB := ⟨[1], ⟨21, [.d zK], [(3, .pt 0 0), (8, vd (.lst zD)), (9, vd .int), (10, vd .int)], []⟩, ⟨21, [], [(4, vd .int)], []⟩, 0, U5 fun (w0 : El zK) _ (l8 : Li zD) (n9 n10 : Int) => cond (decide (n10 < n9)) (.ix n10 l8 (cond (xp (zB zD l8 n10).2 w0).1 (.v (.ret ((zB zD l8 n10).1, ()))) (.ik (n10 + 1) (.v (.go (w0, (), l8, n9, (n10 + 1), ())))))) (.v (.brk (w0, (), l8, n9, n10, ())))⟩
def zig (w0 : El zK) (l8 : Li zD) := rS (l := zR8) (L := l8) (fun i => (w0, (), l8, (l8.length : Int), i, ())) (fun i x => bif (xp x.2 w0).1 then (some (x.1, ())) else none)
theorem zkd : SF zR8 (U5 fun _ _ (l8 : Li zD) (n9 n10 : Int) => (0 ≤ n10 ∧ n9 = (l8.length : Int), n9 - n10)) := sfA
abbrev zVl (a0 : El zE) (a1 : El zK) : Tr (Int × Unit) := .lp zR8 (a1, (), a0.1, (a0.1.length : Int), (0 : Int), ()) (fun r2 => .v (r2.1, ())) (fun _ => .v ((0 : Int), ()))
def zPQ a0 a1 := (zVl a0 a1).val
abbrev zlS := fd [va zE, va zK] [vd .int] (U2 zPQ)
theorem zrT : Ok zlS (U2 zVl) := vN zkd
def zr7 := cn mo [zJq] [zR8] 335 zlS Tryz.f335 (U2 zVl) zrT
def zrj (a0 : El zE) (a1 : El zK) := (by
 simp only [zPQ, zVl, zY, zq, ze]
 rewrite [zig, xH]
 dsimp only : zPQ a0 a1 = _)
abbrev zBy (a0 : El zE) (a1 : El zK) : Tr (Int × Bool × El zE × Unit) := cond ((zPQ a0 a1).1 != (0 : Int)) (.v ((zPQ a0 a1).1, true, a0, ())) (let k2 := ((0 : Int), false, a0, ()); cond (decide ((a0.1.length : Int) ≥ 40)) (.v k2) (cond (a0.2 == (1000000 : Int)) (.v k2) (let k3 := (a0.2, (yh a1).1); .ck (((a0.1.length + [k3].length : Nat) : Int) ≤ 16777216) (let k1 := IntKind.wrap .i64 (a0.2 + (1 : Int)); .v ((IntKind.wrap .i64 (k1 - (1 : Int))), true, ((a0.1 ++ [k3]), k1), ())))))
def zAl a0 a1 := (zBy a0 a1).val
abbrev zIx := gd [zhH, va zK] [vd .int, vd .bool, zhH] (U2 zAl)
theorem zQI : Ok zIx (U2 zBy) := okA
def zQV : Gv := ⟨true, fun _ => none, false⟩
def zIs := cn mo [zr7, zA8] [] 266 zIx Tryz.f266 (U2 zBy) zQI (g := zQV)
abbrev zFm (a0 : El zF) (a1 : El zK) : Tr (El zF × Unit) := let y1 := (zAl a0.1 a1); cond (!y1.2.1) (.v ((zD9 (y1.2.2.1, a0.2)).1, ())) (.v ((y1.2.2.1, a0.2), ()))
def zKq a0 a1 := (zFm a0 a1).val
abbrev zS8 := gd [zEu, va zK] [zAv] (U2 zKq)
def zTQ := cn mo [zIs, zMw] [] 170 zS8 Tryz.f170 (U2 zFm) (fun _ _ _ => by simp [zFm])
abbrev zAa (a0 : El zF) : Tr (El zF × Unit) := let y1 := (zGq a0.2.2.2.2.1); cond (!y1.2.1) (cond (a0.2.2.2.2.2.1 == (5 : Int)) (.v ((yI a0 6).1, ())) (.v ((yI a0 4).1, ()))) (let y2 := (yA a0.2.2.1 (y1.1, ())); cond (decide ((y2.1.length : Int) ≥ 30)) (.v ((a0.1, (a0.2.1, ((xg ([] : Li zC) y1.1 (⟨#[]⟩ : ByteArray) a0.2.2.2.2.2.2).1, a0.2.2.2))), ())) (.v ((a0.1, (a0.2.1, ((xg y2.1 y1.1 (⟨#[]⟩ : ByteArray) a0.2.2.2.2.2.2).1, a0.2.2.2))), ())))
def zAZ a0 := (zAa a0).val
abbrev zQ3 := gd [zAv] [zAv] (U1 zAZ)
def zQu := cn mo [zUJ, zBs, vi, zHi] [] 265 zQ3 Tryz.f265 (U1 zAa) (fun _ _ _ => by simp [zAa])
def zAk (a0 : El zF) (a1 : Int) : El zF × Unit := ((zAZ (yI a0 a1).1).1, ())
abbrev zQG := gd [zAv, vd .int] [zAv] (U2 zAk)
def zQh := cv mo [zBs, zQu] 169 zQG Tryz.f169
def zW (a0 : El zF) : El zF × Unit := ((zAk a0 3).1, ())
abbrev zQl := gd [zAv] [zAv] (U1 zW)
def zEH := cv mo [zQh] 92 zQl Tryz.f92
abbrev xY : LB := ⟨[], ⟨39, [.pr (.o (.d zD)) (.d .int)], [(0, .pt 0 0), (1, vd .int), (11, vd .int), (12, vd .int)], [(10, 0, 0)]⟩, ⟨39, [.pr (.o (.d zD)) (.d .int)], [(4, vd .bool)], []⟩, 0, U5 fun (w0 : El zE) _ (n1 n11 n12 : Int) => cond (decide (n12 < n11)) (.ix n12 w0.1 (cond ((zB zD w0.1 n12).1 == n1) (let k1 := (w0.1.length : Int); .ck (0 ≤ (0 : Int) ∧ (0 : Int) ≤ n12 ∧ n12 ≤ k1 ∧ 0 < k1) (.ik (n12 + 1) (.ck (0 ≤ (n12 + 1) ∧ (n12 + 1) ≤ k1 ∧ k1 ≤ k1 ∧ 0 < k1) (.ck ((0 : Int) = (0 : Int) ∧ k1 = k1 ∧ (0 : Int) < k1 ∧ n12 + (k1 - (n12 + 1)) ≤ 16777216) (.v (.ret (((w0.1.take n12.toNat ++ w0.1.drop (n12 + 1).toNat), w0.2), true, ()))))))) (.ik (n12 + 1) (.v (.go (w0, (), n1, n11, (n12 + 1), ())))))) (.v (.brk (w0, (), n1, n11, n12, ())))⟩
theorem zLg : SF xY (U5 fun (w0 : El zE) _ _ (n11 n12 : Int) => (0 ≤ n12 ∧ n11 ≤ (w0.1.length : Int), n11 - n12)) := sfA
abbrev zBL (a0 : El zE) (a1 : Int) : Tr (Bool × El zE × Unit) := .lp xY (a0, (), a1, (a0.1.length : Int), (0 : Int), ()) (fun r1 => .v (r1.2.1, r1.1, ())) (fun t1 => .v (false, t1.1, ()))
def zAE a0 a1 := (zBL a0 a1).val
abbrev zHE := gd [zhH, vd .int] [vd .bool, zhH] (U2 zAE)
theorem zPY : Ok zHE (U2 zBL) := vN zLg
def zPX : Gv := ⟨false, fun _ => none, true⟩
def zHD := cn mo [] [xY] 171 zHE Tryz.f171 (U2 zBL) zPY (g := zPX)
abbrev v4 : LB := ⟨[], ⟨19, [], [(0, vd (.lst .int)), (1, vd .int), (7, vd .int), (8, vd .int)], []⟩, ⟨19, [], [(4, vd .int)], []⟩, 0, U4 fun (l0 : Li .int) (n1 n7 n8 : Int) => cond (decide (n8 < n7)) (.ix n8 l0 (cond (n1 == (zB .int l0 n8)) (.v (.ret (n8, ()))) (.ik (n8 + 1) (.v (.go (l0, n1, n7, (n8 + 1), ())))))) (.v (.brk (l0, n1, n7, n8, ())))⟩
def zI7 (l0 : Li .int) (n1 : Int) := rS (l := v4) (L := l0) (fun i => (l0, n1, (l0.length : Int), i, ())) (fun i x => bif (n1 == x) then (some ((i : Int), ())) else none)
theorem zJA : SF v4 (U4 fun (l0 : Li .int) _ (n7 n8 : Int) => (0 ≤ n8 ∧ n7 = (l0.length : Int), n7 - n8)) := sfA
abbrev zAI (a0 : Li .int) (a1 : Int) : Tr (Int × Unit) := .lp v4 (a0, a1, (a0.length : Int), (0 : Int), ()) (fun r1 => .v (r1.1, ())) (fun _ => .v ((-1 : Int), ()))
def zAM a0 a1 := (zAI a0 a1).val
abbrev zFA := fd [vd (.lst .int), vd .int] [vd .int] (U2 zAM)
theorem zK9 : Ok zFA (U2 zAI) := vN zJA
def zMZ := cn mo [] [v4] 336 zFA Tryz.f336 (U2 zAI) zK9
def zLt (a0 : Li .int) (a1 : Int) := (by
 simp only [zAM, zAI, zY, zq, ze]
 rewrite [zI7, xH]
 dsimp only : zAM a0 a1 = _)
def ym (a0 : Li .int) (a1 : Int) : Bool × Unit := (decide ((zAM a0 a1).1 ≥ (0 : Int)), ())
abbrev zI4 := fd [vd (.lst .int), vd .int] [vd .bool] (U2 ym)
def zI9 := cv mo [zMZ] 267 zI4 Tryz.f267
abbrev zMX : LB := ⟨[], ⟨26, [], [(1, vd .int), (5, vo zA), (8, vd (.lst zA)), (9, vd .int), (10, vd .int)], []⟩, ⟨26, [], [], []⟩, 0, U5 fun (n1 : Int) (l5 l8 : Li zA) (n9 n10 : Int) => cond (decide (n10 < n9)) (.ix n10 l8 (cond (!(ym (zB zA l8 n10).2.1 n1).1) (let y1 := (zAx (zB zA l8 n10)); .ck (((l5.length + [y1.1].length : Nat) : Int) ≤ 16777216) (.ik (n10 + 1) (.v (.go (n1, (l5 ++ [y1.1]), l8, n9, (n10 + 1), ()))))) (.ik (n10 + 1) (.v (.go (n1, l5, l8, n9, (n10 + 1), ())))))) (.v (.brk (n1, l5, l8, n9, n10, ())))⟩
def zR0 (n1 : Int) (l8 l5 : Li zA) := rF (l := zMX) (L := l8) (fun i (s : (Li zA)) => (n1, s, l8, (l8.length : Int), i, ())) (fun i x s => bif (!(ym x.2.1 n1).1) then (s ++ [(zAx x).1]) else s) l5
theorem zdm : SF zMX (U5 fun _ (l5 l8 : Li zA) (n9 n10 : Int) => (0 ≤ n10 ∧ n9 = (l8.length : Int) ∧ (l5.length : Int) ≤ n10, n9 - n10)) := sfA
abbrev zPD (a0 : Li zA) (a1 : Int) : Tr (Li zA × Unit) := .lp zMX (a1, ([] : Li zA), a0, (a0.length : Int), (0 : Int), ()) (fun _ => .bad) (fun t1 => .v (t1.2.1, ()))
def zHn a0 a1 := (zPD a0 a1).val
abbrev zcc := gd [vd (.lst zA), vd .int] [vo zA] (U2 zHn)
theorem zmH : Ok zcc (U2 zPD) := zNF zdm zR0
def zbG := cn mo [zI9, zLZ] [zMX] 172 zcc Tryz.f172 (U2 zPD) zmH
def znD (a0 : Li zA) (a1 : Int) := (by
 simp only [zHn, zPD, zY, zq, ze]
 rewrite [zR0, xL]
 dsimp only : zHn a0 a1 = _)
def zDW : Con Tryz.prog := ⟨268, zK0 zD, ztv⟩
abbrev xh : LB := ⟨[], ⟨51, [.d zD], [(3, .pt 0 0), (6, vo zD), (7, vd .int)], []⟩, ⟨51, [], [], []⟩, 0, U4 fun (w0 : El zD) _ (l6 : Li zD) (n7 : Int) => let k1 := .brk (w0, (), l6, n7, ()); cond (decide (n7 > 0)) (.ik (n7 - 1) (.ix (n7 - 1) l6 (cond (decide ((zB zD l6 (n7 - 1)).1 > w0.1)) (.ik (n7 - 1) (.v (.go (w0, (), l6, (n7 - 1), ())))) (.v k1)))) (.v k1)⟩
theorem zXQ : PO xh (fun _ _ => False) (U4 fun (w00 : El zD) _ (l60 : Li zD) _ => U4 fun (w0 : El zD) _ (l6 : Li zD) (n7 : Int) => w0 = w00 ∧ l6 = l60 ∧ (0 ≤ n7 ∧ n7 ≤ (l6.length : Int))) := poG trivial trivial (an @zhK.mk trivial)
theorem zV9 : SF xh (U4 fun _ _ (l6 : Li zD) (n7 : Int) => (0 ≤ n7 ∧ (0 ≤ n7 ∧ n7 ≤ (l6.length : Int)), n7)) := sfG trivial trivial (an @zhK.mk trivial)
abbrev zC2 (a0 : Li zD) (a1 : El zD) : Tr (Li zD × Bool × Unit) := let k1 := ((xd a0).1, false, ()); cond (!(xc a0).1) (.v k1) (cond (!(zFn a1).1) (.v k1) (cond ((a0.length : Int) == 30) (.v k1) (.lp xh (a1, (), (xd a0).1, ((xd a0).1.length : Int), ()) (fun _ => .bad) (fun t1 => let k2 := (t1.1.1, (yh t1.1.2).1); .ck (zhK t1.2.2.1 t1.2.2.2.1 [k2]) (.v ((zXM t1.2.2.1 t1.2.2.2.1 [k2]), true, ()))))))
def vw a0 a1 := (zC2 a0 a1).val
abbrev zUb := gd [vd (.lst zD), va zD] [vo zD, vd .bool] (U2 vw)
theorem zhj : Ok zUb (U2 zC2) := fun a hw hp => by
 obtain ⟨(a0 : Li zD), (a1 : El zD), ⟨⟩⟩ := a
 show (zC2 a0 a1).ok
 unfold zC2
 refine yK (fun _ => trivial) (fun h1 => yK (fun _ => trivial) (fun _ => yK (fun _ => trivial) (fun _ => ?_)))
 have h2 := zT2 (zAT h1)
 have h3 := zaA a0
 have h4 : (0 : Int) ≤ ((xd a0).1.length : Int) := Int.natCast_nonneg _
 refine zg (zV9 _ ⟨h4, h4, Int.le_refl _⟩) (okF.2 (xM zXQ ⟨rfl, rfl, h4, Int.le_refl _⟩ (fun r hr => hr.elim) (fun t ht => ?_)))
 obtain ⟨w0, u, l6, n7, ⟨⟩⟩ := t
 obtain ⟨_, h5, h6, h7⟩ := ht
 have h5 : l6 = (xd a0).1 := h5
 subst h5
 refine zg (zhK.mk h6 h7 ?_) trivial
 show ((xd a0).1.length : Int) < _
 rw [h3]; omega
def zTr := cn mo [zP4, zTf, zA8, zDW, zWQ] [xh] 174 zUb Tryz.f174 (U2 zC2) zhj
abbrev zJ9 (a0 : El zF) (a1 : El zU) : Tr (El zF × Unit) := cond (a1.1 == (1 : Int)) (let y1 := (zKq a0 a1.2.1); cond (!true) (.v ((zW y1.1).1, ())) (.v (y1.1, ()))) (cond (a1.1 == (2 : Int)) (let y1 := (zAE a0.1 a1.2.2.1); let y2 := (zHn a0.2.1 a1.2.2.1); cond (!true) (.v ((zW (y1.2.1, (y2.1, a0.2.2))).1, ())) (.v ((y1.2.1, (y2.1, a0.2.2)), ()))) (cond (a1.1 == (3 : Int)) (let y1 := (xg a0.2.2.1 a1.2.1 a1.2.2.2.2 a0.2.2.2.2.2.2); let k3 := (a0.1, (a0.2.1, (y1.1, a0.2.2.2))); cond (!y1.2.1) (.v ((zW k3).1, ())) (.v (k3, ()))) (cond (a1.1 == (4 : Int)) (let y1 := (vw a0.2.2.2.1 ((min (IntKind.wrap .i64 (a0.2.2.2.2.2.2 + a1.2.2.2.1)) (1000000000 : Int)), a1.2.1)); let k1 := (a0.1, (a0.2.1, (a0.2.2.1, (y1.1, a0.2.2.2.2)))); cond (!y1.2.1) (.v ((zW k1).1, ())) (.v (k1, ()))) (cond (a1.1 == (5 : Int)) (let y1 := (zG2 a0 2); cond (!true) (.v ((zW y1.1).1, ())) (.v (y1.1, ()))) (let k2 := zW a0; cond (a1.1 == (6 : Int)) (cond (!true) (.v ((zW k2.1).1, ())) (.v (k2.1, ()))) (cond (!true) (.v (k2.1, ())) (.v (a0, ()))))))))
def zZ5 a0 a1 := (zJ9 a0 a1).val
abbrev zZ2 := gd [zEu, va zU] [zAv] (U2 zZ5)
def zaZ : Gv := ⟨true, fun _ => none, false⟩
def zZn := cn mo [zTQ, zEH, zHD, zbG, zHi, zTr, zM6] [] 94 zZ2 Tryz.f94 (U2 zJ9) (fun _ _ _ => by simp [zJ9]) (g := zaZ)
abbrev zBJ (a0 : El zF) (a1 : El zK) : Tr (El zF × Unit) := let y1 := (zAl a0.1 a1); cond (!y1.2.1) (.v ((zW (y1.2.2.1, a0.2)).1, ())) (.v ((y1.2.2.1, a0.2), ()))
def zBM a0 a1 := (zBJ a0 a1).val
abbrev zPa := gd [zAv, va zK] [zAv] (U2 zBM)
def zPc := cn mo [zIs, zEH] [] 170 zPa Tryz.f170 (U2 zBJ) (fun _ _ _ => by simp [zBJ])
abbrev zDX (a0 : El zF) (a1 : El zU) : Tr (El zF × Unit) := cond (a1.1 == (1 : Int)) (let y1 := (zBM a0 a1.2.1); cond (!true) (.v ((zW y1.1).1, ())) (.v (y1.1, ()))) (cond (a1.1 == (2 : Int)) (let y1 := (zAE a0.1 a1.2.2.1); let y2 := (zHn a0.2.1 a1.2.2.1); cond (!true) (.v ((zW (y1.2.1, (y2.1, a0.2.2))).1, ())) (.v ((y1.2.1, (y2.1, a0.2.2)), ()))) (cond (a1.1 == (3 : Int)) (let y1 := (xg a0.2.2.1 a1.2.1 a1.2.2.2.2 a0.2.2.2.2.2.2); let k3 := (a0.1, (a0.2.1, (y1.1, a0.2.2.2))); cond (!y1.2.1) (.v ((zW k3).1, ())) (.v (k3, ()))) (cond (a1.1 == (4 : Int)) (let y1 := (vw a0.2.2.2.1 ((min (IntKind.wrap .i64 (a0.2.2.2.2.2.2 + a1.2.2.2.1)) (1000000000 : Int)), a1.2.1)); let k1 := (a0.1, (a0.2.1, (a0.2.2.1, (y1.1, a0.2.2.2.2)))); cond (!y1.2.1) (.v ((zW k1).1, ())) (.v (k1, ()))) (cond (a1.1 == (5 : Int)) (let y1 := (yI a0 2); cond (!true) (.v ((zW y1.1).1, ())) (.v (y1.1, ()))) (let k2 := zW a0; cond (a1.1 == (6 : Int)) (cond (!true) (.v ((zW k2.1).1, ())) (.v (k2.1, ()))) (cond (!true) (.v (k2.1, ())) (.v (a0, ()))))))))
def zDK a0 a1 := (zDX a0 a1).val
abbrev zTJ := gd [zAv, va zU] [zAv] (U2 zDK)
def zTA : Gv := ⟨true, fun _ => none, false⟩
def zTM := cn mo [zPc, zEH, zHD, zbG, zHi, zTr, zBs] [] 94 zTJ Tryz.f94 (U2 zDX) (fun _ _ _ => by simp [zDX]) (g := zTA)
abbrev yn : LB := ⟨[], ⟨58, [.pr (.pr (.o (.d zD)) (.d .int)) (.pr (.o (.d zA)) (.pr (.o (.d zC)) (.pr (.o (.d zD)) (.d (.pr (.lst zP) (.pr .int .int))))))], [(0, .pt 0 0), (43, vo zU), (44, vd .int), (45, vd .int)], []⟩, ⟨58, [.pr (.pr (.o (.d zD)) (.d .int)) (.pr (.o (.d zA)) (.pr (.o (.d zC)) (.pr (.o (.d zD)) (.d (.pr (.lst zP) (.pr .int .int))))))], [], []⟩, 0, U5 fun (w0 : El zF) _ (l43 : Li zU) (n44 n45 : Int) => cond (decide (n45 < n44)) (.ix n45 l43 (cond (w0.2.2.2.2.2.1 != (1 : Int)) (.v (.ret (w0, ()))) (.ik (n45 + 1) (.v (.go ((zDK w0 (zB zU l43 n45)).1, (), l43, n44, (n45 + 1), ())))))) (.v (.brk (w0, (), l43, n44, n45, ())))⟩
theorem zQ0 : SF yn (U5 fun _ _ (l43 : Li zU) (n44 n45 : Int) => (0 ≤ n45 ∧ n44 = (l43.length : Int), n44 - n45)) := sfG trivial trivial trivial
abbrev zD5 (a0 : El zF) (a1 : El zN) (a2 : El zA) : Tr (El zF × Unit) := .ck (zRr a1 a2) (let k2 := zHO a1 a2; let k3 := ((zD9 a0).1, ()); cond (!k2.2.1) (.v k3) (cond (decide ((a0.2.1.length : Int) ≥ 1000)) (.v k3) (let k1 := (a2.1, (a2.2.1, ([] : Li zH))); .ck (((a0.2.1.length + [k1].length : Nat) : Int) ≤ 16777216) (.lp yn ((a0.1, ((a0.2.1 ++ [k1]), a0.2.2)), (), k2.1, (k2.1.length : Int), (0 : Int), ()) (fun r4 => .v (r4.1, ())) (fun t1 => .v (t1.1, ()))))))
def zDt a0 a1 a2 := (zD5 a0 a1 a2).val
@[simp] def zMu (_a0 : El zF) (a1 : El zN) (_a2 : El zA) : Prop := (zCr a1).1 = true
abbrev zM4 := gq [zEu, va zN, va zA] [zAv] (U3 zMu) (U3 zDt)
theorem zVK : Ok zM4 (U3 zD5) := okG (an zQ0 trivial) trivial trivial
def zVb := cn mo [zdj, zMw, zB0, zZn, zTM] [yn] 29 zM4 Tryz.f29 (U3 zD5) zVK
abbrev zEk (a0 : El zN) (a1 : El zF) : Tr (El zF × Bool × Unit) := .ck (zHo a0 a1) (cond (yN a0 a1).2.1 (.ck (zMu (zEi a1).1 a0 (yN a0 a1).1) (.v ((zDt (zEi a1).1 a0 (yN a0 a1).1).1, (yN a0 a1).2.1, ()))) (.v ((zEi a1).1, (yN a0 a1).2.1, ())))
def zJR a0 a1 := (zEk a0 a1).val
@[simp] def zTo (a0 : El zN) (_a1 : El zF) : Prop := ∀ r ∈ a0.2, SzR r
abbrev zT8 := gq [va zN, va zF] [.val true (.pr (.pr (.o (.d zD)) (.d .int)) (.pr (.o (.d zA)) (.pr (.o (.d zC)) (.pr (.o (.d zD)) (.d (.pr (.lst zP) (.pr .int .int))))))), vd .bool] (U2 zTo) (U2 zJR)
theorem zgh : Ok zT8 (U2 zEk) := fun a hw hp => by
 obtain ⟨(a0 : El zN), (a1 : El zF), ⟨⟩⟩ := a
 replace hp : ∀ r ∈ a0.2, SzR r := hp
 show (zEk a0 a1).ok
 unfold zEk
 exact zg hp (yK (fun h => zg (zch (zm8 h)).1 trivial) (fun _ => trivial))
def zhJ := cn mo [zf8, zaz, zVb] [] 8 zT8 Tryz.f8 (U2 zEk) zgh
abbrev zL9 : LB := ⟨[1, 0, 2], ⟨35, [.pr (.o (.d zD)) (.d .int), .d zE, .pr (.o (.d zD)) (.d .int)], [(1, .pt 1 0), (2, .pt 0 0), (3, .pt 2 0), (4, vd .int)], []⟩, ⟨35, [], [], []⟩, 0, U7 fun (w0 w1 w2 : El zE) _ _ _ (n4 : Int) => cond (decide (n4 < (w1.1.length : Int))) (.ix n4 w1.1 (.ix n4 w1.1 (let k1 := zB zD w1.1 n4; let y1 := (yo k1.2); .ck (((w2.1.length + [(k1.1, y1.1)].length : Nat) : Int) ≤ 16777216) (.ik (n4 + 1) (.v (.go (w0, w1, ((w2.1 ++ [(k1.1, y1.1)]), w2.2), (), (), (), (n4 + 1), ()))))))) (.v (.brk (w0, w1, w2, (), (), (), n4, ())))⟩
def zRf (w0 w1 w2 : El zE) := rF (l := zL9) (L := w1.1) (fun i (s : (El zE)) => (w0, w1, s, (), (), (), i, ())) (fun i x s => ((s.1 ++ [(x.1, (yo x.2).1)]), s.2)) w2
theorem zdC : SF zL9 (U7 fun _ (w1 w2 : El zE) _ _ _ (n4 : Int) => (0 ≤ n4 ∧ (w2.1.length : Int) ≤ n4, (w1.1.length : Int) - n4)) := sfA
abbrev zPG (a0 : El zE) : Tr (El zE × Unit) := .lp zL9 ((([] : Li zD), (0 : Int)), a0, (([] : Li zD), a0.2), (), (), (), (0 : Int), ()) (fun _ => .bad) (fun t1 => .v (t1.2.2.1, ()))
def zFz a0 := (zPG a0).val
abbrev zbn := gd [va zE] [.val true (.pr (.o (.d zD)) (.d .int))] (U1 zFz)
theorem znz : Ok zbn (U1 zPG) := zNF zdC zRf
def zlr := cn mo [zAp] [zL9] 95 zbn Tryz.f95 (U1 zPG) znz
def zam (a0 : El zE) := (by
 simp only [zFz, zPG, zY, zq, ze]
 rewrite [zRf, xL]
 dsimp only : zFz a0 = _)
theorem zmm (s : El zE) : ((zFz s).1.1.length : Nat) = s.1.length := by
 rw [zam]
 have := zbd (γ := Int) (fun (x : El zD) => ((x.1, (yo x.2).1) : El zD)) s.1 0 ([], s.2)
 simp only [List.length_nil, Nat.zero_add] at this
 exact this
abbrev zJv : LB := ⟨[], ⟨36, [], [(0, vd (.lst zA)), (3, vo zA), (4, vd .int)], []⟩, ⟨36, [], [], []⟩, 0, U3 fun (l0 l3 : Li zA) (n4 : Int) => cond (decide (n4 < (l0.length : Int))) (.ix n4 l0 (.ix n4 l0 (.ck (((zB zA l0 n4).2.1.length : Int) ≤ 16777216) (.ix n4 l0 (.ck (((zB zA l0 n4).2.2.length : Int) ≤ 16777216) (.ck (((l3.length + [(zB zA l0 n4)].length : Nat) : Int) ≤ 16777216) (.ik (n4 + 1) (.v (.go (l0, (l3 ++ [(zB zA l0 n4)]), (n4 + 1), ())))))))))) (.v (.brk (l0, l3, n4, ())))⟩
def zPu (l0 l3 : Li zA) := rF (l := zJv) (L := l0) (fun i (s : (Li zA)) => (l0, s, i, ())) (fun i x s => (s ++ [x])) l3
theorem zaM : SF zJv (U3 fun (l0 l3 : Li zA) (n4 : Int) => (0 ≤ n4 ∧ (l3.length : Int) ≤ n4, (l0.length : Int) - n4)) := sfB (U3 fun (l0 : Li zA) _ (n4 : Int) => Bd zA (zB zA l0 n4)) (fun x hw => wdG hw.1 _)
abbrev zLE (a0 : Li zA) : Tr (Li zA × Unit) := .lp zJv (a0, ([] : Li zA), (0 : Int), ()) (fun _ => .bad) (fun t1 => .v (t1.2.1, ()))
def zI1 a0 := (zLE a0).val
abbrev zYT := gd [vd (.lst zA)] [vo zA] (U1 zI1)
theorem zkX : Ok zYT (U1 zLE) := zNF zaM zPu
def zkO := cn mo [] [zJv] 96 zYT Tryz.f96 (U1 zLE) zkX
def zio (a0 : Li zA) := (by
 simp only [zI1, zLE, zY, zq, ze]
 rewrite [zPu, xL]
 dsimp only : zI1 a0 = _)
def zFb (a0 : El zF) : El zF × Unit := (((zFz a0.1).1, ((zI1 a0.2.1).1, ((zEU a0.2.2.1).1, ((zAm a0.2.2.2.1).1, ((zAi a0.2.2.2.2.1).1, a0.2.2.2.2.2))))), ())
abbrev zjq := gd [va zF] [.val true (.pr (.pr (.o (.d zD)) (.d .int)) (.pr (.o (.d zA)) (.pr (.o (.d zC)) (.pr (.o (.d zD)) (.pr (.o (.d zP)) (.d (.pr .int .int)))))))] (U1 zFb)
def zhx := cv mo [zlr, zkO, zYn, zQW, zQ1] 30 zjq Tryz.f30
abbrev zJY : LB := ⟨[], ⟨24, [], [(0, vd (.lst zC)), (3, vd .int)], []⟩, ⟨24, [], [(2, vd .bool)], []⟩, 0, U2 fun (l0 : Li zC) (n3 : Int) => cond (decide (n3 < (l0.length : Int))) (.ix n3 l0 (cond ((zB zC l0 n3).2.2.1 == (1 : Int)) (.v (.ret (true, ()))) (.ix n3 l0 (cond ((zB zC l0 n3).2.2.1 == (2 : Int)) (.v (.ret (true, ()))) (.ik (n3 + 1) (.v (.go (l0, (n3 + 1), ())))))))) (.v (.brk (l0, n3, ())))⟩
def zag (l0 : Li zC) := rA (l := zJY) (L := l0) (fun i => (l0, i, ())) (fun i x => bif (x.2.2.1 == (1 : Int)) then false else (bif (x.2.2.1 == (2 : Int)) then false else true)) (true, ())
theorem zY9 : SF zJY (U2 fun (l0 : Li zC) (n3 : Int) => (0 ≤ n3, (l0.length : Int) - n3)) := sfA
abbrev zLd (a0 : Li zC) : Tr (Bool × Unit) := .lp zJY (a0, (0 : Int), ()) (fun r1 => .v (r1.1, ())) (fun _ => .v (false, ()))
def zET a0 := (zLd a0).val
abbrev zYa := fd [vd (.lst zC)] [vd .bool] (U1 zET)
theorem zkG : Ok zYa (U1 zLd) := vN zY9
def zjg := cn mo [] [zJY] 183 zYa Tryz.f183 (U1 zLd) zkG
def zjL (a0 : Li zC) := (by
 simp only [zET, zLd, zY, zq, ze]
 rewrite [zag, z3]
 dsimp only : zET a0 = _)
abbrev zDl (a0 : El zF) : Tr (Bool × Unit) := cond (a0.2.2.2.2.2.1 == (3 : Int)) (.v (true, ())) (.v ((a0.2.2.2.2.2.1 == (5 : Int)), ()))
def zCX a0 := (zDl a0).val
abbrev zai := fd [va zF] [vd .bool] (U1 zCX)
def zaG := cn mo [] [] 184 zai Tryz.f184 (U1 zDl) (fun _ _ _ => by simp [zDl])
abbrev zMH : LB := ⟨[1, 0], ⟨30, [.pr (.d .str) (.o (.d zL)), .d zE], [(1, vd .int), (2, .pt 1 0), (4, .pt 0 0), (6, vd .int)], []⟩, ⟨30, [.pr (.d .str) (.o (.d zL))], [(4, .pt 0 0), (5, vd .bool)], []⟩, 0, U6 fun (w0 : El zK) (w1 : El zE) (n1 : Int) _ _ (n6 : Int) => cond (decide (n6 < (w1.1.length : Int))) (.ix n6 w1.1 (cond ((zB zD w1.1 n6).1 == n1) (.ix n6 w1.1 (.v (.ret ((yo (zB zD w1.1 n6).2).1, (), true, ())))) (.ik (n6 + 1) (.v (.go (w0, w1, n1, (), (), (n6 + 1), ())))))) (.v (.brk (w0, w1, n1, (), (), n6, ())))⟩
def zeU (w0 : El zK) (w1 : El zE) (n1 : Int) := rS (l := zMH) (L := w1.1) (fun i => (w0, w1, n1, (), (), i, ())) (fun i x => bif (x.1 == n1) then (some ((yo x.2).1, (), true, ())) else none)
theorem zd7 : SF zMH (U6 fun _ (w1 : El zE) _ _ _ (n6 : Int) => (0 ≤ n6, (w1.1.length : Int) - n6)) := sfA
abbrev zOT (a0 : El zE) (a1 : Int) : Tr (El zK × Bool × Unit) := let k1 := ((⟨#[]⟩ : ByteArray), ([] : Li zL)); .lp zMH (k1, a0, a1, (), (), (0 : Int), ()) (fun r2 => .v (r2.1, r2.2.2.1, ())) (fun _ => .v (k1, false, ()))
def zAY a0 a1 := (zOT a0 a1).val
abbrev zbw := fd [va zE, vd .int] [.val true (.pr (.d .str) (.o (.d zL))), vd .bool] (U2 zAY)
theorem zll : Ok zbw (U2 zOT) := vN zd7
def zoT := cn mo [zAp] [zMH] 277 zbw Tryz.f277 (U2 zOT) zll
def zcg (a0 : El zE) (a1 : Int) := (by
 simp only [zAY, zOT, zY, zq, ze]
 rewrite [zeU, xH]
 dsimp only : zAY a0 a1 = _)
abbrev zAu : LB := ⟨[], ⟨69, [.d zN, .d zF, .d zA], [(2, .pt 0 0), (3, .pt 1 0), (5, vd .int), (6, .pt 2 0), (7, vd .int)], []⟩, ⟨69, [], [(4, vd .bool)], []⟩, 2, U8 fun (w0 : El zN) (w1 : El zF) (w2 : El zA) _ _ (n5 : Int) _ (n7 : Int) => cond (decide (n7 < (w2.2.1.length : Int))) (.ix n7 w2.2.1 (cond (!(zAY w1.1 (zB .int w2.2.1 n7)).2.1) (.v (.ret (false, ()))) (.ik (n7 + 1) (.v (.go (w0, w1, w2, (), (), n5, (), (n7 + 1), ())))))) (.v (.brk (w0, w1, w2, (), (), n5, (), n7, ())))⟩
def zY4 (w0 : El zN) (w1 : El zF) (w2 : El zA) (n5 : Int) := rA (l := zAu) (L := w2.2.1) (fun i => (w0, w1, w2, (), (), n5, (), i, ())) (fun i x => bif (!(zAY w1.1 x).2.1) then false else true) (false, ())
theorem zXL : SF zAu (U8 fun _ _ (w2 : El zA) _ _ _ _ (n7 : Int) => (0 ≤ n7, (w2.2.1.length : Int) - n7)) := sfA
abbrev zBu : LB := ⟨[], ⟨69, [.d zN, .d zF], [(2, .pt 0 0), (3, .pt 1 0), (5, vd .int)], []⟩, ⟨69, [], [(4, vd .bool)], []⟩, 0, U5 fun (w0 : El zN) (w1 : El zF) _ _ (n5 : Int) => cond (decide (n5 < (w1.2.1.length : Int))) (.ix n5 w1.2.1 (let k1 := zB zA w1.2.1 n5; cond (!(yO w0 k1).1) (.v (.ret (false, ()))) (cond ((k1.2.2.length : Int) != 0) (.v (.ret (false, ()))) (.ix k1.1 w0.2 (cond ((k1.2.1.length : Int) != (zc (zB zG w0.2 k1.1)).1) (.v (.ret (false, ()))) (.lp zAu (w0, w1, k1, (), (), n5, (), (0 : Int), ()) (fun r8 => .v (.ret (r8.1, ()))) (fun t1 => let k2 := t1.2.2.2.2.2.1 + (1 : Int); .ik k2 (.v (.go (t1.1, t1.2.1, (), (), k2, ())))))))))) (.v (.brk (w0, w1, (), (), n5, ())))⟩
theorem zWB : SF zBu fun x : El zN × El zF × Unit × Unit × Int × Unit => (0 ≤ x.2.2.2.2.1, (x.2.1.2.1.length : Int) - x.2.2.2.2.1) := sfk (by
 rintro ⟨(w0 : El zN), (w1 : El zF), ⟨⟩, ⟨⟩, (n5 : Int), ⟨⟩⟩ hI hw
 dsimp only [U5] at hI ⊢
 have i0 := hI
 have hb : (w1.2.1.length : Int) ≤ 16777216 := vC (hw.2.1.2.1.1)
 refine ⟨by omega, ?_⟩
 refine xI (fun h1 => ?_) (fun h1 => ?_)
 ·replace h1 : n5 < (w1.2.1.length : Int) := of_decide_eq_true h1
  refine z7 ?_ ?_
  ·first | omega | (simp <;> omega)
  ·refine xI (fun h2 => ?_) (fun h2 => ?_)
   ·exact trivial
   ·replace h2 := zAT h2
    replace h2 := zIl h2
    refine xI (fun h3 => ?_) (fun h3 => ?_)
    ·replace h3 := zlA h3
     exact trivial
    ·replace h3 := zT9 h3
     refine z7 ?_ ?_
     ·first | omega | (simp <;> omega)
     ·refine xI (fun h4 => ?_) (fun h4 => ?_)
      ·replace h4 := zlA h4
       exact trivial
      ·replace h4 := zT9 h4
       refine z7 ?_ ?_
       ·exact zXL _ (by (dsimp only <;> omega))
       ·refine zc2 (zY4 w0 w1 (zB zA w1.2.1 n5) n5) ?_ ?_
        ·try dsimp only
         refine z7 ?_ ?_
         ·exact ink (by omega) (by omega)
         ·exact show (0 ≤ (n5 + 1)) ∧ (w1.2.1.length : Int) - (n5 + 1) < (w1.2.1.length : Int) - n5 ∧ 0 < (w1.2.1.length : Int) - n5 from ⟨by (first | omega | rfl | assumption | (simp <;> omega)), by (first | omega | (simp only [List.length_set]; omega)), by (first | omega | (simp only [List.length_set]; omega))⟩
        ·try dsimp only
         exact trivial
 ·replace h1 : ¬ (n5 < (w1.2.1.length : Int)) := of_decide_eq_false h1
  exact trivial)
abbrev zJT (a0 : El zN) (a1 : El zF) : Tr (Bool × Unit) := .lp zBu (a0, a1, (), (), (0 : Int), ()) (fun r9 => .v (r9.1, ())) (fun t1 => .v (decide (@LE.le Int _ (t1.2.1.2.1.length : Int) (1000 : Int)), ()))
def zAS a0 a1 := (zJT a0 a1).val
abbrev zUm := fd [va zN, va zF] [vd .bool] (U2 zAS)
theorem zha : Ok zUm (U2 zJT) := vN zWB
def zfg := cn mo [zK8, zoT, zGy] [zBu, zAu] 182 zUm Tryz.f182 (U2 zJT) zha
abbrev zED (a0 : ByteArray) : Tr (Bool × Unit) := cond (a0.toList == (⟨#[]⟩ : ByteArray).toList) (.v (true, ())) (.v ((xV a0).1, ()))
def zEP a0 := (zED a0).val
abbrev zj1 := fd [vd .str] [vd .bool] (U1 zEP)
def zi3 := cn mo [zEV] [] 344 zj1 Tryz.f344 (U1 zED) (fun _ _ _ => by simp [zED])
abbrev zF5 (a0 : El zC) : Tr (Bool × Unit) := cond (!(xi a0.1).1) (.v (false, ())) (cond (!(zEP a0.2.1).1) (.v (false, ())) (cond (!(z6 a0.2.2.1 1 4).1) (.v (false, ())) (cond (!(z6 a0.2.2.2.1 0 4).1) (.v (false, ())) (cond (!(z6 a0.2.2.2.2.1 0 1000001000).1) (.v (false, ())) (let k2 := (((a0.2.2.1 == (1 : Int)) == (a0.2.2.2.1 == (0 : Int))), ()); let k1 : Tr _ := cond (a0.2.2.1 != (1 : Int)) (cond (a0.2.2.1 != (2 : Int)) (.v (true, ())) (.v k2)) (.v k2); cond (!((a0.2.2.2.2.2.1 == (0 : Int)) && ((a0.2.2.2.2.2.2.1 == (0 : Int)) && ((a0.2.2.2.2.2.2.2.toList == (⟨#[]⟩ : ByteArray).toList) && true)))) (cond (!(zAj a0.2.2.2.2.2).1) (.v (false, ())) k1) k1)))))
def zAA a0 := (zF5 a0).val
abbrev zhw := fd [va zC] [vd .bool] (U1 zAA)
def zjD := cn mo [zFy, zSB, zAQ, zi3] [] 275 zhw Tryz.f275 (U1 zF5) (fun _ _ _ => by simp [zF5])
abbrev zBl : LB := ⟨[], ⟨36, [], [(0, vd (.lst zC)), (3, vd .int), (4, vd .int)], []⟩, ⟨36, [], [(2, vd .bool)], []⟩, 2, U3 fun (l0 : Li zC) (n3 n4 : Int) => cond (decide (n4 < n3)) (.ix n3 l0 (.ix n4 l0 (cond (zI (zB zC l0 n3).1 (zB zC l0 n4).1).1 (.v (.ret (false, ()))) (.ik (n4 + 1) (.v (.go (l0, n3, (n4 + 1), ()))))))) (.v (.brk (l0, n3, n4, ())))⟩
theorem zaU : PO zBl (fun _ _ => True) (U3 fun (l00 : Li zC) (n30 : Int) _ => U3 fun (l0 : Li zC) (n3 : Int) _ => l00 = l0 ∧ n30 = n3) := poA
theorem zZM : SF zBl (U3 fun (l0 : Li zC) (n3 n4 : Int) => (0 ≤ n4 ∧ (0 ≤ n3 ∧ n3 < (l0.length : Int)) ∧ n3 ≤ (l0.length : Int), n3 - n4)) := sfA
abbrev zC3 : LB := ⟨[], ⟨36, [], [(0, vd (.lst zC)), (3, vd .int)], []⟩, ⟨36, [], [(2, vd .bool)], []⟩, 0, U2 fun (l0 : Li zC) (n3 : Int) => cond (decide (n3 < (l0.length : Int))) (.ix n3 l0 (cond (!(zAA (zB zC l0 n3)).1) (.v (.ret (false, ()))) (.lp zBl (l0, n3, (0 : Int), ()) (fun r3 => .v (.ret (r3.1, ()))) (fun t1 => .ik (t1.2.1 + (1 : Int)) (.v (.go (t1.1, (t1.2.1 + (1 : Int)), ()))))))) (.v (.brk (l0, n3, ())))⟩
theorem zaS : SF zC3 fun x : Li zC × Int × Unit => (0 ≤ x.2.1, (x.1.length : Int) - x.2.1) := sfk (by
 rintro ⟨(l0 : Li zC), (n3 : Int), ⟨⟩⟩ hI hw
 dsimp only [U2] at hI ⊢
 have i0 := hI
 have hb : (l0.length : Int) ≤ 16777216 := vC (hw.1.1)
 refine ⟨by omega, ?_⟩
 refine xI (fun h1 => ?_) (fun h1 => ?_)
 ·replace h1 : n3 < (l0.length : Int) := of_decide_eq_true h1
  refine z7 ?_ ?_
  ·first | omega | (simp <;> omega)
  ·refine xI (fun h2 => ?_) (fun h2 => ?_)
   ·exact trivial
   ·refine z7 ?_ ?_
    ·exact zZM _ ⟨by (dsimp only <;> omega), by (dsimp only <;> omega), by (dsimp only <;> omega)⟩
    ·refine zQi (zaU _ ⟨rfl, rfl⟩) (fun r _ => ?_) (fun t ht => ?_)
     ·obtain ⟨r3b2, ⟨⟩⟩ := r
      dsimp only
      exact trivial
     ·obtain ⟨t3l0, (t3n3 : Int), (t3n4 : Int), ⟨⟩⟩ := t
      dsimp only [U3] at ht ⊢
      obtain ⟨rfl, rfl⟩ := ht
      refine z7 ?_ ?_
      ·exact ink (by omega) (by omega)
      ·exact show (0 ≤ (n3 + 1)) ∧ (l0.length : Int) - (n3 + 1) < (l0.length : Int) - n3 ∧ 0 < (l0.length : Int) - n3 from ⟨by (first | omega | rfl | assumption | (simp <;> omega)), by (first | omega | (simp only [List.length_set]; omega)), by (first | omega | (simp only [List.length_set]; omega))⟩
 ·replace h1 : ¬ (n3 < (l0.length : Int)) := of_decide_eq_false h1
  exact trivial)
abbrev zK7 (a0 : Li zC) : Tr (Bool × Unit) := .lp zC3 (a0, (0 : Int), ()) (fun r4 => .v (r4.1, ())) (fun t1 => .v (decide (@LE.le Int _ (t1.1.length : Int) (30 : Int)), ()))
def zIS a0 := (zK7 a0).val
abbrev zXZ := fd [vd (.lst zC)] [vd .bool] (U1 zIS)
theorem zjU : Ok zXZ (U1 zK7) := vN zaS
def zjr := cn mo [zjD, zBm] [zC3, zBl] 179 zXZ Tryz.f179 (U1 zK7) zjU
abbrev zJa : LB := ⟨[], ⟨68, [.d zE], [(1, .pt 0 0), (3, vd .int)], []⟩, ⟨68, [], [(2, vd .bool)], []⟩, 0, U3 fun (w0 : El zE) _ (n3 : Int) => cond (decide (n3 < (w0.1.length : Int))) (.ix n3 w0.1 (let k2 := zB zD w0.1 n3; cond (!(xi k2.2).1) (.v (.ret (false, ()))) (cond (decide (k2.1 < (1 : Int))) (.v (.ret (false, ()))) (cond (decide (k2.1 ≥ w0.2)) (.v (.ret (false, ()))) (let k1 : Tr (St _ _) := cond ((zBr w0 k2.2).1 != k2.1) (.v (.ret (false, ()))) (.ik (n3 + 1) (.v (.go (w0, (), (n3 + 1), ())))); cond (decide (n3 > 0)) (.ik (n3 - 1) (.ix (n3 - 1) w0.1 (cond (decide ((zB zD w0.1 (n3 - 1)).1 ≥ k2.1)) (.v (.ret (false, ()))) k1))) k1))))) (.v (.brk (w0, (), n3, ())))⟩
def zPj (w0 : El zE) := rA (l := zJa) (L := w0.1) (fun i => (w0, (), i, ())) (fun i x => bif (!(xi x.2).1) then false else (bif (decide (x.1 < (1 : Int))) then false else (bif (decide (x.1 ≥ w0.2)) then false else (bif (decide ((i : Int) > 0)) then (bif (decide ((zB zD w0.1 ((i : Int) - 1)).1 ≥ x.1)) then false else (bif ((zBr w0 x.2).1 != x.1) then false else true)) else (bif ((zBr w0 x.2).1 != x.1) then false else true))))) (false, ())
theorem zZk : SF zJa (U3 fun (w0 : El zE) _ (n3 : Int) => (0 ≤ n3, (w0.1.length : Int) - n3)) := sfG trivial (an @zTX trivial) trivial
abbrev zIa (a0 : El zE) : Tr (Bool × Unit) := cond (!(z6 a0.2 1 1000000).1) (.v (false, ())) (cond (decide ((a0.1.length : Int) > 40)) (.v (false, ())) (.lp zJa (a0, (), (0 : Int), ()) (fun r16 => .v (r16.1, ())) (fun _ => .v (true, ()))))
def zCv a0 := (zIa a0).val
abbrev zX4 := fd [va zE] [vd .bool] (U1 zCv)
theorem zjo : Ok zX4 (U1 zIa) := okG (an zZk (an zPj trivial)) (an @zBK trivial) trivial
def zkI := cn mo [zAQ, zFy, zlE] [zJa] 178 zX4 Tryz.f178 (U1 zIa) zjo
def ziq (a0 : El zE) := (by
 simp only [zCv, zIa, zY, z0, zq, ze]
 rewrite [zPj, z3]
 dsimp only : zCv a0 = _)
theorem zii {s : El zE} (h : (zCv s).1 = true) : s.1.length ≤ 40 := by
 simp only [zCv, zIa, z0, ze, zY, zq, v7, zB1] at h
 have := of_decide_eq_false h.2.1
 omega
abbrev zEq (a0 : El zN) (a1 : El zF) : Tr (Bool × Unit) := .ck (zNJ a0) (cond (!(zCC a0).1) (.v (false, ())) (cond (!(zCv a1.1).1) (.v (false, ())) (cond (!(zIS a1.2.2.1).1) (.v (false, ())) (cond (!(zC0 a1.2.2.2.1).1) (.v (false, ())) (cond (!(zAC a1.2.2.2.2.1).1) (.v (false, ())) (cond (!(z6 a1.2.2.2.2.2.1 1 6).1) (.v (false, ())) (cond (!(z6 a1.2.2.2.2.2.2 0 1000000000).1) (.v (false, ())) (cond (!(zAS a0 a1).1) (.v (false, ())) (let k1 : Tr _ := cond (!(zCX a1).1) (.v (true, ())) (.v (decide ((a1.2.2.2.2.1.length : Int) > 0), ())); cond (zGt a1).1 (cond (zET a1.2.2.1).1 (.v (false, ())) (cond (decide ((a1.2.2.2.1.length : Int) > 0)) (.v (false, ())) k1)) k1)))))))))
def xD a0 a1 := (zEq a0 a1).val
def zOm (a0 : El zN) (_a1 : El zF) : Prop := ∀ r ∈ a0.2, SzR r
abbrev za9 := fq [va zN, va zF] [vd .bool] (U2 zOm) (U2 xD)
theorem zmh : Ok za9 (U2 zEq) := by
 rintro ⟨(a0 : El zN), (a1 : El zF), ⟨⟩⟩ hw hp
 replace hp : zOm a0 a1 := hp
 show (zEq a0 a1).ok
 unfold zOm at hp
 unfold zEq
 refine zg ?_ ?_
 ·exact hp
 ·simp
def zmZ := cn mo [zhf, zYm, zjg, zaG, zfg, zAQ, zX0, zT3, zjr, zkI] [] 100 za9 Tryz.f100 (U2 zEq) zmh
theorem znC {d : El zN} {x : El zF} (h : (xD d x).1 = true) : (zCC d).1 = true ∧ (zCv x.1).1 = true := by
 simp only [xD, zEq, z0, ze, zY, v7, zB1] at h
 exact ⟨zAT h.1, zAT h.2.1⟩
theorem zbS {d : El zN} {x : El zF} (h : (xD d x).1 = true) : ztI d x.1 := by
 obtain ⟨h1, h2⟩ := znC h
 obtain ⟨h3, h4⟩ := zNi h1
 exact ⟨zii h2, h3, fun r hr => znQ (h4 r hr)⟩
abbrev zF4 (a0 : El zN) (a1 : El zF) : Tr (El zA × Bool × Unit) := .ck (zOm a0 a1) (let k1 := (((0 : Int), (([] : Li .int), ([] : Li zH))), false, ()); cond (!(xD a0 a1).1) (.v k1) (cond (a1.2.2.2.2.2.1 != (1 : Int)) (.v k1) (.ck (zBx a0 a1) (.v ((zBA a0 a1).1, (zBA a0 a1).2.1, ())))))
def zDb a0 a1 := (zF4 a0 a1).val
def zOw (a0 : El zN) (_a1 : El zF) : Prop := ∀ r ∈ a0.2, SzR r
abbrev zal := fq [va zN, va zF] [.val true (.pr (.d .int) (.pr (.o (.d .int)) (.o (.d zH)))), vd .bool] (U2 zOw) (U2 zDb)
theorem znw : Ok zal (U2 zF4) := by
 rintro ⟨(a0 : El zN), (a1 : El zF), ⟨⟩⟩ hw hp
 replace hp : zOw a0 a1 := hp
 show (zF4 a0 a1).ok
 unfold zOw at hp
 unfold zF4
 refine zg ?_ ?_
 ·exact hp
 ·refine yK (fun _ => trivial) (fun h1 => ?_)
  have hI := (zAT h1)
  refine yK (fun _ => trivial) (fun h2 => ?_)
  replace h2 := zT9 h2
  refine zg ?_ ?_
  ·exact zbS hI
  ·trivial
def zmu := cn mo [zmZ, zQP] [] 31 zal Tryz.f31 (U2 zF4) znw
theorem zls {d : El zN} {x : El zF} (h : (zDb d x).2.1 = true) : (xD d x).1 = true := by
 revert h
 simp only [zDb, zF4, z0, ze, zY]
 cases (xD d x).1 with
 | true => intro _; rfl
 | false => intro h; cases h
abbrev zCo (a0 : El zN) (a1 : El zF) : Tr (El zF × Bool × Unit) := .ck (zOw a0 a1) (cond (!(zDb a0 a1).2.1) (.v ((zFb a1).1, false, ())) (.ck (zQv a0 (zFb a1).1 (zDb a0 a1).1) (.v ((xa a0 (zFb a1).1 (zDb a0 a1).1).1, true, ()))))
def zEs a0 a1 := (zCo a0 a1).val
@[simp] def zUU (a0 : El zN) (_a1 : El zF) : Prop := ∀ r ∈ a0.2, SzR r
abbrev zT1 := gq [va zN, va zF] [.val true (.pr (.pr (.o (.d zD)) (.d .int)) (.pr (.o (.d zA)) (.pr (.o (.d zC)) (.pr (.o (.d zD)) (.pr (.o (.d zP)) (.d (.pr .int .int))))))), vd .bool] (U2 zUU) (U2 zEs)
theorem zgL : Ok zT1 (U2 zCo) := fun a hw hp => by
 obtain ⟨(a0 : El zN), (a1 : El zF), ⟨⟩⟩ := a
 replace hp : ∀ r ∈ a0.2, SzR r := hp
 show (zCo a0 a1).ok
 unfold zCo
 refine zg hp (yK (fun _ => trivial) (fun h => zg ⟨hp, ?_⟩ trivial))
 have h1 := (zbS (zls (zAT h))).1
 have h2 := zmm a1.1
 show ((zFz a1.1).1.1.length : Int) ≤ 40
 rw [h2]; omega
def zgw := cn mo [zhx, zmu, zXA] [] 9 zT1 Tryz.f9 (U2 zCo) zgL
abbrev zDx : LB := ⟨[], ⟨84, [], [(0, vd (.lst zM)), (1, vd (.lst zM)), (5, vd .int), (6, vd .int)], []⟩, ⟨84, [], [(4, vd .bool)], []⟩, 2, U4 fun (l0 l1 : Li zM) (n5 n6 : Int) => .ix n5 l0 (cond (decide (n6 < ((zB zM l0 n5).2.1.length : Int))) (.ix n5 l0 (.ix n6 (zB zM l0 n5).2.1 (.ix n5 l1 (.ix n6 (zB zM l1 n5).2.1 (let k1 := zB yb (zB zM l0 n5).2.1 n6; let k2 := zB yb (zB zM l1 n5).2.1 n6; cond (!((k1.1 == k2.1) && ((k1.2.1.toList == k2.2.1.toList) && (((k1.2.2.1 == k2.2.2.1) && ((k1.2.2.2.1 == k2.2.2.2.1) && ((k1.2.2.2.2.toList == k2.2.2.2.2.toList) && true))) && true)))) (.v (.ret (false, ()))) (.ik (n6 + 1) (.v (.go (l0, l1, n5, (n6 + 1), ()))))))))) (.v (.brk (l0, l1, n5, n6, ()))))⟩
def zRv (l0 l1 : Li zM) (n5 : Int) := rA (l := zDx) (L := (zB zM l0 n5).2.1) (fun i => (l0, l1, n5, i, ())) (fun i x => bif (!((x.1 == (zB yb (zB zM l1 n5).2.1 (i : Int)).1) && ((x.2.1.toList == (zB yb (zB zM l1 n5).2.1 (i : Int)).2.1.toList) && (((x.2.2.1 == (zB yb (zB zM l1 n5).2.1 (i : Int)).2.2.1) && ((x.2.2.2.1 == (zB yb (zB zM l1 n5).2.1 (i : Int)).2.2.2.1) && ((x.2.2.2.2.toList == (zB yb (zB zM l1 n5).2.1 (i : Int)).2.2.2.2.toList) && true))) && true)))) then false else true) (false, ())
theorem zST : SF zDx (U4 fun (l0 l1 : Li zM) (n5 n6 : Int) => (0 ≤ n6 ∧ (0 ≤ n5 ∧ n5 < (l0.length : Int)) ∧ (0 ≤ n5 ∧ n5 < (l1.length : Int)) ∧ ((zB zM l0 n5).2.1.length : Int) = ((zB zM l1 n5).2.1.length : Int), ((zB zM l0 n5).2.1.length : Int) - n6)) := sfB (U4 fun (l0 : Li zM) _ (n5 : Int) _ => Bd zM (zB zM l0 n5)) (fun x hw => wdG hw.1 _)
abbrev zG9 : LB := ⟨[], ⟨84, [], [(0, vd (.lst zM)), (1, vd (.lst zM)), (5, vd .int)], []⟩, ⟨84, [], [(4, vd .bool)], []⟩, 0, U3 fun (l0 l1 : Li zM) (n5 : Int) => cond (decide (n5 < (l0.length : Int))) (.ix n5 l0 (.ix n5 l1 (cond (!((zB zM l0 n5).1.toList == (zB zM l1 n5).1.toList)) (.v (.ret (false, ()))) (.ix n5 l0 (.ix n5 l1 (cond (!((zB zM l0 n5).2.2 == (zB zM l1 n5).2.2)) (.v (.ret (false, ()))) (.ix n5 l0 (.ix n5 l1 (cond (((zB zM l0 n5).2.1.length : Int) != ((zB zM l1 n5).2.1.length : Int)) (.v (.ret (false, ()))) (.lp zDx (l0, l1, n5, (0 : Int), ()) (fun r4 => .v (.ret (r4.1, ()))) (fun t1 => .ik (t1.2.2.1 + (1 : Int)) (.v (.go (t1.1, t1.2.1, (t1.2.2.1 + (1 : Int)), ())))))))))))))) (.v (.brk (l0, l1, n5, ())))⟩
theorem zSU : SF zG9 (U3 fun (l0 l1 : Li zM) (n5 : Int) => (0 ≤ n5 ∧ (l0.length : Int) ≤ (l1.length : Int), (l0.length : Int) - n5)) := sfG (an zST (an zRv trivial)) trivial trivial
abbrev zIU (a0 a1 : Li zM) : Tr (Bool × Unit) := cond ((a0.length : Int) != (a1.length : Int)) (.v (false, ())) (.lp zG9 (a0, a1, (0 : Int), ()) (fun r5 => .v (r5.1, ())) (fun _ => .v (true, ())))
def zNa a0 a1 := (zIU a0 a1).val
abbrev zNH := fd [vd (.lst zM), vd (.lst zM)] [vd .bool] (U2 zNa)
theorem zWI : Ok zNH (U2 zIU) := vN zSU
def zWv := cn mo [] [zG9, zDx] 285 zNH Tryz.f285 (U2 zIU) zWI
abbrev zD7 : LB := ⟨[], ⟨81, [.d zp, .d zp], [(0, vd (.lst zp)), (1, vd (.lst zp)), (5, vd .int), (6, .pt 0 0), (7, .pt 1 0), (8, vd .int)], []⟩, ⟨81, [], [(4, vd .bool)], []⟩, 2, U8 fun (w0 w1 : El zp) (l0 l1 : Li zp) (n5 : Int) _ _ (n8 : Int) => cond (decide (n8 < (w0.2.2.1.length : Int))) (.ix n8 w0.2.2.1 (.ix n8 w1.2.2.1 (let k1 := zB zo w0.2.2.1 n8; let k2 := zB zo w1.2.2.1 n8; cond (!((k1.1.toList == k2.1.toList) && (((k1.2.1.1 == k2.2.1.1) && ((k1.2.1.2.1.toList == k2.2.1.2.1.toList) && (((k1.2.1.2.2.1 == k2.2.1.2.2.1) && ((k1.2.1.2.2.2.1 == k2.2.1.2.2.2.1) && ((k1.2.1.2.2.2.2.toList == k2.2.1.2.2.2.2.toList) && true))) && true))) && (((k1.2.2.1 == k2.2.2.1) && ((k1.2.2.2.1.toList == k2.2.2.2.1.toList) && (((k1.2.2.2.2.1 == k2.2.2.2.2.1) && ((k1.2.2.2.2.2.1 == k2.2.2.2.2.2.1) && ((k1.2.2.2.2.2.2.toList == k2.2.2.2.2.2.2.toList) && true))) && true))) && true)))) (.v (.ret (false, ()))) (.ik (n8 + 1) (.v (.go (w0, w1, l0, l1, n5, (), (), (n8 + 1), ()))))))) (.v (.brk (w0, w1, l0, l1, n5, (), (), n8, ())))⟩
def zRD (w0 w1 : El zp) (l0 l1 : Li zp) (n5 : Int) := rA (l := zD7) (L := w0.2.2.1) (fun i => (w0, w1, l0, l1, n5, (), (), i, ())) (fun i x => bif (!((x.1.toList == (zB zo w1.2.2.1 (i : Int)).1.toList) && (((x.2.1.1 == (zB zo w1.2.2.1 (i : Int)).2.1.1) && ((x.2.1.2.1.toList == (zB zo w1.2.2.1 (i : Int)).2.1.2.1.toList) && (((x.2.1.2.2.1 == (zB zo w1.2.2.1 (i : Int)).2.1.2.2.1) && ((x.2.1.2.2.2.1 == (zB zo w1.2.2.1 (i : Int)).2.1.2.2.2.1) && ((x.2.1.2.2.2.2.toList == (zB zo w1.2.2.1 (i : Int)).2.1.2.2.2.2.toList) && true))) && true))) && (((x.2.2.1 == (zB zo w1.2.2.1 (i : Int)).2.2.1) && ((x.2.2.2.1.toList == (zB zo w1.2.2.1 (i : Int)).2.2.2.1.toList) && (((x.2.2.2.2.1 == (zB zo w1.2.2.1 (i : Int)).2.2.2.2.1) && ((x.2.2.2.2.2.1 == (zB zo w1.2.2.1 (i : Int)).2.2.2.2.2.1) && ((x.2.2.2.2.2.2.toList == (zB zo w1.2.2.1 (i : Int)).2.2.2.2.2.2.toList) && true))) && true))) && true)))) then false else true) (false, ())
theorem zRT : SF zD7 (U8 fun (w0 w1 : El zp) _ _ _ _ _ (n8 : Int) => (0 ≤ n8 ∧ (w0.2.2.1.length : Int) ≤ (w1.2.2.1.length : Int), (w0.2.2.1.length : Int) - n8)) := sfA
abbrev zG3 : LB := ⟨[], ⟨81, [], [(0, vd (.lst zp)), (1, vd (.lst zp)), (5, vd .int)], []⟩, ⟨81, [], [(4, vd .bool)], []⟩, 0, U3 fun (l0 l1 : Li zp) (n5 : Int) => cond (decide (n5 < (l0.length : Int))) (.ix n5 l0 (.ix n5 l1 (cond ((zB zp l0 n5).1 != (zB zp l1 n5).1) (.v (.ret (false, ()))) (cond (!((zB zp l0 n5).2.1.toList == (zB zp l1 n5).2.1.toList)) (.v (.ret (false, ()))) (cond ((zB zp l0 n5).2.2.2.1 != (zB zp l1 n5).2.2.2.1) (.v (.ret (false, ()))) (cond (!((zB zp l0 n5).2.2.2.2.toList == (zB zp l1 n5).2.2.2.2.toList)) (.v (.ret (false, ()))) (cond (((zB zp l0 n5).2.2.1.length : Int) != ((zB zp l1 n5).2.2.1.length : Int)) (.v (.ret (false, ()))) (.lp zD7 ((zB zp l0 n5), (zB zp l1 n5), l0, l1, n5, (), (), (0 : Int), ()) (fun r16 => .v (.ret (r16.1, ()))) (fun t1 => let k1 := t1.2.2.2.2.1 + (1 : Int); .ik k1 (.v (.go (t1.2.2.1, t1.2.2.2.1, k1, ())))))))))))) (.v (.brk (l0, l1, n5, ())))⟩
theorem zSW : SF zG3 (U3 fun (l0 l1 : Li zp) (n5 : Int) => (0 ≤ n5 ∧ (l0.length : Int) ≤ (l1.length : Int), (l0.length : Int) - n5)) := sfG (an zRT (an zRD trivial)) trivial trivial
abbrev zIu (a0 a1 : Li zp) : Tr (Bool × Unit) := cond ((a0.length : Int) != (a1.length : Int)) (.v (false, ())) (.lp zG3 (a0, a1, (0 : Int), ()) (fun r17 => .v (r17.1, ())) (fun _ => .v (true, ())))
def zOA a0 a1 := (zIu a0 a1).val
abbrev zN9 := fd [vd (.lst zp), vd (.lst zp)] [vd .bool] (U2 zOA)
theorem zYW : Ok zN9 (U2 zIu) := vN zSW
def zWC := cn mo [] [zG3, zD7] 286 zN9 Tryz.f286 (U2 zIu) zYW
abbrev zG5 : LB := ⟨[], ⟨57, [.d zG, .d zG], [(2, .pt 0 0), (3, .pt 1 0), (5, vd .int)], []⟩, ⟨57, [], [(4, vd .bool)], []⟩, 0, U5 fun (w0 w1 : El zG) _ _ (n5 : Int) => cond (decide (n5 < (w0.2.2.2.1.length : Int))) (.ix n5 w0.2.2.2.1 (.ix n5 w1.2.2.2.1 (let k1 := zB z5 w0.2.2.2.1 n5; let k2 := zB z5 w1.2.2.2.1 n5; cond (!((k1.1 == k2.1) && (((k1.2.1.1 == k2.2.1.1) && ((k1.2.1.2.1.toList == k2.2.1.2.1.toList) && (((k1.2.1.2.2.1 == k2.2.1.2.2.1) && ((k1.2.1.2.2.2.1 == k2.2.1.2.2.2.1) && ((k1.2.1.2.2.2.2.toList == k2.2.1.2.2.2.2.toList) && true))) && true))) && (((k1.2.2.1 == k2.2.2.1) && ((k1.2.2.2.1.toList == k2.2.2.2.1.toList) && (((k1.2.2.2.2.1 == k2.2.2.2.2.1) && ((k1.2.2.2.2.2.1 == k2.2.2.2.2.2.1) && ((k1.2.2.2.2.2.2.toList == k2.2.2.2.2.2.2.toList) && true))) && true))) && true)))) (.v (.ret (false, ()))) (.ik (n5 + 1) (.v (.go (w0, w1, (), (), (n5 + 1), ()))))))) (.v (.brk (w0, w1, (), (), n5, ())))⟩
theorem zSY : SF zG5 (U5 fun (w0 w1 : El zG) _ _ (n5 : Int) => (0 ≤ n5 ∧ (w0.2.2.2.1.length : Int) ≤ (w1.2.2.2.1.length : Int), (w0.2.2.2.1.length : Int) - n5)) := sfA
abbrev zIh (a0 a1 : El zG) : Tr (Bool × Unit) := cond (!(a0.1.toList == a1.1.toList)) (.v (false, ())) (cond (a0.2.1 != a1.2.1) (.v (false, ())) (cond ((a0.2.2.2.1.length : Int) != (a1.2.2.2.1.length : Int)) (.v (false, ())) (.lp zG5 (a0, a1, (), (), (0 : Int), ()) (fun r10 => .v (r10.1, ())) (fun t1 => cond (zNa t1.1.2.2.1 t1.2.1.2.2.1).1 (.v ((zOA t1.1.2.2.2.2 t1.2.1.2.2.2.2).1, ())) (.v (false, ()))))))
def zNZ a0 a1 := (zIh a0 a1).val
abbrev zNT := fd [va zG, va zG] [vd .bool] (U2 zNZ)
theorem zWp : Ok zNT (U2 zIh) := vN zSY
def zXu := cn mo [zWv, zWC] [zG5] 195 zNT Tryz.f195 (U2 zIh) zWp
abbrev zNw : LB := ⟨[], ⟨39, [.d zN, .d zN], [(2, .pt 0 0), (3, .pt 1 0), (5, vd .int)], []⟩, ⟨39, [], [(4, vd .bool)], []⟩, 0, U5 fun (w0 w1 : El zN) _ _ (n5 : Int) => cond (decide (n5 < (w0.2.length : Int))) (.ix n5 w0.2 (.ix n5 w1.2 (cond (!(zNZ (zB zG w0.2 n5) (zB zG w1.2 n5)).1) (.v (.ret (false, ()))) (.ik (n5 + 1) (.v (.go (w0, w1, (), (), (n5 + 1), ()))))))) (.v (.brk (w0, w1, (), (), n5, ())))⟩
theorem zZc : SF zNw (U5 fun (w0 w1 : El zN) _ _ (n5 : Int) => (0 ≤ n5 ∧ (w0.2.length : Int) ≤ (w1.2.length : Int), (w0.2.length : Int) - n5)) := sfA
abbrev zQY (a0 a1 : El zN) : Tr (Bool × Unit) := cond (!(a0.1.toList == a1.1.toList)) (.v (false, ())) (cond ((a0.2.length : Int) != (a1.2.length : Int)) (.v (false, ())) (.lp zNw (a0, a1, (), (), (0 : Int), ()) (fun r3 => .v (r3.1, ())) (fun _ => .v (true, ()))))
def zQa a0 a1 := (zQY a0 a1).val
abbrev zV0 := fd [va zN, va zN] [vd .bool] (U2 zQa)
theorem ziL : Ok zV0 (U2 zQY) := vN zZc
def zjn := cn mo [zXu] [zNw] 104 zV0 Tryz.f104 (U2 zQY) ziL
abbrev zDD : LB := ⟨[], ⟨70, [], [(0, vd (.lst zA)), (1, vd (.lst zA)), (5, vd .int), (6, vd .int)], []⟩, ⟨70, [], [(4, vd .bool)], []⟩, 2, U4 fun (l0 l1 : Li zA) (n5 n6 : Int) => .ix n5 l0 (cond (decide (n6 < ((zB zA l0 n5).2.2.length : Int))) (.ix n5 l0 (.ix n6 (zB zA l0 n5).2.2 (.ix n5 l1 (.ix n6 (zB zA l1 n5).2.2 (let k1 := zB zH (zB zA l0 n5).2.2 n6; let k2 := zB zH (zB zA l1 n5).2.2 n6; cond (!((k1.1.toList == k2.1.toList) && (((k1.2.1 == k2.2.1) && ((k1.2.2.1 == k2.2.2.1) && ((k1.2.2.2.toList == k2.2.2.2.toList) && true))) && true))) (.v (.ret (false, ()))) (.ik (n6 + 1) (.v (.go (l0, l1, n5, (n6 + 1), ()))))))))) (.v (.brk (l0, l1, n5, n6, ()))))⟩
def zZu (l0 l1 : Li zA) (n5 : Int) := rA (l := zDD) (L := (zB zA l0 n5).2.2) (fun i => (l0, l1, n5, i, ())) (fun i x => bif (!((x.1.toList == (zB zH (zB zA l1 n5).2.2 (i : Int)).1.toList) && (((x.2.1 == (zB zH (zB zA l1 n5).2.2 (i : Int)).2.1) && ((x.2.2.1 == (zB zH (zB zA l1 n5).2.2 (i : Int)).2.2.1) && ((x.2.2.2.toList == (zB zH (zB zA l1 n5).2.2 (i : Int)).2.2.2.toList) && true))) && true))) then false else true) (false, ())
theorem zZz : SF zDD (U4 fun (l0 l1 : Li zA) (n5 n6 : Int) => (0 ≤ n6 ∧ (0 ≤ n5 ∧ n5 < (l0.length : Int)) ∧ (0 ≤ n5 ∧ n5 < (l1.length : Int)) ∧ ((zB zA l0 n5).2.2.length : Int) = ((zB zA l1 n5).2.2.length : Int), ((zB zA l0 n5).2.2.length : Int) - n6)) := sfB (U4 fun (l0 : Li zA) _ (n5 : Int) _ => Bd zA (zB zA l0 n5)) (fun x hw => wdG hw.1 _)
abbrev zEe : LB := ⟨[], ⟨70, [], [(0, vd (.lst zA)), (1, vd (.lst zA)), (5, vd .int)], []⟩, ⟨70, [], [(4, vd .bool)], []⟩, 0, U3 fun (l0 l1 : Li zA) (n5 : Int) => cond (decide (n5 < (l0.length : Int))) (.ix n5 l0 (.ix n5 l1 (cond (!(vJ (zB zA l0 n5) (zB zA l1 n5)).1) (.v (.ret (false, ()))) (.ix n5 l0 (.ix n5 l1 (cond (((zB zA l0 n5).2.2.length : Int) != ((zB zA l1 n5).2.2.length : Int)) (.v (.ret (false, ()))) (.lp zDD (l0, l1, n5, (0 : Int), ()) (fun r3 => .v (.ret (r3.1, ()))) (fun t1 => .ik (t1.2.2.1 + (1 : Int)) (.v (.go (t1.1, t1.2.1, (t1.2.2.1 + (1 : Int)), ()))))))))))) (.v (.brk (l0, l1, n5, ())))⟩
theorem zaj : SF zEe (U3 fun (l0 l1 : Li zA) (n5 : Int) => (0 ≤ n5 ∧ (l0.length : Int) ≤ (l1.length : Int), (l0.length : Int) - n5)) := sfG (an zZz (an zZu trivial)) trivial trivial
abbrev zLD (a0 a1 : Li zA) : Tr (Bool × Unit) := cond ((a0.length : Int) != (a1.length : Int)) (.v (false, ())) (.lp zEe (a0, a1, (0 : Int), ()) (fun r4 => .v (r4.1, ())) (fun _ => .v (true, ())))
def zMj a0 a1 := (zLD a0 a1).val
abbrev zYA := fd [vd (.lst zA), vd (.lst zA)] [vd .bool] (U2 zMj)
theorem zj4 : Ok zYA (U2 zLD) := vN zaj
def ziA := cn mo [zR2] [zEe, zDD] 198 zYA Tryz.f198 (U2 zLD) zj4
abbrev zDP : LB := ⟨[], ⟨68, [], [(0, vd (.lst zC)), (1, vd (.lst zC)), (5, vd .int)], []⟩, ⟨68, [], [(4, vd .bool)], []⟩, 0, U3 fun (l0 l1 : Li zC) (n5 : Int) => cond (decide (n5 < (l0.length : Int))) (.ix n5 l0 (.ix n5 l1 (cond (!(zI (zB zC l0 n5).1 (zB zC l1 n5).1).1) (.v (.ret (false, ()))) (cond (!((zB zC l0 n5).2.1.toList == (zB zC l1 n5).2.1.toList)) (.v (.ret (false, ()))) (cond ((zB zC l0 n5).2.2.1 != (zB zC l1 n5).2.2.1) (.v (.ret (false, ()))) (cond ((zB zC l0 n5).2.2.2.1 != (zB zC l1 n5).2.2.2.1) (.v (.ret (false, ()))) (cond ((zB zC l0 n5).2.2.2.2.1 != (zB zC l1 n5).2.2.2.2.1) (.v (.ret (false, ()))) (cond (!(((zB zC l0 n5).2.2.2.2.2.1 == (zB zC l1 n5).2.2.2.2.2.1) && (((zB zC l0 n5).2.2.2.2.2.2.1 == (zB zC l1 n5).2.2.2.2.2.2.1) && (((zB zC l0 n5).2.2.2.2.2.2.2.toList == (zB zC l1 n5).2.2.2.2.2.2.2.toList) && true)))) (.v (.ret (false, ()))) (.ik (n5 + 1) (.v (.go (l0, l1, (n5 + 1), ())))))))))))) (.v (.brk (l0, l1, n5, ())))⟩
def zQk (l0 l1 : Li zC) := rA (l := zDP) (L := l0) (fun i => (l0, l1, i, ())) (fun i x => bif (!(zI x.1 (zB zC l1 (i : Int)).1).1) then false else (bif (!(x.2.1.toList == (zB zC l1 (i : Int)).2.1.toList)) then false else (bif (x.2.2.1 != (zB zC l1 (i : Int)).2.2.1) then false else (bif (x.2.2.2.1 != (zB zC l1 (i : Int)).2.2.2.1) then false else (bif (x.2.2.2.2.1 != (zB zC l1 (i : Int)).2.2.2.2.1) then false else (bif (!((x.2.2.2.2.2.1 == (zB zC l1 (i : Int)).2.2.2.2.2.1) && ((x.2.2.2.2.2.2.1 == (zB zC l1 (i : Int)).2.2.2.2.2.2.1) && ((x.2.2.2.2.2.2.2.toList == (zB zC l1 (i : Int)).2.2.2.2.2.2.2.toList) && true)))) then false else true)))))) (false, ())
theorem zQg : SF zDP (U3 fun (l0 l1 : Li zC) (n5 : Int) => (0 ≤ n5 ∧ (l0.length : Int) ≤ (l1.length : Int), (l0.length : Int) - n5)) := sfA
abbrev zD4 (a0 a1 : Li zC) : Tr (Bool × Unit) := cond ((a0.length : Int) != (a1.length : Int)) (.v (false, ())) (.lp zDP (a0, a1, (0 : Int), ()) (fun r2 => .v (r2.1, ())) (fun _ => .v (true, ())))
def zB9 a0 a1 := (zD4 a0 a1).val
abbrev zNB := fd [vd (.lst zC), vd (.lst zC)] [vd .bool] (U2 zB9)
theorem zU0 : Ok zNB (U2 zD4) := vN zQg
def zVD := cn mo [zBm] [zDP] 197 zNB Tryz.f197 (U2 zD4) zU0
def zU7 (a0 a1 : Li zC) := (by
 simp only [zB9, zD4, zY, z0, zq, ze]
 rewrite [zQk, z3]
 dsimp only : zB9 a0 a1 = _)
abbrev zDd : LB := ⟨[], ⟨56, [.d zE, .d zE], [(2, .pt 0 0), (3, .pt 1 0), (5, vd .int)], []⟩, ⟨56, [], [(4, vd .bool)], []⟩, 0, U5 fun (w0 w1 : El zE) _ _ (n5 : Int) => cond (decide (n5 < (w0.1.length : Int))) (.ix n5 w0.1 (.ix n5 w1.1 (cond ((zB zD w0.1 n5).1 != (zB zD w1.1 n5).1) (.v (.ret (false, ()))) (.ix n5 w0.1 (.ix n5 w1.1 (cond (!(zI (zB zD w0.1 n5).2 (zB zD w1.1 n5).2).1) (.v (.ret (false, ()))) (.ik (n5 + 1) (.v (.go (w0, w1, (), (), (n5 + 1), ())))))))))) (.v (.brk (w0, w1, (), (), n5, ())))⟩
def zQT (w0 w1 : El zE) := rA (l := zDd) (L := w0.1) (fun i => (w0, w1, (), (), i, ())) (fun i x => bif (x.1 != (zB zD w1.1 (i : Int)).1) then false else (bif (!(zI x.2 (zB zD w1.1 (i : Int)).2).1) then false else true)) (false, ())
theorem zQ4 : SF zDd (U5 fun (w0 w1 : El zE) _ _ (n5 : Int) => (0 ≤ n5 ∧ (w0.1.length : Int) ≤ (w1.1.length : Int), (w0.1.length : Int) - n5)) := sfA
abbrev zD6 (a0 a1 : El zE) : Tr (Bool × Unit) := cond (a0.2 != a1.2) (.v (false, ())) (cond ((a0.1.length : Int) != (a1.1.length : Int)) (.v (false, ())) (.lp zDd (a0, a1, (), (), (0 : Int), ()) (fun r3 => .v (r3.1, ())) (fun _ => .v (true, ()))))
def zCQ a0 a1 := (zD6 a0 a1).val
abbrev zM3 := fd [va zE, va zE] [vd .bool] (U2 zCQ)
theorem zVC : Ok zM3 (U2 zD6) := vN zQ4
def zUz := cn mo [zBm] [zDd] 196 zM3 Tryz.f196 (U2 zD6) zVC
def zVG (a0 a1 : El zE) := (by
 simp only [zCQ, zD6, zY, z0, zq, ze]
 rewrite [zQT, z3]
 dsimp only : zCQ a0 a1 = _)
abbrev zDw : LB := ⟨[], ⟨133, [.d zF, .d zF], [(2, .pt 0 0), (3, .pt 1 0), (5, vd .int)], []⟩, ⟨133, [], [(4, vd .bool)], []⟩, 0, U5 fun (w0 w1 : El zF) _ _ (n5 : Int) => cond (decide (n5 < (w0.2.2.2.1.length : Int))) (.ix n5 w0.2.2.2.1 (.ix n5 w1.2.2.2.1 (let k1 := zB zD w0.2.2.2.1 n5; let k2 := zB zD w1.2.2.2.1 n5; cond (k1.1 != k2.1) (.v (.ret (false, ()))) (.ix n5 w0.2.2.2.1 (.ix n5 w1.2.2.2.1 (cond (!(zI k1.2 k2.2).1) (.v (.ret (false, ()))) (.ik (n5 + 1) (.v (.go (w0, w1, (), (), (n5 + 1), ())))))))))) (.v (.brk (w0, w1, (), (), n5, ())))⟩
def zJZ (w0 w1 : El zF) := rA (l := zDw) (L := w0.2.2.2.1) (fun i => (w0, w1, (), (), i, ())) (fun i x => bif (x.1 != (zB zD w1.2.2.2.1 (i : Int)).1) then false else (bif (!(zI x.2 (zB zD w1.2.2.2.1 (i : Int)).2).1) then false else true)) (false, ())
theorem zRw : SF zDw (U5 fun (w0 w1 : El zF) _ _ (n5 : Int) => (0 ≤ n5 ∧ (w0.2.2.2.1.length : Int) ≤ (w1.2.2.2.1.length : Int), (w0.2.2.2.1.length : Int) - n5)) := sfA
abbrev zD3 : LB := ⟨[], ⟨133, [.d zF, .d zF], [(2, .pt 0 0), (3, .pt 1 0), (6, vd .int)], []⟩, ⟨133, [], [(4, vd .bool)], []⟩, 2, U5 fun (w0 w1 : El zF) _ _ (n6 : Int) => cond (decide (n6 < (w0.2.2.2.2.1.length : Int))) (.ix n6 w0.2.2.2.2.1 (.ix n6 w1.2.2.2.2.1 (let k1 := zB zP w0.2.2.2.2.1 n6; let k2 := zB zP w1.2.2.2.2.1 n6; cond (!(k1.1.toList == k2.1.toList)) (.v (.ret (false, ()))) (.ix n6 w0.2.2.2.2.1 (.ix n6 w1.2.2.2.2.1 (cond (!(zI k1.2 k2.2).1) (.v (.ret (false, ()))) (.ik (n6 + 1) (.v (.go (w0, w1, (), (), (n6 + 1), ())))))))))) (.v (.brk (w0, w1, (), (), n6, ())))⟩
def zJm (w0 w1 : El zF) := rA (l := zD3) (L := w0.2.2.2.2.1) (fun i => (w0, w1, (), (), i, ())) (fun i x => bif (!(x.1.toList == (zB zP w1.2.2.2.2.1 (i : Int)).1.toList)) then false else (bif (!(zI x.2 (zB zP w1.2.2.2.2.1 (i : Int)).2).1) then false else true)) (false, ())
theorem zSF : SF zD3 (U5 fun (w0 w1 : El zF) _ _ (n6 : Int) => (0 ≤ n6 ∧ (w0.2.2.2.2.1.length : Int) ≤ (w1.2.2.2.2.1.length : Int), (w0.2.2.2.2.1.length : Int) - n6)) := sfA
abbrev zFO (a0 a1 : El zF) : Tr (Bool × Unit) := cond (a0.2.2.2.2.2.1 != a1.2.2.2.2.2.1) (.v (false, ())) (cond (a0.2.2.2.2.2.2 != a1.2.2.2.2.2.2) (.v (false, ())) (cond (!(zCQ a0.1 a1.1).1) (.v (false, ())) (cond (!(zB9 a0.2.2.1 a1.2.2.1).1) (.v (false, ())) (cond (!(zMj a0.2.1 a1.2.1).1) (.v (false, ())) (cond ((a0.2.2.2.1.length : Int) != (a1.2.2.2.1.length : Int)) (.v (false, ())) (cond ((a0.2.2.2.2.1.length : Int) != (a1.2.2.2.2.1.length : Int)) (.v (false, ())) (.lp zDw (a0, a1, (), (), (0 : Int), ()) (fun r143 => .v (r143.1, ())) (fun t1 => .lp zD3 (t1.1, t1.2.1, (), (), (0 : Int), ()) (fun r144 => .v (r144.1, ())) (fun _ => .v (true, ()))))))))))
def zBS a0 a1 := (zFO a0 a1).val
abbrev zOK := fd [va zF, va zF] [vd .bool] (U2 zBS)
theorem zWW : Ok zOK (U2 zFO) := zuk zRw zJZ zSF zJm
def zYH := cn mo [zBm, ziA, zVD, zUz] [zDw, zD3] 105 zOK Tryz.f105 (U2 zFO) zWW
def zXD (a0 a1 : El zF) := (by
 simp only [zBS, zFO, zY, z0, zq, ze]
 rewrite [zJZ, z3, zJm, z3]
 dsimp only : zBS a0 a1 = _)
abbrev zHk : LB := ⟨[], ⟨95, [.d zJp, .d zJp], [(2, .pt 0 0), (3, .pt 1 0), (5, vd .int)], []⟩, ⟨95, [], [(4, vd .bool)], []⟩, 0, U5 fun (w0 w1 : El zJp) _ _ (n5 : Int) => cond (decide (n5 < (w0.1.length : Int))) (.ix n5 w0.1 (.ix n5 w1.1 (cond (!(zQa (zB zN w0.1 n5) (zB zN w1.1 n5)).1) (.v (.ret (false, ()))) (.ik (n5 + 1) (.v (.go (w0, w1, (), (), (n5 + 1), ()))))))) (.v (.brk (w0, w1, (), (), n5, ())))⟩
def zNx (w0 w1 : El zJp) := rA (l := zHk) (L := w0.1) (fun i => (w0, w1, (), (), i, ())) (fun i x => bif (!(zQa x (zB zN w1.1 (i : Int))).1) then false else true) (false, ())
theorem zXW : SF zHk (U5 fun (w0 w1 : El zJp) _ _ (n5 : Int) => (0 ≤ n5 ∧ (w0.1.length : Int) ≤ (w1.1.length : Int), (w0.1.length : Int) - n5)) := sfA
abbrev zHh : LB := ⟨[], ⟨95, [.d zJp, .d zJp], [(2, .pt 0 0), (3, .pt 1 0), (6, vd .int)], []⟩, ⟨95, [], [(4, vd .bool)], []⟩, 2, U5 fun (w0 w1 : El zJp) _ _ (n6 : Int) => cond (decide (n6 < (w0.2.1.length : Int))) (.ix n6 w0.2.1 (.ix n6 w1.2.1 (let k1 := zB zba w0.2.1 n6; let k2 := zB zba w1.2.1 n6; cond (!(k1.1.toList == k2.1.toList)) (.v (.ret (false, ()))) (cond (!(k1.2.1.toList == k2.2.1.toList)) (.v (.ret (false, ()))) (cond (!(zBS k1.2.2 k2.2.2).1) (.v (.ret (false, ()))) (.ik (n6 + 1) (.v (.go (w0, w1, (), (), (n6 + 1), ()))))))))) (.v (.brk (w0, w1, (), (), n6, ())))⟩
def zOP (w0 w1 : El zJp) := rA (l := zHh) (L := w0.2.1) (fun i => (w0, w1, (), (), i, ())) (fun i x => bif (!(x.1.toList == (zB zba w1.2.1 (i : Int)).1.toList)) then false else (bif (!(x.2.1.toList == (zB zba w1.2.1 (i : Int)).2.1.toList)) then false else (bif (!(zBS x.2.2 (zB zba w1.2.1 (i : Int)).2.2).1) then false else true))) (false, ())
theorem zXF : SF zHh (U5 fun (w0 w1 : El zJp) _ _ (n6 : Int) => (0 ≤ n6 ∧ (w0.2.1.length : Int) ≤ (w1.2.1.length : Int), (w0.2.1.length : Int) - n6)) := sfA
abbrev zJH (a0 a1 : El zJp) : Tr (Bool × Unit) := cond (a0.2.2.1 != a1.2.2.1) (.v (false, ())) (cond (a0.2.2.2 != a1.2.2.2) (.v (false, ())) (cond ((a0.1.length : Int) != (a1.1.length : Int)) (.v (false, ())) (cond ((a0.2.1.length : Int) != (a1.2.1.length : Int)) (.v (false, ())) (.lp zHk (a0, a1, (), (), (0 : Int), ()) (fun r18 => .v (r18.1, ())) (fun t1 => .lp zHh (t1.1, t1.2.1, (), (), (0 : Int), ()) (fun r19 => .v (r19.1, ())) (fun _ => .v (true, ())))))))
def zJL a0 a1 := (zJH a0 a1).val
abbrev zTg := fd [va zJp, va zJp] [vd .bool] (U2 zJL)
theorem zfT : Ok zTg (U2 zJH) := zuk zXW zNx zXF zOP
def zhc := cn mo [zjn, zYH] [zHk, zHh] 33 zTg Tryz.f33 (U2 zJH) zfT
def zfa (a0 a1 : El zJp) := (by
 simp only [zJL, zJH, zY, z0, zq, ze]
 rewrite [zNx, z3, zOP, z3]
 dsimp only : zJL a0 a1 = _)
def zGi (a0 a1 : El zF) : Bool × Unit := ((zJL (([] : Li zN), ([((⟨#[]⟩ : ByteArray), ((⟨#[]⟩ : ByteArray), a0))], ((0 : Int), (0 : Int)))) (([] : Li zN), ([((⟨#[]⟩ : ByteArray), ((⟨#[]⟩ : ByteArray), a1))], ((0 : Int), (0 : Int))))).1, ())
abbrev zgo := fd [va zF, va zF] [vd .bool] (U2 zGi)
def zhF := cv mo [zhc] 10 zgo Tryz.f10
abbrev zFd (a0 : Li .u8) : Tr (Bool × Unit) := cond (ziv a0).1 (.v (true, ())) (.ck (zUT a0) (.ck (zHo (z8 a0).1 (z8 a0).2.1) (let y1 := (yN (z8 a0).1 (z8 a0).2.1); .ck (zTo (z8 a0).1 (z8 a0).2.1) (let y2 := (zJR (z8 a0).1 (z8 a0).2.1); .ck (zUU (z8 a0).1 (z8 a0).2.1) (let y3 := (zEs (z8 a0).1 (z8 a0).2.1); cond (!(y1.2.1 == y2.2.1)) (.v (false, ())) (cond (!(y2.2.1 == y3.2.1)) (.v (false, ())) (cond (!(zGi y2.1 y3.1).1) (.v (false, ())) (cond (!y1.2.1) (.v ((zGi (z8 a0).2.1 y2.1).1, ())) (.ck (zHo (z8 a0).1 y2.1) (let y4 := (yN (z8 a0).1 y2.1); let k1 : Tr _ := .ck (zKi (z8 a0).1 y2.1) (cond (!(zBX (z8 a0).1 y2.1).1) (.v (false, ())) (cond (y2.1.2.2.2.2.2.2 == (z8 a0).2.1.2.2.2.2.2.2) (cond (decide ((y2.1.2.1.length : Int) ≤ (IntKind.wrap .i64 (((z8 a0).2.1.2.1.length : Int) + 1)))) (cond (y2.1.2.2.2.2.2.1 == (1 : Int)) (.v (true, ())) (cond (zGu y2.1).1 (.v (true, ())) (.v ((y2.1.2.2.2.2.2.1 == (3 : Int)), ())))) (.v (false, ()))) (.v (false, ())))); cond y4.2.1 (cond (zDe y4.1 y1.1).1 (.v (false, ())) k1) k1))))))))))
def zIm a0 := (zFd a0).val
abbrev zLw := fd [vd (.lst .u8)] [vd .bool] (U1 zIm)
theorem zik : Ok zLw (U1 zFd) := fun a hw hp => by
 obtain ⟨(a0 : Li .u8), ⟨⟩⟩ := a
 show (zFd a0).ok
 unfold zFd
 refine yK (fun _ => trivial) (fun h => ?_)
 have hl : (a0.length : Int) ≤ 1048576 := Int.not_lt.1 (of_decide_eq_false h)
 have hz : ∀ r ∈ (z8 a0).1.2, SzR r := zhA hl
 dsimp only
 repeat' first | (refine zg ?_ ?_) | (refine yK (fun _ => ?_) (fun _ => ?_)) | with_reducible exact okV.2 trivial
 all_goals first | exact hl | exact hz
def zh1 : Gv := ⟨true, fun _ => none, false⟩
def ziR := cn mo [ztb, zgQ, zaz, zhJ, zgw, zhF, zSN, zgJ, zbg] [] 3 zLw Tryz.f3 (U1 zFd) zik (g := zh1)
end
end Go.Proofs.YtkdidadegedmiaaGreat

namespace Go.Proofs.YtkdidadegedmiaaGreat
open Go.RowKit
end Go.Proofs.YtkdidadegedmiaaGreat
namespace Go.Proofs.YtkdidadegedmiaaGreat
open Go.RowKit
theorem b1 {x y : Bool × Unit} (h : x.1 = true ↔ y.1 = true) : x = y := by
 obtain ⟨x, ⟨⟩⟩ := x
 obtain ⟨y, ⟨⟩⟩ := y
 have := Bool.eq_iff_iff.2 h
 simp only at this; rw [this]
theorem ct {c x y : Bool} : (bif c then x else y) = true ↔ (c = true ∧ x = true) ∨ (c = false ∧ y = true) := by cases c <;> simp
set_option linter.defProp false in
def nbS := And.intro @z0 <| And.intro @ze <| And.intro @zY <| And.intro @zq <| And.intro @v7 <| And.intro @ct <| And.intro @Bool.not_eq_true' <| And.intro @Bool.not_eq_false' <| And.intro @Bool.eq_false_iff <| And.intro @ne_eq.{1} <| And.intro @Bool.and_eq_true <| And.intro @Bool.or_eq_true <| And.intro @beq_iff_eq.{0} <| And.intro @bne_iff_ne.{0} <| And.intro @decide_eq_true_eq <| And.intro @and_true <| And.intro @true_and <| And.intro @and_false <| And.intro @false_and <| And.intro @or_false <| And.intro @false_or <| And.intro @Bool.false_eq_true <| And.intro @not_false_eq_true <| And.intro @not_true_eq_false <| And.intro @Bool.true_eq_false <| And.intro @implies_true.{1} <| And.intro @implies_true.{0} <| @Decidable.not_not
theorem v3 (a b c : Int) : z9 a b c = z6 a b c := rfl
theorem zNv (a : Int) : zDO a = ((z6 a 0 1000000000).1, ()) := by unfold zDO; rw [v3]
theorem zdE (c : Int) : zBC c = vx c := by
 simp only [zBC, zGJ, vx, zJS, zIt, zLO, zQx, zL4, z6, zLG, z0, ze, zY]
theorem zrH (c : Int) : zF0 c = zIp c := by
 simp only [zF0, zL2, zIp, zLL, z6, zLG, z0, ze, zY]
theorem zr4 (c : Int) : zIt c = z6 c 97 122 := rfl
theorem zR7 {a b c : Int} : (z6 a b c).1 = true ↔ b ≤ a ∧ a ≤ c := by
 simp only [z6, zLG, z0, zY]
 simp only [nbS]
theorem ziI {s : ByteArray} {n : Int} : (zFu s n).1 = true ↔ (s.size : Int) ≤ n ∧ ∀ (i : Nat) (x : UInt8), s.data.toList[i]? = some x → (vx (x.toNat : Int)).1 = true := by
 rw [zmG]
 simp only [nbS, zR, zdE]
 grind
theorem zra {s : ByteArray} : (zDE s).1 = true ↔ (s.size : Int) ≤ 20 ∧ ∀ (i : Nat) (x : UInt8), s.data.toList[i]? = some x → (vx (x.toNat : Int)).1 = true := by
 rw [zW7]
 simp only [nbS, zR]
 grind
theorem zri (s : ByteArray) : zFu s 20 = zDE s := b1 (by rw [ziI, zra])
theorem zlT {s : ByteArray} (h : 0 < s.size) : s.data.toList[0]? = some (bt s 0) := by
 have : s.data.toList[0]? = some (s.data.toList[0]'h) := List.getElem?_eq_getElem h
 have := zsw (i := 0) this
 rw [List.getElem?_eq_getElem h]
 exact congrArg some this.symm
theorem zTR (s : ByteArray) : zDY s = xV s := b1 (by
 rw [zbs]
 simp only [zDY, zOb, z0, ze, zY]
 simp only [nbS, zR, Nat.zero_add, ziI, zr4, zR7]
 have h0 := zlT (s := s)
 have : ((0:Nat):Int) = 0 := rfl
 have h2 : ∀ (i : Nat) (x : UInt8), s.data.toList[i]? = some x → i < s.size := fun i x h => (List.getElem?_eq_some_iff.1 h).1
 grind)
theorem zk8 (v : El zL) : zBT v = zAj v := b1 (by
 simp only [zBT, zSa, zAj, zNU, z0, zY]
 simp only [nbS, v3, zri]
 grind)
theorem zun (s : ByteArray) : zNM s = zIk s := b1 (by
 rw [zjP, zoy]
 simp only [nbS, zR, Nat.zero_add, zdE, zrH, zR7]
 have h0 := zlT (s := s)
 have h2 : ∀ (i : Nat) (x : UInt8), s.data.toList[i]? = some x → i < s.size := fun i x h => (List.getElem?_eq_some_iff.1 h).1
 have : ((0:Nat):Int) = 0 := rfl
 grind)
theorem zsP (a : El yb) : zKn a = zGb a := b1 (by
 simp only [zKn, zRK, zGb, zR6, z0, zY]
 simp only [nbS, zun, zk8]
 grind)
theorem zuZ (p : El zM) : zGx p = zEx p := b1 (by
 rw [zow, zfl]
 simp only [nbS, zR, zTR, zsP]
 grind)
theorem zof (a : El yb) : zEf a = zES a := b1 (by
 simp only [zEf, zOz, zES, zIy, z0, zY]
 simp only [nbS, zsP]
 grind)
theorem zti (a : El z5) : zHw a = zKS a := b1 (by
 simp only [zHw, zO6, zKS, zO5, z0, zY]
 simp only [nbS, zof, v3]
 simp only [zES, zIy, z0, zY]
 simp only [nbS]
 grind)
theorem zt1 (a : El zo) : zKU a = zK4 a := b1 (by
 simp only [zKU, zOf, zK4, zPF, z0, zY]
 simp only [nbS, zof])
theorem ztl {a : El zp} : (zFk a).1 = true ↔ (xV a.2.1).1 = true ∧ (zKv a.2.2.1).1 = true := by
 rw [znZ, zlx]
 simp only [nbS, zR, zTR, zt1]
 grind
theorem zV1 (s : ByteArray) : zBQ s = zEP s := b1 (by
 simp only [zBQ, zOZ, zEP, zED, z0, zY]
 simp only [nbS, zTR])
theorem zsU (a : El zp) : zC5 a = zAb a := b1 (by
 simp only [zC5, zKT, zAb, zNt, z0, zY]
 simp only [nbS, zV1, ztl, v3, zEP, zED]
 by_cases h1 : a.1 = 1
 ·simp only [h1]; grind
 by_cases h2 : a.1 = 2
 ·simp only [h2]; grind
 by_cases h3 : a.1 = 3
 ·simp only [h3]; grind
 by_cases h4 : a.1 = 4
 ·simp only [h4]; grind
 by_cases h5 : a.1 = 5
 ·simp only [h5]; grind
 by_cases h6 : a.1 = 6
 ·simp only [h6]; grind
 grind)
end Go.Proofs.YtkdidadegedmiaaGreat
namespace Go.Proofs.YtkdidadegedmiaaGreat
open Go.RowKit
noncomputable section
theorem zG8 {α : Type} {L : List α} {x : α} (h : x ∈ L) : ∃ i : Nat, L[i]? = some x := List.mem_iff_getElem?.1 h
theorem zEQ {α : Type} {L : List α} {i : Nat} {x : α} (h : L[i]? = some x) : x ∈ L := List.mem_iff_getElem?.2 ⟨i, h⟩
theorem zTZ {α : Type} {p : α → Bool} {k : Nat} {L : List α} : xU (fun _ x => p x) k L = true ↔ ∀ x, x ∈ L → p x = true := by
 rw [zR]
 exact ⟨fun h x hx => by obtain ⟨i, hi⟩ := zG8 hx; exact h i x hi, fun h i x hi => h x (zEQ hi)⟩
def zVW {α : Type} (p : α → Bool) (L : List α) : Int := zUw (vX (fun i x => bif p x then some (i : Int) else none) 0 L) (fun r => r) (-1)
theorem zIw {α : Type} (p : α → Bool) (L : List α) : zUw (vX (fun i x => bif p x then some ((i : Int), ()) else none) 0 L) (fun r => (r.1, ())) (-1, ()) = (zVW p L, ()) := by
 unfold zVW
 have : ∀ k, vX (fun i x => bif p x then some ((i : Int), ()) else none) k L = (vX (fun i x => bif p x then some (i : Int) else none) k L).map fun r => (r, ()) := by
  induction L with
  | nil => intro k; rfl
  | cons x L ih => intro k; simp only [vX]; cases p x with
   | true => rfl
   | false => exact ih (k + 1)
 rw [this]
 cases vX (fun i x => bif p x then some (i : Int) else none) 0 L <;> rfl
theorem zSD {α : Type} (p : α → Bool) (L : List α) : (zVW p L = -1 ∧ ∀ x, x ∈ L → p x = false) ∨ ∃ (i : Nat) (x : α), zVW p L = (i : Int) ∧ L[i]? = some x ∧ p x = true ∧ ∀ (j : Nat) (y : α), j < i → L[j]? = some y → p y = false := by
 unfold zVW
 have : ∀ k, (vX (fun i x => bif p x then some (i : Int) else none) k L = none ∧ ∀ x, x ∈ L → p x = false) ∨ ∃ (i : Nat) (x : α), vX (fun i x => bif p x then some (i : Int) else none) k L = some ((k + i : Nat) : Int) ∧ L[i]? = some x ∧ p x = true ∧ ∀ (j : Nat) (y : α), j < i → L[j]? = some y → p y = false := by
  induction L with
  | nil => intro k; exact .inl ⟨rfl, fun x hx => by cases hx⟩
  | cons x L ih =>
   intro k
   simp only [vX]
   cases e : p x with
   | true => exact .inr ⟨0, x, rfl, rfl, e, fun j y hj => by omega⟩
   | false =>
    rcases ih (k + 1) with ⟨h1, h2⟩ | ⟨i, y, h1, h2, h3, h4⟩
    ·refine .inl ⟨h1, fun z hz => ?_⟩
     rcases List.mem_cons.1 hz with h | h
     ·rw [h]; exact e
     ·exact h2 z h
    ·refine .inr ⟨i + 1, y, by rw [show k + (i + 1) = k + 1 + i by omega]; exact h1, by simpa using h2, h3, fun j z hj hz => ?_⟩
     cases j with
     | zero => simp at hz; rw [← hz]; exact e
     | succ j => exact h4 j z (by omega) (by simpa using hz)
 rcases this 0 with ⟨h1, h2⟩ | ⟨i, x, h1, h2⟩
 ·rw [h1]; exact .inl ⟨rfl, h2⟩
 ·rw [h1, Nat.zero_add]; exact .inr ⟨i, x, rfl, h2⟩
theorem zSw {α : Type} {p : α → Bool} {L : List α} : zVW p L ≥ 0 ↔ ∃ x, x ∈ L ∧ p x = true := by
 rcases zSD p L with ⟨h1, h2⟩ | ⟨i, x, h1, h2, h3, h4⟩
 ·rw [h1]; constructor
  ·intro h; omega
  ·rintro ⟨x, hx, e⟩; rw [h2 x hx] at e; cases e
 ·rw [h1]; exact ⟨fun _ => ⟨x, zEQ h2, h3⟩, fun _ => by omega⟩
def zAw (l : Li .str) (t : ByteArray) : Prop := ∃ x : ByteArray, x ∈ l ∧ x.toList = t.toList
theorem zp4 {l : Li .str} {t : ByteArray} : (zAy l t).1 = true ↔ zAw l t := by
 rw [zqr]
 simp only [nbS, zTZ]
 unfold zAw
 grind
theorem zsW {l : Li .str} {t : ByteArray} : (zr l t).1 = true ↔ zAw l t := by
 unfold zr
 rw [zHB]
 show decide ((zUw (vX (fun i x => bif (t.toList == x.toList) then (some ((i : Int), ())) else none) 0 l) (fun r => (r.1, ())) ((-1 : Int), ())).1 ≥ 0) = true ↔ _
 rw [zIw (fun x : ByteArray => t.toList == x.toList), decide_eq_true_eq, zSw]
 unfold zAw
 simp only [beq_iff_eq]
 constructor <;> rintro ⟨x, h, e⟩ <;> exact ⟨x, h, e.symm⟩
theorem ztE (l : Li .str) (t : ByteArray) : zr l t = zAy l t := b1 (by rw [zsW, zp4])
theorem zOB (t : ByteArray) : zAw [] t ↔ False := ⟨fun ⟨_, h, _⟩ => (by cases h), fun h => False.elim h⟩
theorem zqb (l : Li .str) (s t : ByteArray) : zAw (l ++ [s]) t ↔ zAw l t ∨ s.toList = t.toList := by
 unfold zAw
 constructor
 ·rintro ⟨x, hx, e⟩
  rcases List.mem_append.1 hx with h | h
  ·exact .inl ⟨x, h, e⟩
  ·rw [List.mem_singleton] at h; subst h; exact .inr e
 ·rintro (⟨x, h, e⟩ | e)
  ·exact ⟨x, List.mem_append_left _ h, e⟩
  ·exact ⟨s, by simp, e⟩
def zKu (l : Li .str) (s : ByteArray) : Li .str := bif (!(zAy l s).1) then l ++ [s] else l
theorem zV6 (l : Li .str) (s : ByteArray) : zBB l s = (zKu l s, ()) := by
 unfold zKu; simp only [zBB, zER, z0, ze, zY]
 rw [ztE]
 cases (zAy l s).1 <;> rfl
theorem zhP (l : Li .str) (s t : ByteArray) : zAw (zKu l s) t ↔ zAw l t ∨ s.toList = t.toList := by
 unfold zKu
 cases h : (zAy l s).1 with
 | true =>
  have h1 := zp4.1 h
  show zAw l t ↔ _
  refine ⟨.inl, fun h2 => ?_⟩
  rcases h2 with h2 | h2
  ·exact h2
  ·obtain ⟨x, hx, e⟩ := h1; exact ⟨x, hx, e.trans h2⟩
 | false => exact zqb l s t
def zKB (a : El yb) (t : ByteArray) : Prop := a.1 = (1 : Int) ∧ a.2.1.toList = t.toList
theorem zJl (args : Li yb) (t : ByteArray) (l : Li .str) : zAw (yE l args).1 t ↔ zAw l t ∨ ∃ a, a ∈ args ∧ zKB a t := by
 rw [zVv]
 show zAw (yC _ 0 args l) t ↔ _
 generalize 0 = k
 induction args generalizing k l with
 | nil => simp [yC]
 | cons a args ih =>
  simp only [yC]
  rw [ih]
  have h2 : zAw (bif a.1 == (1 : Int) then (zBB l a.2.1).1 else l) t ↔ zAw l t ∨ zKB a t := by
   unfold zKB
   by_cases hK : a.1 = (1 : Int)
   ·rw [beq_iff_eq.2 hK, cond_true, zV6, zhP]; simp [hK]
   ·rw [beq_eq_false_iff_ne.2 hK, cond_false]; simp [hK]
  rw [h2]
  simp only [List.mem_cons, exists_eq_or_imp, or_assoc]
theorem zqd (p : El zM) (t : ByteArray) : zAw (zAq p).1 t ↔ ∃ a, a ∈ p.2.1 ∧ zKB a t := by
 have h := zJl p.2.1 t []
 rw [zOB, false_or] at h
 rw [← h, zVv, znh]
 have : (fun (_ : Nat) (x : El yb) (s : Li .str) => bif (x.1 == (1 : Int)) then (bif (!(zAy s x.2.1).1) then (s ++ [x.2.1]) else s) else s) = fun _ x s => bif (x.1 == (1 : Int)) then (zBB s x.2.1).1 else s := by
  funext _ x s; rw [zV6]; rfl
 exact Eq.to_iff (congrArg (fun f => zAw (yC f 0 p.2.1 []) t) this)
theorem zl9 (l : Li .str) (t : ByteArray) (o : Li .str) : zAw (yC (fun _ y s => zKu s y) 0 l o) t ↔ zAw o t ∨ zAw l t := by
 generalize 0 = k
 induction l generalizing k o with
 | nil => exact ⟨fun h => .inl h, fun h => h.elim id fun h => ((zOB t).1 h).elim⟩
 | cons x xs ih =>
  simp only [yC]
  rw [ih, zhP]
  have : zAw (x :: xs) t ↔ x.toList = t.toList ∨ zAw xs t := by unfold zAw; simp
  rw [this, or_assoc]
def zE3 (pats : Li zM) (t : ByteArray) : Prop := ∃ p, p ∈ pats ∧ p.2.2 = false ∧ ∃ a, a ∈ p.2.1 ∧ zKB a t
theorem zsp (r : El zG) (t : ByteArray) : zAw (zEK r).1 t ↔ zE3 r.2.2.1 t := by
 rw [zjF]
 have : ∀ (pats : Li zM) (k : Nat) (l : Li .str), zAw (yC (fun i x (s : Li .str) => bif (!x.2.2) then (yE s x.2.1).1 else s) k pats l) t ↔ zAw l t ∨ zE3 pats t := by
  intro pats
  unfold zE3
  induction pats with
  | nil => intro k l; simp [yC]
  | cons p ps ih =>
   intro k l
   simp only [yC]
   rw [ih]
   have h2 : zAw (bif (!p.2.2) then (yE l p.2.1).1 else l) t ↔ zAw l t ∨ (p.2.2 = false ∧ ∃ a, a ∈ p.2.1 ∧ zKB a t) := by
    cases h : p.2.2
    ·rw [Bool.not_false, cond_true, zJl]; simp
    ·simp
   rw [h2]
   simp only [List.mem_cons, exists_eq_or_imp, or_assoc]
 refine (this _ _ _).trans ?_
 rw [zOB, false_or]
theorem zae (w0 : El zG) (n4 : Int) (l5 l3 : Li .str) (hn : (zB zM w0.2.2.1 n4).2.2 = false) : LB.run vQ (w0, (), l3, n4, l5, (0 : Int), ()) = .brk (w0, (), yC (fun _ y s => zKu s y) 0 l5 l3, n4, l5, (l5.length : Int), ()) := by
 refine LB.run_fold (l := vQ) (L := l5) (fun i s => (w0, (), s, n4, l5, (i : Int), ())) (f := (fun _ y s => zKu s y)) (fun i x s h => ?_) (fun s => ?_) (s := l3)
 ·have hi := (List.getElem?_eq_some_iff.1 h).1
  simp only [LB.b, vQ, z0, ze, zY, zKu]
  rw [ltT hi, cond_true, hn, zQ h]
  cases (zAy s x).1 <;> rfl
 ·simp only [LB.b, vQ, z0, ze, zY]
  rw [ltF]; rfl
theorem zZF (w0 : El zG) (n4 : Int) (l5 l3 : Li .str) (hn : (zB zM w0.2.2.1 n4).2.2 = true) : LB.run vQ (w0, (), l3, n4, l5, (0 : Int), ()) = .brk (w0, (), l3, n4, l5, (0 : Int), ()) := by
 refine LB.run_scan (l := vQ) (L := ([] : List Unit)) (fun _ => (w0, (), l3, n4, l5, (0 : Int), ())) (f := (fun _ _ => none)) (fun i x h => by simp at h) ?_
 simp only [LB.b, vQ, z0, ze, zY]
 rw [hn]
 cases decide ((0 : Int) < (l5.length : Int)) <;> rfl
theorem zj6 (r : El zG) : xb r = (yC (fun _ p s => bif p.2.2 then s else yC (fun _ y s => zKu s y) 0 (zAq p).1 s) 0 r.2.2.1 [], ()) := by
 simp only [xb, zF7, ze, zY, zq]
 have : LB.run zAt (r, (), [], (0 : Int), ()) = .brk (r, (), yC (fun _ p s => bif p.2.2 then s else yC (fun _ y s => zKu s y) 0 (zAq p).1 s) 0 r.2.2.1 [], (r.2.2.1.length : Int), ()) := by
  refine LB.run_fold (l := zAt) (L := r.2.2.1) (fun i s => (r, (), s, (i : Int), ())) (f := (fun _ p s => bif p.2.2 then s else yC (fun _ y s => zKu s y) 0 (zAq p).1 s)) (fun i x s h => ?_) (fun s => ?_) (s := [])
  ·have hi := (List.getElem?_eq_some_iff.1 h).1
   simp only [LB.b, zAt, z0, ze, zY, zq]
   rw [ltT hi, cond_true]
   cases hn : x.2.2 with
   | true => rw [zZF r i _ s (by rw [zQ h]; exact hn)]; rfl
   | false => rw [zae r i _ s (by rw [zQ h]; exact hn), zQ h]; rfl
  ·simp only [LB.b, zAt, z0, ze, zY, zq]
   rw [ltF]; rfl
 rw [this]; rfl
theorem zuI (r : El zG) (t : ByteArray) : zAw (xb r).1 t ↔ zE3 r.2.2.1 t := by
 rw [zj6]
 have : ∀ (pats : Li zM) (k : Nat) (l : Li .str), zAw (yC (fun _ p s => bif p.2.2 then s else yC (fun _ y s => zKu s y) 0 (zAq p).1 s) k pats l) t ↔ zAw l t ∨ zE3 pats t := by
  intro pats
  unfold zE3
  induction pats with
  | nil => intro k l; simp [yC]
  | cons p ps ih =>
   intro k l
   simp only [yC]
   rw [ih]
   have h2 : zAw (bif p.2.2 then l else yC (fun _ y s => zKu s y) 0 (zAq p).1 l) t ↔ zAw l t ∨ (p.2.2 = false ∧ ∃ a, a ∈ p.2.1 ∧ zKB a t) := by
    cases h : p.2.2
    ·rw [cond_false, zl9, zqd]; simp
    ·simp
   rw [h2]
   simp only [List.mem_cons, exists_eq_or_imp, or_assoc]
 refine (this _ _ _).trans ?_
 rw [zOB, false_or]
theorem zk9 {a b : El yb} {t : ByteArray} : (∃ c, c ∈ [a, b] ∧ zKB c t) ↔ zKB a t ∨ zKB b t := by simp
theorem zoo (l : Li z5) (t : ByteArray) : ∀ k o, zAw (yC (fun _ x (s : Li .str) => (yE s [x.2.1, x.2.2]).1) k l o) t ↔ zAw o t ∨ ∃ c, c ∈ l ∧ (zKB c.2.1 t ∨ zKB c.2.2 t) := by
 induction l with
 | nil => intro k o; simp [yC]
 | cons c cs ih =>
  intro k o
  simp only [yC]
  rw [ih, zJl, zk9]
  simp only [List.mem_cons, exists_eq_or_imp, or_assoc]
theorem zqW (l : Li zo) (t : ByteArray) : ∀ k o, zAw (yC (fun _ x (s : Li .str) => (yE s [x.2.1, x.2.2]).1) k l o) t ↔ zAw o t ∨ ∃ c, c ∈ l ∧ (zKB c.2.1 t ∨ zKB c.2.2 t) := by
 induction l with
 | nil => intro k o; simp [yC]
 | cons c cs ih =>
  intro k o
  simp only [yC]
  rw [ih, zJl, zk9]
  simp only [List.mem_cons, exists_eq_or_imp, or_assoc]
theorem zsB (l : Li zp) (t : ByteArray) : ∀ k o, zAw (yC (fun _ a s => yC (fun _ x (s : Li .str) => (yE s [x.2.1, x.2.2]).1) 0 a.2.2.1 s) k l o) t ↔ zAw o t ∨ ∃ a, a ∈ l ∧ ∃ c, c ∈ a.2.2.1 ∧ (zKB c.2.1 t ∨ zKB c.2.2 t) := by
 induction l with
 | nil => intro k o; simp [yC]
 | cons a rest ih =>
  intro k o
  simp only [yC]
  rw [ih, zqW]
  simp only [List.mem_cons, exists_eq_or_imp, or_assoc]
theorem zhQ (r : El zG) : zA3 r = (yC (fun _ a s => yC (fun _ x (s : Li .str) => (yE s [x.2.1, x.2.2]).1) 0 a.2.2.1 s) 0 r.2.2.2.2 (yC (fun _ x (s : Li .str) => (yE s [x.2.1, x.2.2]).1) 0 r.2.2.2.1 []), ()) := by
 simp only [zA3, zEd, ze, zY, zq]
 have h : ∀ (l26 : Li zp) (l3 : Li .str), LB.run vk (l3, l26, (l26.length : Int), (0 : Int), ()) = .brk (yC (fun _ a s => yC (fun i x (s : Li .str) => (yE s [x.2.1, x.2.2]).1) 0 a.2.2.1 s) 0 l26 l3, l26, (l26.length : Int), (l26.length : Int), ()) := by
  intro l26 l3
  refine LB.run_fold (l := vk) (L := l26) (fun i s => (s, l26, (l26.length : Int), (i : Int), ())) (f := (fun _ a s => yC (fun i x (s : Li .str) => (yE s [x.2.1, x.2.2]).1) 0 a.2.2.1 s)) (fun i x s h => ?_) (fun s => ?_) (s := l3)
  ·have hi := (List.getElem?_eq_some_iff.1 h).1
   simp only [LB.b, vk, z0, ze, zY, zq]
   rw [ltT hi, cond_true, zW2, zQ h]; rfl
  ·simp only [LB.b, vk, z0, ze, zY, zq]
   rw [ltF]; rfl
 rw [zYK]
 show (LB.run vk (_, r.2.2.2.2, (r.2.2.2.2.length : Int), (0 : Int), ())).fin _ _ = _
 rw [h]; rfl
theorem zNu (r : El zG) (t : ByteArray) : zAw (zA3 r).1 t ↔ (∃ c, c ∈ r.2.2.2.1 ∧ (zKB c.2.1 t ∨ zKB c.2.2 t)) ∨ ∃ a, a ∈ r.2.2.2.2 ∧ ∃ c, c ∈ a.2.2.1 ∧ (zKB c.2.1 t ∨ zKB c.2.2 t) := by
 rw [zhQ]
 refine (zsB _ _ _ _).trans ?_
 rw [zoo, zOB, false_or]
def zWV (r : El zG) (a : El yb) : Prop := a.1 = (1 : Int) → zE3 r.2.2.1 a.2.1
theorem zWh {pats : Li zM} {s t : ByteArray} (e : s.toList = t.toList) (h : zE3 pats s) : zE3 pats t := by
 obtain ⟨p, h1, h2, a, h3, h4, h5⟩ := h
 exact ⟨p, h1, h2, a, h3, h4, h5.trans e⟩
theorem zCs (r : El zG) (a : El yb) : (∀ t, zKB a t → zE3 r.2.2.1 t) ↔ zWV r a :=
 ⟨fun h hK => h a.2.1 ⟨hK, rfl⟩, fun h _ ht => zWh ht.2 (h ht.1)⟩
theorem zr2 {r : El zG} {a : El yb} : (xE a (xb r).1).1 = true ↔ zWV r a := by
 unfold zWV; simp only [xE, zMe, z0, zY]
 simp only [nbS, zp4, zuI]
 grind
theorem zps (r : El zG) : (∀ x, x ∈ (zA3 r).1 → zAw (zEK r).1 x) ↔ (∀ c, c ∈ r.2.2.2.1 → zWV r c.2.1 ∧ zWV r c.2.2) ∧ ∀ a, a ∈ r.2.2.2.2 → ∀ c, c ∈ a.2.2.1 → zWV r c.2.1 ∧ zWV r c.2.2 := by
 have h0 : (∀ x, x ∈ (zA3 r).1 → zAw (zEK r).1 x) ↔ ∀ t, zAw (zA3 r).1 t → zE3 r.2.2.1 t := by
  constructor
  ·rintro h t ⟨x, hx, e⟩
   exact zWh e ((zsp r x).1 (h x hx))
  ·intro h x hx
   exact (zsp r x).2 (h x ⟨x, hx, rfl⟩)
 rw [h0]
 constructor
 ·intro h
  refine ⟨fun c hc => ⟨(zCs r _).1 fun t ht => h t ((zNu r t).2 (.inl ⟨c, hc, .inl ht⟩)), (zCs r _).1 fun t ht => h t ((zNu r t).2 (.inl ⟨c, hc, .inr ht⟩))⟩, fun a ha c hc => ⟨(zCs r _).1 fun t ht => h t ((zNu r t).2 (.inr ⟨a, ha, c, hc, .inl ht⟩)), (zCs r _).1 fun t ht => h t ((zNu r t).2 (.inr ⟨a, ha, c, hc, .inr ht⟩))⟩⟩
 ·rintro ⟨h1, h2⟩ t ht
  rcases (zNu r t).1 ht with ⟨c, hc, h | h⟩ | ⟨a, ha, c, hc, h | h⟩
  ·exact (zCs r _).2 (h1 c hc).1 t h
  ·exact (zCs r _).2 (h1 c hc).2 t h
  ·exact (zCs r _).2 (h2 a ha c hc).1 t h
  ·exact (zCs r _).2 (h2 a ha c hc).2 t h
end
end Go.Proofs.YtkdidadegedmiaaGreat
namespace Go.Proofs.YtkdidadegedmiaaGreat
open Go.RowKit
noncomputable section
theorem zVo (r : El zG) : yF r = zc r := by rw [zfN, zfk]
def zRk (L : Li zM) (n : Nat) : Prop := n ≤ L.length ∧ ∀ (i : Nat) (x : El zM), L[i]? = some x → (x.2.2 = true ↔ n ≤ i)
theorem zRk.len {L : Li zM} : ∀ {n : Nat}, zRk L n → (L.filter (fun p => !p.2.2)).length = n := by
 induction L with
 | nil => intro n h; have := h.1; simp at this; simp [this]
 | cons x L ih =>
  intro n h
  have h0 := h.2 0 x rfl
  cases n with
  | zero =>
   have hx : x.2.2 = true := h0.2 (Nat.le_refl 0)
   rw [List.filter_cons_of_neg (by rw [hx]; decide)]
   exact ih ⟨Nat.zero_le _, fun i y hy => ⟨fun _ => Nat.zero_le i, fun _ => (h.2 (i + 1) y (by simpa using hy)).2 (Nat.zero_le _)⟩⟩
  | succ n =>
   have hx : x.2.2 = false := by
    cases e : x.2.2 with
    | false => rfl
    | true => have := h0.1 e; omega
   rw [List.filter_cons_of_pos (by rw [hx]; decide), List.length_cons]
   congr 1
   refine ih ⟨by have := h.1; simp at this; exact this, fun i y hy => ?_⟩
   rw [h.2 (i + 1) y (by simpa using hy)]; omega
theorem zRk.of {L : Li zM} : (∀ (i : Nat) (x y : El zM), L[i]? = some x → L[i + 1]? = some y → x.2.2 = true → y.2.2 = true) → ∃ n, zRk L n := by
 induction L with
 | nil => intro _; exact ⟨0, Nat.le_refl _, fun i x h => by simp at h⟩
 | cons x L ih =>
  intro h
  obtain ⟨n, h1, h2⟩ := ih fun i a b ha hb => h (i + 1) a b (by simpa using ha) (by simpa using hb)
  cases e : x.2.2 with
  | false =>
   refine ⟨n + 1, by simpa using h1, fun i y hy => ?_⟩
   cases i with
   | zero => simp at hy; rw [← hy, e]; simp
   | succ i => rw [h2 i y (by simpa using hy)]; omega
  | true =>
   have hn : n = 0 := by
    cases n with
    | zero => rfl
    | succ n =>
     obtain ⟨y, hy⟩ : ∃ y, L[0]? = some y := ⟨L[0]'(by omega), List.getElem?_eq_getElem _⟩
     have := (h2 0 y hy).1 (h 0 x y rfl (by simpa using hy) e)
     omega
   refine ⟨0, Nat.zero_le _, fun i y hy => ⟨fun _ => Nat.zero_le _, fun _ => ?_⟩⟩
   cases i with
   | zero => simp at hy; rw [← hy, e]
   | succ i => exact (h2 i y (by simpa using hy)).2 (by omega)
theorem ztJ (r : El zG) : zH4 r = zBb r.2.2.1 := b1 (by
 rw [zcX, zSt]
 have hc := zGF r
 simp only [zVo, v3, hc, zuZ, nbS, zR, Nat.zero_add, zR7]
 generalize r.2.2.1 = L
 have hlen : ∀ (i : Nat) (x : El zM), L[i]? = some x → i < L.length := fun i x h => (List.getElem?_eq_some_iff.1 h).1
 have hp : ∀ (i : Nat) (x : El zM), L[i + 1]? = some x → zB zM L (((i + 1 : Nat) : Int) - 1) = zB zM L (i : Int) := fun i x _ => by congr 1; omega
 constructor
 ·intro h
  have hF : zRk L (L.filter (fun p => !p.2.2)).length := ⟨List.length_filter_le _ _, fun i x hx => by have := hlen i x hx; grind⟩
  generalize (L.filter (fun p => !p.2.2)).length = n at *
  have hF2 := hF.2
  refine ⟨fun i x hx => ?_, h.1⟩
  have h3 := h.2.2 i x hx
  have h4 := h.2.1
  have h5 := hF2 i x hx
  cases i with
  | zero => grind
  | succ i =>
   have hl := hlen _ _ hx
   have hy : L[i]? = some (L[i]'(by omega)) := List.getElem?_eq_getElem _
   have h6 := hF2 i _ hy
   rw [hp i x hx, zQ hy]
   generalize L[i]'(by omega) = y at *
   grind
 ·intro h
  have h0 := h.1
  have hM : ∀ (i : Nat) (x y : El zM), L[i]? = some x → L[i + 1]? = some y → x.2.2 = true → y.2.2 = true := fun i x y hx hy hn => by
   have h1 := hp i y hy
   have h2 := h0 (i + 1) y hy
   rw [h1, zQ hx] at h2
   grind
  obtain ⟨n, hF⟩ := zRk.of hM
  rw [hF.len]
  have hF2 := hF.2
  have hn := hF.1
  have h7 : ∀ i : Nat, i < L.length → ∃ x, L[i]? = some x := fun i hi => ⟨_, List.getElem?_eq_getElem hi⟩
  refine ⟨h.2, ⟨?_, ?_⟩, fun i x hx => ?_⟩
  ·obtain ⟨x, hx⟩ := h7 0 (by omega)
   have h1 := h0 0 x hx
   have h2 := hF2 0 x hx
   grind
  ·by_cases h3 : 3 < n
   ·obtain ⟨x, hx⟩ := h7 3 (by omega)
    have h1 := h0 3 x hx
    have h2 := hF2 3 x hx
    grind
   ·omega
  ·have h1 := h0 i x hx
   have h2 := hF2 i x hx
   grind)
theorem ztO (r : El zG) : zCY r = vz r := b1 (by
 rw [zar]
 simp only [vz, zCW, z0, ze, zY]
 rw [zic, zTK]
 have hu := zps r
 simp only [zTR, v3, ztJ, zti, zsU, zVo, nbS, zTZ, zr2, zsW]
 grind)
theorem zqK (d : El zN) (s : ByteArray) : zKY d s = zHy d s := by
 unfold zKY
 rw [zCm, zlt]
 rfl
theorem zuc (d : El zN) : zCr d = zCC d := b1 (by
 rw [zgD, ze8]
 simp only [zTR, v3, ztO, zqK, nbS, zR, Nat.zero_add]
 grind)
theorem zMY (f : El zK) : yS f = xi f := b1 (by
 simp only [xi, zKl, z0, zY]
 rw [zmB, zbM]
 simp only [zTR, zk8, nbS, zTZ]
 grind)
theorem zeX (t : El zD) : zFn t = zAW t := b1 (by
 simp only [zFn, zLP, zAW, zGg, z0, zY]
 simp only [zNv, zMY, nbS])
theorem zNP (l : Li zD) : xc l = zC0 l := b1 (by
 rw [zhn, zTe]
 simp only [zeX, nbS, zR, Nat.zero_add]
 constructor
 ·rintro ⟨h0, h⟩
  refine ⟨fun i x hx => ?_, by omega⟩
  have := h i x hx
  rwa [zQ hx] at this
 ·rintro ⟨h, h0⟩
  refine ⟨by omega, fun i x hx => ?_⟩
  rw [zQ hx]; exact h i x hx)
theorem zte (t : El zC) : zKh t = zAA t := b1 (by
 simp only [zKh, zOS, zAA, zF5, z0, zY]
 simp only [zMY, zV1, v3, zk8, nbS, zR7]
 grind)
theorem zql (s : El zE) (n : Int) : zBU s n = zAY s n := by rw [znN, zcg]; rfl
theorem zkK (a b : Li zL) : yt a b = zDq a b := by rw [zFJ, zP6]
theorem zGB (a b : El zK) : xp a b = zI a b := by simp only [xp, zJM, zI, zGh, z0, zY]; rw [zkK]
end
end Go.Proofs.YtkdidadegedmiaaGreat
namespace Go.Proofs.YtkdidadegedmiaaGreat
open Go.RowKit
noncomputable section
theorem ztF {α : Type} {p : α → Bool} {L : List α} {i : Nat} {x : α} (h : L[i]? = some x) (hx : p x = true) : zVW p L = (i : Int) ↔ ∀ (j : Nat) (y : α), j < i → L[j]? = some y → p y = false := by
 rcases zSD p L with ⟨h1, h2⟩ | ⟨k, y, h1, h2, h3, h4⟩
 ·rw [h2 x (zEQ h)] at hx; cases hx
 ·rw [h1]
  constructor
  ·intro e; have : k = i := by omega
   subst this; exact h4
  ·intro h5
   rcases Nat.lt_trichotomy k i with h6 | h6 | h6
   ·rw [h5 k y h6 h2] at h3; cases h3
   ·rw [h6]
   ·rw [h4 i x h6 h] at hx; cases hx
theorem zDJ {α : Type} {L : List α} {i j : Nat} {x : α} : (L.take i)[j]? = some x ↔ j < i ∧ L[j]? = some x := by
 rw [List.getElem?_take]; split <;> grind
def SFa (a b : El zK) : Prop := a.1.toList = b.1.toList ∧ a.2.length = b.2.length ∧ ∀ (i : Nat) (x y : El zL), a.2[i]? = some x → b.2[i]? = some y → x.1 = y.1 ∧ x.2.1 = y.2.1 ∧ x.2.2.toList = y.2.2.toList
theorem SFa.symm {a b : El zK} (h : SFa a b) : SFa b a := ⟨h.1.symm, h.2.1.symm, fun i x y hx hy => by have := h.2.2 i y x hy hx; exact ⟨this.1.symm, this.2.1.symm, this.2.2.symm⟩⟩
theorem SFa.refl (a : El zK) : SFa a a := ⟨rfl, rfl, fun i x y hx hy => by rw [hx] at hy; cases hy; exact ⟨rfl, rfl, rfl⟩⟩
theorem zG1 {a b : El zK} : (zI a b).1 = true ↔ SFa a b := by
 unfold SFa; simp only [zI, zGh, z0, zY]
 rw [zP6]
 simp only [nbS, zR, Nat.zero_add]
 constructor
 ·rintro ⟨h1, h2, h3⟩
  have hl : a.2.length = b.2.length := by omega
  refine ⟨h1, hl, fun i x y hx hy => ?_⟩
  have := h3 i x hx
  rwa [zQ hy] at this
 ·rintro ⟨h1, h2, h3⟩
  refine ⟨h1, by omega, fun i x hx => ?_⟩
  have hi := (List.getElem?_eq_some_iff.1 hx).1
  have hy : b.2[i]? = some (b.2[i]'(by omega)) := List.getElem?_eq_getElem _
  have := h3 i x _ hx hy
  rwa [zQ hy]
theorem zRn {a b : El zK} : (zI a b).1 = false ↔ ¬ SFa a b := by rw [← zG1, Bool.not_eq_true]
theorem zaH (l0 : Li zC) (n : Nat) (hn : n ≤ l0.length) : LB.run zBl (l0, (n : Int), (0 : Int), ()) = bif xU (fun _ y => !(zI (zB zC l0 (n : Int)).1 y.1).1) 0 (l0.take n) then .brk (l0, (n : Int), ((l0.take n).length : Int), ()) else .ret (false, ()) := by
 have hl : (l0.take n).length = n := by rw [List.length_take]; omega
 refine LB.run_all (l := zBl) (L := (l0.take n)) (fun i => (l0, (n : Int), (i : Int), ())) (p := (fun _ y => !(zI (zB zC l0 (n : Int)).1 y.1).1)) (r := (false, ())) (fun i x h => ?_) ?_
 ·obtain ⟨hi, h⟩ := zDJ.1 h
  simp only [LB.b, zBl, z0, ze, zY]
  rw [ltT hi, cond_true, zQ h]
  cases (zI (zB zC l0 (n : Int)).1 x.1).1 <;> rfl
 ·simp only [LB.b, zBl, z0, ze, zY]
  rw [hl, ltF]; rfl
theorem zYr (l0 : Li zC) : zIS l0 = bif xU (fun i x => bif (!(zAA x).1) then false else xU (fun _ y => !(zI x.1 y.1).1) 0 (l0.take i)) 0 l0 then (decide ((l0.length : Int) ≤ (30 : Int)), ()) else (false, ()) := by
 simp only [zIS, zK7, ze, zY, zq]
 have : LB.run zC3 (l0, (0 : Int), ()) = bif xU (fun i x => bif (!(zAA x).1) then false else xU (fun _ y => !(zI x.1 y.1).1) 0 (l0.take i)) 0 l0 then .brk (l0, (l0.length : Int), ()) else .ret (false, ()) := by
  refine LB.run_all (l := zC3) (L := l0) (fun i => (l0, (i : Int), ())) (r := (false, ())) (fun i x h => ?_) ?_
  ·have hi := (List.getElem?_eq_some_iff.1 h).1
   simp only [LB.b, zC3, z0, ze, zY, zq]
   rw [ltT hi, cond_true, zaH l0 i (by omega), zQ h]
   generalize xU _ 0 (l0.take i) = A
   cases (zAA x).1 <;> cases A <;> rfl
  ·simp only [LB.b, zC3, z0, ze, zY, zq]
   rw [ltF]; rfl
 rw [this]
 cases xU _ 0 l0 <;> rfl
theorem zcp (l : Li zC) (f : El zK) : zBN l f = (zVW (fun t : El zC => (zI t.1 f).1) l, ()) := by
 unfold zBN
 rw [zCA]
 unfold zDS
 simp only [zGB]
 show ((zUw (vX (fun i x => bif (zI x.1 f).1 then (some ((i : Int), ())) else none) 0 l) (fun r => (r.1, ())) ((-1 : Int), ())).1, ()) = _
 rw [zIw (fun t : El zC => (zI t.1 f).1)]
theorem zcr (l : Li zC) : yc l = zIS l := b1 (by
 rw [zjd, zYr]
 simp only [zte, zcp, nbS, zR, Nat.zero_add, zDJ]
 have key : ∀ (i : Nat) (x : El zC), l[i]? = some x → (zVW (fun t : El zC => (zI t.1 x.1).1) l = (i : Int) ↔ ∀ (j : Nat) (y : El zC), j < i ∧ l[j]? = some y → ¬ (zI x.1 y.1).1 = true) := fun i x hx => by
  rw [ztF hx (zG1.2 (SFa.refl _))]
  simp only [zRn, zG1]
  constructor
  ·rintro h j y ⟨h1, h2⟩ h3; exact h j y h1 h2 h3.symm
  ·rintro h j y h1 h2 h3; exact h j y ⟨h1, h2⟩ h3.symm
 constructor
 ·rintro ⟨h0, h⟩
  refine ⟨fun i x hx => ?_, by omega⟩
  have h1 := h i x hx
  rw [zQ hx, key i x hx] at h1
  exact h1
 ·rintro ⟨h, h0⟩
  refine ⟨by omega, fun i x hx => ?_⟩
  rw [zQ hx, key i x hx]
  exact h i x hx)
theorem zaN (l0 : Li zP) (n : Nat) (hn : n ≤ l0.length) : LB.run zBj (l0, (n : Int), (0 : Int), ()) = bif xU (fun _ y => !((zB zP l0 (n : Int)).1.toList == y.1.toList)) 0 (l0.take n) then .brk (l0, (n : Int), ((l0.take n).length : Int), ()) else .ret (false, ()) := by
 have hl : (l0.take n).length = n := by rw [List.length_take]; omega
 refine LB.run_all (l := zBj) (L := (l0.take n)) (fun i => (l0, (n : Int), (i : Int), ())) (p := (fun _ y => !((zB zP l0 (n : Int)).1.toList == y.1.toList))) (r := (false, ())) (fun i x h => ?_) ?_
 ·obtain ⟨hi, h⟩ := zDJ.1 h
  simp only [LB.b, zBj, z0, ze, zY]
  rw [ltT hi, cond_true, zQ h]
  cases ((zB zP l0 (n : Int)).1.toList == x.1.toList) <;> rfl
 ·simp only [LB.b, zBj, z0, ze, zY]
  rw [hl, ltF]; rfl
theorem zh2 (l0 : Li zP) : zAC l0 = bif xU (fun i x => bif (!(z6 (((x.1.size : Nat)) : Int) (1 : Int) (200 : Int)).1) then false else bif (!(xi x.2).1) then false else xU (fun _ y => !(x.1.toList == y.1.toList)) 0 (l0.take i)) 0 l0 then (decide ((l0.length : Int) ≤ (30 : Int)), ()) else (false, ()) := by
 simp only [zAC, zLk, ze, zY, zq]
 have : LB.run zDI (l0, (0 : Int), ()) = bif xU (fun i x => bif (!(z6 (((x.1.size : Nat)) : Int) (1 : Int) (200 : Int)).1) then false else bif (!(xi x.2).1) then false else xU (fun _ y => !(x.1.toList == y.1.toList)) 0 (l0.take i)) 0 l0 then .brk (l0, (l0.length : Int), ()) else .ret (false, ()) := by
  refine LB.run_all (l := zDI) (L := l0) (fun i => (l0, (i : Int), ())) (r := (false, ())) (fun i x h => ?_) ?_
  ·have hi := (List.getElem?_eq_some_iff.1 h).1
   simp only [LB.b, zDI, z0, ze, zY, zq]
   rw [ltT hi, cond_true, zaN l0 i (by omega), zQ h]
   generalize xU _ 0 (l0.take i) = A
   cases (z6 (((x.1.size : Nat)) : Int) (1 : Int) (200 : Int)).1 <;> cases (xi x.2).1 <;> cases A <;> rfl
  ·simp only [LB.b, zDI, z0, ze, zY, zq]
   rw [ltF]; rfl
 rw [this]
 cases xU _ 0 l0 <;> rfl
theorem zqL {l : Li zP} {k : ByteArray} : (zKG l k).1 = true ↔ ∃ x, x ∈ l ∧ x.1.toList = k.toList := by
 unfold zKG xN
 rw [zDC]
 show decide ((zUw (vX (fun i x => bif (x.1.toList == k.toList) then (some ((i : Int), ())) else none) 0 l) (fun r => (r.1, ())) ((-1 : Int), ())).1 ≥ 0) = true ↔ _
 rw [zIw (fun x : El zP => x.1.toList == k.toList), decide_eq_true_eq, zSw]
 simp only [beq_iff_eq]
theorem zk6 (l : Li zP) : zId l = zAC l := b1 (by
 rw [zYu, zh2]
 simp only [zSl, v3, zMY, nbS, zR, Nat.zero_add, zDJ, zqL]
 have key : ∀ (i : Nat) (x : El zP), l[i]? = some x → ((¬ ∃ y, y ∈ (l.take (i : Int).toNat).drop (0 : Int).toNat ∧ y.1.toList = x.1.toList) ↔ ∀ (j : Nat) (y : El zP), j < i ∧ l[j]? = some y → ¬ x.1.toList = y.1.toList) := fun i x hx => by
  rw [Int.toNat_natCast]
  show (¬ ∃ y, y ∈ (l.take i) ∧ y.1.toList = x.1.toList) ↔ _
  constructor
  ·intro h j y hj e
   exact h ⟨y, zEQ (zDJ.2 hj), e.symm⟩
  ·rintro h ⟨y, hy, e⟩
   obtain ⟨j, hj⟩ := zG8 hy
   exact h j y (zDJ.1 hj) e.symm
 constructor
 ·rintro ⟨h0, h⟩
  refine ⟨fun i x hx => ?_, by omega⟩
  have h1 := h i x hx
  rw [zQ hx, key i x hx] at h1
  exact h1
 ·rintro ⟨h, h0⟩
  refine ⟨by omega, fun i x hx => ?_⟩
  rw [zQ hx, key i x hx]
  exact h i x hx)
theorem zUI (d : El zN) (t : El zF) : zAS d t = bif xU (fun _ m => bif (!(yO d m).1) then false else bif ((m.2.2.length : Int) != (0 : Int)) then false else bif ((m.2.1.length : Int) != (zc (zB zG d.2 m.1)).1) then false else xU (fun _ n => (zAY t.1 n).2.1) 0 m.2.1) 0 t.2.1 then (decide ((t.2.1.length : Int) ≤ (1000 : Int)), ()) else (false, ()) := by
 simp only [zAS, zJT, ze, zY, zq]
 have h0 : ∀ (w2 : El zA) (n5 : Int), LB.run zAu (d, t, w2, (), (), n5, (), (0 : Int), ()) = bif xU (fun _ n => (zAY t.1 n).2.1) 0 w2.2.1 then .brk (d, t, w2, (), (), n5, (), (w2.2.1.length : Int), ()) else .ret (false, ()) := fun w2 n5 => by
  refine LB.run_all (l := zAu) (L := w2.2.1) (fun i => (d, t, w2, (), (), n5, (), (i : Int), ())) (p := (fun _ n => (zAY t.1 n).2.1)) (r := (false, ())) (fun i x h => ?_) ?_
  ·have hi := (List.getElem?_eq_some_iff.1 h).1
   simp only [LB.b, zAu, z0, ze, zY]
   rw [ltT hi, cond_true, zQ h]
   cases (zAY t.1 x).2.1 <;> rfl
  ·simp only [LB.b, zAu, z0, ze, zY]
   rw [ltF]; rfl
 have : LB.run zBu (d, t, (), (), (0 : Int), ()) = bif xU (fun _ m => bif (!(yO d m).1) then false else bif ((m.2.2.length : Int) != (0 : Int)) then false else bif ((m.2.1.length : Int) != (zc (zB zG d.2 m.1)).1) then false else xU (fun _ n => (zAY t.1 n).2.1) 0 m.2.1) 0 t.2.1 then .brk (d, t, (), (), (t.2.1.length : Int), ()) else .ret (false, ()) := by
  refine LB.run_all (l := zBu) (L := t.2.1) (fun i => (d, t, (), (), (i : Int), ())) (r := (false, ())) (fun i x h => ?_) ?_
  ·have hi := (List.getElem?_eq_some_iff.1 h).1
   simp only [LB.b, zBu, z0, ze, zY, zq]
   rw [ltT hi, cond_true, zQ h, h0]
   generalize xU _ 0 x.2.1 = A
   cases (yO d x).1 <;> cases ((x.2.2.length : Int) != (0 : Int)) <;> cases ((x.2.1.length : Int) != (zc (zB zG d.2 x.1)).1) <;> cases A <;> rfl
  ·simp only [LB.b, zBu, z0, ze, zY, zq]
   rw [ltF]; rfl
 rw [this]
 cases xU _ 0 t.2.1 <;> rfl
theorem zkg (d : El zN) (t : El zF) : zIM d t = bif decide ((t.2.1.length : Int) > (1000 : Int)) then (false, ()) else bif xU (fun _ m => bif (!(vf d m).1) then false else bif ((m.2.2.length : Int) != (0 : Int)) then false else bif ((m.2.1.length : Int) != (yF (zB zG d.2 m.1)).1) then false else xU (fun _ n => (zBU t.1 n).2.1) 0 m.2.1) 0 t.2.1 then (true, ()) else (false, ()) := by
 simp only [zIM, zMi, z0, ze, zY, zq]
 generalize t.2.1 = L
 have h0 : ∀ (l16 : Li zA) (n17 n18 : Int) (l46 : Li .int), LB.run zBo (d, t, (), (), l16, n17, n18, l46, (l46.length : Int), (0 : Int), ()) = bif xU (fun _ n => (zBU t.1 n).2.1) 0 l46 then .brk (d, t, (), (), l16, n17, n18, l46, (l46.length : Int), (l46.length : Int), ()) else .ret (false, ()) := fun l16 n17 n18 l46 => by
  refine LB.run_all (l := zBo) (L := l46) (fun i => (d, t, (), (), l16, n17, n18, l46, (l46.length : Int), (i : Int), ())) (p := (fun _ n => (zBU t.1 n).2.1)) (r := (false, ())) (fun i x h => ?_) ?_
  ·have hi := (List.getElem?_eq_some_iff.1 h).1
   simp only [LB.b, zBo, z0, ze, zY]
   rw [ltT hi, cond_true, zQ h]
   cases (zBU t.1 x).2.1 <;> rfl
  ·simp only [LB.b, zBo, z0, ze, zY]
   rw [ltF]; rfl
 have : LB.run zCq (d, t, (), (), L, (L.length : Int), (0 : Int), ()) = bif xU (fun _ m => bif (!(vf d m).1) then false else bif ((m.2.2.length : Int) != (0 : Int)) then false else bif ((m.2.1.length : Int) != (yF (zB zG d.2 m.1)).1) then false else xU (fun _ n => (zBU t.1 n).2.1) 0 m.2.1) 0 L then .brk (d, t, (), (), L, (L.length : Int), (L.length : Int), ()) else .ret (false, ()) := by
  refine LB.run_all (l := zCq) (L := L) (fun i => (d, t, (), (), L, (L.length : Int), (i : Int), ())) (r := (false, ())) (fun i x h => ?_) ?_
  ·have hi := (List.getElem?_eq_some_iff.1 h).1
   simp only [LB.b, zCq, z0, ze, zY, zq]
   rw [ltT hi, cond_true, zQ h, h0]
   generalize xU _ 0 x.2.1 = A
   cases (vf d x).1 <;> cases ((x.2.2.length : Int) != (0 : Int)) <;> cases ((x.2.1.length : Int) != (yF (zB zG d.2 x.1)).1) <;> cases A <;> rfl
  ·simp only [LB.b, zCq, z0, ze, zY, zq]
   rw [ltF]; rfl
 rw [this]
 cases xU _ 0 L <;> rfl
theorem zKV (d : El zN) (m : El zA) : vf d m = yO d m := rfl
theorem zr1 (d : El zN) (t : El zF) : zIM d t = zAS d t := b1 (by
 rw [zkg, zUI]
 simp only [zKV, zVo, zql, nbS, zR]
 grind)
theorem zWz (s : El zE) : xK s = bif decide ((s.1.length : Int) > (40 : Int)) then (false, ()) else (bif (!(z9 s.2 (1 : Int) (1000000 : Int)).1) then (false, ()) else bif xU (fun i x => bif (!(yS x.2).1) then false else bif (!(z9 x.1 (1 : Int) (s.2 - (1 : Int))).1) then false else bif decide ((i : Int) > (0 : Int)) && decide (x.1 ≤ (zB zD s.1 ((i : Int) - (1 : Int))).1) then false else xU (fun _ y => !(xp x.2 y.2).1) 0 (s.1.take i)) 0 s.1 then (true, ()) else (false, ())) := by
 simp only [xK, zEN, z0, ze, zY, zq]
 have : LB.run zCn (s, (), s.1, (s.1.length : Int), (0 : Int), ()) = bif xU (fun i x => bif (!(yS x.2).1) then false else bif (!(z9 x.1 (1 : Int) (s.2 - (1 : Int))).1) then false else bif decide ((i : Int) > (0 : Int)) && decide (x.1 ≤ (zB zD s.1 ((i : Int) - (1 : Int))).1) then false else xU (fun _ y => !(xp x.2 y.2).1) 0 (s.1.take i)) 0 s.1 then .brk (s, (), s.1, (s.1.length : Int), (s.1.length : Int), ()) else .ret (false, ()) := by
  refine LB.run_all (l := zCn) (L := s.1) (fun i => (s, (), s.1, (s.1.length : Int), (i : Int), ())) (r := (false, ())) (fun i x h => ?_) ?_
  ·have hi := (List.getElem?_eq_some_iff.1 h).1
   simp only [LB.b, zCn, z0, ze, zY, zq]
   rw [ltT hi, cond_true, zQ h, zJ2, Int.toNat_natCast]
   have e : xU (fun i x_1 => bif (xp x.2 x_1.2).1 then false else true) 0 ((s.1.take i).drop (0 : Int).toNat) = xU (fun _ y => !(xp x.2 y.2).1) 0 (s.1.take i) := by
    refine congrArg (fun f => xU f 0 (s.1.take i)) ?_
    funext _ y; cases (xp x.2 y.2).1 <;> rfl
   rw [e]
   generalize xU _ 0 (s.1.take i) = A
   cases (yS x.2).1 <;> cases (z9 x.1 (1 : Int) (s.2 - (1 : Int))).1 <;> cases decide ((i : Int) > (0 : Int)) <;> cases decide (x.1 ≤ (zB zD s.1 ((i : Int) - (1 : Int))).1) <;> cases A <;> rfl
  ·simp only [LB.b, zCn, z0, ze, zY, zq]
   rw [ltF]; rfl
 rw [this]
 cases xU _ 0 s.1 <;> rfl
end
end Go.Proofs.YtkdidadegedmiaaGreat
namespace Go.Proofs.YtkdidadegedmiaaGreat
open Go.RowKit
noncomputable section
theorem zXy {α R : Type} (p : α → Bool) (g : α → R) (L : List α) : ∀ k, vX (fun _ x => bif p x then some (g x) else none) k L = (L.find? p).map g := by
 induction L with
 | nil => intro k; rfl
 | cons x L ih =>
  intro k
  simp only [vX, List.find?_cons]
  cases p x with
  | true => rfl
  | false => exact ih (k + 1)
theorem zWe (s : El zE) (f : El zK) : (zBr s f).1 = ((s.1.find? (fun x : El zD => (zI x.2 f).1)).map (fun x : El zD => (x.1 : Int))).getD 0 := by
 rw [zlJ]
 rw [zXy (fun x : El zD => (zI x.2 f).1) (fun x : El zD => ((x.1 : Int), ()))]
 cases s.1.find? (fun x : El zD => (zI x.2 f).1) <;> rfl
theorem zk0 (s : El zE) : xK s = zCv s := b1 (by
 rw [zWz, ziq]
 simp only [zMY, v3, zGB, nbS, zR, Nat.zero_add, zDJ, zR7, zG1, zWe]
 generalize s.1 = L
 have key : ∀ (i : Nat) (x : El zD), (∀ (i : Nat) (x : El zD), L[i]? = some x → (1 : Int) ≤ x.1) → (∀ (i j : Nat) (x y : El zD), i < j → L[i]? = some x → L[j]? = some y → (x.1 : Int) < y.1) → L[i]? = some x → (((L.find? (fun y : El zD => (zI y.2 x.2).1)).map (fun x : El zD => (x.1 : Int))).getD 0 = x.1 ↔ ∀ (j : Nat) (y : El zD), j < i ∧ L[j]? = some y → ¬ SFa x.2 y.2) := fun i x h1 hs hx => by
  constructor
  ·intro h j y hj hc
   cases hf : L.find? (fun y : El zD => (zI y.2 x.2).1) with
   | none =>
    have := List.find?_eq_none.1 hf x (zEQ hx)
    exact this (zG1.2 (SFa.refl _))
   | some z =>
    rw [hf] at h
    have hz : (z.1 : Int) = x.1 := h
    obtain ⟨hz1, k, hk, hzk, hk2⟩ := List.find?_eq_some_iff_getElem.1 hf
    have hzk' : L[k]? = some z := by rw [List.getElem?_eq_getElem hk, hzk]
    have hki : k = i := by
     rcases Nat.lt_trichotomy k i with h6 | h6 | h6
     ·have h7 := hs k i z x h6 hzk' hx; rw [hz] at h7; exact absurd h7 (Int.lt_irrefl _)
     ·exact h6
     ·have h7 := hs i k x z h6 hx hzk'; rw [hz] at h7; exact absurd h7 (Int.lt_irrefl _)
    subst hki
    have := hk2 j hj.1
    obtain ⟨hjl, hjy⟩ := List.getElem?_eq_some_iff.1 hj.2
    rw [hjy] at this
    have h9 := zG1.2 hc.symm
    rw [h9] at this; cases this
  ·intro h
   have hf : L.find? (fun y : El zD => (zI y.2 x.2).1) = some x := by
    rw [List.find?_eq_some_iff_getElem]
    obtain ⟨hi, hxi⟩ := List.getElem?_eq_some_iff.1 hx
    refine ⟨zG1.2 (SFa.refl _), i, hi, hxi, fun j hj => ?_⟩
    rw [Bool.not_eq_true', zRn]
    exact fun hc => h j _ ⟨hj, List.getElem?_eq_getElem (by omega)⟩ hc.symm
   rw [hf]; rfl
 have mono : (∀ (i : Nat) (x : El zD), L[i]? = some x → (i : Int) > 0 → ¬ (x.1 : Int) ≤ (zB zD L ((i : Int) - 1)).1) → (∀ (i j : Nat) (x y : El zD), i < j → L[i]? = some x → L[j]? = some y → (x.1 : Int) < y.1) := by
  intro h i j
  induction j with
  | zero => intro x y h1; omega
  | succ j ih =>
   intro x y h1 hx hy
   have hj : j < L.length := by have := (List.getElem?_eq_some_iff.1 hy).1; omega
   have hz : L[j]? = some (L[j]'hj) := List.getElem?_eq_getElem _
   have h2 := h (j + 1) y hy (by omega)
   rw [show ((j + 1 : Nat) : Int) - 1 = (j : Int) by omega, zQ hz] at h2
   by_cases he : i = j
   ·subst he; rw [hx] at hz
    have : x = L[i]'hj := Option.some.inj hz
    rw [← this] at h2; exact Int.not_le.1 h2
   ·exact Int.lt_trans (ih x _ (by omega) hx hz) (Int.not_le.1 h2)
 constructor
 ·rintro ⟨h0, h1, h⟩
  have hp : ∀ (i : Nat) (x : El zD), L[i]? = some x → (1 : Int) ≤ x.1 := fun i x hx => (h i x hx).2.1.1
  have hm := mono (fun i x hx hi hc => (h i x hx).2.2.1 ⟨hi, hc⟩)
  refine ⟨h1, by omega, fun i x hx => ?_⟩
  have h2 := h i x hx
  have hk := key i x hp hm hx
  have h8 := hk.2 h2.2.2.2
  rw [h8]
  have h9 := hm
  grind
 ·rintro ⟨h1, h0, h⟩
  have hp : ∀ (i : Nat) (x : El zD), L[i]? = some x → (1 : Int) ≤ x.1 := fun i x hx => by have := h i x hx; grind
  have hm := mono (fun i x hx hi hc => by have := h i x hx; grind)
  refine ⟨by omega, h1, fun i x hx => ?_⟩
  have h2 := h i x hx
  have hk := key i x hp hm hx
  have h8 := hk.1 (by grind)
  grind)
theorem zpF {l : Li zC} : (zET l).1 = true ↔ ∃ t, t ∈ l ∧ (t.2.2.1 = (1 : Int) ∨ t.2.2.1 = (2 : Int)) := by
 rw [zjL]
 simp only [nbS, zTZ]
 grind
theorem ztZ {l : Li zC} : (yX l ()).1 = true ↔ ∃ t, t ∈ l ∧ (t.2.2.1 = (1 : Int) ∨ t.2.2.1 = (2 : Int)) := by
 unfold yX
 rw [zCp]
 show decide ((zUw (vX (fun i x => bif (zDN x).1 then (some ((i : Int), ())) else none) 0 l) (fun r => (r.1, ())) ((-1 : Int), ())).1 ≥ 0) = true ↔ _
 rw [zIw (fun x : El zC => (zDN x).1), decide_eq_true_eq, zSw]
 simp only [zDN, zKP, z0, zY]
 simp only [nbS]
 grind
theorem zj9 (d : El zN) (t : El zF) : zBX d t = xD d t := b1 (by
 simp only [zBX, zF9, xD, zEq, zGu, zIK, zGt, zNf, zCX, zDl, z0, ze, zY]
 simp only [zuc, zk0, zcr, zNP, zk6, v3, zNv, zr1, nbS, zpF, ztZ]
 grind)
end
end Go.Proofs.YtkdidadegedmiaaGreat
namespace Go.Proofs.YtkdidadegedmiaaGreat
open Go.RowKit
noncomputable section
theorem zfm (l : Li zH) (s : ByteArray) : zFo l s = xf l s := by rw [zn5, zoC]
theorem zhh (a : El yb) (l : Li zH) : zFg a l = zDT a l := by simp only [zFg, zPB, zDT, zOn, z0, zY]; rw [zfm]
theorem zhM (a b : Int) : (zx a b).1 = if a < b then -1 else if a > b then 1 else 0 := by
 simp only [zCO, zx, zCh, z0, zY]
 simp only [bne_self_eq_false, cond_false]
 by_cases h1 : a < b
 ·rw [decide_eq_true h1, if_pos h1]; rfl
 ·by_cases h2 : a > b
  ·rw [decide_eq_false h1, decide_eq_true h2, if_neg h1, if_pos h2]; rfl
  ·rw [decide_eq_false h1, decide_eq_false h2, if_neg h1, if_neg h2]; rfl
theorem ztT (a b : ByteArray) : (zA1 a b).1 = if Op.bytesLess a.toList b.toList = true then -1 else if a.toList = b.toList then 0 else 1 := by
 simp only [zAe, zA1, zAz, z0, zY]
 simp only [beq_self_eq_true, Bool.not_true, cond_false]
 cases h1 : Op.bytesLess a.toList b.toList
 ·simp only [cond_false, Bool.false_or]
  by_cases h2 : a.toList = b.toList
  ·rw [beq_iff_eq.2 h2, if_pos h2]; rfl
  ·rw [beq_eq_false_iff_ne.2 h2, if_neg h2]; rfl
 ·rfl
theorem nz (a : Int) : ((a != (0 : Int)) = true ∧ a ≠ 0) ∨ ((a != (0 : Int)) = false ∧ a = 0) := by
 by_cases h : a = 0
 ·exact .inr ⟨by rw [h]; rfl, h⟩
 ·exact .inl ⟨bne_iff_ne.2 h, h⟩
theorem zuW (a b c : Int) : (zAN [a, b, c]).1 = if a ≠ 0 then a else if b ≠ 0 then b else c := by
 rw [zSm]
 rcases nz a with ⟨e1, h1⟩ | ⟨e1, h1⟩
 ·simp only [vX, e1]; rw [if_pos h1]; rfl
 ·rcases nz b with ⟨e2, h2⟩ | ⟨e2, h2⟩
  ·simp only [vX, e1, e2]; rw [if_neg (not_not_intro h1), if_pos h2]; rfl
  ·rcases nz c with ⟨e3, h3⟩ | ⟨e3, h3⟩
   ·simp only [vX, e1, e2, e3]; rw [if_neg (not_not_intro h1), if_neg (not_not_intro h2)]; rfl
   ·simp only [vX, e1, e2, e3]; rw [if_neg (not_not_intro h1), if_neg (not_not_intro h2), h3]; rfl
theorem zuG (a b : Int) : (zAN [a, b]).1 = if a ≠ 0 then a else b := by
 rw [zSm]
 rcases nz a with ⟨e1, h1⟩ | ⟨e1, h1⟩
 ·simp only [vX, e1]; rw [if_pos h1]; rfl
 ·rcases nz b with ⟨e2, h2⟩ | ⟨e2, h2⟩
  ·simp only [vX, e1, e2]; rw [if_neg (not_not_intro h1)]; rfl
  ·simp only [vX, e1, e2]; rw [if_neg (not_not_intro h1), h2]; rfl
theorem zlq (a b : El zL) : zL1 a b = zMP a b := b1 (by
 unfold zL1 zIY; simp only [zMP, zLI, z0, zY]
 obtain ⟨a1, a2, a3⟩ := a
 obtain ⟨b1, b2, b3⟩ := b
 rw [zuW, zhM, zhM, ztT]
 simp only [nbS]
 obtain ⟨a1, rfl⟩ : ∃ y : Int, y = a1 := ⟨_, rfl⟩
 obtain ⟨a2, rfl⟩ : ∃ y : Int, y = a2 := ⟨_, rfl⟩
 obtain ⟨b1, rfl⟩ : ∃ y : Int, y = b1 := ⟨_, rfl⟩
 obtain ⟨b2, rfl⟩ : ∃ y : Int, y = b2 := ⟨_, rfl⟩
 cases Op.bytesLess a3.toList b3.toList <;> grind)
theorem zre (c : El z5) (l : Li zH) : zON c l = zNW c l := by simp only [zON, zSS, zNW, zSX, z0, zY]; simp only [zhh, zlq]
theorem zn9 (c : Li z5) (l : Li zH) : zFr c l = zEL c l := by rw [zkh, ziK]; simp only [zre]
def zix (f : El zK) (l2 : Li zH) (i : Nat) (x : El yb) (s : Li zH) : (Li zH × Bool × Unit) ⊕ Li zH :=
 bif (x.1 == (2 : Int)) then (bif ((x.2.2.1 == (zB zL f.2 i).1) && ((x.2.2.2.1 == (zB zL f.2 i).2.1) && ((x.2.2.2.2.toList == (zB zL f.2 i).2.2.toList) && true))) then .inr s else .inl (l2, false, ()))
 else bif (x.1 == (1 : Int)) then (bif (xf s x.2.1).2.1 then (bif (((xf s x.2.1).1.1 == (zB zL f.2 i).1) && (((xf s x.2.1).1.2.1 == (zB zL f.2 i).2.1) && (((xf s x.2.1).1.2.2.toList == (zB zL f.2 i).2.2.toList) && true))) then .inr s else .inl (l2, false, ())) else .inr (s ++ [(x.2.1, zB zL f.2 i)])) else .inr s
theorem zkt (a : Int) : ((a == 2) = true ∧ (a == 1) = false) ∨ ((a == 2) = false ∧ (a == 1) = true) ∨ ((a == 2) = false ∧ (a == 1) = false) := by
 by_cases h : a = 2
 ·subst h; exact .inl ⟨rfl, rfl⟩
 ·by_cases h1 : a = 1
  ·subst h1; exact .inr (.inl ⟨rfl, rfl⟩)
  ·exact .inr (.inr ⟨beq_eq_false_iff_ne.2 h, beq_eq_false_iff_ne.2 h1⟩)
def stS {R σ T : Type} (o : R ⊕ σ) (g : σ → T) : St R T := match o with | .inl r => .ret r | .inr s => .brk (g s)
theorem zcJ {l : LB} {α σ : Type} (L : List α) (emb : Nat → σ → l.d.T) (f : Nat → α → σ → l.r.T ⊕ σ)
  (hb : ∀ i x s, L[i]? = some x → l.b (emb i s) = match f i x s with | .inl r => .ret r | .inr s' => .go (emb (i + 1) s')) (he : ∀ s, l.b (emb L.length s) = .brk (emb L.length s)) (s : σ) :
  l.run (emb 0 s) = stS (zAo f 0 L s) (emb L.length) := by
 rw [LB.run_forS L emb f hb he s]; unfold stS; cases zAo f 0 L s <;> rfl
theorem zWY (p : El zM) (f : El zK) (l2 l8 : Li zH) : LB.run zAK (p, f, l2, (), (), l8, (0 : Int), ()) = stS (zAo (zix f l2) 0 p.2.1 l8) fun s => (p, f, l2, (), (), s, (p.2.1.length : Int), ()) := by
 refine zcJ (l := zAK) p.2.1 (fun i s => (p, f, l2, (), (), s, (i : Int), ())) (zix f l2) (fun i x s h => ?_) (fun s => ?_) l8
 ·have hi := (List.getElem?_eq_some_iff.1 h).1
  simp only [LB.b, zAK, z0, ze, zY, zix]
  rw [ltT hi, cond_true, zQ h]
  try dsimp only
  generalize ((x.2.2.1 == (zB zL f.2 i).1) && ((x.2.2.2.1 == (zB zL f.2 i).2.1) && ((x.2.2.2.2.toList == (zB zL f.2 i).2.2.toList) && true))) = A
  generalize (((xf s x.2.1).1.1 == (zB zL f.2 i).1) && (((xf s x.2.1).1.2.1 == (zB zL f.2 i).2.1) && (((xf s x.2.1).1.2.2.toList == (zB zL f.2 i).2.2.toList) && true))) = B
  generalize (xf s x.2.1).2.1 = C
  rcases zkt x.1 with ⟨h1, h2⟩ | ⟨h1, h2⟩ | ⟨h1, h2⟩ <;> rw [h1, h2] <;> cases A <;> cases B <;> cases C <;> rfl
 ·simp only [LB.b, zAK, z0, ze, zY]
  rw [ltF]; rfl
theorem zXp (L : Li yb) (f : El zK) (l2 l8 : Li zH) : LB.run zAO (f, l2, (), l8, L, (L.length : Int), (0 : Int), ()) = stS (zAo (zix f l2) 0 L l8) fun s => (f, l2, (), s, L, (L.length : Int), (L.length : Int), ()) := by
 refine zcJ (l := zAO) L (fun i s => (f, l2, (), s, L, (L.length : Int), (i : Int), ())) (zix f l2) (fun i x s h => ?_) (fun s => ?_) l8
 ·have hi := (List.getElem?_eq_some_iff.1 h).1
  simp only [LB.b, zAO, z0, ze, zY, zix]
  rw [ltT hi, cond_true, zQ h, zfm]
  try dsimp only
  generalize ((x.2.2.1 == (zB zL f.2 i).1) && ((x.2.2.2.1 == (zB zL f.2 i).2.1) && ((x.2.2.2.2.toList == (zB zL f.2 i).2.2.toList) && true))) = A
  generalize (((xf s x.2.1).1.1 == (zB zL f.2 i).1) && (((xf s x.2.1).1.2.1 == (zB zL f.2 i).2.1) && (((xf s x.2.1).1.2.2.toList == (zB zL f.2 i).2.2.toList) && true))) = B
  generalize (xf s x.2.1).2.1 = C
  rcases zkt x.1 with ⟨h1, h2⟩ | ⟨h1, h2⟩ | ⟨h1, h2⟩ <;> rw [h1, h2] <;> cases A <;> cases B <;> cases C <;> rfl
 ·simp only [LB.b, zAO, z0, ze, zY]
  rw [ltF]; rfl
theorem zks (p : El zM) (f : El zK) (l : Li zH) : zA9 p f l = zt p f l := by
 simp only [zA9, zCk, zt, zDF, z0, ze, zY, zq]
 rw [zXp, zWY]
 have e1 : (f.1.toList == p.1.toList) = (p.1.toList == f.1.toList) := by rw [Bool.eq_iff_iff, beq_iff_eq, beq_iff_eq]; exact eq_comm
 have e2 : ((f.2.length : Int) != (p.2.1.length : Int)) = ((p.2.1.length : Int) != (f.2.length : Int)) := by rw [Bool.eq_iff_iff, bne_iff_ne, bne_iff_ne]; exact ne_comm
 rw [e1, e2]
 cases zAo (zix f l) 0 p.2.1 l <;> rfl
theorem zkf (r : El zG) (s : El zE) (l : Li zH) : zEG r s l = bif xU (fun _ p => bif p.2.2 then xU (fun _ x => !(zt p x.2 l).2.1) 0 s.1 else true) 0 r.2.2.1 then (false, ()) else (true, ()) := by
 simp only [zEG, zFl, ze, zY, zq]
 have h1 : ∀ n7 : Int, (zB zM r.2.2.1 n7).2.2 = true → LB.run vS (r, s, l, (), (), n7, (0 : Int), ()) = bif xU (fun _ x => !(zt (zB zM r.2.2.1 n7) x.2 l).2.1) 0 s.1 then .brk (r, s, l, (), (), n7, (s.1.length : Int), ()) else .ret (true, ()) := fun n7 hn => by
  refine LB.run_all (l := vS) (L := s.1) (fun i => (r, s, l, (), (), n7, (i : Int), ())) (p := (fun _ x => !(zt (zB zM r.2.2.1 n7) x.2 l).2.1)) (r := (true, ())) (fun i x h => ?_) ?_
  ·have hi := (List.getElem?_eq_some_iff.1 h).1
   simp only [LB.b, vS, z0, ze, zY]
   rw [ltT hi, cond_true, hn, zQ h]
   cases (zt (zB zM r.2.2.1 n7) x.2 l).2.1 <;> rfl
  ·simp only [LB.b, vS, z0, ze, zY]
   rw [ltF]; rfl
 have h2 : ∀ n7 : Int, (zB zM r.2.2.1 n7).2.2 = false → LB.run vS (r, s, l, (), (), n7, (0 : Int), ()) = .brk (r, s, l, (), (), n7, (0 : Int), ()) := fun n7 hn => by
  refine LB.run_scan (l := vS) (L := ([] : List Unit)) (fun _ => (r, s, l, (), (), n7, (0 : Int), ())) (f := (fun _ _ => none)) (fun i x h => by simp at h) ?_
  simp only [LB.b, vS, z0, ze, zY]
  rw [hn]
  cases decide ((0 : Int) < (s.1.length : Int)) <;> rfl
 have : LB.run zDA (r, s, l, (), (), (0 : Int), ()) = bif xU (fun _ p => bif p.2.2 then xU (fun _ x => !(zt p x.2 l).2.1) 0 s.1 else true) 0 r.2.2.1 then .brk (r, s, l, (), (), (r.2.2.1.length : Int), ()) else .ret (true, ()) := by
  refine LB.run_all (l := zDA) (L := r.2.2.1) (fun i => (r, s, l, (), (), (i : Int), ())) (r := (true, ())) (fun i x h => ?_) ?_
  ·have hi := (List.getElem?_eq_some_iff.1 h).1
   simp only [LB.b, zDA, z0, ze, zY, zq]
   rw [ltT hi, cond_true]
   cases hn : x.2.2 with
   | true =>
    rw [h1 i (by rw [zQ h]; exact hn), zQ h]
    generalize xU _ 0 s.1 = A
    cases A <;> rfl
   | false => rw [h2 i (by rw [zQ h]; exact hn)]; rfl
  ·simp only [LB.b, zDA, z0, ze, zY, zq]
   rw [ltF]; rfl
 rw [this]
 cases xU _ 0 r.2.2.1 <;> rfl
theorem ztm {p : El zM} {s : El zE} {l : Li zH} : (zH0 p s l).1 > 0 ↔ ∃ x, x ∈ s.1 ∧ (zt p x.2 l).2.1 = true := by
 rw [zmw]
 simp only [zks]
 rw [zJO (fun x : El zD => (zt p x.2 l).2.1)]
 rw [Int.zero_add]
 constructor
 ·intro h
  have h : 0 < (s.1.filter fun x : El zD => (zt p x.2 l).2.1).length := by omega
  obtain ⟨x, hx⟩ := List.exists_mem_of_length_pos h
  exact ⟨x, (List.mem_filter.1 hx).1, (List.mem_filter.1 hx).2⟩
 ·rintro ⟨x, h1, h2⟩
  have : 0 < (s.1.filter fun x : El zD => (zt p x.2 l).2.1).length := List.length_pos_of_mem (List.mem_filter.2 ⟨h1, h2⟩)
  omega
theorem znp (r : El zG) (s : El zE) (l : Li zH) : zFi r s l = zEG r s l := b1 (by
 rw [ziu, zkf]
 simp only [nbS, zTZ, ztm]
 grind)
theorem zq9 (r : El zG) : (yZ r false).1 = r.2.2.1.filter (fun p => !p.2.2) := by
 rw [zr0]
 have := zDU (fun x : El zM => x.2.2 == false) r.2.2.1 0 []
 refine this.trans ?_
 rw [List.nil_append]
 refine congrArg (fun f => List.filter f r.2.2.1) ?_
 funext x; cases x.2.2 <;> rfl
theorem zRk.take {L : Li zM} : ∀ {n : Nat}, zRk L n → L.filter (fun p => !p.2.2) = L.take n := by
 induction L with
 | nil => intro n h; simp
 | cons x L ih =>
  intro n h
  have h0 := h.2 0 x rfl
  cases n with
  | zero =>
   have hx : x.2.2 = true := h0.2 (Nat.le_refl 0)
   rw [List.filter_cons_of_neg (by rw [hx]; decide)]
   rw [ih (n := 0) ⟨Nat.zero_le _, fun i y hy => ⟨fun _ => Nat.zero_le i, fun _ => (h.2 (i + 1) y (by simpa using hy)).2 (Nat.zero_le _)⟩⟩]; rfl
  | succ n =>
   have hx : x.2.2 = false := by
    cases e : x.2.2 with
    | false => rfl
    | true => have := h0.1 e; omega
   rw [List.filter_cons_of_pos (by rw [hx]; decide), List.take_succ_cons]
   congr 1
   refine ih ⟨by have := h.1; simp at this; exact this, fun i y hy => ?_⟩
   rw [h.2 (i + 1) y (by simpa using hy)]; omega
theorem zs6 {r : El zG} {n : Nat} (hF : zRk r.2.2.1 n) (s : El zE) : ∀ (N : Nat) (out : Li zA) (ids : Li .int) (l : Li zH), ids.length ≤ n → xk N out r s ids l = ya N out r s ids l := by
 intro N
 induction N with
 | zero => intro _ _ _ _; rfl
 | succ N ih =>
  intro out ids l hids
  show (vh (xk N) (xw N) out r s ids l).val = (xz (ya N) (xQ N) out r s ids l).val
  have hn : (zc r).1 = (n : Int) := by rw [zGF, hF.len]
  have hp : (yZ r false).1 = r.2.2.1.take n := by rw [zq9, hF.take]
  have hpl : (r.2.2.1.take n).length = n := by rw [List.length_take]; have := hF.1; omega
  simp only [vh, xz, z0, ze, zY, zq]
  rw [hn, hp, hpl, znp, zn9]
  by_cases hc : ids.length = n
  ·rw [hc]
   have : (((n : Nat) : Int) == ((n : Nat) : Int)) = true := beq_self_eq_true _
   rw [this]; rfl
  ·have : ((ids.length : Int) == ((n : Nat) : Int)) = false := beq_eq_false_iff_ne.2 (by omega)
   rw [this, cond_false, cond_false]
   have hg : zB zM (r.2.2.1.take n) (ids.length : Int) = zB zM r.2.2.1 (ids.length : Int) := by
    have h1 : ids.length < r.2.2.1.length := by have := hF.1; omega
    have h2 : r.2.2.1[ids.length]? = some (r.2.2.1[ids.length]'h1) := List.getElem?_eq_getElem _
    rw [zQ h2]
    exact zQ (zDJ.2 ⟨by omega, h2⟩)
   have hs : LB.run (z4 (ya N) (xQ N)) (out, r, s, (), ids, l, (), (), (0 : Int), ()) = .brk (yC (fun _ x o => bif (zt (zB zM r.2.2.1 (ids.length : Int)) x.2 l).2.1 then (ya N o r s (ids ++ [x.1]) (zt (zB zM r.2.2.1 (ids.length : Int)) x.2 l).1).1 else o) 0 s.1 out, r, s, (), ids, l, (), (), (s.1.length : Int), ()) := by
    refine LB.run_fold (l := z4 (ya N) (xQ N)) (L := s.1) (fun i o => (o, r, s, (), ids, l, (), (), (i : Int), ())) (fun i x o h => ?_) (fun o => ?_) (s := out)
    ·have hi := (List.getElem?_eq_some_iff.1 h).1
     simp only [LB.b, z4, z0, ze, zY]
     rw [ltT hi, cond_true, zQ h]
     try dsimp only
     cases (zt (zB zM r.2.2.1 (ids.length : Int)) x.2 l).2.1 <;> rfl
    ·simp only [LB.b, z4, z0, ze, zY]
     rw [ltF]; rfl
   have hi' : LB.run (yJ (xk N) (xw N)) (out, r, s, (), ids, l, (), (), r.2.2.1.take n, s.1, (s.1.length : Int), (0 : Int), ()) = .brk (yC (fun _ x o => bif (zt (zB zM r.2.2.1 (ids.length : Int)) x.2 l).2.1 then (ya N o r s (ids ++ [x.1]) (zt (zB zM r.2.2.1 (ids.length : Int)) x.2 l).1).1 else o) 0 s.1 out, r, s, (), ids, l, (), (), r.2.2.1.take n, s.1, (s.1.length : Int), (s.1.length : Int), ()) := by
    refine LB.run_fold (l := yJ (xk N) (xw N)) (L := s.1) (fun i o => (o, r, s, (), ids, l, (), (), r.2.2.1.take n, s.1, (s.1.length : Int), (i : Int), ())) (fun i x o h => ?_) (fun o => ?_) (s := out)
    ·have hi := (List.getElem?_eq_some_iff.1 h).1
     simp only [LB.b, yJ, z0, ze, zY]
     rw [ltT hi, cond_true, zQ h, hg, zks]
     try dsimp only
     rw [ih o (ids ++ [x.1]) (zt (zB zM r.2.2.1 (ids.length : Int)) x.2 l).1 (by simp; omega)]
     cases (zt (zB zM r.2.2.1 (ids.length : Int)) x.2 l).2.1 <;> rfl
    ·simp only [LB.b, yJ, z0, ze, zY]
     rw [ltF]; rfl
   rw [hs, hi']; rfl
end
end Go.Proofs.YtkdidadegedmiaaGreat
namespace Go.Proofs.YtkdidadegedmiaaGreat
open Go.RowKit
noncomputable section
theorem zlg {L : Li zM} (h : (zBb L).1 = true) : ∃ n, zRk L n := by
 rw [zSt] at h
 simp only [nbS, zR, Nat.zero_add, zR7] at h
 have h0 := h.1
 refine zRk.of fun i x y hx hy hn => ?_
 have h2 := h0 (i + 1) y hy
 have h1 : zB zM L (((i + 1 : Nat) : Int) - 1) = zB zM L (i : Int) := by congr 1; omega
 rw [h1, zQ hx] at h2
 grind
theorem zu4 {r : El zG} {n : Nat} (hF : zRk r.2.2.1 n) (s : El zE) : zE2 r s = zGe r s := by
 simp only [zE2, zDc, zGe, zII, ze, zY]
 rw [zs6 hF s 64 [] [] [] (Nat.zero_le _)]
def zqx (d : El zN) (s : El zE) : Li zA := yC (fun i r o => o ++ (zGe r s).1.map (fun m : El zA => (((i : Int), m.2) : El zA))) 0 d.2 []
theorem zax (d : El zN) (s : El zE) : zHu d s = (zqx d s, ()) := by
 simp only [zHu, zH7, ze, zY, zq]
 have h1 : ∀ (n6 : Int) (L o : Li zA), ∃ l7 n8, LB.run zB3 (d, s, (), (), o, n6, L, (0 : Int), ()) = .brk (d, s, (), (), o ++ L.map (fun m : El zA => ((n6, m.2) : El zA)), n6, l7, n8, ()) := fun n6 L o => by
  refine ⟨(L.take L.length).map (fun m : El zA => ((n6, m.2) : El zA)) ++ L.drop L.length, (L.length : Int), ?_⟩
  have := LB.run_fold (l := zB3) (L := L) (fun i (o : Li zA) => (d, s, (), (), o, n6, (L.take i).map (fun m : El zA => ((n6, m.2) : El zA)) ++ L.drop i, (i : Int), ())) (f := (fun _ m o => o ++ [((n6, m.2) : El zA)])) (fun i x o h => ?_) (fun o => ?_) (s := o)
  ·refine Eq.trans this ?_
   rw [vM (fun m : El zA => ((n6, m.2) : El zA))]
  ·have hi := (List.getElem?_eq_some_iff.1 h).1
   have hx := (List.getElem?_eq_some_iff.1 h).2
   have hlen : ((L.take i).map (fun m : El zA => ((n6, m.2) : El zA)) ++ L.drop i).length = L.length := by simp; omega
   have hti : ((L.take i).map (fun m : El zA => ((n6, m.2) : El zA))).length = i := by simp; omega
   have hd : L.drop i = x :: L.drop (i + 1) := by rw [List.drop_eq_getElem_cons hi, hx]
   have hg : zB zA ((L.take i).map (fun m : El zA => ((n6, m.2) : El zA)) ++ L.drop i) (i : Int) = x := zQ (by rw [List.getElem?_append_right (by omega), hti, Nat.sub_self, hd]; rfl)
   have hs : List.set ((L.take i).map (fun m : El zA => ((n6, m.2) : El zA)) ++ L.drop i) i ((n6, x.2) : El zA) = (L.take (i + 1)).map (fun m : El zA => ((n6, m.2) : El zA)) ++ L.drop (i + 1) := by
    rw [List.set_append_right _ _ (by omega), hti, Nat.sub_self, hd, List.set_cons_zero, List.take_add_one, h]
    simp
   have hg2 : zB zA (List.set ((L.take i).map (fun m : El zA => ((n6, m.2) : El zA)) ++ L.drop i) i ((n6, x.2) : El zA)) (i : Int) = ((n6, x.2) : El zA) := zQ (List.getElem?_set_self (by omega))
   simp only [LB.b, zB3, z0, ze, zY]
   rw [hlen, ltT hi, cond_true, hg, Int.toNat_natCast, hg2, hs]; rfl
  ·simp only [LB.b, zB3, z0, ze, zY]
   have hlen : ((L.take L.length).map (fun m : El zA => ((n6, m.2) : El zA)) ++ L.drop L.length).length = L.length := by simp
   rw [hlen, ltF]; rfl
 have : LB.run zBq (d, s, (), (), [], (0 : Int), ()) = .brk (d, s, (), (), zqx d s, (d.2.length : Int), ()) := by
  refine LB.run_fold (l := zBq) (L := d.2) (fun i o => (d, s, (), (), o, (i : Int), ())) (fun i x o h => ?_) (fun o => ?_) (s := [])
  ·have hi := (List.getElem?_eq_some_iff.1 h).1
   simp only [LB.b, zBq, z0, ze, zY, zq]
   rw [ltT hi, cond_true, zQ h]
   obtain ⟨l7, n8, e⟩ := h1 (i : Int) (zGe x s).1 o
   rw [e]; rfl
  ·simp only [LB.b, zBq, z0, ze, zY, zq]
   rw [ltF]; rfl
 rw [this]; rfl
theorem zsT {d : El zN} (hF : ∀ r, r ∈ d.2 → ∃ n, zRk r.2.2.1 n) (s : El zE) : zRB d s = zHu d s := by
 rw [zax]
 simp only [zRB, zKs, ze, zY, zq]
 have : LB.run zDZ (s, (), [], d.2, (d.2.length : Int), (0 : Int), ()) = .brk (s, (), zqx d s, d.2, (d.2.length : Int), (d.2.length : Int), ()) := by
  refine LB.run_fold (l := zDZ) (L := d.2) (fun i o => (s, (), o, d.2, (d.2.length : Int), (i : Int), ())) (fun i x o h => ?_) (fun o => ?_) (s := [])
  ·have hi := (List.getElem?_eq_some_iff.1 h).1
   simp only [LB.b, zDZ, z0, ze, zY, zq]
   rw [ltT hi, cond_true]
   try dsimp only
   rw [zgG, zQ h]
   obtain ⟨n, hn⟩ := hF x (zEQ h)
   rw [zu4 hn, vM (fun m : El zA => (((i : Int), m.2) : El zA))]; rfl
  ·simp only [LB.b, zDZ, z0, ze, zY, zq]
   rw [ltF]; rfl
 rw [this]; rfl
def ztg {R S : Type} (P : R → S → Prop) : Option R → Option S → Prop
 | none, none => True
 | some a, some b => P a b
 | _, _ => False
theorem ze7 {α R S : Type} {P : R → S → Prop} {f : Nat → α → Option R} {g : Nat → α → Option S} : ∀ {L : List α} {k : Nat}, (∀ i x, L[i]? = some x → ztg P (f (k + i) x) (g (k + i) x)) → ztg P (vX f k L) (vX g k L)
 | [], _, _ => trivial
 | x :: L, k, h => by
  have h0 := h 0 x rfl
  rw [Nat.add_zero] at h0
  simp only [vX]
  cases e1 : f k x <;> cases e2 : g k x <;> rw [e1, e2] at h0
  ·exact ze7 (L := L) (k := k + 1) fun i y hy => by have := h (i + 1) y (by simpa using hy); rwa [show k + 1 + i = k + (i + 1) by omega]
  ·exact h0.elim
  ·exact h0.elim
  ·exact h0
theorem zce {α σ τ : Type} {R : σ → τ → Prop} {f : Nat → α → σ → σ} {g : Nat → α → τ → τ} : ∀ {L : List α} {k : Nat} {s : σ} {t : τ}, R s t → (∀ i x s t, L[i]? = some x → R s t → R (f (k + i) x s) (g (k + i) x t)) → R (yC f k L s) (yC g k L t)
 | [], _, _, _, h, _ => h
 | x :: L, k, s, t, h, hh => by
  simp only [yC]
  refine zce (L := L) (k := k + 1) (hh 0 x s t rfl h) fun i y s t hy hr => ?_
  have := hh (i + 1) y s t (by simpa using hy) hr
  rwa [show k + 1 + i = k + (i + 1) by omega]
theorem zfv (a b : El zA) : zHT a b = zE6 a b := b1 (by
 unfold zHT; simp only [zEv, zCg, z0, zY]
 rw [zdD, zKE]
 have hy : (zAN [(zx a.1 b.1).1, (zx (a.2.1.length : Int) (b.2.1.length : Int)).1]).1 = (fun x y : Int => if x ≠ 0 then x else y) (if (a.1 : Int) < b.1 then -1 else if (a.1 : Int) > b.1 then 1 else 0) (if (a.2.1.length : Int) < (b.2.1.length : Int) then -1 else if (a.2.1.length : Int) > (b.2.1.length : Int) then 1 else 0) := by
  rw [zuG, zhM, zhM]
 generalize zAN [(zx a.1 b.1).1, (zx (a.2.1.length : Int) (b.2.1.length : Int)).1] = y at *
 obtain ⟨y, ⟨⟩⟩ := y
 dsimp only at hy ⊢
 subst hy
 obtain ⟨a1, a2, a3⟩ := a
 obtain ⟨b1, b2, b3⟩ := b
 obtain ⟨a1, rfl⟩ : ∃ y : Int, y = a1 := ⟨_, rfl⟩
 obtain ⟨b1, rfl⟩ : ∃ y : Int, y = b1 := ⟨_, rfl⟩
 dsimp only
 have hr : ∀ hl : a2.length = b2.length, ztg (fun (x : Int × Unit) (y : Bool × Unit) => x.1 < 0 ↔ y.1 = true) (vX (fun i x => bif (decide ((i : Int) ≥ (b2.length : Int))) then (some ((1 : Int), ())) else (bif ((zx (zB .int a2 (i : Int)) (zB .int b2 (i : Int))).1 != (0 : Int)) then (some ((zx (zB .int a2 (i : Int)) (zB .int b2 (i : Int))).1, ())) else none)) 0 a2) (vX (fun i x => bif (x != (zB .int b2 (i : Int))) then (some (decide (x < (zB .int b2 (i : Int))), ())) else none) 0 a2) := fun hl => by
  refine ze7 fun i x hx => ?_
  have hi := (List.getElem?_eq_some_iff.1 hx).1
  rw [Nat.zero_add, decide_eq_false (by omega), cond_false, zQ hx, zhM]
  generalize zB .int b2 (i : Int) = y
  obtain ⟨x, rfl⟩ : ∃ z : Int, z = x := ⟨_, rfl⟩
  obtain ⟨y, rfl⟩ : ∃ z : Int, z = y := ⟨_, rfl⟩
  rcases Int.lt_trichotomy x y with h | h | h
  ·rw [if_pos h, bne_iff_ne.2 (show x ≠ y by omega)]
   show (-1 : Int) < 0 ↔ decide (x < y) = true
   simp [h]
  ·subst h
   rw [if_neg (Int.lt_irrefl _), if_neg (Int.lt_irrefl _), show (x != x) = false from bne_self_eq_false x]; trivial
  ·rw [if_neg (by omega), if_pos h, bne_iff_ne.2 (show x ≠ y by omega)]
   show (1 : Int) < 0 ↔ decide (x < y) = true
   simp; omega
 by_cases h1 : a1 = b1
 ·subst h1
  by_cases h2 : a2.length = b2.length
  ·have hr := hr h2
   rw [h2]
   simp only [Int.lt_irrefl, gt_iff_lt, if_false, bne_self_eq_false, cond_false, beq_self_eq_true, cond_true, ne_eq, not_true_eq_false, decide_false]
   generalize vX _ 0 a2 = A at *
   generalize vX _ 0 a2 = B at *
   cases A with
   | none => cases B with
    | none => simp [zUw]
    | some y => exact hr.elim
   | some x => cases B with
    | none => exact hr.elim
    | some y => exact decide_eq_true_iff.trans hr
  ·simp only [Int.lt_irrefl, gt_iff_lt, if_false, bne_self_eq_false, cond_false, ne_eq, not_true_eq_false]
   rw [bne_iff_ne.2 (show ((a2.length : Int)) ≠ (b2.length : Int) by omega), cond_true]
   by_cases h3 : (a2.length : Int) < (b2.length : Int)
   ·simp [h3]
   ·have h4 : (b2.length : Int) < (a2.length : Int) := by omega
    simp [h3, h4]
 ·rw [bne_iff_ne.2 h1, cond_true]
  by_cases h3 : a1 < b1
  ·simp [h3]
  ·have h4 : b1 < a1 := by omega
   simp [h3, h4])
theorem zqf (d : El zN) (a b : El zA) : zH9 d a b = zEh d a b := by simp only [zH9, zIA, zEh, zHr, z0, ze, zY]; simp only [zKV, zfv]
theorem zTi (a b : El zA) : zDe a b = vJ a b := by simp only [zDe, zHg, vJ, zFS, z0, zY]; rw [zMJ, zXE]
theorem zYq (l : Li zA) (m : El zA) : zGn l m = xZ l m := b1 (by
 rw [zTs]
 unfold zGn xF
 rw [zCb]
 unfold zGE
 simp only [zTi]
 show decide ((zUw (vX (fun i x => bif (vJ x m).1 then (some ((i : Int), ())) else none) 0 l) (fun r => (r.1, ())) ((-1 : Int), ())).1 ≥ 0) = true ↔ _
 rw [zIw (fun x : El zA => (vJ x m).1), decide_eq_true_eq, zSw]
 simp only [nbS, zTZ]
 grind)
theorem zts (d : El zN) (l f : Li zA) : zAP d l f = zFP d l f := by
 rw [zRm, zew]
 simp only [zKV, zYq, zqf]
 have h := zce (R := fun (s : El zA × Bool) (t : Int) => (t = -1 ∧ s = (((0 : Int), (([] : Li .int), ([] : Li zH))), false)) ∨ (0 ≤ t ∧ t < (l.length : Int) ∧ s = (zB zA l t, true))) (f := fun i x (s : (El zA) × Bool) => bif (!(yO d x).1) then (s.1, s.2) else (bif (xZ f x).1 then (s.1, s.2) else (bif (!s.2) then (x, true) else (bif (zEh d x s.1).1 then (x, true) else (s.1, s.2))))) (g := fun i x (s : Int) => bif (yO d x).1 then (bif (!(xZ f x).1) then (bif (decide (s < (0 : Int))) then (i : Int) else (bif (zEh d x (zB zA l s)).1 then (i : Int) else s)) else s) else s) (L := l) (k := 0) (s := (((0 : Int), (([] : Li .int), ([] : Li zH))), false)) (t := -1) (.inl ⟨rfl, rfl⟩) (fun i x s t hx hr => by
  have hi := (List.getElem?_eq_some_iff.1 hx).1
  have hn : 0 ≤ ((0 + i : Nat) : Int) ∧ ((0 + i : Nat) : Int) < (l.length : Int) ∧ ((x, true) : El zA × Bool) = (zB zA l ((0 + i : Nat) : Int), true) := ⟨by omega, by omega, by rw [Nat.zero_add, zQ hx]⟩
  cases (yO d x).1 with
  | false => exact hr
  | true =>
   cases (xZ f x).1 with
   | true => exact hr
   | false =>
    rcases hr with ⟨rfl, rfl⟩ | ⟨h1, h2, rfl⟩
    ·exact .inr hn
    ·have : decide (t < 0) = false := decide_eq_false (by omega)
     simp only [this, Bool.not_true, Bool.not_false, cond_true, cond_false]
     cases (zEh d x (zB zA l t)).1 with
     | true => exact .inr hn
     | false => exact .inr ⟨h1, h2, rfl⟩)
 unfold zAx; simp only [v9, zCG, ze, zY]
 generalize yC _ 0 l (((0 : Int), (([] : Li .int), ([] : Li zH))), false) = A at *
 generalize yC _ 0 l (-1 : Int) = B at *
 rcases h with ⟨rfl, rfl⟩ | ⟨h1, h2, rfl⟩
 ·rfl
 ·rw [decide_eq_false (by omega), cond_false]
end
end Go.Proofs.YtkdidadegedmiaaGreat
namespace Go.Proofs.YtkdidadegedmiaaGreat
open Go.RowKit
theorem zrk {l : LB} {x t : l.d.T} (h : l.b x = .brk t) : l.run x = .brk t := by
 rw [LB.run_eq (n := 1) (by simp only [whl, h]; rfl)]
 simp only [whl, h]
end Go.Proofs.YtkdidadegedmiaaGreat
namespace Go.Proofs.YtkdidadegedmiaaGreat
open Go.RowKit
noncomputable section
theorem zGv {α : Type} (L : List α) : yC (fun (_ : Nat) x s => s ++ [x]) 0 L [] = L := by
 have := vM (fun x : α => x) L 0 []
 simpa using this
theorem zWG {α γ : Type} : ∀ (L : List α) (k : Nat) (s : List α × γ), yC (fun (_ : Nat) x (s : List α × γ) => (s.1 ++ [x], s.2)) k L s = (s.1 ++ L, s.2)
 | [], _, s => by simp [yC]
 | x :: L, k, s => by
  rw [yC, zWG L]
  simp
theorem c3 (f : El zK) : yo f = (f, ()) := by simp [yo, zOj]
theorem c15 (f : El zA) : v9 f = (f, ()) := by simp [v9, zCG]
theorem zda (l : Li zC) : xq l = (l, ()) := by
 rw [zSO]; exact congrArg (fun x => (x, ())) (zGv l)
theorem zdX (l : Li zD) : xd l = (l, ()) := by
 rw [zQA]; exact congrArg (fun x => (x, ())) (zGv l)
theorem zot (l : Li zA) : zC4 l = (l, ()) := by
 rw [zXo]; exact congrArg (fun x => (x, ())) (zGv l)
theorem zs4 (l : Li zP) : zE0 l = (l, ()) := by
 rw [zc7]; exact congrArg (fun x => (x, ())) (zGv l)
theorem c11 (l : Li zA) : zI1 l = (l, ()) := by
 rw [zio]; exact congrArg (fun x => (x, ())) (zGv l)
theorem c17 (l : Li zD) : zAm l = (l, ()) := by
 rw [zYE]; simp only [c3]; exact congrArg (fun x => (x, ())) (zGv l)
theorem c18 (l : Li zC) : zEU l = (l, ()) := by
 rw [zXz]; simp only [c3]; exact congrArg (fun x => (x, ())) (zGv l)
theorem c19 (l : Li zP) : zAi l = (l, ()) := by
 rw [zXB]; simp only [c3]; exact congrArg (fun x => (x, ())) (zGv l)
theorem c4 (s : El zE) : zFz s = (s, ()) := by
 rw [zam]; simp only [c3]; exact congrArg (fun x => (x, ())) (zWG (γ := Int) s.1 0 ([], s.2))
theorem ztd (s : El zE) : zE5 s = (s, ()) := by
 rw [zdO]; exact congrArg (fun x => (x, ())) (zWG (γ := Int) s.1 0 ([], s.2))
theorem zuF (x : El zF) : zEi x = (x, ()) := by
 unfold zEi; rw [ztd, zot, zda, zdX, zs4]
theorem c20 (x : El zF) : zFb x = (x, ()) := by
 unfold zFb; rw [c4, c11, c18, c17, c19]
theorem ztL (l : Li .int) (n : Int) : (ym l n).1 = (v8 l n).1 := by
 have h : (ym l n).1 = true ↔ (v8 l n).1 = true := by
  unfold ym
  rw [zLt, zbr]
  show decide ((zUw (vX (fun i x => bif (n == x) then (some ((i : Int), ())) else none) 0 l) (fun r => (r.1, ())) ((-1 : Int), ())).1 ≥ 0) = true ↔ _
  rw [zIw (fun x : Int => n == x), decide_eq_true_eq, zSw]
  simp only [nbS, zTZ]
  grind
 cases h1 : (ym l n).1 <;> cases h2 : (v8 l n).1 <;> simp_all
theorem zpw (l : Li zA) (n : Int) : zHn l n = zBV l n := by
 rw [znD, zav]
 simp only [ztL, c15]
 rfl
theorem zWL (l : Li zP) : zGq l = xP l := by
 simp only [zGq, zJQ, xP, zEX, c3, yh]
theorem za1 {α σ R : Type} : ∀ (L : List α) (k : Nat) (s : σ), (zAo (fun _ _ s => .inr s) k L s : R ⊕ σ) = .inr s
 | [], _, _ => rfl
 | x :: L, k, s => by simp only [zAo]; exact za1 L _ s
theorem zJo {l : LB} (st : Nat → l.d.T) (n : Nat) (hb : ∀ i, i < n → l.b (st i) = .go (st (i + 1))) (he : l.b (st n) = .brk (st n)) : l.run (st 0) = .brk (st n) := by
 have := LB.run_forS (l := l) (List.replicate n ()) (fun i (_ : Unit) => st i) (fun _ _ s => .inr s) (fun i x s h => hb i (by have := (List.getElem?_eq_some_iff.1 h).1; simpa using this)) (fun s => by simpa using he) ()
 simp only [List.length_replicate] at this
 rw [this, za1]
def zBH (t : El zC) : El zC := bif (t.2.2.1 == (1 : Int)) || (t.2.2.1 == (2 : Int)) then (t.1, (t.2.1, ((4 : Int), t.2.2.2))) else t
theorem zle {α : Type} (f : α → α) (l : List α) (i : Nat) (h : i < l.length) : ((l.take i).map f ++ l.drop i).set i (f l[i]) = (l.take (i + 1)).map f ++ l.drop (i + 1) := by
 apply List.ext_getElem?
 intro k
 simp only [List.getElem?_set, List.getElem?_append, List.length_map, List.length_take, List.getElem?_map, List.getElem?_take, List.getElem?_drop, List.length_append, List.length_drop]
 grind
theorem zqj {t : Ty} (f : El t → El t) (l : Li t) (i : Nat) (h : i < l.length) : zB t ((l.take i).map f ++ l.drop i) (i : Int) = l[i] := by
 refine zQ ?_
 rw [List.getElem?_append_right (by simp; omega)]
 simp only [List.length_map, List.length_take, List.getElem?_drop]
 rw [show i + (i - min i l.length) = i by omega]
 exact List.getElem?_eq_getElem h
theorem zfH {α : Type} (f : α → α) (l : List α) (i : Nat) (h : i < l.length) (e : f l[i] = l[i]) : ((l.take i).map f ++ l.drop i) = (l.take (i + 1)).map f ++ l.drop (i + 1) := by
 apply List.ext_getElem?
 intro k
 simp only [List.getElem?_append, List.length_map, List.length_take, List.getElem?_map, List.getElem?_take, List.getElem?_drop]
 grind
theorem zKt (l : Li zC) : zK1 l = (l.map zBH, ()) := by
 simp only [zK1, zPH, ze, zY, zq, zda]
 have := zJo (l := zEM) (fun i => ((l.take i).map zBH ++ l.drop i, (l.length : Int), (i : Int), ())) l.length (fun i h => ?_) ?_
 ·simp only [List.take_zero, List.map_nil, List.nil_append, List.drop_zero, List.take_length, List.drop_length, List.append_nil] at this
  rw [show ((0 : Nat) : Int) = 0 from rfl] at this
  rw [this]; rfl
 ·simp only [LB.b, zEM, z0, ze, zY, U3]
  rw [ltT h, cond_true, zqj zBH l i h, Int.toNat_natCast]
  have e : (zDN l[i]).1 = ((l[i].2.2.1 == (1 : Int)) || (l[i].2.2.1 == (2 : Int))) := by
   simp only [zDN, zKP, z0, zY]
   cases (l[i].2.2.1 == (1 : Int)) <;> rfl
  cases c : ((l[i].2.2.1 == (1 : Int)) || (l[i].2.2.1 == (2 : Int))) with
  | true =>
   rw [e, c, cond_true, ← zle zBH l i h]
   have : zBH l[i] = (l[i].1, (l[i].2.1, ((4 : Int), l[i].2.2.2))) := by unfold zBH; rw [c, cond_true]
   rw [this]; rfl
  | false =>
   rw [e, c, cond_false, ← zfH zBH l i h (by unfold zBH; rw [c, cond_false])]; rfl
 ·simp only [LB.b, zEM, z0, ze, zY, U3]
  rw [ltF]; rfl
theorem zTb (l : Li zC) : zFh l = (l.map zBH, ()) := by
 simp only [zFh, zO9, ze, zY, zq, c18]
 have := zJo (l := zEI) (fun i => ((l.take i).map zBH ++ l.drop i, (i : Int), ())) l.length (fun i h => ?_) ?_
 ·simp only [List.take_zero, List.map_nil, List.nil_append, List.drop_zero, List.take_length, List.drop_length, List.append_nil] at this
  rw [show ((0 : Nat) : Int) = 0 from rfl] at this
  rw [this]; rfl
 ·simp only [LB.b, zEI, z0, ze, zY, U2]
  rw [show (((l.take i).map zBH ++ l.drop i).length) = l.length by simp; omega, ltT h, cond_true, zqj zBH l i h, Int.toNat_natCast]
  cases c : ((l[i].2.2.1 == (1 : Int)) || (l[i].2.2.1 == (2 : Int))) with
  | true =>
   rw [← zle zBH l i h]
   have : zBH l[i] = (l[i].1, (l[i].2.1, ((4 : Int), l[i].2.2.2))) := by unfold zBH; rw [c, cond_true]
   rw [this]
   cases c1 : (l[i].2.2.1 == (1 : Int)) <;> cases c2 : (l[i].2.2.1 == (2 : Int)) <;> first | rfl | (rw [c1, c2] at c; cases c)
  | false =>
   rw [← zfH zBH l i h (by unfold zBH; rw [c, cond_false])]
   cases c1 : (l[i].2.2.1 == (1 : Int)) <;> cases c2 : (l[i].2.2.1 == (2 : Int)) <;> first | rfl | (rw [c1, c2] at c; cases c)
 ·simp only [LB.b, zEI, z0, ze, zY, U2]
  rw [show (((l.take l.length).map zBH ++ l.drop l.length).length) = l.length by simp, ltF]; rfl
theorem zek {l : Li zC} {f : El zK} {u : ByteArray} {now : Int} (hl : (yc l).1 = true) (hf : (yS f).1 = true) (hu : (zBQ u).1 = true) (hn : (zDO now).1 = true) : xg l f u now = zA4 l f u now := by
 have h30 := zWO hl
 simp only [xg, zE9, zA4, zJW, z0, ze, zY, zq, hl, hf, hu, hn, Bool.not_true, cond_false, zda, yh, c3]
 rw [zcp, zNO]
 have h := zSw (p := fun t : El zC => (zI t.1 f).1) (L := l)
 cases c : xU (fun _ x => bif (zI x.1 f).1 then false else true) 0 l with
 | true =>
  have : ¬ zVW (fun t : El zC => (zI t.1 f).1) l ≥ 0 := by
   rw [h]
   rintro ⟨x, hx, g⟩
   have := zTZ.1 c x hx
   rw [g] at this; cases this
  rw [decide_eq_false this, cond_false, cond_true]
  show _ = bif decide ((l.length : Int) ≥ 30) then (l, false, ()) else _
  by_cases e : l.length = 30
  ·rw [decide_eq_true (by omega), e]; rfl
  ·rw [decide_eq_false (by omega), show ((l.length : Int) == (30 : Int)) = false by simp; omega]
 | false =>
  have : zVW (fun t : El zC => (zI t.1 f).1) l ≥ 0 := by
   rw [h]
   apply Classical.byContradiction
   intro hno
   have : xU (fun (_ : Nat) (x : El zC) => bif (zI x.1 f).1 then false else true) 0 l = true := zTZ.2 fun x hx => by
    cases g : (zI x.1 f).1 with
    | true => exact absurd ⟨x, hx, g⟩ hno
    | false => rfl
   rw [this] at c; cases c
  rw [decide_eq_true this]; rfl
theorem zuf {α : Type} (p : α → Bool) (l : List α) : ∃ m, m ≤ l.length ∧ (∀ j, j < m → ∀ x, l[l.length - 1 - j]? = some x → p x = true) ∧ (∀ x, m < l.length → l[l.length - 1 - m]? = some x → p x = false) := by
 have key : ∀ n, n ≤ l.length → ∃ m, m ≤ n ∧ (∀ j, j < m → ∀ x, l[n - 1 - j]? = some x → p x = true) ∧ (∀ x, m < n → l[n - 1 - m]? = some x → p x = false) := by
  intro n
  induction n with
  | zero => intro _; exact ⟨0, Nat.le_refl _, fun j h => by omega, fun x h => by omega⟩
  | succ n ih =>
   intro hn
   obtain ⟨m, h1, h2, h3⟩ := ih (by omega)
   cases c : p (l[n]'(by omega)) with
   | true =>
    refine ⟨m + 1, by omega, fun j hj x hx => ?_, fun x hx => ?_⟩
    ·cases j with
     | zero =>
      rw [show n + 1 - 1 - 0 = n by omega, List.getElem?_eq_getElem (by omega)] at hx
      cases hx; exact c
     | succ j => exact h2 j (by omega) x (by rw [← hx]; congr 1; omega)
    ·intro hy
     exact h3 x (by omega) (by rw [← hy]; congr 1; omega)
   | false =>
    refine ⟨0, by omega, fun j hj => by omega, fun x _ hx => ?_⟩
    rw [show n + 1 - 1 - 0 = n by omega, List.getElem?_eq_getElem (by omega)] at hx
    cases hx; exact c
 exact key l.length (Nat.le_refl _)
theorem gtT {a b : Int} (h : b < a) : decide (a > b) = true := decide_eq_true h
theorem gtF {a b : Int} (h : ¬ b < a) : decide (a > b) = false := decide_eq_false h
theorem zkE (l : Li zD) (t : El zD) : vw l t = xn l t := by
 simp only [vw, zC2, xn, zJC, z0, ze, zY, zq, zNP, zeX, zdX, c17, yh, c3]
 cases h1 : (zC0 l).1 with
 | false => rfl
 | true =>
 cases (zAW t).1 with
 | false => rfl
 | true =>
 have h30 : l.length ≤ 30 := zT2 (by rw [zNP]; exact h1)
 by_cases e : l.length = 30
 ·rw [decide_eq_true (p := (l.length : Int) ≥ 30) (by omega), e]; rfl
 rw [decide_eq_false (p := (l.length : Int) ≥ 30) (by omega), show ((l.length : Int) == (30 : Int)) = false by simp; omega]
 simp only [Bool.not_true, cond_false]
 obtain ⟨m, hm, hA, hB⟩ := zuf (fun x : El zD => decide (x.1 > t.1)) l
 have r1 := zJo (l := xh) (fun j => (t, (), l, (l.length : Int) - (j : Int), ())) m (fun j hj => ?_) ?_
 have r2 := zJo (l := zA2) (fun j => (t, (), l.take (l.length - j) ++ (if j = 0 then t else zB zD l ((l.length - j : Nat) : Int)) :: l.drop (l.length - j), (l.length : Int) - (j : Int), ())) m (fun j hj => ?_) ?_
 ·have z : (l.length : Int) - ((0 : Nat) : Int) = (l.length : Int) := by omega
  have z2 : l.take (l.length - 0) ++ (if 0 = 0 then t else zB zD l ((l.length - 0 : Nat) : Int)) :: l.drop (l.length - 0) = l ++ [t] := by simp
  have e1 : LB.run xh (t, (), l, (l.length : Int), ()) = .brk (t, (), l, (l.length : Int) - (m : Int), ()) := by rw [← r1]; dsimp only; rw [z]
  have e2 := r2
  rw [z, z2] at e2
  have e3 : List.set (l.take (l.length - m) ++ (if m = 0 then t else zB zD l ((l.length - m : Nat) : Int)) :: l.drop (l.length - m)) (Int.toNat ((l.length : Int) - (m : Int))) t = zXM l ((l.length : Int) - (m : Int)) [t] := by
   unfold zXM
   rw [show (l.length : Int) - (m : Int) = ((l.length - m : Nat) : Int) by omega, Int.toNat_natCast]
   apply List.ext_getElem?
   intro k
   simp only [List.getElem?_set, List.getElem?_append, List.length_take, List.getElem?_take, List.getElem?_cons, List.getElem?_drop, List.length_append, List.length_cons, List.length_drop]
   grind
  show ((LB.run xh (t, (), l, (l.length : Int), ())).fin _ _) = ((LB.run zA2 (t, (), l ++ [t], (l.length : Int), ())).fin _ _)
  rw [e1, e2]
  exact congrArg (fun x => (x, true, ())) e3.symm
 ·have hl : j < l.length := by omega
  obtain ⟨x, hx⟩ : ∃ x, l[l.length - 1 - j]? = some x := ⟨_, List.getElem?_eq_getElem (by omega)⟩
  have ix : (l.length : Int) - (j : Int) - (1 : Int) = ((l.length - 1 - j : Nat) : Int) := by omega
  have hp := hA j hj x hx
  simp only [LB.b, zA2, z0, ze, zY, U4]
  have hg : ∀ (z : El zD), zB zD (l.take (l.length - j) ++ z :: l.drop (l.length - j)) ((l.length - 1 - j : Nat) : Int) = x := fun z => zQ (by
   rw [List.getElem?_append_left (by simp; omega), List.getElem?_take, if_pos (by omega)]; exact hx)
  rw [gtT (by omega), cond_true, ix, hg, hp, cond_true]
  rw [show (l.length : Int) - ((j + 1 : Nat) : Int) = ((l.length - 1 - j : Nat) : Int) by omega, show (l.length : Int) - (j : Int) = ((l.length - j : Nat) : Int) by omega, Int.toNat_natCast]
  have hs : List.set (l.take (l.length - j) ++ (if j = 0 then t else zB zD l ((l.length - j : Nat) : Int)) :: l.drop (l.length - j)) (l.length - j) x = l.take (l.length - (j + 1)) ++ (if j + 1 = 0 then t else zB zD l ((l.length - (j + 1) : Nat) : Int)) :: l.drop (l.length - (j + 1)) := by
   rw [if_neg (Nat.succ_ne_zero j), show l.length - (j + 1) = l.length - 1 - j by omega, zQ hx]
   apply List.ext_getElem?
   intro k
   simp only [List.getElem?_set, List.getElem?_append, List.length_take, List.getElem?_take, List.getElem?_cons, List.getElem?_drop, List.length_append, List.length_cons, List.length_drop]
   grind
  rw [hs]
 ·simp only [LB.b, zA2, z0, ze, zY, U4]
  by_cases hl : m < l.length
  ·obtain ⟨x, hx⟩ : ∃ x, l[l.length - 1 - m]? = some x := ⟨_, List.getElem?_eq_getElem (by omega)⟩
   have ix : (l.length : Int) - (m : Int) - (1 : Int) = ((l.length - 1 - m : Nat) : Int) := by omega
   have hp := hB x hl hx
   have hg : ∀ (z : El zD), zB zD (l.take (l.length - m) ++ z :: l.drop (l.length - m)) ((l.length - 1 - m : Nat) : Int) = x := fun z => zQ (by
    rw [List.getElem?_append_left (by simp; omega), List.getElem?_take, if_pos (by omega)]; exact hx)
   rw [gtT (by omega), cond_true, ix, hg, hp, cond_false]
  ·rw [gtF (by omega), cond_false]
 ·have hl : j < l.length := by omega
  obtain ⟨x, hx⟩ : ∃ x, l[l.length - 1 - j]? = some x := ⟨_, List.getElem?_eq_getElem (by omega)⟩
  have ix : (l.length : Int) - (j : Int) - (1 : Int) = ((l.length - 1 - j : Nat) : Int) := by omega
  have hp := hA j hj x hx
  simp only [LB.b, xh, z0, ze, zY, U4]
  rw [gtT (by omega), cond_true, ix, zQ hx, hp, cond_true]
  rw [show (l.length : Int) - ((j + 1 : Nat) : Int) = ((l.length - 1 - j : Nat) : Int) by omega]
 ·simp only [LB.b, xh, z0, ze, zY, U4]
  by_cases hl : m < l.length
  ·obtain ⟨x, hx⟩ : ∃ x, l[l.length - 1 - m]? = some x := ⟨_, List.getElem?_eq_getElem (by omega)⟩
   have ix : (l.length : Int) - (m : Int) - (1 : Int) = ((l.length - 1 - m : Nat) : Int) := by omega
   have hp := hB x hl hx
   rw [gtT (by omega), cond_true, ix, zQ hx, hp, cond_false]
  ·rw [gtF (by omega), cond_false]
end
end Go.Proofs.YtkdidadegedmiaaGreat
namespace Go.Proofs.YtkdidadegedmiaaGreat
open Go.RowKit
noncomputable section
theorem zXY {α : Type} {L : List α} {R : α → α → Prop} : (∀ (i : Nat) (x : α), L[i]? = some x → ∀ (j : Nat) (y : α), j < i → L[j]? = some y → R y x) ↔ L.Pairwise R := by
 rw [List.pairwise_iff_getElem]
 constructor
 ·intro h i j hi hj hij
  exact h j _ (List.getElem?_eq_getElem hj) i _ hij (List.getElem?_eq_getElem hi)
 ·intro h i x hx j y hij hy
  obtain ⟨hi, rfl⟩ := List.getElem?_eq_some_iff.1 hx
  obtain ⟨hj, rfl⟩ := List.getElem?_eq_some_iff.1 hy
  exact h j i hj hi hij
theorem zkw {α : Type} {L : List α} {R : α → α → Prop} (ht : ∀ a b c, R a b → R b c → R a c) : (∀ (i : Nat) (x y : α), L[i]? = some x → L[i + 1]? = some y → R x y) ↔ L.Pairwise R := by
 rw [← zXY]
 constructor
 ·intro h i
  induction i with
  | zero => intro x hx j y hj; omega
  | succ i ih =>
   intro x hx j y hj hy
   obtain ⟨z, hz⟩ : ∃ z, L[i]? = some z := ⟨L[i]'(by have := (List.getElem?_eq_some_iff.1 hx).1; omega), List.getElem?_eq_getElem _⟩
   have h1 := h i z x hz hx
   by_cases e : j = i
   ·subst e; rw [hz] at hy; cases hy; exact h1
   ·exact ht _ _ _ (ih z hz j y (by omega) hy) h1
 ·intro h i x y hx hy
  exact h (i + 1) y hy i x (by omega) hx
theorem zMc {l : Li zC} : (yc l).1 = true ↔ (∀ x, x ∈ l → (zAA x).1 = true) ∧ l.Pairwise (fun a b => ¬ SFa b.1 a.1) ∧ l.length ≤ 30 := by
 rw [zcr, zYr]
 rw [← zXY]
 simp only [nbS, zR, Nat.zero_add, zG1, zDJ]
 constructor
 ·rintro ⟨h1, h2⟩
  refine ⟨fun x hx => ?_, fun i x hx j y hij hy => (h1 i x hx).2 j y ⟨hij, hy⟩, by omega⟩
  obtain ⟨i, hi⟩ := zG8 hx
  exact (h1 i x hi).1
 ·rintro ⟨h1, h2, h3⟩
  exact ⟨fun i x hx => ⟨h1 x (zEQ hx), fun j y h => h2 i x hx j y h.1 h.2⟩, by omega⟩
theorem zWX {l : Li zD} : (xc l).1 = true ↔ (∀ x, x ∈ l → (zAW x).1 = true) ∧ l.Pairwise (fun a b => @LE.le Int _ a.1 b.1) ∧ l.length ≤ 30 := by
 rw [zNP, zTe, ← zkw (R := fun (a b : El zD) => @LE.le Int _ a.1 b.1) (fun a b c => Int.le_trans)]
 simp only [nbS, zR, Nat.zero_add]
 constructor
 ·rintro ⟨h1, h2⟩
  refine ⟨fun x hx => ?_, fun i x y hx hy => ?_, by omega⟩
  ·obtain ⟨i, hi⟩ := zG8 hx
   have := h1 i x hi
   grind
  ·have := h1 (i + 1) y hy
   have e : zB zD l (((i + 1 : Nat) : Int) - (1 : Int)) = x := by
    rw [show ((i + 1 : Nat) : Int) - (1 : Int) = (i : Int) by omega]; exact zQ hx
   rw [e] at this
   grind
 ·rintro ⟨h1, h2, h3⟩
  refine ⟨fun i x hx => ?_, by omega⟩
  have a := h1 x (zEQ hx)
  cases i with
  | zero => grind
  | succ i =>
   obtain ⟨z, hz⟩ : ∃ z, l[i]? = some z := ⟨l[i]'(by have := (List.getElem?_eq_some_iff.1 hx).1; omega), List.getElem?_eq_getElem _⟩
   have b := h2 i z x hz hx
   have e : zB zD l (((i + 1 : Nat) : Int) - (1 : Int)) = z := by
    rw [show ((i + 1 : Nat) : Int) - (1 : Int) = (i : Int) by omega]; exact zQ hz
   rw [e]
   grind
theorem zOv {s : El zE} : (xK s).1 = true ↔ s.1.length ≤ 40 ∧ (@LE.le Int _ 1 s.2 ∧ @LE.le Int _ s.2 1000000) ∧ (∀ x, x ∈ s.1 → (xi x.2).1 = true ∧ @LE.le Int _ 1 x.1 ∧ @LE.le Int _ x.1 (s.2 - 1)) ∧ s.1.Pairwise (fun a b => @LT.lt Int _ a.1 b.1) ∧ s.1.Pairwise (fun a b => ¬ SFa b.2 a.2) := by
 rw [zWz, ← zkw (R := fun (a b : El zD) => @LT.lt Int _ a.1 b.1) (fun a b c => Int.lt_trans), ← zXY]
 simp only [zMY, v3, zGB, nbS, zR, Nat.zero_add, zG1, zDJ, zR7]
 constructor
 ·rintro ⟨h0, h1, h2⟩
  refine ⟨by omega, h1, fun x hx => ?_, fun i x y hx hy => ?_, fun i x hx j y hij hy => ?_⟩
  ·obtain ⟨i, hi⟩ := zG8 hx
   have := h2 i x hi
   grind
  ·have := h2 (i + 1) y hy
   have e : zB zD s.1 (((i + 1 : Nat) : Int) - (1 : Int)) = x := by
    rw [show ((i + 1 : Nat) : Int) - (1 : Int) = (i : Int) by omega]; exact zQ hx
   rw [e] at this
   grind
  ·exact (h2 i x hx).2.2.2 j y ⟨hij, hy⟩
 ·rintro ⟨h0, h1, h2, h3, h4⟩
  refine ⟨by omega, h1, fun i x hx => ?_⟩
  have a := h2 x (zEQ hx)
  refine ⟨a.1, a.2, ?_, fun j y h => h4 i x hx j y h.1 h.2⟩
  cases i with
  | zero => grind
  | succ i =>
   obtain ⟨z, hz⟩ : ∃ z, s.1[i]? = some z := ⟨s.1[i]'(by have := (List.getElem?_eq_some_iff.1 hx).1; omega), List.getElem?_eq_getElem _⟩
   have b := h3 i z x hz hx
   have e : zB zD s.1 (((i + 1 : Nat) : Int) - (1 : Int)) = z := by
    rw [show ((i + 1 : Nat) : Int) - (1 : Int) = (i : Int) by omega]; exact zQ hz
   rw [e]
   grind
theorem zOu {d : El zN} {t : El zF} : (zAS d t).1 = true ↔ (∀ m, m ∈ t.2.1 → (yO d m).1 = true ∧ m.2.2 = [] ∧ (m.2.1.length : Int) = (zc (zB zG d.2 m.1)).1 ∧ ∀ n : Int, n ∈ m.2.1 → (zAY t.1 n).2.1 = true) ∧ t.2.1.length ≤ 1000 := by
 rw [zUI]
 simp only [nbS, zTZ]
 constructor
 ·rintro ⟨h, h2⟩
  exact ⟨fun m hm => ⟨(h m hm).1, List.length_eq_zero_iff.1 (by have := (h m hm).2.1; omega), (h m hm).2.2⟩, by omega⟩
 ·rintro ⟨h, h2⟩
  exact ⟨fun m hm => ⟨(h m hm).1, by rw [(h m hm).2.1]; rfl, (h m hm).2.2⟩, by omega⟩
theorem zKf {s : El zE} {n : Int} : (zAY s n).2.1 = true ↔ ∃ x, x ∈ s.1 ∧ @Eq Int x.1 n := by
 rw [zcg, zXy (fun x : El zD => x.1 == n) (fun x : El zD => ((yo x.2).1, (), true, ()))]
 cases h : s.1.find? (fun x : El zD => x.1 == n) with
 | none =>
  refine ⟨fun h => (by cases h), ?_⟩
  rintro ⟨x, hx, g⟩
  exact absurd (List.find?_eq_none.1 h x hx) (by rw [g]; simp)
 | some y => exact ⟨fun _ => ⟨y, List.mem_of_find?_eq_some h, by simpa using List.find?_some h⟩, fun _ => rfl⟩
theorem zNN {d : El zN} {x : El zF} : (xD d x).1 = true ↔ (zCC d).1 = true ∧ (xK x.1).1 = true ∧ (yc x.2.2.1).1 = true ∧ (xc x.2.2.2.1).1 = true ∧ (zAC x.2.2.2.2.1).1 = true ∧ (@LE.le Int _ 1 x.2.2.2.2.2.1 ∧ @LE.le Int _ x.2.2.2.2.2.1 6) ∧ (@LE.le Int _ 0 x.2.2.2.2.2.2 ∧ @LE.le Int _ x.2.2.2.2.2.2 1000000000) ∧ (zAS d x).1 = true ∧ ((zGt x).1 = true → ¬ (zET x.2.2.1).1 = true ∧ x.2.2.2.1 = []) ∧ ((zCX x).1 = true → x.2.2.2.2.1 ≠ []) := by
 rw [zk0, zcr, zNP]
 simp only [xD, zEq, nbS, zR7]
 have h1 : ¬ (x.2.2.2.1.length : Int) > 0 ↔ x.2.2.2.1 = [] := ⟨fun h => List.length_eq_zero_iff.1 (by omega), fun h => by rw [h]; decide⟩
 have h2 : (x.2.2.2.2.1.length : Int) > 0 ↔ x.2.2.2.2.1 ≠ [] := ⟨fun h e => by rw [e] at h; exact absurd h (by decide), fun h => by have := List.length_pos_iff.2 h; omega⟩
 rw [h1, h2]
 grind
theorem zrZ {l : LB} (P : Nat → l.d.T → Prop) (n : Nat) (hb : ∀ i x, i < n → P i x → ∃ y, l.b x = .go y ∧ P (i + 1) y) (he : ∀ x, P n x → l.b x = .brk x) {x : l.d.T} (hx : P 0 x) : ∃ t, P n t ∧ l.run x = .brk t := by
 classical
 let st : Nat → l.d.T := fun i => Nat.rec x (fun i y => if h : ∃ z, l.b y = .go z ∧ P (i + 1) z then Classical.choose h else y) i
 have key : ∀ i, i ≤ n → P i (st i) ∧ (∀ j, j < i → l.b (st j) = .go (st (j + 1))) := by
  intro i
  induction i with
  | zero => intro _; exact ⟨hx, fun j h => by omega⟩
  | succ i ih =>
   intro hi
   obtain ⟨h1, h2⟩ := ih (by omega)
   have h := hb i (st i) (by omega) h1
   have e : st (i + 1) = Classical.choose h := by
    show (if h : ∃ z, l.b (st i) = .go z ∧ P (i + 1) z then Classical.choose h else st i) = _
    rw [dif_pos h]
   have g := Classical.choose_spec h
   rw [← e] at g
   refine ⟨g.2, fun j hj => ?_⟩
   by_cases c : j = i
   ·subst c; exact g.1
   ·exact h2 j (by omega)
 obtain ⟨h1, h2⟩ := key n (Nat.le_refl n)
 exact ⟨st n, h1, zJo st n h2 (he _ h1)⟩
theorem zfw (l : Li zC) (f : El zK) : yA l (f, ()) = (l.filter (fun t => !(zI t.1 f).1), ()) := by
 simp only [yA, zw, z0, ze, zY, zq]
 have hx : (zX l (f, ())).1 = zVW (fun t : El zC => (zI t.1 f).1) l := by
  rw [vT]
  simp only [v6, zGB]
  exact congrArg Prod.fst (zIw (fun t : El zC => (zI t.1 f).1) l)
 rw [hx]
 rcases zSD (fun t : El zC => (zI t.1 f).1) l with ⟨h, h1⟩ | ⟨i, x, hi, hp, hq, e⟩
 ·rw [h]
  show (l, ()) = _
  rw [List.filter_eq_self.2 (fun a ha => by rw [h1 a ha]; rfl)]
 ·have hil := (List.getElem?_eq_some_iff.1 hp).1
  have hq1 : (fun t : El zC => !(zI t.1 f).1) x = false := by show (!(zI x.1 f).1) = false; rw [hq]; rfl
  have hst : l.take i = (l.take (i + 1)).filter (fun t => !(zI t.1 f).1) := by
   rw [List.take_add_one, hp, Option.toList_some, List.filter_append, List.filter_cons_of_neg (by rw [hq]; simp), List.filter_nil, List.append_nil, List.filter_eq_self.2]
   intro a ha
   obtain ⟨j, hj⟩ := zG8 ha
   rw [zDJ] at hj
   rw [e j a hj.1 hj.2]; rfl
  obtain ⟨⟨l', f', n5, n6, ⟨⟩⟩, hP, hr⟩ := zrZ (l := zZ)
   (fun k t => ∃ (L : Li zC) (c : Nat), t = (L, (f, ()), (c : Int), ((i + 1 + k : Nat) : Int), ()) ∧ L.length = l.length ∧ c ≤ i + k ∧ L.take c = (l.take (i + 1 + k)).filter (fun t => !(zI t.1 f).1) ∧ L.drop (i + 1 + k) = l.drop (i + 1 + k))
   (l.length - (i + 1)) (fun k t hk hP => by
    obtain ⟨L, c, rfl, h1, h2, h3, h4⟩ := hP
    obtain ⟨y, hy⟩ : ∃ y, l[i + 1 + k]? = some y := ⟨_, List.getElem?_eq_getElem (by omega)⟩
    have hL : L[i + 1 + k]? = some y := by
     have := congrArg (fun m => m[0]?) h4
     simp only [List.getElem?_drop, Nat.add_zero] at this
     rw [this]; exact hy
    simp only [LB.b, zZ, z0, ze, zY, U4, v6, zGB]
    rw [h1, ltT (by omega), cond_true, zQ hL, Int.toNat_natCast]
    have hd : L.drop (i + 1 + (k + 1)) = l.drop (i + 1 + (k + 1)) := by
     have := congrArg (List.drop 1) h4
     simp only [List.drop_drop] at this
     exact this
    have ht : (l.take (i + 1 + (k + 1))).filter (fun t => !(zI t.1 f).1) = (l.take (i + 1 + k)).filter (fun t => !(zI t.1 f).1) ++ (bif (zI y.1 f).1 then [] else [y]) := by
     rw [show i + 1 + (k + 1) = i + 1 + k + 1 by omega, List.take_add_one, hy, Option.toList_some, List.filter_append]
     congr 1
     cases g : (zI y.1 f).1 <;> simp [List.filter, g]
    cases g : (zI y.1 f).1 with
    | true =>
     refine ⟨_, rfl, L, c, rfl, h1, by omega, ?_, hd⟩
     rw [ht, g, h3]; simp
    | false =>
     refine ⟨_, rfl, L.set c y, c + 1, rfl, by rw [List.length_set]; exact h1, by omega, ?_, ?_⟩
     ·rw [ht, g, ← h3, List.take_add_one, List.take_set_of_le (Nat.le_refl c), List.getElem?_set_self (by omega)]; rfl
     ·rw [List.drop_set_of_lt (by omega)]; exact hd) (fun t hP => by
    obtain ⟨L, c, rfl, h1, h2, h3, h4⟩ := hP
    simp only [LB.b, zZ, z0, ze, zY, U4]
    rw [decide_eq_false (by omega)]; rfl) (x := (l, (f, ()), (i : Int), ((i + 1 : Nat) : Int), ())) ⟨l, i, rfl, rfl, Nat.le_refl _, hst, rfl⟩
  rw [hi, show ((i : Int) == (-1 : Int)) = false by simp, cond_false]
  rw [show ((i : Nat) : Int) + (1 : Int) = ((i + 1 : Nat) : Int) by omega, hr]
  obtain ⟨L, c, hP, h1, h2, h3, h4⟩ := hP
  cases hP
  show (List.take (Int.toNat (c : Int)) (List.take (Int.toNat (c : Int)) l' ++ _ ++ _), ()) = _
  have hc : c ≤ l'.length := by omega
  rw [Int.toNat_natCast, List.append_assoc, List.take_append_of_le_length (by rw [List.length_take]; omega), List.take_take, Nat.min_self, h3, show i + 1 + (l.length - (i + 1)) = l.length by omega, List.take_length]
end
end Go.Proofs.YtkdidadegedmiaaGreat
namespace Go.Proofs.YtkdidadegedmiaaGreat
open Go.RowKit
noncomputable section
theorem zbB (t : El zC) : (zBH t).1 = t.1 := by
 unfold zBH; cases ((t.2.2.1 == (1 : Int)) || (t.2.2.1 == (2 : Int))) <;> rfl
theorem zrb {t : El zC} (h : (zAA t).1 = true) : (zAA (zBH t)).1 = true := by
 unfold zBH
 cases c : ((t.2.2.1 == (1 : Int)) || (t.2.2.1 == (2 : Int))) with
 | false => exact h
 | true =>
  rw [cond_true]
  revert h
  simp only [zAA, zF5, nbS, zR7]
  grind
theorem zMM {l : Li zC} (h : (yc l).1 = true) : (yc (l.map zBH)).1 = true := by
 obtain ⟨h1, h2, h3⟩ := zMc.1 h
 refine zMc.2 ⟨fun x hx => ?_, ?_, by rw [List.length_map]; exact h3⟩
 ·obtain ⟨t, ht, rfl⟩ := List.mem_map.1 hx
  exact zrb (h1 t ht)
 ·rw [List.pairwise_map]
  exact h2.imp (fun {a b} h => by rw [zbB, zbB]; exact h)
theorem zRX {l : Li zC} (q : El zC → Bool) (h : (yc l).1 = true) : (yc (l.filter q)).1 = true := by
 obtain ⟨h1, h2, h3⟩ := zMc.1 h
 exact zMc.2 ⟨fun x hx => h1 x (List.mem_filter.1 hx).1, h2.filter q, Nat.le_trans (List.length_filter_le q l) h3⟩
theorem zbu : (yc []).1 = true := zMc.2 ⟨fun x h => (by cases h), List.Pairwise.nil, by decide⟩
theorem zXV {l : Li zC} {f : El zK} {u : ByteArray} {now : Int} (hl : (yc l).1 = true) (hf : (yS f).1 = true) (hu : (zBQ u).1 = true) (hn : (zDO now).1 = true) : (yc (xg l f u now).1).1 = true := by
 have hp := zSD (fun t : El zC => (zI t.1 f).1) l
 have hT := zMc.1 hl
 rw [zNv] at hn
 simp only [xg, zE9, z0, ze, zY, hl, hf, hu, zNv, hn, Bool.not_true, cond_false, zda, yh, zcp]
 rcases hp with ⟨h, h1⟩ | ⟨i, x, hi, _⟩
 ·rw [h, decide_eq_false (by omega), cond_false]
  cases c : ((l.length : Int) == (30 : Int)) with
  | true => exact hl
  | false =>
   rw [cond_false]
   refine zMc.2 ⟨fun x hx => ?_, ?_, ?_⟩
   ·rcases List.mem_append.1 hx with hx | hx
    ·exact hT.1 x hx
    ·rw [List.mem_singleton.1 hx]
     rw [zMY] at hf
     rw [zV1] at hu
     revert hf hu hn
     simp only [zAA, zF5, nbS, zR7]
     grind
   ·rw [List.pairwise_append]
    refine ⟨hT.2.1, List.pairwise_singleton _ _, fun a ha b hb => ?_⟩
    rw [List.mem_singleton.1 hb]
    have := h1 a ha
    intro hs
    rw [zG1.2 hs.symm] at this
    cases this
   ·have : ¬ (l.length : Int) = 30 := by simpa using c
    have := hT.2.2
    rw [List.length_append, List.length_singleton]; omega
 ·rw [hi, decide_eq_true (by omega)]; exact hl
theorem zlb {l : Li zP} (h : (zAC l).1 = true) : ∀ u, u ∈ l → (yS u.2).1 = true := by
 intro u hu
 rw [← zk6, zYu] at h
 revert h
 simp only [nbS, zR, Nat.zero_add]
 rintro ⟨_, h⟩
 obtain ⟨i, hi⟩ := zG8 hu
 have := h i u hi
 rw [zQ hi] at this
 exact this.2.1
theorem zR3 : (zBQ (⟨#[]⟩ : ByteArray)).1 = true := by rw [zV1]; simp only [zEP, zED, zY, beq_self_eq_true, cond_true]
def zRe (d : El zN) (x : El zF) : Prop := (zCC d).1 = true ∧ (xK x.1).1 = true ∧ (yc x.2.2.1).1 = true ∧ (xc x.2.2.2.1).1 = true ∧ (zAC x.2.2.2.2.1).1 = true ∧ (@LE.le Int _ 0 x.2.2.2.2.2.2 ∧ @LE.le Int _ x.2.2.2.2.2.2 1000000000) ∧ (zAS d x).1 = true
theorem zRh {n : Int} (h : 0 ≤ n ∧ n ≤ 1000000000) : (zDO n).1 = true := by rw [zNv]; exact zR7.2 h
theorem zsG {y : El zF} (hT : (yc y.2.2.1).1 = true) (hU : (zAC y.2.2.2.2.1).1 = true) (hn : @LE.le Int _ 0 y.2.2.2.2.2.2 ∧ @LE.le Int _ y.2.2.2.2.2.2 1000000000) (h3 : @Eq Int y.2.2.2.2.2.1 3) : zAZ y = zCw y := by
 simp only [zAZ, zAa, zCw, zGp, z0, ze, zY, zq, zWL]
 have hi : ∀ u, u ∈ y.2.2.2.2.1 → (yS u.2).1 = true := zlb hU
 have e3 : (y.2.2.2.2.2.1 == (3 : Int)) = true := by rw [h3]; rfl
 have e5 : (y.2.2.2.2.2.1 == (5 : Int)) = false := by rw [h3]; rfl
 cases c : (xP y.2.2.2.2.1).2.1 with
 | false =>
  rw [e3, e5]
  simp only [Bool.not_false, cond_true, cond_false, yI, zDH, zKt, zTb]
 | true =>
  have hf : (yS (xP y.2.2.2.2.1).1).1 = true := by
   revert c
   simp only [xP, zEX, z0, ze, zY, c3]
   cases k : ((y.2.2.2.2.1.length : Int) == (0 : Int)) with
   | true => intro c; cases c
   | false =>
    intro _
    have : y.2.2.2.2.1.length ≠ 0 := fun h => by rw [h] at k; cases k
    exact hi _ (zV ⟨by omega, by omega⟩)
  have hd := zfw y.2.2.1 (xP y.2.2.2.2.1).1
  have hfo := zDU (fun x : El zC => !(zI x.1 (xP y.2.2.2.2.1).1).1) y.2.2.1 0 []
  rw [List.nil_append] at hfo
  simp only [Bool.not_true, cond_false]
  rw [hd, zIF, hfo]
  have s1 := zek zbu hf zR3 (zRh hn)
  have s2 := zek (zRX (fun x : El zC => !(zI x.1 (xP y.2.2.2.2.1).1).1) hT) hf zR3 (zRh hn)
  rw [s1, s2]
  generalize List.filter _ y.2.2.1 = L
  show _ = bif decide ((L.length : Int) ≥ 30) then _ else _
  cases decide ((L.length : Int) ≥ 30) <;> rfl
theorem zqS {x : El zF} (hT : (yc x.2.2.1).1 = true) (hU : (zAC x.2.2.2.2.1).1 = true) (hn : @LE.le Int _ 0 x.2.2.2.2.2.2 ∧ @LE.le Int _ x.2.2.2.2.2.2 1000000000) : zAk x (3 : Int) = zd x (3 : Int) := by
 unfold zAk zd yI
 rw [zKt, zTb]
 exact congrArg (fun z : El zF × Unit => (z.1, ())) (zsG (y := (x.1, x.2.1, x.2.2.1.map zBH, [], x.2.2.2.2.1, (3 : Int), x.2.2.2.2.2.2)) (zMM hT) hU hn rfl)
theorem ztD {x : El zF} (hT : (yc x.2.2.1).1 = true) (hU : (zAC x.2.2.2.2.1).1 = true) (hn : @LE.le Int _ 0 x.2.2.2.2.2.2 ∧ @LE.le Int _ x.2.2.2.2.2.2 1000000000) : zW x = zd x (3 : Int) := by
 unfold zW
 rw [zqS hT hU hn]
theorem zQM : (xc []).1 = true := zWX.2 ⟨fun x h => (by cases h), List.Pairwise.nil, by decide⟩
theorem zbi (l : Li zC) : ¬ (zET (l.map zBH)).1 = true := by
 rw [zpF]
 rintro ⟨t, ht, h⟩
 obtain ⟨u, _, rfl⟩ := List.mem_map.1 ht
 revert h
 unfold zBH
 cases c : ((u.2.2.1 == (1 : Int)) || (u.2.2.1 == (2 : Int))) with
 | true =>
  rintro (h | h)
  ·exact absurd (show (4 : Int) = 1 from h) (by decide)
  ·exact absurd (show (4 : Int) = 2 from h) (by decide)
 | false =>
  rw [cond_false]
  simp only [Bool.or_eq_false_iff, beq_eq_false_iff_ne] at c
  rintro (h | h)
  ·exact c.1 h
  ·exact c.2 h
theorem zIZ {d : El zN} {x y : El zF} (h1 : y.1 = x.1) (h2 : y.2.1 = x.2.1) (h : (zAS d x).1 = true) : (zAS d y).1 = true := by
 rw [zOu] at h ⊢
 rw [h1, h2]; exact h
theorem zlV {x : El zF} : (zGt x).1 = true ↔ @Eq Int x.2.2.2.2.2.1 2 ∨ @Eq Int x.2.2.2.2.2.1 4 ∨ @Eq Int x.2.2.2.2.2.1 6 := by
 simp only [zGt, zNf, nbS]
 grind
theorem zTc {x : El zF} : (zCX x).1 = true ↔ @Eq Int x.2.2.2.2.2.1 3 ∨ @Eq Int x.2.2.2.2.2.1 5 := by
 simp only [zCX, zDl, nbS]
 grind
theorem zk1 {d : El zN} {x : El zF} (h : zRe d x) : (xD d (zd x (3 : Int)).1).1 = true ∧ (zd x (3 : Int)).1.1 = x.1 ∧ (zd x (3 : Int)).1.2.1 = x.2.1 ∧ (zd x (3 : Int)).1.2.2.2.2.2.2 = x.2.2.2.2.2.2 ∧ (@Eq Int (zd x (3 : Int)).1.2.2.2.2.2.1 3 ∨ @Eq Int (zd x (3 : Int)).1.2.2.2.2.2.1 4) := by
 obtain ⟨hD, hS, hT, hR, hU, hn, hF⟩ := h
 rw [← zqS hT hU hn]
 unfold zAk yI
 rw [zKt]
 have hi := zlb hU
 have hT2 := zMM hT
 simp only [zAZ, zAa, z0, zY, zWL]
 have e5 : ((3 : Int) == (5 : Int)) = false := rfl
 cases c : (xP x.2.2.2.2.1).2.1 with
 | false =>
  rw [e5]
  simp only [Bool.not_false, cond_true, cond_false, yI, zKt]
  refine ⟨zNN.2 ⟨hD, hS, zMM hT2, zQM, hU, (show (1 : Int) ≤ 4 ∧ (4 : Int) ≤ 6 by decide), hn, zIZ (x := x) rfl rfl hF, fun _ => ⟨zbi _, rfl⟩, fun hu => ?_⟩, by simp⟩
  rcases zTc.1 hu with hu | hu
  ·exact absurd (show (4 : Int) = 3 from hu) (by decide)
  ·exact absurd (show (4 : Int) = 5 from hu) (by decide)
 | true =>
  have hne : x.2.2.2.2.1 ≠ [] := fun e => by rw [e] at c; cases c
  have hf : (yS (xP x.2.2.2.2.1).1).1 = true := by
   simp only [xP, zEX, z0, ze, zY, c3]
   have hl := List.length_pos_iff.2 hne
   rw [show ((x.2.2.2.2.1.length : Int) == (0 : Int)) = false by simp; exact hne]
   exact hi _ (zV ⟨by omega, by omega⟩)
  have hd := zfw (x.2.2.1.map zBH) (xP x.2.2.2.2.1).1
  simp only [Bool.not_true, cond_false]
  rw [hd]
  have key : ∀ l : Li zC, (yc l).1 = true → (xD d (x.1, x.2.1, l, ([] : Li zD), x.2.2.2.2.1, (3 : Int), x.2.2.2.2.2.2)).1 = true := fun l hl => by
   refine zNN.2 ⟨hD, hS, hl, zQM, hU, (show (1 : Int) ≤ 3 ∧ (3 : Int) ≤ 6 by decide), hn, zIZ (x := x) rfl rfl hF, fun he => ?_, fun _ => hne⟩
   rcases zlV.1 he with he | he | he
   ·exact absurd (show (3 : Int) = 2 from he) (by decide)
   ·exact absurd (show (3 : Int) = 4 from he) (by decide)
   ·exact absurd (show (3 : Int) = 6 from he) (by decide)
  cases decide (((List.filter (fun t : El zC => !(zI t.1 (xP x.2.2.2.2.1).1).1) (x.2.2.1.map zBH)).length : Int) ≥ 30) with
  | true => exact ⟨key _ (zXV zbu hf zR3 (zRh hn)), rfl, rfl, rfl, .inl rfl⟩
  | false => exact ⟨key _ (zXV (zRX _ hT2) hf zR3 (zRh hn)), rfl, rfl, rfl, .inl rfl⟩
end
end Go.Proofs.YtkdidadegedmiaaGreat
namespace Go.Proofs.YtkdidadegedmiaaGreat
open Go.RowKit
noncomputable section
theorem ztQ (s : El zE) (f : El zK) : zPQ s f = zBr s f := by
 rw [zrj, zlJ]
 simp only [zGB]
theorem zrK {s : El zE} (h : (xK s).1 = true) (f : El zK) : (@Eq Int (zBr s f).1 0 ∧ ∀ x, x ∈ s.1 → ¬ SFa x.2 f) ∨ @LT.lt Int _ 0 (zBr s f).1 := by
 rw [zWe]
 cases c : s.1.find? (fun x : El zD => (zI x.2 f).1) with
 | none =>
  refine .inl ⟨rfl, fun x hx hs => ?_⟩
  exact List.find?_eq_none.1 c x hx (zG1.2 hs)
 | some y =>
  refine .inr ?_
  have := ((zOv.1 h).2.2.1 y (List.mem_of_find?_eq_some c)).2.1
  show @LT.lt Int _ 0 y.1
  omega
theorem zph {s : El zE} (h : (xK s).1 = true) {f : El zK} (hf : (yS f).1 = true) : ∃ (b : Bool) (s' : El zE) (i : Int), zAl s f = (i, b, s', ()) ∧ zEo s f = (i, s', ()) ∧ (i == (0 : Int)) = !b ∧ (xK s').1 = true ∧ (s' = s ∨ s' = (s.1 ++ [(s.2, f)], s.2 + (1 : Int))) := by
 obtain ⟨h40, ⟨hN1, hN2⟩, hI, hP, hQ⟩ := zOv.1 h
 simp only [zAl, zBy, zEo, zGa, z0, ze, zY, ztQ, yh, c3]
 rcases zrK h f with ⟨h0, h1⟩ | h1
 ·rw [h0]
  simp only [show ((0 : Int) != (0 : Int)) = false from rfl, show decide ((0 : Int) > (0 : Int)) = false from rfl, cond_false]
  cases c1 : decide ((s.1.length : Int) ≥ (40 : Int)) with
  | true => exact ⟨false, s, 0, rfl, rfl, rfl, h, .inl rfl⟩
  | false =>
   have c1 := of_decide_eq_false c1
   by_cases c2 : @Eq Int s.2 1000000
   ·rw [c2]
    exact ⟨false, s, 0, rfl, rfl, rfl, h, .inl rfl⟩
   ·have e1 : (s.2 == (1000000 : Int)) = false := by simpa using c2
    have c3 : ¬ @GE.ge Int _ s.2 1000000 := fun h => c2 (Int.le_antisymm hN2 h)
    rw [e1, decide_eq_false c3]
    have w1 : IntKind.wrap .i64 (s.2 + (1 : Int)) = s.2 + (1 : Int) := ink (by omega) (by omega)
    have w2 : IntKind.wrap .i64 (s.2 + (1 : Int) - (1 : Int)) = s.2 + (1 : Int) - (1 : Int) := ink (by omega) (by omega)
    simp only [cond_false, w1, w2]
    refine ⟨true, _, _, rfl, rfl, ?_, ?_, .inr rfl⟩
    ·have : ¬ @Eq Int (s.2 + (1 : Int) - (1 : Int)) 0 := by omega
     simpa using this
    ·refine zOv.2 ⟨?_, ?_, fun x hx => ?_, ?_, ?_⟩
     ·rw [List.length_append, List.length_singleton]; omega
     ·exact ⟨(by omega : @LE.le Int _ 1 (s.2 + (1 : Int))), (by omega : @LE.le Int _ (s.2 + (1 : Int)) 1000000)⟩
     ·rcases List.mem_append.1 hx with hx | hx
      ·obtain ⟨a1, a2, a3⟩ := hI x hx
       exact ⟨a1, a2, (by omega : @LE.le Int _ x.1 (s.2 + (1 : Int) - 1))⟩
      ·rw [List.mem_singleton.1 hx]
       rw [zMY] at hf
       exact ⟨hf, hN1, (by omega : @LE.le Int _ s.2 (s.2 + (1 : Int) - 1))⟩
     ·rw [List.pairwise_append]
      refine ⟨hP, List.pairwise_singleton _ _, fun a ha b hb => ?_⟩
      rw [List.mem_singleton.1 hb]
      have := (hI a ha).2.2
      show @LT.lt Int _ a.1 s.2
      omega
     ·rw [List.pairwise_append]
      refine ⟨hQ, List.pairwise_singleton _ _, fun a ha b hb hs => ?_⟩
      rw [List.mem_singleton.1 hb] at hs
      exact h1 a ha hs.symm
 ·refine ⟨true, s, (zBr s f).1, ?_, ?_, ?_, h, .inl rfl⟩
  ·rw [show ((zBr s f).1 != (0 : Int)) = true by simp; omega]; rfl
  ·rw [decide_eq_true h1]; rfl
  ·have : ¬ @Eq Int (zBr s f).1 0 := by omega
   simpa using this
theorem zfe {α R : Type} (c : α → Bool) (g : Nat → R) : ∀ (L : List α) (k : Nat), (vX (fun i x => bif c x then some (g i) else none) k L = none ∧ ∀ x, x ∈ L → c x = false) ∨ ∃ (i : Nat) (x : α), vX (fun i x => bif c x then some (g i) else none) k L = some (g (k + i)) ∧ L[i]? = some x ∧ c x = true ∧ ∀ (j : Nat) (y : α), j < i → L[j]? = some y → c y = false
 | [], k => .inl ⟨rfl, fun x h => by cases h⟩
 | z :: L, k => by
  cases e : c z with
  | true => exact .inr ⟨0, z, by simp [vX, e], rfl, e, fun j y h => by omega⟩
  | false =>
   rcases zfe c g L (k + 1) with ⟨h, h1⟩ | ⟨i, x, h1, h2, h3, h4⟩
   ·refine .inl ⟨by simp only [vX, e, cond_false]; exact h, fun x hx => ?_⟩
    rcases List.mem_cons.1 hx with rfl | hx
    ·exact e
    ·exact h1 x hx
   ·refine .inr ⟨i + 1, x, by simp only [vX, e, cond_false]; rw [h1]; congr 2; omega, h2, h3, fun j y hj hy => ?_⟩
    cases j with
    | zero => simp at hy; rw [← hy]; exact e
    | succ j => exact h4 j y (by omega) (by simpa using hy)
theorem zoW {s : El zE} (h : (xK s).1 = true) (n : Int) : ∃ (b : Bool), zAE s n = (b, (s.1.filter (fun x => x.1 != n), s.2), ()) ∧ zEr s n = (b, (s.1.filter (fun x => x.1 != n), s.2), ()) ∧ (xK (s.1.filter (fun x => x.1 != n), s.2)).1 = true ∧ (b = false → ∀ x, x ∈ s.1 → ¬ @Eq Int x.1 n) ∧ (b = true → ∃ x, x ∈ s.1 ∧ @Eq Int x.1 n) := by
 obtain ⟨h40, hN, hI, hP, hQ⟩ := zOv.1 h
 have hok : (xK (s.1.filter (fun x => x.1 != n), s.2)).1 = true :=
  zOv.2 ⟨Nat.le_trans (List.length_filter_le _ _) h40, hN, fun x hx => hI x (List.mem_filter.1 hx).1, hP.filter _, hQ.filter _⟩
 have hd : zEr s n = (decide (((s.1.filter (fun x => x.1 != n)).length : Int) < (s.1.length : Int)), (s.1.filter (fun x => x.1 != n), s.2), ()) := by
  rw [zbX]
  have hf := zDU (fun x : El zD => x.1 != n) s.1 0 []
  rw [List.nil_append] at hf
  rw [hf]
 have hr : LB.run xY (s, (), n, (s.1.length : Int), (0 : Int), ()) = zku (vX (fun i (x : El zD) => bif (x.1 == n) then some (((s.1.take i ++ s.1.drop (i + 1), s.2), true, ()) : El zE × Bool × Unit) else none) 0 s.1) (s, (), n, (s.1.length : Int), (s.1.length : Int), ()) := by
  refine LB.run_scan (l := xY) (L := s.1) (fun i => (s, (), n, (s.1.length : Int), (i : Int), ())) (fun i x hx => ?_) ?_
  ·have hi := (List.getElem?_eq_some_iff.1 hx).1
   simp only [LB.b, xY, z0, ze, zY, U5]
   rw [ltT hi, cond_true, zQ hx]
   cases (x.1 == n) <;> rfl
  ·simp only [LB.b, xY, z0, ze, zY, U5]
   rw [ltF]; rfl
 simp only [zAE, zBL, ze, zY, zq]
 rw [hr, hd]
 rcases zfe (fun x : El zD => x.1 == n) (fun i => (((s.1.take i ++ s.1.drop (i + 1), s.2), true, ()) : El zE × Bool × Unit)) s.1 0 with ⟨h1, h2⟩ | ⟨i, x, h1, h2, h3, h4⟩
 ·have hf : s.1.filter (fun x => x.1 != n) = s.1 := List.filter_eq_self.2 fun a ha => by
   have := h2 a ha
   simp only [bne, this, Bool.not_false]
  rw [h1, hf]
  refine ⟨false, rfl, by rw [decide_eq_false (by omega)], by rw [hf] at hok; exact hok, fun _ x hx => by simpa using h2 x hx, fun h => by cases h⟩
 ·have hi := (List.getElem?_eq_some_iff.1 h2).1
  have hx : @Eq Int x.1 n := by simpa using h3
  have hsp : s.1 = s.1.take i ++ x :: s.1.drop (i + 1) := by
   have : s.1[i] = x := (List.getElem?_eq_some_iff.1 h2).2
   rw [← this, ← List.drop_eq_getElem_cons hi, List.take_append_drop]
  have hf : s.1.filter (fun x => x.1 != n) = s.1.take i ++ s.1.drop (i + 1) := by
   have hpa := zXY.2 hP
   conv => lhs; rw [hsp]
   rw [List.filter_append, List.filter_cons_of_neg (by simp [hx]), List.filter_eq_self.2, List.filter_eq_self.2]
   ·intro a ha
    obtain ⟨j, hj⟩ := zG8 ha
    rw [List.getElem?_drop] at hj
    have := hpa _ a hj i x (by omega) h2
    simp only [bne_iff_ne, ne_eq]
    intro e
    rw [e, hx] at this
    exact absurd this (Int.lt_irrefl _)
   ·intro a ha
    obtain ⟨j, hj⟩ := zG8 ha
    rw [zDJ] at hj
    have := h4 j a hj.1 hj.2
    simp only [bne, this, Bool.not_false]
  refine ⟨true, ?_, ?_, hok, (fun h => by cases h), fun _ => ⟨x, zEQ h2, hx⟩⟩
  ·rw [h1, hf, Nat.zero_add]; rfl
  ·rw [decide_eq_true]
   rw [hf]
   simp only [List.length_append, List.length_take, List.length_drop]
   omega
theorem zoi {e : El zU} (h : (x7 e).1 = true) : (@Eq Int e.1 1 ∧ (yS e.2.1).1 = true) ∨ @Eq Int e.1 2 ∨ (@Eq Int e.1 3 ∧ (yS e.2.1).1 = true ∧ (zBQ e.2.2.2.2).1 = true) ∨ (@Eq Int e.1 4 ∧ (yS e.2.1).1 = true ∧ @LE.le Int _ 0 e.2.2.2.1 ∧ @LE.le Int _ e.2.2.2.1 100000) ∨ @Eq Int e.1 5 ∨ @Eq Int e.1 6 := by
 revert h
 simp only [x7, zGo, v3, nbS, zR7]
 grind
theorem zrX (l : Li zD) (t : El zD) : ∃ m, m ≤ l.length ∧ (∀ j, j < m → ∀ x, l[l.length - 1 - j]? = some x → @LT.lt Int _ t.1 x.1) ∧ (∀ x, m < l.length → l[l.length - 1 - m]? = some x → @LE.le Int _ x.1 t.1) ∧ LB.run xh (t, (), l, (l.length : Int), ()) = .brk (t, (), l, (l.length : Int) - (m : Int), ()) := by
 obtain ⟨m, hm, hA, hB⟩ := zuf (fun x : El zD => decide (x.1 > t.1)) l
 refine ⟨m, hm, fun j hj x hx => of_decide_eq_true (hA j hj x hx), fun x hl hx => Int.not_lt.1 (of_decide_eq_false (hB x hl hx)), ?_⟩
 have r1 := zJo (l := xh) (fun j => (t, (), l, (l.length : Int) - (j : Int), ())) m (fun j hj => ?_) ?_
 ·have z : (l.length : Int) - ((0 : Nat) : Int) = (l.length : Int) := by omega
  rw [← r1]; dsimp only; rw [z]
 ·have hl : j < l.length := by omega
  obtain ⟨x, hx⟩ : ∃ x, l[l.length - 1 - j]? = some x := ⟨_, List.getElem?_eq_getElem (by omega)⟩
  have ix : (l.length : Int) - (j : Int) - (1 : Int) = ((l.length - 1 - j : Nat) : Int) := by omega
  have hp := hA j hj x hx
  simp only [LB.b, xh, z0, ze, zY, U4]
  rw [gtT (by omega), cond_true, ix, zQ hx, hp, cond_true]
  rw [show (l.length : Int) - ((j + 1 : Nat) : Int) = ((l.length - 1 - j : Nat) : Int) by omega]
 ·simp only [LB.b, xh, z0, ze, zY, U4]
  by_cases hl : m < l.length
  ·obtain ⟨x, hx⟩ : ∃ x, l[l.length - 1 - m]? = some x := ⟨_, List.getElem?_eq_getElem (by omega)⟩
   have ix : (l.length : Int) - (m : Int) - (1 : Int) = ((l.length - 1 - m : Nat) : Int) := by omega
   have hp := hB x hl hx
   rw [gtT (by omega), cond_true, ix, zQ hx, hp, cond_false]
  ·rw [gtF (by omega), cond_false]
theorem ztz {l : Li zD} {t : El zD} (hl : (xc l).1 = true) (ht : (zAW t).1 = true) : (xc (vw l t).1).1 = true := by
 obtain ⟨h1, h2, h3⟩ := zWX.1 hl
 simp only [vw, zC2, z0, ze, zY, zq, hl, zeX, ht, Bool.not_true, cond_false, zdX]
 cases c : ((l.length : Int) == (30 : Int)) with
 | true => exact hl
 | false =>
  rw [cond_false]
  have h30 : l.length < 30 := by
   have : ¬ (l.length : Int) = 30 := by simpa using c
   omega
  obtain ⟨m, hm, hA, hB, hr⟩ := zrX l t
  rw [hr]
  show (xc (zXM l ((l.length : Int) - (m : Int)) [t])).1 = true
  unfold zXM
  rw [show (l.length : Int) - (m : Int) = ((l.length - m : Nat) : Int) by omega, Int.toNat_natCast]
  have hp := zXY.2 h2
  refine zWX.2 ⟨fun x hx => ?_, ?_, ?_⟩
  ·rcases List.mem_append.1 hx with hx | hx
   ·rcases List.mem_append.1 hx with hx | hx
    ·exact h1 x (List.mem_of_mem_take hx)
    ·rw [List.mem_singleton.1 hx]; exact ht
   ·exact h1 x (List.mem_of_mem_drop hx)
  ·have lo : ∀ a, a ∈ l.take (l.length - m) → @LE.le Int _ a.1 t.1 := fun a ha => by
    obtain ⟨j, hj⟩ := zG8 ha
    rw [zDJ] at hj
    obtain ⟨z, hz⟩ : ∃ z, l[l.length - 1 - m]? = some z := ⟨_, List.getElem?_eq_getElem (by omega)⟩
    have hzt := hB z (by omega) hz
    by_cases e : j = l.length - 1 - m
    ·rw [e, hz] at hj
     rw [← Option.some.inj hj.2]; exact hzt
    ·exact Int.le_trans (hp _ z hz j a (by omega) hj.2) hzt
   have hi : ∀ b, b ∈ l.drop (l.length - m) → @LE.le Int _ t.1 b.1 := fun b hb => by
    obtain ⟨j, hj⟩ := zG8 hb
    rw [List.getElem?_drop] at hj
    have hl := (List.getElem?_eq_some_iff.1 hj).1
    exact Int.le_of_lt (hA (m - 1 - j) (by omega) b (by rw [← hj]; congr 1; omega))
   rw [List.pairwise_append, List.pairwise_append]
   refine ⟨⟨h2.take, List.pairwise_singleton _ _, fun a ha b hb => ?_⟩, h2.drop, fun a ha b hb => ?_⟩
   ·rw [List.mem_singleton.1 hb]; exact lo a ha
   ·rcases List.mem_append.1 ha with ha | ha
    ·exact Int.le_trans (lo a ha) (hi b hb)
    ·rw [List.mem_singleton.1 ha]; exact hi b hb
  ·simp only [List.length_append, List.length_take, List.length_drop, List.length_singleton]
   omega
end
end Go.Proofs.YtkdidadegedmiaaGreat
namespace Go.Proofs.YtkdidadegedmiaaGreat
open Go.RowKit
noncomputable section
def zPb (m : El zA) (x : El zF) : Prop := (∃ k, k ∈ x.2.1 ∧ @Eq Int k.1 m.1 ∧ k.2.1 = m.2.1) ∨ ∃ n : Int, n ∈ m.2.1 ∧ n < x.1.2 ∧ ∀ i, i ∈ x.1.1 → ¬ @Eq Int i.1 n
def zY0 (d : El zN) (m : El zA) (x y : El zF) : Prop := (xD d y).1 = true ∧ y.2.2.2.2.2.2 = x.2.2.2.2.2.2 ∧ (@Eq Int y.2.2.2.2.2.1 1 ∨ @Eq Int y.2.2.2.2.2.1 2 ∨ @Eq Int y.2.2.2.2.2.1 3 ∨ @Eq Int y.2.2.2.2.2.1 4) ∧ y.2.1.length ≤ x.2.1.length ∧ (zPb m x → zPb m y)
theorem zgU {d : El zN} {y : El zF} (h : zRe d y) (h1 : @Eq Int y.2.2.2.2.2.1 1) : (xD d y).1 = true := by
 obtain ⟨hD, hS, hT, hR, hU, hn, hF⟩ := h
 refine zNN.2 ⟨hD, hS, hT, hR, hU, by rw [h1]; decide, hn, hF, fun he => ?_, fun hu => ?_⟩
 ·rcases zlV.1 he with he | he | he <;> rw [h1] at he <;> exact absurd he (by decide)
 ·rcases zTc.1 hu with hu | hu <;> rw [h1] at hu <;> exact absurd hu (by decide)
theorem zlG {d : El zN} {y : El zF} (h : (xD d y).1 = true) : zRe d y := by
 obtain ⟨hD, hS, hT, hR, hU, _, hn, hF, _⟩ := zNN.1 h
 exact ⟨hD, hS, hT, hR, hU, hn, hF⟩
theorem zky {m : El zA} {x y : El zF} (h1 : y.1 = x.1) (h2 : y.2.1 = x.2.1) (h : zPb m x) : zPb m y := by
 unfold zPb at h ⊢; rw [h1, h2]; exact h
theorem zPS {d : El zN} {m : El zA} {x z : El zF} (hz : zRe d z) (hn : z.2.2.2.2.2.2 = x.2.2.2.2.2.2) (hl : z.2.1.length ≤ x.2.1.length) (hg : zPb m x → zPb m z) : zY0 d m x (zd z (3 : Int)).1 := by
 obtain ⟨a1, a2, a3, a4, a5⟩ := zk1 hz
 refine ⟨a1, a4.trans hn, ?_, by rw [a3]; exact hl, fun h => zky a2 a3 (hg h)⟩
 rcases a5 with a5 | a5
 ·exact .inr (.inr (.inl a5))
 ·exact .inr (.inr (.inr a5))
theorem zN8 {d : El zN} {m : El zA} {x z : El zF} (hz : zRe d z) (h1 : @Eq Int z.2.2.2.2.2.1 1) (hn : z.2.2.2.2.2.2 = x.2.2.2.2.2.2) (hl : z.2.1.length ≤ x.2.1.length) (hg : zPb m x → zPb m z) : zY0 d m x z :=
 ⟨zgU hz h1, hn, .inl h1, hl, hg⟩
theorem zKo {d : El zN} {z : El zF} (h : zRe d z) : zW z = zd z (3 : Int) := by
 obtain ⟨hD, hS, hT, hR, hU, hn, hF⟩ := h
 exact ztD hT hU hn
theorem zrS {d : El zN} {m : El zA} {x : El zF} {f : El zK} (h : zRe d x) (h1 : @Eq Int x.2.2.2.2.2.1 1) (hf : (yS f).1 = true) : zBM x f = xB x f ∧ zY0 d m x (xB x f).1 := by
 obtain ⟨b, s', i, e1, e2, e3, hs, hc⟩ := zph h.2.1 hf
 have hz : zRe d (s', x.2) := by
  obtain ⟨hD, hS, hT, hR, hU, hn, hF⟩ := h
  refine ⟨hD, hs, hT, hR, hU, hn, ?_⟩
  rcases hc with rfl | rfl
  ·exact hF
  ·rw [zOu] at hF ⊢
   refine ⟨fun k hk => ?_, hF.2⟩
   obtain ⟨b1, b2, b3, b4⟩ := hF.1 k hk
   refine ⟨b1, b2, b3, fun n hn => ?_⟩
   obtain ⟨y, hy, g⟩ := zKf.1 (b4 n hn)
   exact zKf.2 ⟨y, List.mem_append_left _ hy, g⟩
 have hg : zPb m x → zPb m (s', x.2) := by
  rcases hc with rfl | rfl
  ·exact id
  ·rintro (h | ⟨n, hn, h2, h3⟩)
   ·exact .inl h
   ·refine .inr ⟨n, hn, (by omega : @LT.lt Int _ n (x.1.2 + (1 : Int))), fun k hk => ?_⟩
    rcases List.mem_append.1 hk with hk | hk
    ·exact h3 k hk
    ·rw [List.mem_singleton.1 hk]
     intro e
     have e : @Eq Int x.1.2 n := e
     omega
 simp only [zBM, zBJ, xB, zFM, z0, zY, e1, e2, e3]
 cases b with
 | true => exact ⟨rfl, zN8 hz h1 rfl (Nat.le_refl _) hg⟩
 | false =>
  simp only [Bool.not_false, cond_true]
  rw [zKo hz]
  exact ⟨rfl, zPS hz rfl (Nat.le_refl _) hg⟩
theorem zpy {l : Li .int} {n : Int} : (v8 l n).1 = true ↔ n ∈ l := by
 rw [zbr]
 simp only [nbS, zTZ]
 grind
theorem zRp (l : Li zA) (n : Int) : zBV l n = (l.filter (fun k => !(v8 k.2.1 n).1), ()) := by
 rw [zav]
 simp only [c15]
 have := zDU (fun k : El zA => !(v8 k.2.1 n).1) l 0 []
 rw [List.nil_append] at this
 rw [this]
theorem zng {d : El zN} {x : El zF} (h : zRe d x) (n : Int) (hs : (xK (x.1.1.filter (fun i => i.1 != n), x.1.2)).1 = true) : zRe d ((x.1.1.filter (fun i => i.1 != n), x.1.2), (zBV x.2.1 n).1, x.2.2) := by
 obtain ⟨hD, hS, hT, hR, hU, hn, hF⟩ := h
 refine ⟨hD, hs, hT, hR, hU, hn, ?_⟩
 rw [zRp]
 rw [zOu] at hF ⊢
 refine ⟨fun k hk => ?_, Nat.le_trans (List.length_filter_le _ _) hF.2⟩
 obtain ⟨hk1, hk2⟩ := List.mem_filter.1 hk
 obtain ⟨b1, b2, b3, b4⟩ := hF.1 k hk1
 refine ⟨b1, b2, b3, fun j hj => ?_⟩
 obtain ⟨y, hy, g⟩ := zKf.1 (b4 j hj)
 refine zKf.2 ⟨y, List.mem_filter.2 ⟨hy, ?_⟩, g⟩
 have : ¬ (v8 k.2.1 n).1 = true := by simpa using hk2
 rw [zpy] at this
 have : ¬ @Eq Int y.1 n := fun e => this (by rw [← e, g]; exact hj)
 simpa using this
theorem zny {m : El zA} {x : El zF} (hS : (xK x.1).1 = true) {n : Int} (he : ∃ i, i ∈ x.1.1 ∧ @Eq Int i.1 n) (h : zPb m x) : zPb m ((x.1.1.filter (fun i => i.1 != n), x.1.2), (zBV x.2.1 n).1, x.2.2) := by
 rcases h with ⟨k, hk, h1, h2⟩ | ⟨j, hj, h1, h2⟩
 ·by_cases c : n ∈ k.2.1
  ·obtain ⟨i, hi, e⟩ := he
   have := ((zOv.1 hS).2.2.1 i hi).2.2
   refine .inr ⟨n, by rw [← h2]; exact c, (by omega : @LT.lt Int _ n x.1.2), fun i hi e => ?_⟩
   have := (List.mem_filter.1 hi).2
   rw [e] at this
   simp at this
  ·refine .inl ⟨k, ?_, h1, h2⟩
   rw [zRp]
   refine List.mem_filter.2 ⟨hk, ?_⟩
   have : ¬ (v8 k.2.1 n).1 = true := fun h => c (zpy.1 h)
   simpa using this
 ·exact .inr ⟨j, hj, h1, fun i hi => h2 i (List.mem_filter.1 hi).1⟩
theorem zfc {d : El zN} {x : El zF} (h : zRe d x) {n : Int} (hn : ∀ i, i ∈ x.1.1 → ¬ @Eq Int i.1 n) : (zBV x.2.1 n).1 = x.2.1 := by
 rw [zRp]
 refine List.filter_eq_self.2 fun k hk => ?_
 have hF := (zOu.1 h.2.2.2.2.2.2).1 k hk
 have : ¬ (v8 k.2.1 n).1 = true := fun c => by
  obtain ⟨y, hy, g⟩ := zKf.1 (hF.2.2.2 n (zpy.1 c))
  exact hn y hy g
 simpa using this
theorem zu8 {a : Int} (h : a > 1000000000) : min a (1000000000 : Int) = 1000000000 := by omega
theorem zu7 {a : Int} (h : ¬ a > 1000000000) : min a (1000000000 : Int) = a := by omega
theorem zu5 {a b : Int} (h : 0 ≤ a) (g : 0 ≤ b) : 0 ≤ a + b := by omega
theorem zvG {d : El zN} {m : El zA} {x : El zF} {e : El zU} (h : zRe d x) (h1 : @Eq Int x.2.2.2.2.2.1 1) (he : (x7 e).1 = true) : zDK x e = zAG x e ∧ zY0 d m x (zAG x e).1 := by
 simp only [zDK, zDX, zAG, zEw, z0, zY, Bool.not_true, Bool.not_false, cond_true, cond_false]
 rcases zoi he with ⟨hk, hf⟩ | hk | ⟨hk, hf, hu⟩ | ⟨hk, hf, hN1, hN2⟩ | hk | hk
 ·rw [show (e.1 == (1 : Int)) = true by rw [hk]; rfl]
  simp only [cond_true]
  have := zrS (m := m) h h1 hf
  rw [this.1]
  exact ⟨rfl, this.2⟩
 ·rw [show (e.1 == (1 : Int)) = false by rw [hk]; rfl, show (e.1 == (2 : Int)) = true by rw [hk]; rfl]
  simp only [cond_true, cond_false]
  obtain ⟨b, r1, r2, r3, r4, r5⟩ := zoW h.2.1 e.2.2.1
  rw [r1, r2, zpw]
  have hc := zng h e.2.2.1 r3
  cases b with
  | true =>
   refine ⟨rfl, zN8 hc h1 rfl ?_ (zny h.2.1 (r5 rfl))⟩
   show (zBV x.2.1 e.2.2.1).1.length ≤ _
   rw [zRp]; exact List.length_filter_le _ _
  | false =>
   have hf := zfc h (r4 rfl)
   have hs : x.1.1.filter (fun i => i.1 != e.2.2.1) = x.1.1 := List.filter_eq_self.2 fun a ha => by simpa using r4 rfl a ha
   rw [hf, hs]
   exact ⟨rfl, zN8 h h1 rfl (Nat.le_refl _) id⟩
 ·rw [show (e.1 == (1 : Int)) = false by rw [hk]; rfl, show (e.1 == (2 : Int)) = false by rw [hk]; rfl, show (e.1 == (3 : Int)) = true by rw [hk]; rfl]
  simp only [cond_true, cond_false]
  have hn := zRh h.2.2.2.2.2.1
  rw [← zek h.2.2.1 hf hu hn]
  have ht := zXV h.2.2.1 hf hu hn
  have hz : zRe d (x.1, x.2.1, (xg x.2.2.1 e.2.1 e.2.2.2.2 x.2.2.2.2.2.2).1, x.2.2.2) := by
   obtain ⟨hD, hS, hT, hR, hU, hn, hF⟩ := h
   exact ⟨hD, hS, ht, hR, hU, hn, zIZ (x := x) rfl rfl hF⟩
  cases c : (xg x.2.2.1 e.2.1 e.2.2.2.2 x.2.2.2.2.2.2).2.1 with
  | true => exact ⟨rfl, zN8 hz h1 rfl (Nat.le_refl _) id⟩
  | false =>
   simp only [Bool.not_false, cond_true]
   rw [zKo hz]
   exact ⟨rfl, zPS hz rfl (Nat.le_refl _) id⟩
 ·rw [show (e.1 == (1 : Int)) = false by rw [hk]; rfl, show (e.1 == (2 : Int)) = false by rw [hk]; rfl, show (e.1 == (3 : Int)) = false by rw [hk]; rfl, show (e.1 == (4 : Int)) = true by rw [hk]; rfl]
  simp only [cond_true, cond_false]
  obtain ⟨n1, n2⟩ := h.2.2.2.2.2.1
  have hw : IntKind.wrap .i64 (x.2.2.2.2.2.2 + e.2.2.2.1) = x.2.2.2.2.2.2 + e.2.2.2.1 := ink (by omega) (by omega)
  have key : ∀ w : Int, 0 ≤ w → w ≤ 1000000000 → zRe d (x.1, x.2.1, x.2.2.1, (vw x.2.2.2.1 (w, e.2.1)).1, x.2.2.2.2) := fun w w1 w2 => by
   obtain ⟨hD, hS, hT, hR, hU, hn, hF⟩ := h
   refine ⟨hD, hS, hT, ztz hR ?_, hU, hn, zIZ (x := x) rfl rfl hF⟩
   rw [zMY] at hf
   have := (zR7 (a := w) (b := 0) (c := 1000000000)).2 ⟨w1, w2⟩
   simp only [zAW, zGg, zY, this, cond_true, hf]
  have fin : ∀ w : Int, 0 ≤ w → w ≤ 1000000000 → (bif (!(vw x.2.2.2.1 (w, e.2.1)).2.1) then ((zW (x.1, x.2.1, x.2.2.1, (vw x.2.2.2.1 (w, e.2.1)).1, x.2.2.2.2)).1, ()) else ((x.1, x.2.1, x.2.2.1, (vw x.2.2.2.1 (w, e.2.1)).1, x.2.2.2.2), ()) : El zF × Unit) = (bif (!(xn x.2.2.2.1 (w, e.2.1)).2.1) then ((zd (x.1, x.2.1, x.2.2.1, (xn x.2.2.2.1 (w, e.2.1)).1, x.2.2.2.2) (3 : Int)).1, ()) else ((x.1, x.2.1, x.2.2.1, (xn x.2.2.2.1 (w, e.2.1)).1, x.2.2.2.2), ())) ∧ zY0 d m x (bif (!(xn x.2.2.2.1 (w, e.2.1)).2.1) then ((zd (x.1, x.2.1, x.2.2.1, (xn x.2.2.2.1 (w, e.2.1)).1, x.2.2.2.2) (3 : Int)).1, ()) else ((x.1, x.2.1, x.2.2.1, (xn x.2.2.2.1 (w, e.2.1)).1, x.2.2.2.2), ()) : El zF × Unit).1 := fun w w1 w2 => by
   have hz := key w w1 w2
   rw [zKo hz, zkE] at *
   cases (xn x.2.2.2.1 (w, e.2.1)).2.1 with
   | true => exact ⟨rfl, zN8 hz h1 rfl (Nat.le_refl _) id⟩
   | false => exact ⟨rfl, zPS hz rfl (Nat.le_refl _) id⟩
  rw [hw]
  by_cases c : x.2.2.2.2.2.2 + e.2.2.2.1 > (1000000000 : Int)
  ·rw [decide_eq_true c, zu8 c]
   exact fin 1000000000 (by decide) (by decide)
  ·rw [decide_eq_false c, zu7 c]
   exact fin _ (zu5 n1 hN1) (Int.not_lt.1 c)
 ·rw [show (e.1 == (1 : Int)) = false by rw [hk]; rfl, show (e.1 == (2 : Int)) = false by rw [hk]; rfl, show (e.1 == (3 : Int)) = false by rw [hk]; rfl, show (e.1 == (4 : Int)) = false by rw [hk]; rfl, show (e.1 == (5 : Int)) = true by rw [hk]; rfl]
  simp only [cond_true, cond_false, yI, zDH, zKt, zTb]
  obtain ⟨hD, hS, hT, hR, hU, hn, hF⟩ := h
  refine ⟨trivial, zNN.2 ⟨hD, hS, zMM hT, zQM, hU, (show (1 : Int) ≤ 2 ∧ (2 : Int) ≤ 6 by decide), hn, zIZ (x := x) rfl rfl hF, fun _ => ⟨zbi _, rfl⟩, fun hu => ?_⟩, rfl, .inr (.inl rfl), Nat.le_refl _, zky rfl rfl⟩
  rcases zTc.1 hu with hu | hu
  ·exact absurd (show (2 : Int) = 3 from hu) (by decide)
  ·exact absurd (show (2 : Int) = 5 from hu) (by decide)
 ·rw [show (e.1 == (1 : Int)) = false by rw [hk]; rfl, show (e.1 == (2 : Int)) = false by rw [hk]; rfl, show (e.1 == (3 : Int)) = false by rw [hk]; rfl, show (e.1 == (4 : Int)) = false by rw [hk]; rfl, show (e.1 == (5 : Int)) = false by rw [hk]; rfl, show (e.1 == (6 : Int)) = true by rw [hk]; rfl]
  simp only [cond_true, cond_false]
  rw [zKo h]
  exact ⟨rfl, zPS h rfl (Nat.le_refl _) id⟩
end
end Go.Proofs.YtkdidadegedmiaaGreat
namespace Go.Proofs.YtkdidadegedmiaaGreat
open Go.RowKit
noncomputable section
theorem zsq (a b : El zL) (n : Int) : zOM a b n = bif (zCx a b).1 && (zBT ((1 : Int), (n, (⟨#[]⟩ : ByteArray)))).1 then (((1 : Int), (n, (⟨#[]⟩ : ByteArray))), true, ()) else (((0 : Int), ((0 : Int), (⟨#[]⟩ : ByteArray))), false, ()) := by
 simp only [zOM, zSG, zCx, zMW, z0, zY, zk8]
 simp only [bne]
 cases (a.1 == (1 : Int)) <;> cases (b.1 == (1 : Int)) <;> cases (zAj a).1 <;> cases (zAj b).1 <;> cases (zAj ((1 : Int), (n, (⟨#[]⟩ : ByteArray)))).1 <;> rfl
theorem zom (a b : El zL) (n : Int) : ((bif (!(zCx a b).1) then (((0 : Int), ((0 : Int), (⟨#[]⟩ : ByteArray))), false, ()) else ((zHt n).1, (zHt n).2.1, ())) : El zL × Bool × Unit) = bif (zCx a b).1 && (zBT ((1 : Int), (n, (⟨#[]⟩ : ByteArray)))).1 then (((1 : Int), (n, (⟨#[]⟩ : ByteArray))), true, ()) else (((0 : Int), ((0 : Int), (⟨#[]⟩ : ByteArray))), false, ()) := by
 simp only [zHt, zOk, z0, zY]
 cases (zCx a b).1 <;> cases (zBT ((1 : Int), (n, (⟨#[]⟩ : ByteArray)))).1 <;> rfl
theorem zm0 (a b : El zL) : zMb a b = zLc a b := by
 simp only [zMb, zMN, zLc, z0, zY]
 rw [zom, zsq]
theorem znE (a b : El zL) : zLj a b = zLo a b := by
 simp only [zLj, zLB, zLo, z0, zY]
 rw [zom, zsq]
theorem zm7 (e : El zo) (b : Li zH) : (zBD e b).2.1 = (zAD e b).2.1 ∧ ((zAD e b).2.1 = true → (zBD e b).1 = (zAD e b).1) := by
 simp only [zBD, zLF, zAD, zLq, z0, zY, zhh, zm0, znE]
 generalize (e.1.toList == (⟨#[]⟩ : ByteArray).toList) = A
 generalize (e.1.toList == (⟨#[43]⟩ : ByteArray).toList) = B
 generalize (e.1.toList == (⟨#[45]⟩ : ByteArray).toList) = C
 cases h1 : (zDT e.2.1 b).2.1 <;> cases h2 : (zDT e.2.2 b).2.1 <;> cases A <;> cases B <;> cases C <;> simp
theorem zN3 {α σ R : Type} {f g : Nat → α → σ → R ⊕ σ} : ∀ (L : List α) (k : Nat) (s : σ), (∀ i x s, L[i]? = some x → f (k + i) x s = g (k + i) x s) → zAo f k L s = zAo g k L s
 | [], _, _, _ => rfl
 | x :: L, k, s, h => by
  have h0 := h 0 x s rfl
  rw [Nat.add_zero] at h0
  simp only [zAo, h0]
  cases g k x s with
  | inl r => rfl
  | inr s' => exact zN3 L (k + 1) s' fun i y t hy => by have := h (i + 1) y t (by simpa using hy); rw [show k + 1 + i = k + (i + 1) by omega]; exact this
theorem zdz (l : Li zo) (b : Li zH) : zGM l b = vl l b := by
 simp only [zGM, zGO, vl, zDr, ze, zY, zq]
 have r1 := LB.run_forS (l := zBW) l (fun i (s : Li zL) => (b, s, l, (l.length : Int), (i : Int), ())) (fun _ x s => bif (!(zBD x b).2.1) then .inl (([] : Li zL), false, ()) else .inr (s ++ [(zBD x b).1])) (fun i x s hx => ?_) (fun s => ?_) []
 have r2 := LB.run_forS (l := zAg) l (fun i (s : Li zL) => (l, b, s, (i : Int), ())) (fun _ x s => bif (!(zAD x b).2.1) then .inl (([] : Li zL), false, ()) else .inr (s ++ [(zAD x b).1])) (fun i x s hx => ?_) (fun s => ?_) []
 ·have e : zAo (fun (_ : Nat) (x : El zo) (s : Li zL) => (bif (!(zBD x b).2.1) then .inl (([] : Li zL), false, ()) else .inr (s ++ [(zBD x b).1]) : (Li zL × Bool × Unit) ⊕ Li zL)) 0 l [] = zAo (fun (_ : Nat) (x : El zo) (s : Li zL) => (bif (!(zAD x b).2.1) then .inl (([] : Li zL), false, ()) else .inr (s ++ [(zAD x b).1]) : (Li zL × Bool × Unit) ⊕ Li zL)) 0 l [] := zN3 l 0 [] fun i x s _ => by
   obtain ⟨h1, h2⟩ := zm7 x b
   rw [h1]
   cases c : (zAD x b).2.1 with
   | true => rw [h2 c]
   | false => rfl
  rw [show ((0 : Nat) : Int) = 0 from rfl] at r1 r2
  rw [r1, r2]
  dsimp only at e ⊢
  rw [e]
  generalize zAo _ 0 l [] = z
  cases z <;> rfl
 ·have hi := (List.getElem?_eq_some_iff.1 hx).1
  simp only [LB.b, zAg, z0, ze, zY, U4]
  rw [ltT hi, cond_true, zQ hx]
  cases (zAD x b).2.1 <;> rfl
 ·simp only [LB.b, zAg, z0, ze, zY, U4]
  rw [ltF]; rfl
 ·have hi := (List.getElem?_eq_some_iff.1 hx).1
  simp only [LB.b, zBW, z0, ze, zY, U5]
  rw [ltT hi, cond_true, zQ hx]
  cases (zBD x b).2.1 <;> rfl
 ·simp only [LB.b, zBW, z0, ze, zY, U5]
  rw [ltF]; rfl
end
end Go.Proofs.YtkdidadegedmiaaGreat
namespace Go.Proofs.YtkdidadegedmiaaGreat
open Go.RowKit
noncomputable section
theorem ziE (e : El zU) : x7 e = zEc e := b1 (by
 have hu := zV1 e.2.2.2.2
 simp only [x7, zGo, zEc, zJx, zEP, zED, zMY, v3, hu, z0, zY]
 simp only [nbS, zR7]
 by_cases h1 : e.1 = 1
 ·simp only [h1]; grind
 by_cases h2 : e.1 = 2
 ·simp only [h2]; grind
 by_cases h3 : e.1 = 3
 ·simp only [h3]; grind
 by_cases h4 : e.1 = 4
 ·simp only [h4]; grind
 by_cases h5 : e.1 = 5
 ·simp only [h5]; grind
 by_cases h6 : e.1 = 6
 ·simp only [h6]; grind
 grind)
theorem zTU {s : ByteArray} (h : s.toList = (⟨#[]⟩ : ByteArray).toList) : s = ⟨#[]⟩ := by
 rw [ByteArray.toList_eq, ByteArray.toList_eq] at h
 obtain ⟨⟨l⟩⟩ := s
 have : l = [] := h
 subst this
 rfl
theorem zgf (b : Li zH) : vl [] b = ([], true, ()) := by
 simp only [vl, zDr, ze, zY, zq]
 have r := zrk (l := zAg) (x := ([], b, ([] : Li zL), (0 : Int), ())) (t := ([], b, ([] : Li zL), (0 : Int), ())) rfl
 rw [r]; rfl
theorem zWd {a : El zp} (m : El zA) (h : (zAb a).1 = true) : (zAR a m).2.1 = (yp a m).2.1 ∧ ((yp a m).2.1 = true → (zAR a m).1 = (yp a m).1 ∧ (x7 (yp a m).1).1 = true) := by
 rw [← zsU] at h
 have key : (@Eq Int a.1 1 ∧ @Eq Int a.2.2.2.1 0 ∧ a.2.2.2.2.toList = (⟨#[]⟩ : ByteArray).toList) ∨ (@Eq Int a.1 2 ∧ a.2.2.2.2.toList = (⟨#[]⟩ : ByteArray).toList) ∨ (@Eq Int a.1 3 ∧ @Eq Int a.2.2.2.1 0) ∨ @Eq Int a.1 4 ∨ ((@Eq Int a.1 5 ∨ @Eq Int a.1 6) ∧ a.2.1.toList = (⟨#[]⟩ : ByteArray).toList ∧ a.2.2.1 = [] ∧ a.2.2.2.2.toList = (⟨#[]⟩ : ByteArray).toList) := by
  have hl : (a.2.2.1.length : Int) = 0 ↔ a.2.2.1 = [] := ⟨fun h => List.length_eq_zero_iff.1 (by omega), fun h => by rw [h]; rfl⟩
  revert h
  simp only [zC5, zKT, nbS, hl]
  grind
 obtain ⟨k, nm, ex, n, u⟩ := a
 simp only [zAR, zJV, yp, zHS, z0, ze, zY, ziE, zdz]
 rcases key with ⟨hk, hn, hu⟩ | ⟨hk, hu⟩ | ⟨hk, hn⟩ | hk | ⟨hk, hnm, hex, hu⟩
 ·obtain rfl : k = (1 : Int) := hk
  obtain rfl : n = (0 : Int) := hn
  simp only [show ((1 : Int) == (1 : Int)) = true from rfl, show ((1 : Int) == (2 : Int)) = false from rfl, show ((1 : Int) == (4 : Int)) = false from rfl, cond_true, cond_false]
  cases (vl ex m.2.2).2.1 with
  | true => exact ⟨rfl, fun h => ⟨rfl, h⟩⟩
  | false => exact ⟨rfl, fun h => by cases h⟩
 ·obtain rfl : k = (2 : Int) := hk
  obtain rfl : u = ⟨#[]⟩ := zTU hu
  exact ⟨rfl, fun h => ⟨rfl, h⟩⟩
 ·obtain rfl : k = (3 : Int) := hk
  obtain rfl : n = (0 : Int) := hn
  simp only [show ((3 : Int) == (1 : Int)) = false from rfl, show ((3 : Int) == (3 : Int)) = true from rfl, show ((3 : Int) == (2 : Int)) = false from rfl, show ((3 : Int) == (4 : Int)) = false from rfl, cond_true, cond_false]
  cases (vl ex m.2.2).2.1 with
  | true => exact ⟨rfl, fun h => ⟨rfl, h⟩⟩
  | false => exact ⟨rfl, fun h => by cases h⟩
 ·obtain rfl : k = (4 : Int) := hk
  simp only [show ((4 : Int) == (1 : Int)) = false from rfl, show ((4 : Int) == (3 : Int)) = false from rfl, show ((4 : Int) == (2 : Int)) = false from rfl, show ((4 : Int) == (4 : Int)) = true from rfl, cond_true, cond_false]
  cases (vl ex m.2.2).2.1 with
  | true => exact ⟨rfl, fun h => ⟨rfl, h⟩⟩
  | false => exact ⟨rfl, fun h => by cases h⟩
 ·obtain rfl : nm = ⟨#[]⟩ := zTU hnm
  obtain rfl : u = ⟨#[]⟩ := zTU hu
  obtain rfl : ex = [] := hex
  have hcn := zgf m.2.2
  rcases hk with hk | hk
  ·obtain rfl : k = (5 : Int) := hk
   rw [hcn]
   exact ⟨rfl, fun h => ⟨rfl, h⟩⟩
  ·obtain rfl : k = (6 : Int) := hk
   rw [hcn]
   exact ⟨rfl, fun h => ⟨rfl, h⟩⟩
end
end Go.Proofs.YtkdidadegedmiaaGreat
namespace Go.Proofs.YtkdidadegedmiaaGreat
open Go.RowKit
noncomputable section
theorem zkZ {r : El zG} (h : (vz r).1 = true) : ∀ x, x ∈ r.2.2.2.2 → (zAb x).1 = true := by
 intro x hx
 have h' : (zHq r.2.2.2.2 (xb r).1 (zc r).1).1 = true := by
  simp only [vz, zCW, z0, ze, zY] at h
  revert h
  cases (xV r.1).1 <;> cases (z6 r.2.1 (-100 : Int) (100 : Int)).1 <;> cases (zBb r.2.2.1).1 <;> cases (zF1 r.2.2.2.1 (xb r).1).1 <;> intro h <;> first | exact h | cases h
 rw [zTK] at h'
 cases e : xU (fun _ x => bif (!(zAb x).1) then false else bif (x.1 == (2 : Int)) && decide (x.2.2.2.1 ≥ (zc r).1) then false else xU (fun i x => bif (!(xE x.2.1 (xb r).1).1) then false else (bif (!(xE x.2.2 (xb r).1).1) then false else true)) 0 x.2.2.1) 0 r.2.2.2.2 with
 | false => rw [e] at h'; cases h'
 | true =>
  obtain ⟨i, hi⟩ := zG8 hx
  have := zR.1 e i x hi
  cases k1 : (zAb x).1 with
  | true => rfl
  | false => rw [k1] at this; cases this
theorem zWj {α σ R : Type} {f : Nat → α → σ → R ⊕ σ} (P : σ → Prop) : ∀ (L : List α) (k : Nat) (s : σ), (∀ i x s t, L[i]? = some x → P s → f (k + i) x s = .inr t → P t) → P s → ∀ t, zAo f k L s = .inr t → P t
 | [], _, s, _, hs, t, h => by cases h; exact hs
 | x :: L, k, s, h, hs, t, ht => by
  simp only [zAo] at ht
  cases e : f k x s with
  | inl r => rw [e] at ht; cases ht
  | inr s' =>
   rw [e] at ht
   refine zWj P L (k + 1) s' (fun i y u v hy => ?_) (h 0 x s s' rfl hs e) t ht
   have := h (i + 1) y u v (by simpa using hy)
   rw [show k + 1 + i = k + (i + 1) by omega]; exact this
theorem zYI {α σ R : Type} {f : Nat → α → σ → R ⊕ σ} {r : R} : ∀ (L : List α) (k : Nat) (s : σ), (∀ i x s t, f i x s = .inl t → t = r) → ∀ t, zAo f k L s = .inl t → t = r
 | [], _, s, _, t, h => by cases h
 | x :: L, k, s, h, t, ht => by
  simp only [zAo] at ht
  cases e : f k x s with
  | inl q => rw [e] at ht; cases ht; exact h _ _ _ _ e
  | inr s' => rw [e] at ht; exact zYI L (k + 1) s' h t ht
theorem zoP {d : El zN} (m : El zA) (h : (zCC d).1 = true) : zHO d m = yQ d m ∧ ((yQ d m).2.1 = true → ∀ e, e ∈ (yQ d m).1 → (x7 e).1 = true) := by
 simp only [zHO, zDa, yQ, zBz, z0, ze, zY, zq, h, Bool.not_true, cond_false, zKV, zVo]
 cases hr : (yO d m).1 with
 | false => exact ⟨rfl, fun h => by cases h⟩
 | true =>
 simp only [Bool.not_true, cond_false]
 cases ((m.2.1.length : Int) != (zc (zB zG d.2 m.1)).1) with
 | true => exact ⟨rfl, fun h => by cases h⟩
 | false =>
 simp only [cond_false]
 have hb := zIl hr
 have hA := zkZ ((zNi h).2 _ (zV hb))
 revert hA
 generalize (zB zG d.2 m.1).2.2.2.2 = l
 intro hA
 have r1 := LB.run_forS (l := zAV) l (fun i (s : Li zU) => (m, (), s, l, (l.length : Int), (i : Int), ())) (fun _ x s => bif (!(zAR x m).2.1) then .inl (([] : Li zU), false, ()) else .inr (s ++ [(zAR x m).1])) (fun i x s hx => ?_) (fun s => ?_) []
 have r2 := LB.run_forS (l := zAU) l (fun i (s : Li zU) => (m, (), s, l, (i : Int), ())) (fun _ x s => bif (!(yp x m).2.1) then .inl (([] : Li zU), false, ()) else .inr (s ++ [(yp x m).1])) (fun i x s hx => ?_) (fun s => ?_) []
 ·have e : zAo (fun (_ : Nat) (x : El zp) (s : Li zU) => (bif (!(zAR x m).2.1) then .inl (([] : Li zU), false, ()) else .inr (s ++ [(zAR x m).1]) : (Li zU × Bool × Unit) ⊕ Li zU)) 0 l [] = zAo (fun (_ : Nat) (x : El zp) (s : Li zU) => (bif (!(yp x m).2.1) then .inl (([] : Li zU), false, ()) else .inr (s ++ [(yp x m).1]) : (Li zU × Bool × Unit) ⊕ Li zU)) 0 l [] := zN3 l 0 [] fun i x s hx => by
   obtain ⟨h1, h2⟩ := zWd m (hA x (zEQ hx))
   rw [h1]
   cases c : (yp x m).2.1 with
   | true => rw [(h2 c).1]
   | false => rfl
  rw [show ((0 : Nat) : Int) = 0 from rfl] at r1 r2
  rw [r1, r2]
  dsimp only at e ⊢
  rw [e]
  cases z : zAo (fun (_ : Nat) (x : El zp) (s : Li zU) => (bif (!(yp x m).2.1) then .inl (([] : Li zU), false, ()) else .inr (s ++ [(yp x m).1]) : (Li zU × Bool × Unit) ⊕ Li zU)) 0 l [] with
  | inl r =>
   have : r = (([] : Li zU), false, ()) := zYI l 0 [] (fun i x s t ht => by
    cases c : (yp x m).2.1 with
    | true => rw [c] at ht; cases ht
    | false => rw [c] at ht; cases ht; rfl) r z
   rw [this]
   exact ⟨rfl, fun h => by cases h⟩
  | inr t =>
   refine ⟨rfl, fun _ => ?_⟩
   exact zWj (fun s : Li zU => ∀ e, e ∈ s → (x7 e).1 = true) l 0 [] (fun i x s t hx hs ht => by
    cases c : (yp x m).2.1 with
    | false => rw [c] at ht; cases ht
    | true =>
     rw [c] at ht; cases ht
     intro e he
     rcases List.mem_append.1 he with he | he
     ·exact hs e he
     ·rw [List.mem_singleton.1 he]
      exact ((zWd m (hA x (zEQ hx))).2 c).2) (fun e he => by cases he) t z
 ·have hi := (List.getElem?_eq_some_iff.1 hx).1
  simp only [LB.b, zAU, z0, ze, zY, U5]
  rw [ltT hi, cond_true, zQ hx]
  cases (yp x m).2.1 <;> rfl
 ·simp only [LB.b, zAU, z0, ze, zY, U5]
  rw [ltF]; rfl
 ·have hi := (List.getElem?_eq_some_iff.1 hx).1
  simp only [LB.b, zAV, z0, ze, zY, U6]
  rw [ltT hi, cond_true, zQ hx]
  cases (zAR x m).2.1 <;> rfl
 ·simp only [LB.b, zAV, z0, ze, zY, U6]
  rw [ltF]; rfl
end
end Go.Proofs.YtkdidadegedmiaaGreat
namespace Go.Proofs.YtkdidadegedmiaaGreat
open Go.RowKit
noncomputable section
theorem zqz (N : Nat) (out : Li zA) (r : El zG) (s : El zE) (ids : Li .int) (l : Li zH) : LB.run (z4 (ya N) (xQ N)) (out, r, s, (), ids, l, (), (), (0 : Int), ()) = .brk (yC (fun _ x o => bif (zt (zB zM r.2.2.1 (ids.length : Int)) x.2 l).2.1 then (ya N o r s (ids ++ [x.1]) (zt (zB zM r.2.2.1 (ids.length : Int)) x.2 l).1).1 else o) 0 s.1 out, r, s, (), ids, l, (), (), (s.1.length : Int), ()) := by
 refine LB.run_fold (l := z4 (ya N) (xQ N)) (L := s.1) (fun i o => (o, r, s, (), ids, l, (), (), (i : Int), ())) (fun i x o h => ?_) (fun o => ?_) (s := out)
 ·have hi := (List.getElem?_eq_some_iff.1 h).1
  simp only [LB.b, z4, z0, ze, zY]
  rw [ltT hi, cond_true, zQ h]
  try dsimp only
  cases (zt (zB zM r.2.2.1 (ids.length : Int)) x.2 l).2.1 <;> rfl
 ·simp only [LB.b, z4, z0, ze, zY]
  rw [ltF]; rfl
theorem zMS {α σ : Type} {f : Nat → α → σ → σ} (P : σ → Prop) : ∀ (L : List α) (k : Nat) (s : σ), (∀ i x s, L[i]? = some x → P s → P (f (k + i) x s)) → P s → P (yC f k L s)
 | [], _, _, _, hs => hs
 | x :: L, k, s, h, hs => by
  rw [yC]
  refine zMS P L (k + 1) _ (fun i y u hy hu => ?_) (h 0 x s rfl hs)
  have := h (i + 1) y u (by simpa using hy) hu
  rw [show k + 1 + i = k + (i + 1) by omega]; exact this
def zdR (s : El zE) (l : Li .int) : Prop := ∀ n : Int, n ∈ l → ∃ x, x ∈ s.1 ∧ @Eq Int x.1 n
theorem zoI (r : El zG) (s : El zE) : ∀ (N : Nat) (out : Li zA) (ids : Li .int) (l : Li zH), zdR s ids → (∀ m, m ∈ out → zdR s m.2.1) → ∀ m, m ∈ (ya N out r s ids l).1 → zdR s m.2.1 := by
 intro N
 induction N with
 | zero => intro out ids l _ _ m hm; cases hm
 | succ N ih =>
  intro out ids l hi ho
  show ∀ m, m ∈ (xz (ya N) (xQ N) out r s ids l).val.1 → zdR s m.2.1
  simp only [xz, z0, ze, zY, zq]
  cases ((ids.length : Int) == (zc r).1) with
  | true =>
   rw [cond_true]
   cases (zEG r s l).1 with
   | true => exact ho
   | false =>
    cases (zEL r.2.2.2.1 l).1 with
    | false => exact ho
    | true =>
     intro m hm
     rcases List.mem_append.1 hm with hm | hm
     ·exact ho m hm
     ·rw [List.mem_singleton.1 hm]; exact hi
  | false =>
   rw [cond_false, zqz]
   refine zMS (fun o : Li zA => ∀ m, m ∈ o → zdR s m.2.1) s.1 0 out (fun i x o hx ho => ?_) ho
   cases (zt (zB zM r.2.2.1 (ids.length : Int)) x.2 l).2.1 with
   | false => exact ho
   | true =>
    refine ih o (ids ++ [x.1]) _ (fun n hn => ?_) ho
    rcases List.mem_append.1 hn with hn | hn
    ·exact hi n hn
    ·exact ⟨x, zEQ hx, (List.mem_singleton.1 hn).symm⟩
theorem zqQ (d : El zN) (s : El zE) : ∀ m, m ∈ (zHu d s).1 → zdR s m.2.1 := by
 rw [zax]
 refine zMS (fun o : Li zA => ∀ m, m ∈ o → zdR s m.2.1) d.2 0 [] (fun i r o _ ho m hm => ?_) (fun m h => by cases h)
 rcases List.mem_append.1 hm with hm | hm
 ·exact ho m hm
 ·obtain ⟨k, hk, rfl⟩ := List.mem_map.1 hm
  simp only [zGe, zII, ze, zY] at hk
  exact zoI r s 64 [] [] [] (fun n h => by cases h) (fun m h => by cases h) k hk
theorem zt4 {a b : Li .int} : (zIf a b).1 = true ↔ a = b := by
 rw [zXE]
 simp only [nbS, zR, Nat.zero_add]
 constructor
 ·rintro ⟨h1, h2⟩
  refine List.ext_getElem? fun i => ?_
  cases ha : a[i]? with
  | none =>
   have := List.getElem?_eq_none_iff.1 ha
   rw [List.getElem?_eq_none (by omega)]
  | some x =>
   have hi := (List.getElem?_eq_some_iff.1 ha).1
   have hb : b[i]? = some (b[i]'(by omega)) := List.getElem?_eq_getElem _
   have := h2 i x ha
   rw [zQ hb] at this
   rw [hb, this]
 ·rintro rfl
  exact ⟨rfl, fun i x hx => (zQ hx).symm⟩
theorem zNo {a b : El zA} : (vJ a b).1 = true ↔ @Eq Int a.1 b.1 ∧ a.2.1 = b.2.1 := by
 simp only [vJ, zFS, z0, zY]
 rw [← zt4]
 cases c : (a.1 == b.1) with
 | true =>
  have : @Eq Int a.1 b.1 := by simpa using c
  exact ⟨fun h => ⟨this, h⟩, fun h => h.2⟩
 | false =>
  have : ¬ @Eq Int a.1 b.1 := by simpa using c
  exact ⟨fun h => (by cases h), fun h => absurd h.1 this⟩
theorem zkM {l : Li zA} {m : El zA} : (xZ l m).1 = true ↔ ∃ k, k ∈ l ∧ @Eq Int k.1 m.1 ∧ k.2.1 = m.2.1 := by
 rw [zTs]
 simp only [nbS, zTZ, zNo]
 exact ⟨fun h => Classical.byContradiction fun g => h fun x hx hxe => g ⟨x, hx, hxe⟩, fun ⟨k, hk, e⟩ h => h k hk e⟩
theorem zl8 {d : El zN} {l f : Li zA} (h : (zAP d l f).2.1 = true) : (zAP d l f).1 ∈ l ∧ (yO d (zAP d l f).1).1 = true ∧ ¬ (xZ f (zAP d l f).1).1 = true := by
 revert h
 rw [zRm]
 simp only [zKV, zYq, zAx]
 refine zMS (fun s : El zA × Bool => s.2 = true → s.1 ∈ l ∧ (yO d s.1).1 = true ∧ ¬ (xZ f s.1).1 = true) l 0 _ (fun i x s hx hs => ?_) (fun h => by cases h)
 cases h1 : (yO d x).1 with
 | false => exact hs
 | true =>
  cases h2 : (xZ f x).1 with
  | true => exact hs
  | false =>
   have hn : x ∈ l ∧ (yO d x).1 = true ∧ ¬ (xZ f x).1 = true := ⟨zEQ hx, h1, by rw [h2]; decide⟩
   cases h3 : s.2 with
   | false => exact fun _ => hn
   | true =>
    cases (zH9 d x s.1).1 with
    | true => exact fun _ => hn
    | false => exact fun _ => hs h3
end
end Go.Proofs.YtkdidadegedmiaaGreat
namespace Go.Proofs.YtkdidadegedmiaaGreat
open Go.RowKit
noncomputable section
theorem ziZ {d : El zN} {m : El zA} {x y z : El zF} (h : zY0 d m x y) (g : zY0 d m y z) : zY0 d m x z :=
 ⟨g.1, g.2.1.trans h.2.1, g.2.2.1, Nat.le_trans g.2.2.2.1 h.2.2.2.1, fun a => g.2.2.2.2 (h.2.2.2.2 a)⟩
theorem zmz {d : El zN} {m : El zA} {E : Li zU} (hE : ∀ e, e ∈ E → (x7 e).1 = true) {x0 : El zF} : ∀ (k i : Nat) (x : El zF), i + k = E.length → zY0 d m x0 x → ∃ y, zY0 d m x0 y ∧ (∃ t, whl x4.b (k + 1) (x, (), E, (i : Int), ()) = .brk t ∧ t.1 = y) ∧ ((whl yn.b (k + 1) (x, (), E, (E.length : Int), (i : Int), ()) = .ret (y, ())) ∨ ∃ t, whl yn.b (k + 1) (x, (), E, (E.length : Int), (i : Int), ()) = .brk t ∧ t.1 = y) := by
 intro k
 induction k with
 | zero =>
  intro i x hi hg
  have : i = E.length := by omega
  subst this
  have b1 : x4.b (x, (), E, (E.length : Int), ()) = .brk (x, (), E, (E.length : Int), ()) := by
   simp only [LB.b, x4, z0, ze, zY, U4]
   rw [ltF]; rfl
  have b2 : yn.b (x, (), E, (E.length : Int), (E.length : Int), ()) = .brk (x, (), E, (E.length : Int), (E.length : Int), ()) := by
   simp only [LB.b, yn, z0, ze, zY, U5]
   rw [ltF]; rfl
  exact ⟨x, hg, ⟨_, by rw [whl, b1], rfl⟩, .inr ⟨_, by rw [whl, b2], rfl⟩⟩
 | succ k ih =>
  intro i x hi hg
  obtain ⟨e, he⟩ : ∃ e, E[i]? = some e := ⟨_, List.getElem?_eq_getElem (by omega)⟩
  have hlt : i < E.length := by omega
  by_cases hs : @Eq Int x.2.2.2.2.2.1 1
  ·have hb1 : (x.2.2.2.2.2.1 == (1 : Int)) = true := by simpa using hs
   have hb2 : (x.2.2.2.2.2.1 != (1 : Int)) = false := by simpa using hs
   obtain ⟨e1, e2⟩ := zvG (m := m) (zlG hg.1) hs (hE e (zEQ he))
   have b1 : x4.b (x, (), E, (i : Int), ()) = .go ((zAG x e).1, (), E, ((i + 1 : Nat) : Int), ()) := by
    simp only [LB.b, x4, z0, ze, zY, U4]
    rw [ltT hlt, cond_true, hb1, cond_true, zQ he]; rfl
   have b2 : yn.b (x, (), E, (E.length : Int), (i : Int), ()) = .go ((zAG x e).1, (), E, (E.length : Int), ((i + 1 : Nat) : Int), ()) := by
    simp only [LB.b, yn, z0, ze, zY, U5]
    rw [ltT hlt, cond_true, hb2, cond_false, zQ he, e1]; rfl
   obtain ⟨y, h1, h2, h3⟩ := ih (i + 1) (zAG x e).1 (by omega) (ziZ hg e2)
   refine ⟨y, h1, ?_, ?_⟩
   ·rw [whl, b1]; exact h2
   ·rw [whl, b2]; exact h3
  ·have hb1 : (x.2.2.2.2.2.1 == (1 : Int)) = false := by simpa using hs
   have hb2 : (x.2.2.2.2.2.1 != (1 : Int)) = true := by simpa using hs
   have b1 : x4.b (x, (), E, (i : Int), ()) = .brk (x, (), E, (i : Int), ()) := by
    simp only [LB.b, x4, z0, ze, zY, U4]
    rw [ltT hlt, cond_true, hb1, cond_false]
   have b2 : yn.b (x, (), E, (E.length : Int), (i : Int), ()) = .ret (x, ()) := by
    simp only [LB.b, yn, z0, ze, zY, U5]
    rw [ltT hlt, cond_true, hb2, cond_true]
   exact ⟨x, hg, ⟨_, by rw [whl, b1], rfl⟩, .inl (by rw [whl, b2])⟩
theorem zpx {d : El zN} {m : El zA} {x : El zF} (h : (xD d x).1 = true) (h1 : @Eq Int x.2.2.2.2.2.1 1) (hr : (yO d m).1 = true) (hm : zdR x.1 m.2.1) : zDt x d m = xa d x m ∧ (xD d (xa d x m).1).1 = true ∧ (xa d x m).1.2.2.2.2.2.2 = x.2.2.2.2.2.2 ∧ (@Eq Int (xa d x m).1.2.2.2.2.2.1 1 → zPb m (xa d x m).1) ∧ (@Eq Int (xa d x m).1.2.2.2.2.2.1 1 ∨ @Eq Int (xa d x m).1.2.2.2.2.2.1 2 ∨ @Eq Int (xa d x m).1.2.2.2.2.2.1 3 ∨ @Eq Int (xa d x m).1.2.2.2.2.2.1 4) ∧ (xa d x m).1.2.1.length ≤ x.2.1.length + 1 := by
 have hc := zlG h
 obtain ⟨eE, hE⟩ := zoP m hc.1
 have hf : zD9 x = zd x (3 : Int) := zKo hc
 have tt := zk1 hc
 have fin : (xD d (zd x (3 : Int)).1).1 = true ∧ (zd x (3 : Int)).1.2.2.2.2.2.2 = x.2.2.2.2.2.2 ∧ (@Eq Int (zd x (3 : Int)).1.2.2.2.2.2.1 1 → zPb m (zd x (3 : Int)).1) ∧ (@Eq Int (zd x (3 : Int)).1.2.2.2.2.2.1 1 ∨ @Eq Int (zd x (3 : Int)).1.2.2.2.2.2.1 2 ∨ @Eq Int (zd x (3 : Int)).1.2.2.2.2.2.1 3 ∨ @Eq Int (zd x (3 : Int)).1.2.2.2.2.2.1 4) ∧ (zd x (3 : Int)).1.2.1.length ≤ x.2.1.length + 1 := by
  obtain ⟨a1, a2, a3, a4, a5⟩ := tt
  refine ⟨a1, a4, fun h => ?_, ?_, by rw [a3]; omega⟩
  ·rcases a5 with a5 | a5 <;> rw [a5] at h <;> exact absurd h (by decide)
  ·rcases a5 with a5 | a5
   ·exact .inr (.inr (.inl a5))
   ·exact .inr (.inr (.inr a5))
 simp only [zDt, zD5, xa, zIW, z0, ze, zY, zq, eE, hf]
 cases c1 : (yQ d m).2.1 with
 | false => exact ⟨rfl, fin⟩
 | true =>
 cases c2 : decide ((x.2.1.length : Int) ≥ (1000 : Int)) with
 | true => exact ⟨rfl, fin⟩
 | false =>
 simp only [Bool.not_true, cond_false]
 have hE := hE c1
 obtain ⟨hD, hS, hT, hR, hU, hn, hF⟩ := hc
 have hlen : x.2.1.length < 1000 := by have := of_decide_eq_false c2; omega
 have hpc : (m.2.1.length : Int) = (zc (zB zG d.2 m.1)).1 := by
  simp only [yQ, zBz, z0, ze, zY, zq, hD, hr, Bool.not_true, cond_false] at c1
  cases k : ((m.2.1.length : Int) != (zc (zB zG d.2 m.1)).1) with
  | true => rw [k] at c1; cases c1
  | false => simpa using k
 have hz : (xD d (x.1, x.2.1 ++ [((m.1, (m.2.1, ([] : Li zH))) : El zA)], x.2.2)).1 = true := by
  refine zgU ⟨hD, hS, hT, hR, hU, hn, ?_⟩ h1
  rw [zOu] at hF ⊢
  refine ⟨fun k hk => ?_, by rw [List.length_append, List.length_singleton]; omega⟩
  rcases List.mem_append.1 hk with hk | hk
  ·exact hF.1 k hk
  ·rw [List.mem_singleton.1 hk]
   exact ⟨hr, rfl, hpc, fun n hn => zKf.2 (hm n hn)⟩
 have hg0 : zY0 d m (x.1, x.2.1 ++ [((m.1, (m.2.1, ([] : Li zH))) : El zA)], x.2.2) (x.1, x.2.1 ++ [((m.1, (m.2.1, ([] : Li zH))) : El zA)], x.2.2) := ⟨hz, rfl, .inl h1, Nat.le_refl _, id⟩
 obtain ⟨y, g1, ⟨t, g2, g3⟩, g4⟩ := zmz (m := m) hE (yQ d m).1.length 0 _ (by omega) hg0
 have r1 : LB.run x4 ((x.1, x.2.1 ++ [((m.1, (m.2.1, ([] : Li zH))) : El zA)], x.2.2), (), (yQ d m).1, (0 : Int), ()) = .brk t := by
  rw [LB.run_eq (n := (yQ d m).1.length + 1) (by rw [show (0 : Int) = ((0 : Nat) : Int) from rfl, g2]; rfl)]; exact g2
 have r2 : (LB.run yn ((x.1, x.2.1 ++ [((m.1, (m.2.1, ([] : Li zH))) : El zA)], x.2.2), (), (yQ d m).1, ((yQ d m).1.length : Int), (0 : Int), ())).fin (fun r => ((r.1, ()) : El zF × Unit)) (fun t => (t.1, ())) = (y, ()) := by
  rcases g4 with g4 | ⟨u, g4, g5⟩
  ·rw [LB.run_eq (n := (yQ d m).1.length + 1) (by rw [show (0 : Int) = ((0 : Nat) : Int) from rfl, g4]; rfl)]
   rw [show (0 : Int) = ((0 : Nat) : Int) from rfl, g4]; rfl
  ·rw [LB.run_eq (n := (yQ d m).1.length + 1) (by rw [show (0 : Int) = ((0 : Nat) : Int) from rfl, g4]; rfl)]
   rw [show (0 : Int) = ((0 : Nat) : Int) from rfl, g4]
   exact congrArg (fun z : El zF => (z, ())) g5
 have gone0 : zPb m (x.1, x.2.1 ++ [((m.1, (m.2.1, ([] : Li zH))) : El zA)], x.2.2) := .inl ⟨_, List.mem_append_right _ (List.mem_singleton.2 rfl), rfl, rfl⟩
 have e1 : (LB.run x4 ((x.1, x.2.1 ++ [((m.1, (m.2.1, ([] : Li zH))) : El zA)], x.2.2), (), (yQ d m).1, (0 : Int), ())).fin (fun r => ((r.1, ()) : El zF × Unit)) (fun t => (t.1, ())) = (y, ()) := by
  rw [r1]; exact congrArg (fun z : El zF => (z, ())) g3
 rw [r2, e1]
 refine ⟨rfl, g1.1, g1.2.1, fun _ => g1.2.2.2.2 gone0, g1.2.2.1, ?_⟩
 have := g1.2.2.2.1
 simpa using this
end
end Go.Proofs.YtkdidadegedmiaaGreat
namespace Go.Proofs.YtkdidadegedmiaaGreat
open Go.RowKit
noncomputable section
theorem zOt (f : El zK) : (zI f f).1 = true := zG1.2 (SFa.refl f)
theorem zjf (l : Li zC) : (zB9 l l).1 = true := by
 rw [zU7]
 simp only [nbS, zR, Nat.zero_add]
 refine fun i x hx => ?_
 rw [zQ hx]
 simp [zOt]
theorem zjV (s : El zE) : (zCQ s s).1 = true := by
 rw [zVG]
 simp only [nbS, zR, Nat.zero_add]
 refine fun i x hx => ?_
 rw [zQ hx]
 simp [zOt]
theorem zqo (l : Li zA) : (zMj l l).1 = true := by
 simp only [zMj, zLD, z0, ze, zY, zq]
 have h0 := zJo (l := zEe) (fun i => (l, l, (i : Int), ())) l.length (fun i hi => ?_) ?_
 ·rw [show ((0 : Nat) : Int) = 0 from rfl] at h0
  rw [h0]
  simp
  rfl
 ·have hx : l[i]? = some l[i] := List.getElem?_eq_getElem hi
  have h1 := zJo (l := zDD) (fun j => (l, l, (i : Int), (j : Int), ())) l[i].2.2.length (fun j hj => ?_) ?_
  ·simp only [LB.b, zEe, z0, ze, zY, zq, U3]
   rw [ltT hi, cond_true, zQ hx]
   rw [show ((0 : Nat) : Int) = 0 from rfl] at h1
   rw [h1, zNo.2 ⟨rfl, rfl⟩]
   simp
   rfl
  ·have hy : l[i].2.2[j]? = some l[i].2.2[j] := List.getElem?_eq_getElem hj
   simp only [LB.b, zDD, z0, ze, zY, U4]
   rw [zQ hx, ltT hj, cond_true, zQ hy]
   simp
  ·simp only [LB.b, zDD, z0, ze, zY, U4]
   rw [zQ hx, ltF]; rfl
 ·simp only [LB.b, zEe, z0, ze, zY, zq, U3]
  rw [ltF]; rfl
theorem znx (x : El zF) : (zBS x x).1 = true := by
 rw [zXD]
 simp only [nbS, zR, Nat.zero_add, zjV, zjf, zqo]
 refine ⟨fun i y hy => ?_, fun i y hy => ?_⟩
 ·rw [zQ hy]; simp [zOt]
 ·rw [zQ hy]; simp [zOt]
theorem zp2 (x : El zF) : (zGi x x).1 = true := by
 unfold zGi
 rw [zfa]
 simp only [nbS, zR, Nat.zero_add]
 refine ⟨fun i y hy => by simp at hy, fun i y hy => ?_⟩
 rw [zQ hy]
 simp [znx]
theorem zb0 {r : El zG} (h : (vz r).1 = true) : ∃ n, zRk r.2.2.1 n := by
 have h' : (zBb r.2.2.1).1 = true := by
  simp only [vz, zCW, z0, ze, zY] at h
  revert h
  cases (xV r.1).1 <;> cases (z6 r.2.1 (-100 : Int) (100 : Int)).1 <;> cases (zBb r.2.2.1).1 <;> intro h <;> first | rfl | cases h
 exact zlg h'
theorem zqA (d : El zN) (x : El zF) : yN d x = zDb d x := by
 simp only [yN, zEl, zDb, zF4, zBA, zFw, z0, ze, zY, zj9]
 cases h : (xD d x).1 with
 | false => cases (x.2.2.2.2.2.1 != (1 : Int)) <;> rfl
 | true =>
  cases (x.2.2.2.2.2.1 != (1 : Int)) with
  | true => rfl
  | false =>
   rw [zsT (fun r hr => zb0 ((zNi (zNN.1 h).1).2 r hr)) x.1, zts]; rfl
theorem zS0 {d : El zN} {x : El zF} (h : (yN d x).2.1 = true) : (xD d x).1 = true ∧ @Eq Int x.2.2.2.2.2.1 1 ∧ (yO d (yN d x).1).1 = true ∧ ¬ (xZ x.2.1 (yN d x).1).1 = true ∧ zdR x.1 (yN d x).1.2.1 := by
 revert h
 simp only [yN, zEl, z0, ze, zY, zj9]
 cases h1 : (x.2.2.2.2.2.1 != (1 : Int)) with
 | true => intro h; cases h
 | false =>
  cases h2 : (xD d x).1 with
  | false => intro h; cases h
  | true =>
   simp only [cond_false, Bool.not_true]
   intro h
   obtain ⟨a, b, c⟩ := zl8 h
   refine ⟨trivial, by simpa using h1, b, c, ?_⟩
   rw [zsT (fun r hr => zb0 ((zNi (zNN.1 h2).1).2 r hr)) x.1] at a ⊢
   exact zqQ d x.1 _ a
theorem ziU (d : El zN) (x : El zF) : zJR d x = zEs d x := by
 simp only [zJR, zEk, zEs, zCo, z0, ze, zY, zuF, c20]
 have e := zqA d x
 cases h : (yN d x).2.1 with
 | false => rw [← e, h]; rfl
 | true =>
  obtain ⟨h1, h2, h3, _, h5⟩ := zS0 h
  rw [← e, h, (zpx h1 h2 h3 h5).1]; rfl
theorem zoS (c : Li .u8) : (zIm c).1 = true := by
 simp only [zIm, zFd, z0, ze, zY]
 cases (ziv c).1 with
 | true => rfl
 | false =>
 rw [cond_false]
 generalize (z8 c).1 = d
 generalize (z8 c).2.1 = x
 have e1 := ziU d x
 simp only [e1, zp2, Bool.not_true, beq_self_eq_true, cond_false]
 have e2 : zEs d x = (bif (yN d x).2.1 then (xa d x (yN d x).1).1 else x, (yN d x).2.1, ()) := by
  simp only [zEs, zCo, z0, ze, zY, c20, zqA]
  cases (zDb d x).2.1 <;> rfl
 simp only [e2, beq_self_eq_true, Bool.not_true, cond_false]
 cases h : (yN d x).2.1 with
 | false => simp only [Bool.not_false, cond_true, cond_false, zp2]
 | true =>
  obtain ⟨h1, h2, h3, h4, h5⟩ := zS0 h
  obtain ⟨_, f1, f2, f3, f4, f5⟩ := zpx h1 h2 h3 h5
  simp only [Bool.not_true, cond_true, cond_false]
  generalize (xa d x (yN d x).1).1 = y at *
  have hl : x.2.1.length ≤ 1000 := (zOu.1 (zNN.1 h1).2.2.2.2.2.2.2.1).2
  have hw : IntKind.wrap .i64 ((x.2.1.length : Int) + (1 : Int)) = (x.2.1.length : Int) + (1 : Int) := ink (by omega) (by omega)
  have hk : (bif (!(zBX d y).1) then (false, ()) else (bif (y.2.2.2.2.2.2 == x.2.2.2.2.2.2) then (bif decide ((y.2.1.length : Int) ≤ IntKind.wrap .i64 ((x.2.1.length : Int) + (1 : Int))) then (bif (y.2.2.2.2.2.1 == (1 : Int)) then (true, ()) else (bif (zGu y).1 then (true, ()) else ((y.2.2.2.2.2.1 == (3 : Int)), ()))) else (false, ())) else (false, ())) : Bool × Unit) = (true, ()) := by
   rw [zj9, f1, f2, hw, decide_eq_true (by omega)]
   simp only [Bool.not_true, cond_false, beq_self_eq_true, cond_true]
   rcases f4 with f | f | f | f
   ·rw [f]; rfl
   ·simp only [zGu, zIK, z0, zY]; rw [f]; rfl
   ·simp only [zGu, zIK, z0, zY]; rw [f]; rfl
   ·simp only [zGu, zIK, z0, zY]; rw [f]; rfl
  rw [hk]
  cases g : (yN d y).2.1 with
  | false => rfl
  | true =>
   obtain ⟨g1, g2, g3, g4, g5⟩ := zS0 g
   have hs : (zDe (yN d y).1 (yN d x).1).1 = false := by
    rw [zTi]
    cases q : (vJ (yN d y).1 (yN d x).1).1 with
    | false => rfl
    | true =>
     exfalso
     obtain ⟨q1, q2⟩ := zNo.1 q
     rcases f3 g2 with ⟨k, k1, k2, k3⟩ | ⟨n, n1, n2, n3⟩
     ·exact g4 (zkM.2 ⟨k, k1, k2.trans q1.symm, k3.trans q2.symm⟩)
     ·obtain ⟨z, z1, z2⟩ := g5 n (by rw [q2]; exact n1)
      exact n3 z z1 z2
   rw [hs]; rfl
end
end Go.Proofs.YtkdidadegedmiaaGreat
namespace Go.Proofs.YtkdidadegedmiaaGreat
open Go.RowKit
def zta (n : Int) : Prop := -9223372036854775808 ≤ n ∧ n ≤ 9223372036854775807
class Cel (α : Type) where
 k : Nat
 kpos : 0 < k
 rd : Nat → World → List Value → α → Prop
 own : World → List Value → α → List Nat → Prop
 rd_len : ∀ {B w vs x}, rd B w vs x → vs.length = k
 rd_one : ∀ {B w vs x}, rd B w vs x → ∀ v ∈ vs, v.oneCell' = true
 own_rd : ∀ {B w vs x fp}, own w vs x fp → (∀ b ∈ fp, b < B) → rd B w vs x
 own_lt : ∀ {w vs x fp}, own w vs x fp → ∀ b ∈ fp, b < w.heap.size
 rd_below : ∀ {B w w' vs x}, rd B w vs x → Below B w w' → rd B w' vs x
 rd_mono : ∀ {B B' w vs x}, rd B w vs x → B ≤ B' → rd B' w vs x
 own_keep : ∀ {w w' vs x fp}, own w vs x fp → (∀ b ∈ fp, w'.heap[b]? = w.heap[b]?) → own w' vs x fp
open Cel (rd own rd_len rd_one own_rd own_lt rd_below rd_mono own_keep)
class Flat (α : Type) extends Cel α where
 flat : ∀ {B w vs x}, rd B w vs x → own w vs x []
 flat_fp : ∀ {w vs x fp}, own w vs x fp → fp = []
instance : Flat Int where
 k := 1
 kpos := by decide
 rd _ _ vs n := vs = [.int .i64 n] ∧ zta n
 own _ vs n fp := vs = [.int .i64 n] ∧ zta n ∧ fp = []
 rd_len h := by rw [h.1]; rfl
 rd_one h := by rw [h.1]; intro v hv; simp at hv; subst hv; rfl
 own_rd h _ := ⟨h.1, h.2.1⟩
 own_lt h b hb := by rw [h.2.2] at hb; cases hb
 rd_below h _ := h
 rd_mono h _ := h
 own_keep h _ := h
 flat h := ⟨h.1, h.2, rfl⟩
 flat_fp h := h.2.2
instance : Flat UInt8 where
 k := 1
 kpos := by decide
 rd _ _ vs n := vs = [.int .u8 (n.toNat : Int)]
 own _ vs n fp := vs = [.int .u8 (n.toNat : Int)] ∧ fp = []
 rd_len h := by rw [h]; rfl
 rd_one h := by rw [h]; intro v hv; simp at hv; subst hv; rfl
 own_rd h _ := h.1
 own_lt h b hb := by rw [h.2] at hb; cases hb
 rd_below h _ := h
 rd_mono h _ := h
 own_keep h _ := h
 flat h := ⟨h, rfl⟩
 flat_fp h := h.2
instance : Flat Bool where
 k := 1
 kpos := by decide
 rd _ _ vs b := vs = [.bool b]
 own _ vs b fp := vs = [.bool b] ∧ fp = []
 rd_len h := by rw [h]; rfl
 rd_one h := by rw [h]; intro v hv; simp at hv; subst hv; rfl
 own_rd h _ := h.1
 own_lt h b hb := by rw [h.2] at hb; cases hb
 rd_below h _ := h
 rd_mono h _ := h
 own_keep h _ := h
 flat h := ⟨h, rfl⟩
 flat_fp h := h.2
instance : Flat ByteArray where
 k := 1
 kpos := by decide
 rd _ _ vs s := vs = [.string s] ∧ s.size ≤ maxLen
 own _ vs s fp := vs = [.string s] ∧ s.size ≤ maxLen ∧ fp = []
 rd_len h := by rw [h.1]; rfl
 rd_one h := by rw [h.1]; intro v hv; simp at hv; subst hv; rfl
 own_rd h _ := ⟨h.1, h.2.1⟩
 own_lt h b hb := by rw [h.2.2] at hb; cases hb
 rd_below h _ := h
 rd_mono h _ := h
 own_keep h _ := h
 flat h := ⟨h.1, h.2, rfl⟩
 flat_fp h := h.2.2
instance Cel.prod {α β : Type} [Cel α] [Cel β] : Cel (α × β) where
 k := Cel.k α + Cel.k β
 kpos := by have := Cel.kpos (α := α); omega
 rd B w vs x := ∃ v1 v2, vs = v1 ++ v2 ∧ rd B w v1 x.1 ∧ rd B w v2 x.2
 own w vs x fp := ∃ v1 v2 f1 f2, vs = v1 ++ v2 ∧ fp = f1 ++ f2 ∧ own w v1 x.1 f1 ∧ own w v2 x.2 f2
 rd_len := by rintro B w vs x ⟨v1, v2, rfl, h1, h2⟩; rw [List.length_append, rd_len h1, rd_len h2]
 rd_one := by
  rintro B w vs x ⟨v1, v2, rfl, h1, h2⟩ v hv
  rcases List.mem_append.1 hv with h | h
  ·exact rd_one h1 v h
  ·exact rd_one h2 v h
 own_rd := by
  rintro B w vs x fp ⟨v1, v2, f1, f2, rfl, rfl, h1, h2⟩ hb
  exact ⟨v1, v2, rfl, own_rd h1 fun b h => hb b (by simp [h]), own_rd h2 fun b h => hb b (by simp [h])⟩
 own_lt := by
  rintro w vs x fp ⟨v1, v2, f1, f2, rfl, rfl, h1, h2⟩ b hb
  rcases List.mem_append.1 hb with h | h
  ·exact own_lt h1 b h
  ·exact own_lt h2 b h
 rd_below := by rintro B w w' vs x ⟨v1, v2, rfl, h1, h2⟩ hb; exact ⟨v1, v2, rfl, rd_below h1 hb, rd_below h2 hb⟩
 rd_mono := by rintro B B' w vs x ⟨v1, v2, rfl, h1, h2⟩ hb; exact ⟨v1, v2, rfl, rd_mono h1 hb, rd_mono h2 hb⟩
 own_keep := by
  rintro w w' vs x fp ⟨v1, v2, f1, f2, rfl, rfl, h1, h2⟩ hk
  exact ⟨v1, v2, f1, f2, rfl, rfl, own_keep h1 fun b h => hk b (by simp [h]), own_keep h2 fun b h => hk b (by simp [h])⟩
instance Flat.prod {α β : Type} [Flat α] [Flat β] : Flat (α × β) where
 toCel := Cel.prod
 flat := by rintro B w vs x ⟨v1, v2, rfl, h1, h2⟩; exact ⟨v1, v2, [], [], rfl, rfl, Flat.flat h1, Flat.flat h2⟩
 flat_fp := by rintro w vs x fp ⟨v1, v2, f1, f2, rfl, rfl, h1, h2⟩; rw [Flat.flat_fp h1, Flat.flat_fp h2]; rfl
def RdL {α : Type} [Cel α] (B : Nat) (w : World) (b o : Nat) (l : List α) : Prop :=
 ∀ i x, l[i]? = some x → ∃ vs, rd B w vs x ∧ ∀ j, j < Cel.k α → w.cell? ⟨b, o + i * Cel.k α + j, none⟩ = vs[j]?
def RdS {α : Type} [Cel α] (B : Nat) (w : World) (l : List α) (v : Value) : Prop :=
 ∃ a c, v = .slice a l.length c ∧ l.length ≤ c ∧ c ≤ maxLen ∧ (a = none → c = 0) ∧
  (l = [] ∨ ∃ b o, a = some ⟨b, o, none⟩ ∧ b < B ∧ RdL B w b o l)
def zKI {α : Type} [Cel α] (w : World) : List (List Value) → List α → List (List Nat) → Prop
 | [], [], [] => True
 | vs :: vss, x :: xs, f :: fs => own w vs x f ∧ zKI w vss xs fs
 | _, _, _ => False
def zfy {α : Type} [Cel α] (w : World) (l : List α) (v : Value) (fp : List Nat) : Prop :=
 (v = .slice none 0 0 ∧ l = [] ∧ fp = []) ∨
 ∃ g c cur e vss fps, v = .slice (some ⟨g, 0, none⟩) l.length c ∧ w.heap[g]? = some (.cells cur e (0, 0)) ∧ l.length ≤ c ∧ c ≤ maxLen ∧
  c * Cel.k α ≤ cur.size ∧ fp = g :: fps.flatten ∧ zKI w vss l fps ∧ cur.toList.take (l.length * Cel.k α) = vss.flatten
section
variable {α : Type} [Cel α] {w w' : World} {B B' : Nat} {l : List α} {v : Value}
theorem RdL.below {b o : Nat} (h : RdL B w b o l) (hlt : b < B) (hb : Below B w w') : RdL B w' b o l := by
 intro i x hx
 obtain ⟨vs, h1, h2⟩ := h i x hx
 exact ⟨vs, rd_below h1 hb, fun j hj => by rw [← h2 j hj]; exact hb.cell (p := ⟨b, _, none⟩) hlt⟩
theorem RdL.mono {b o : Nat} (h : RdL B w b o l) (hB : B ≤ B') : RdL B' w b o l := by
 intro i x hx
 obtain ⟨vs, h1, h2⟩ := h i x hx
 exact ⟨vs, rd_mono h1 hB, h2⟩
theorem RdS.below (h : RdS B w l v) (hb : Below B w w') : RdS B w' l v := by
 obtain ⟨a, c, rfl, h1, h2, h0, h3⟩ := h
 refine ⟨a, c, rfl, h1, h2, h0, ?_⟩
 rcases h3 with h3 | ⟨b, o, ha, hlt, h4⟩
 ·exact .inl h3
 ·exact .inr ⟨b, o, ha, hlt, h4.below hlt hb⟩
theorem RdS.mono (h : RdS B w l v) (hB : B ≤ B') : RdS B' w l v := by
 obtain ⟨a, c, rfl, h1, h2, h0, h3⟩ := h
 refine ⟨a, c, rfl, h1, h2, h0, ?_⟩
 rcases h3 with h3 | ⟨b, o, ha, hlt, h4⟩
 ·exact .inl h3
 ·exact .inr ⟨b, o, ha, by omega, h4.mono hB⟩
theorem RdS.nil (B : Nat) (w : World) : RdS (α := α) B w [] (.slice none 0 0) :=
 ⟨none, 0, rfl, Nat.le_refl _, by simp [maxLen], fun _ => rfl, .inl rfl⟩
theorem zKI.keep {vss : List (List Value)} {fps : List (List Nat)} : ∀ {l : List α}, zKI w vss l fps → (∀ b ∈ fps.flatten, w'.heap[b]? = w.heap[b]?) → zKI w' vss l fps := by
 induction vss generalizing fps with
 | nil => intro l h _; cases l <;> cases fps <;> simp_all [zKI]
 | cons a vss ih =>
  intro l h hk
  cases l with
  | nil => cases fps <;> simp_all [zKI]
  | cons x xs =>
   cases fps with
   | nil => simp_all [zKI]
   | cons f fs => exact ⟨own_keep h.1 fun b hb => hk b (by simp [hb]), ih h.2 fun b hb => hk b (by rw [List.flatten_cons]; exact List.mem_append_right _ hb)⟩
theorem zKI.lt {vss : List (List Value)} {fps : List (List Nat)} : ∀ {l : List α}, zKI w vss l fps → ∀ b ∈ fps.flatten, b < w.heap.size := by
 induction vss generalizing fps with
 | nil => intro l h; cases l <;> cases fps <;> simp_all [zKI]
 | cons a vss ih =>
  intro l h b hb
  cases l with
  | nil => cases fps <;> simp_all [zKI]
  | cons x xs =>
   cases fps with
   | nil => simp_all
   | cons f fs =>
    rw [List.flatten_cons] at hb
    rcases List.mem_append.1 hb with hb | hb
    ·exact own_lt h.1 b hb
    ·exact ih h.2 b hb
theorem zKI.at {vss : List (List Value)} {fps : List (List Nat)} : ∀ {l : List α} (_ : zKI w vss l fps) (i : Nat) (x : α), l[i]? = some x →
  ∃ vs f, vss[i]? = some vs ∧ fps[i]? = some f ∧ own w vs x f := by
 induction vss generalizing fps with
 | nil => intro l h; cases l <;> cases fps <;> simp_all [zKI]
 | cons a vss ih =>
  intro l h i y hy
  cases l with
  | nil => cases fps <;> simp_all
  | cons x xs =>
   cases fps with
   | nil => simp_all [zKI]
   | cons f fs =>
    cases i with
    | zero => simp at hy; subst hy; exact ⟨a, f, rfl, rfl, h.1⟩
    | succ i => simpa using ih h.2 i y (by simpa using hy)
theorem zKI.flat_len {vss : List (List Value)} {fps : List (List Nat)} : ∀ {l : List α}, zKI w vss l fps → ∀ vs ∈ vss, vs.length = Cel.k α := by
 induction vss generalizing fps with
 | nil => simp
 | cons a vss ih =>
  intro l h vs hvs
  cases l with
  | nil => cases fps <;> simp_all [zKI]
  | cons y xs =>
   cases fps with
   | nil => simp_all [zKI]
   | cons g fs =>
    rcases List.mem_cons.1 hvs with rfl | hm
    ·exact rd_len (own_rd (B := w.heap.size) h.1 (own_lt h.1))
    ·exact ih h.2 vs hm
theorem ziw {β : Type} {k : Nat} : ∀ (vss : List (List β)) (_ : ∀ vs ∈ vss, vs.length = k) (i j : Nat) (vs : List β), vss[i]? = some vs → j < k → vss.flatten[i * k + j]? = vs[j]? := by
 intro vss
 induction vss with
 | nil => intro _ i j vs h; simp at h
 | cons a vss ih =>
  intro hl i j vs h hj
  have ha : a.length = k := hl a (by simp)
  cases i with
  | zero => simp at h; subst h; rw [List.flatten_cons, Nat.zero_mul, Nat.zero_add, List.getElem?_append_left (by omega)]
  | succ i =>
   rw [List.flatten_cons, List.getElem?_append_right (by rw [ha, Nat.succ_mul]; omega), ha]
   have := ih (fun vs hv => hl vs (by simp [hv])) i j vs (by simpa using h) hj
   rw [← this]; congr 1; rw [Nat.succ_mul]; omega
theorem zfy.rd {fp : List Nat} (h : zfy w l v fp) (hB : ∀ b ∈ fp, b < B) : RdS B w l v := by
 rcases h with ⟨rfl, rfl, _⟩ | ⟨g, c, cur, e, vss, fps, rfl, hg, hlc, hcm, hsz, rfl, hl, ht⟩
 ·exact RdS.nil B w
 ·refine ⟨_, c, rfl, hlc, hcm, by simp, .inr ⟨g, 0, rfl, hB g (by simp), ?_⟩⟩
  intro i x hx
  obtain ⟨vs, f, h1, h2, h3⟩ := hl.at i x hx
  refine ⟨vs, own_rd h3 (fun b hb => hB b (List.mem_cons_of_mem _ (List.mem_flatten.2 ⟨f, List.mem_of_getElem? h2, hb⟩))), ?_⟩
  intro j hj
  have hi : i < l.length := (List.getElem?_eq_some_iff.1 hx).1
  have hij : i * Cel.k α + j < l.length * Cel.k α := by
   have : (i + 1) * Cel.k α ≤ l.length * Cel.k α := Nat.mul_le_mul_right _ hi
   rw [Nat.succ_mul] at this; omega
  have h4 := ziw vss hl.flat_len i j vs h1 hj
  rw [← ht, List.getElem?_take, if_pos hij] at h4
  rw [← h4, Nat.zero_add]
  simp [World.cell?, hg]
theorem zfy.lt {fp : List Nat} (h : zfy w l v fp) : ∀ b ∈ fp, b < w.heap.size := by
 rcases h with ⟨_, _, rfl⟩ | ⟨g, c, cur, e, vss, fps, _, hg, _, _, _, rfl, hl, _⟩
 ·simp
 ·intro b hb
  rcases List.mem_cons.1 hb with rfl | hb
  ·exact (Array.getElem?_eq_some_iff.1 hg).1
  ·exact hl.lt b hb
theorem zfy.keep {fp : List Nat} (h : zfy w l v fp) (hk : ∀ b ∈ fp, w'.heap[b]? = w.heap[b]?) : zfy w' l v fp := by
 rcases h with h | ⟨g, c, cur, e, vss, fps, h1, hg, h2, h3, h4, rfl, hl, h5⟩
 ·exact .inl h
 ·exact .inr ⟨g, c, cur, e, vss, fps, h1, by rw [hk g (by simp)]; exact hg, h2, h3, h4, rfl, hl.keep fun b hb => hk b (List.mem_cons_of_mem _ hb), h5⟩
end
instance Cel.list {α : Type} [Cel α] : Cel (List α) where
 k := 1
 kpos := by decide
 rd B w vs l := ∃ v, vs = [v] ∧ RdS B w l v
 own w vs l fp := ∃ v, vs = [v] ∧ zfy w l v fp
 rd_len := by rintro B w vs l ⟨v, rfl, _⟩; rfl
 rd_one := by rintro B w vs l ⟨v, rfl, h⟩ u hu; simp at hu; subst hu; obtain ⟨a, c, rfl, _⟩ := h; rfl
 own_rd := by rintro B w vs l fp ⟨v, rfl, h⟩ hb; exact ⟨v, rfl, h.rd hb⟩
 own_lt := by rintro w vs l fp ⟨v, rfl, h⟩; exact h.lt
 rd_below := by rintro B w w' vs l ⟨v, rfl, h⟩ hb; exact ⟨v, rfl, h.below hb⟩
 rd_mono := by rintro B B' w vs l ⟨v, rfl, h⟩ hb; exact ⟨v, rfl, h.mono hb⟩
 own_keep := by rintro w w' vs l fp ⟨v, rfl, h⟩ hk; exact ⟨v, rfl, h.keep hk⟩
end Go.Proofs.YtkdidadegedmiaaGreat
namespace Go.Proofs.YtkdidadegedmiaaGreat
open Go.RowKit
open Cel (rd own rd_len rd_one own_rd own_lt rd_below rd_mono own_keep)
section
variable {α : Type} [Cel α] {w w' : World} {B : Nat} {l : List α}
end
section
variable {α : Type} [Cel α] {P : Program} {w : World} {B : Nat} {l l2 : List α}
end
section
variable {α : Type} {P : Program} {w : World} {B : Nat} {l l2 : List α}
def Sl [Cel α] (w : World) (l : List α) (v : Value) : Prop := RdS w.heap.size w l v
@[simp] theorem zus (w : World) : Below w.heap.size w w := Below.refl _ _
@[simp] theorem zuT {a w : World} (h : Below a.heap.size a w) (o : Obj) : Below a.heap.size a (w.alloc o) := h.alloc h.size o
@[simp] theorem zuw {a w : World} {B : Nat} (h : Below B a w) : Below B a w.drew := h.drew
@[simp] theorem zua {a w : World} {B : Nat} (h : Below B a w) (n : Nat) : Below B a (w.drewN n) := h.trans ⟨rfl, rfl, rfl, Nat.le_refl _, fun _ _ => rfl⟩
end
end Go.Proofs.YtkdidadegedmiaaGreat
namespace Go.Proofs.YtkdidadegedmiaaGreat
open Go.RowKit
def Zw (w : World) : Zs := fun _ b => b < w.heap.size
def Rv (w : World) (v : V) (x : Value) : Prop := Cn zAX (Zw w) w v x
theorem hr0 (w : World) : HR zAX (Zw w) [] w := ⟨fun _ _ h => h, fun o p e => by simp [zAX] at e, fun o p x e => by simp [zAX] at e, fun o o' p p' x x' b e => by simp [zAX] at e⟩
theorem zrz {P : Program} {f : Nat} {d : FnD} (hF : zKC P f d) {a : xC d.args} (h0 : yM d.args a = []) (hp : okP (d.pre a)) {w : World} {xs : List Value} (hl : xs.length = d.args.length)
  (hc : ∀ (i : Nat) (u : V) (y : Value), (zC8 d.args a)[i]? = some u → xs[i]? = some y → Rv w u y) :
  Calls P f xs.toArray w (fun e w' => ∃ x ρ' Z', e = .returned x ∧ Below w.heap.size w w' ∧ HR ρ' Z' (yM d.res (d.F a)) w' ∧ Cn ρ' Z' w' (zrM (zCc d.res (d.F a) (zi d.res))) x) := by
 refine (hF.call w (Zw w) zAX a xs (by rw [h0]; exact hr0 w) hl hc (by rw [h0]; intro o ho; simp at ho) hp).mono ?_
 rintro e w' ⟨x, rs, ρ', Z', rfl, rfl, hg, hb, -, hr, -, -, -, hl, hx⟩
 exact ⟨_, ρ', Z', rfl, ⟨hg.os, hg.tape, hg.output, hg.le, fun k hk => hb k hk fun o p y e => by simp [zAX] at e⟩, hr, zjv hl hx⟩
def rdT : (t : Ty) → Nat → World → List Value → El t → Prop
 | .int, _, _, vs, n => vs = [.int .i64 n] ∧ zta n
 | .u8, _, _, _, _ => False
 | .bool, _, _, vs, b => vs = [.bool b]
 | .str, _, _, vs, s => vs = [.string s] ∧ s.size ≤ maxLen
 | .lst t, B, w, vs, l => ∃ a c, vs = [.slice a l.length c] ∧ l.length ≤ c ∧ c ≤ maxLen ∧ (a = none → c = 0) ∧
   (l = [] ∨ ∃ b o, a = some ⟨b, o, none⟩ ∧ b < B ∧ ∀ (i : Nat) (x : El t), l[i]? = some x → ∃ vs, rdT t B w vs x ∧ ∀ j, j < zO t → w.cell? ⟨b, o + i * zO t + j, none⟩ = vs[j]?)
 | .pr a b, B, w, vs, x => ∃ v1 v2, vs = v1 ++ v2 ∧ rdT a B w v1 x.1 ∧ rdT b B w v2 x.2
theorem zSh : ∀ (t : Ty) {B : Nat} {w : World} {vs : List Value} {x : El t}, rdT t B w vs x → vs.length = zO t
 | .int, _, _, _, _, h => by rw [h.1]; rfl
 | .u8, _, _, _, _, h => h.elim
 | .bool, _, _, vs, b, h => by rw [show vs = [.bool b] from h]; rfl
 | .str, _, _, _, _, h => by rw [h.1]; rfl
 | .lst t, _, _, _, _, h => by obtain ⟨a, c, rfl, _⟩ := h; rfl
 | .pr a b, _, _, _, _, h => by obtain ⟨v1, v2, rfl, h1, h2⟩ := h; rw [List.length_append, zSh a h1, zSh b h2]; rfl
def szE : (t : Ty) → El t → Nat
 | .str, (s : ByteArray) => s.size
 | .lst t, (l : List (El t)) => l.length + (l.map (szE t)).sum
 | .pr a b, (x : El a × El b) => szE a x.1 + szE b x.2
 | _, _ => 0
theorem zsJ {α : Type} (f : α → Nat) {l : List α} {x : α} (h : x ∈ l) : f x ≤ (l.map f).sum := by
 induction l with
 | nil => cases h
 | cons y l ih =>
  simp only [List.map_cons, List.sum_cons]
  rcases List.mem_cons.1 h with rfl | h
  ·omega
  ·have := ih h; omega
theorem rd_cn : ∀ (t : Ty) {B : Nat} {w : World} {vs : List Value} {x : El t}, rdT t B w vs x → B ≤ w.heap.size → szE t x ≤ 1048576 →
  ∀ (j : Nat) (u : V) (y : Value), (enc 0 t x)[j]? = some u → vs[j]? = some y → Rv w u y
 | .int, _, _, _, n, h, _, _, j, u, y, hu, hy => by
  obtain ⟨rfl, hn⟩ := h
  cases j with
  | zero =>
   simp only [enc, List.getElem?_cons_zero, Option.some.injEq] at hu hy
   subst hu hy
   exact .c _ (ink hn.1 hn.2)
  | succ j => simp [enc] at hu
 | .u8, _, _, _, _, h, _, _, _, _, _, _, _ => h.elim
 | .bool, _, _, vs, b, h, _, _, j, u, y, hu, hy => by
  rw [show vs = [.bool b] from h] at hy
  cases j with
  | zero =>
   simp only [enc, List.getElem?_cons_zero, Option.some.injEq] at hu hy
   subst hu hy
   exact .c _ trivial
  | succ j => simp [enc] at hu
 | .str, _, _, _, s, h, _, _, j, u, y, hu, hy => by
  obtain ⟨rfl, hn⟩ := h
  cases j with
  | zero =>
   simp only [enc, List.getElem?_cons_zero, Option.some.injEq] at hu hy
   subst hu hy
   exact .c _ (by show s.size ≤ 9223372036854775807; simp [maxLen] at hn; omega)
  | succ j => simp [enc] at hu
 | .lst t, B, w, vs, l, h, hB, hs, j, u, y, hu, hy => by
  obtain ⟨a, c, rfl, h1, h2, h3, h4⟩ := h
  cases j with
  | zero =>
   simp only [enc, List.getElem?_cons_zero, Option.some.injEq] at hu hy
   subst hu hy
   have hlen : l.length ≤ 1048576 := by have : szE (.lst t) l = l.length + (l.map (szE t)).sum := rfl; omega
   have hlim : l.length ≤ lim t := by unfold lim maxLen; split <;> omega
   rcases h4 with rfl | ⟨b, o, rfl, hb, hx⟩
   ·exact .emp .zero h2 h3
   ·refine .ext (b := b) (o := o) (fun i j => (w.cell? ⟨b, o + i * zO t + j, none⟩).getD undef) .zero hlim h1 h2 h3 (.inr ⟨rfl, .inl (Nat.lt_of_lt_of_le hb hB)⟩) (fun i j hi hj => ?_) (fun i x j u hx' hu => ?_)
    ·obtain ⟨vs, g1, g2⟩ := hx i _ (List.getElem?_eq_getElem hi)
     have hj' : j < vs.length := by rw [zSh t g1]; exact hj
     rw [g2 j hj, List.getElem?_eq_getElem hj']; rfl
    ·obtain ⟨vs, g1, g2⟩ := hx i x hx'
     have hj : j < zO t := by have := (List.getElem?_eq_some_iff.1 hu).1; rwa [yB] at this
     have hj' : j < vs.length := by rw [zSh t g1]; exact hj
     have hz : szE t x ≤ 1048576 := by
      have h5 := zsJ (szE t) (List.mem_of_getElem? hx')
      have : szE (.lst t) l = l.length + (l.map (szE t)).sum := rfl
      omega
     rw [g2 j hj, List.getElem?_eq_getElem hj']
     exact rd_cn t g1 hB hz j u _ hu (List.getElem?_eq_getElem hj')
  | succ j => simp [enc] at hu
 | .pr a b, B, w, vs, x, h, hB, hs, j, u, y, hu, hy => by
  obtain ⟨v1, v2, rfl, h1, h2⟩ := h
  have hsz : szE (.pr a b) x = szE a x.1 + szE b x.2 := rfl
  have e1 := zSh a h1
  simp only [enc] at hu
  by_cases hj : j < zO a
  ·rw [List.getElem?_append_left (by rw [yB]; exact hj)] at hu
   rw [List.getElem?_append_left (by omega)] at hy
   exact rd_cn a h1 hB (by omega) j u y hu hy
  ·rw [List.getElem?_append_right (by rw [yB]; omega), yB] at hu
   rw [List.getElem?_append_right (by omega), e1] at hy
   exact rd_cn b h2 hB (by omega) (j - zO a) u y hu hy
class Br (α : Type) [Cel α] (t : outParam Ty) where
 f : α → El t
 k : Cel.k α = zO t
 h : ∀ {B w vs x}, Cel.rd B w vs x → rdT t B w vs (f x)
instance : Br Int .int := ⟨fun n => n, rfl, fun h => h⟩
instance : Br Bool .bool := ⟨fun n => n, rfl, fun h => h⟩
instance : Br ByteArray .str := ⟨fun n => n, rfl, fun h => h⟩
instance {α β : Type} [Cel α] [Cel β] {a b : Ty} [Br α a] [Br β b] : Br (α × β) (.pr a b) :=
 ⟨fun x => (Br.f x.1, Br.f x.2), by show Cel.k α + Cel.k β = zO a + zO b; rw [Br.k (α := α), Br.k (α := β)], fun h => by obtain ⟨v1, v2, e, h1, h2⟩ := h; exact ⟨v1, v2, e, Br.h h1, Br.h h2⟩⟩
instance {α : Type} [Cel α] {t : Ty} [Br α t] : Br (List α) (.lst t) where
 f l := l.map Br.f
 k := rfl
 h := by
  rintro B w vs l ⟨v, rfl, a, c, rfl, h1, h2, h3, h4⟩
  refine ⟨a, c, by rw [List.length_map], by rw [List.length_map]; exact h1, h2, h3, ?_⟩
  rcases h4 with rfl | ⟨b, o, rfl, hb, hx⟩
  ·exact .inl rfl
  ·refine .inr ⟨b, o, rfl, hb, fun i x hi => ?_⟩
   rw [List.getElem?_map, Option.map_eq_some_iff] at hi
   obtain ⟨z, hz, rfl⟩ := hi
   obtain ⟨vs, g1, g2⟩ := hx i z hz
   exact ⟨vs, Br.h g1, fun j hj => by rw [← Br.k (α := α)] at hj ⊢; exact g2 j hj⟩
end Go.Proofs.YtkdidadegedmiaaGreat
namespace Go.Proofs.YtkdidadegedmiaaGreat
open Go.RowKit
open Cel (rd own rd_len rd_one own_rd own_lt rd_below rd_mono own_keep)
def Opn (P : Program) (t : TypeId) (α : Type) [Cel α] : Prop :=
 ∀ (H : Type) (enc : TypeId × Value → H) (w : World) (sp : Nat → Bool) (zEO : Nat) (cs : List Value) (y : DataW H × List MemPlace), DataW.trod enc P w 0 sp true zEO t cs = some y → ∃ x : α, rd w.heap.size w cs x
theorem zt2 {P : Program} {t : TypeId} (hu : P.underlying t = some (.int .u8)) : Opn P t UInt8 := by
 intro H enc w sp zEO cs y h
 cases zEO with
 | zero => simp [DataW.trod] at h
 | succ zEO =>
  obtain ⟨n, e0, rfl, wa⟩ := DataW.trod_int hu h
  subst e0
  simp [Lit.wf, IntKind.min, IntKind.max, IntKind.signed, IntKind.bits] at wa
  refine ⟨UInt8.ofNat n.toNat, ?_⟩
  show _ = _
  rw [UInt8.toNat_ofNat']
  congr 2; omega
theorem zXT (b o i j : Nat) : ((⟨b, o, none⟩ : Addr).add i).add j = ⟨b, o + i + j, none⟩ := by
 unfold Addr.add
 split <;> split <;> simp_all
theorem zoU {P : Program} {t e : TypeId} {α : Type} [Cel α] (hu : P.underlying t = some (.slice e)) (hc : P.cellsOf e = Cel.k α) (he : Opn P e α) : Opn P t (List α) := by
 intro H enc w sp zEO cs y h
 rcases Go.Deep.open_slice hu h with ⟨rfl, rfl⟩ | ⟨a, len, cap, m, n, D, Pl, rfl, hb, hl, hm, hmm, rfl, hx⟩
 ·exact ⟨[], _, rfl, RdS.nil _ _⟩
 ·rw [hc] at hx
  have hkp := Cel.kpos (α := α)
  have hlm : len ≤ m := by rw [hmm]; split <;> omega
  have hel : ∀ i, i < len → ∃ x : α, ∃ vs, rd w.heap.size w vs x ∧ ∀ j, j < Cel.k α → w.cell? ((a.add (i * Cel.k α)).add j) = vs[j]? := by
   intro i hi
   obtain ⟨vs, h1, h2⟩ := hx i (by omega)
   obtain ⟨x, hr⟩ := he H enc w sp n vs _ h2
   obtain ⟨_, h3, h4⟩ := World.cells?_some h1
   exact ⟨x, vs, hr, h4⟩
  by_cases h0 : len = 0
  ·subst h0
   exact ⟨[], _, rfl, some a, cap, rfl, hl, hm, by simp, .inl rfl⟩
  ·obtain ⟨x0, vs0, hr0, hc0⟩ := hel 0 (by omega)
   have hl0 := rd_len hr0
   have e0 := hc0 0 hkp
   rw [List.getElem?_eq_getElem (by omega)] at e0
   obtain ⟨b, o, sp'⟩ := a
   have hspot : sp' = none := by
    have e1 := World.cell?_spot e0
    simpa [Addr.add] using e1
   subst hspot
   have hblt : b < w.heap.size := by
    have := World.block_lt_of_cell? w _ e0
    rw [zXT] at this; exact this
   suffices ∀ len, (∀ i, i < len → ∃ x : α, ∃ vs, rd w.heap.size w vs x ∧ ∀ j, j < Cel.k α → w.cell? (((⟨b, o, none⟩ : Addr).add (i * Cel.k α)).add j) = vs[j]?) → ∃ l : List α, l.length = len ∧ RdL w.heap.size w b o l by
    obtain ⟨l, rfl, hrl⟩ := this len hel
    exact ⟨l, _, rfl, _, cap, rfl, hl, hm, by simp, .inr ⟨b, o, rfl, hblt, hrl⟩⟩
   clear hel hx h hl hlm hmm h0
   intro len
   induction len with
   | zero => intro _; exact ⟨[], rfl, by intro i x hx; simp at hx⟩
   | succ len ih =>
    intro hel
    obtain ⟨l, hll, hrl⟩ := ih (fun i hi => hel i (by omega))
    obtain ⟨x, vs, hr, hcx⟩ := hel len (by omega)
    refine ⟨l ++ [x], by simp [hll], ?_⟩
    intro i y hy
    by_cases hi : i < len
    ·rw [List.getElem?_append_left (by omega)] at hy
     exact hrl i y hy
    ·have hi' : i = len := by
      have := (List.getElem?_eq_some_iff.1 hy).1
      simp [hll] at this; omega
     subst hi'
     rw [← hll, List.getElem?_append_right (Nat.le_refl _)] at hy
     simp at hy; subst hy
     refine ⟨vs, hr, fun j hj => ?_⟩
     rw [← hcx j hj, zXT]
theorem zsA {P : Program} {t : TypeId} {α : Type} [Cel α] (h : Opn P t α) {H : Type} {enc : TypeId × Value → H} {w : World} {v : Value} {d : DataW H} {p : List MemPlace} (hd : DataW.Trod enc P w 0 (fun _ => true) true t v d p) :
  ∃ x : α, rd w.heap.size w v.cells.toList x := by
 obtain ⟨zEO, hf⟩ := hd
 exact h H enc w _ zEO _ _ hf
end Go.Proofs.YtkdidadegedmiaaGreat
namespace Go.Proofs.YtkdidadegedmiaaGreat
open Go.RowKit
end Go.Proofs.YtkdidadegedmiaaGreat
namespace Go.Proofs.YtkdidadegedmiaaGreat
open Go.RowKit
open Cel (rd own rd_len rd_one own_rd own_lt rd_below rd_mono own_keep)
theorem zuC : Opn Tryz.prog 5 UInt8 := zt2 Tryz.underlying5
theorem zqC : Opn Tryz.prog 22 (List UInt8) := zoU Tryz.underlying22 (by kernel_rfl) zuC
theorem b8 (y : UInt8) : InK .u8 ((y.toNat : Nat) : Int) := by
 have := y.toNat_lt
 unfold InK IntKind.wrap
 simp [IntKind.bits, IntKind.signed]
 omega
theorem zqy {l : List UInt8} {w : World} {v : Value} (h : Sl w l v) : Rv w (.ext 0 .u8 (l.map fun b => ((b.toNat : Nat) : Int))) v := by
 obtain ⟨a, c, rfl, h1, h2, h3, h4⟩ := h
 have hl : (l.map fun b => ((b.toNat : Nat) : Int)).length = l.length := List.length_map _
 have e : ∀ m : List (El .u8), m = (l.map fun b => ((b.toNat : Nat) : Int)) → Rv w (.ext 0 .u8 m) (.slice a m.length c) := fun m hm => by
  subst hm
  rcases h4 with rfl | ⟨b, o, rfl, hb, hx⟩
  ·exact .ext (b := 0) (o := 0) (fun _ _ => undef) .zero (by simp) (by simp) h2 h3 (.inl rfl) (fun i j hi => by simp at hi) (fun i x j u hx => by simp at hx)
  ·refine .ext (b := b) (o := o) (fun i _ => .int .u8 ((l.getD i 0).toNat)) .zero (by rw [hl]; exact Nat.le_trans h1 h2) (by rw [hl]; exact h1) h2 h3 (.inr ⟨rfl, .inl hb⟩) (fun i j hi hj => ?_) (fun i x j u hx' hu => ?_)
   ·rw [hl] at hi
    have hj : j = 0 := by have : zO .u8 = 1 := rfl; omega
    subst hj
    obtain ⟨vs, g1, g2⟩ := hx i _ (List.getElem?_eq_getElem hi)
    have g3 := g2 0 (by decide)
    obtain rfl : vs = [.int .u8 ((l[i]).toNat : Int)] := g1
    have : l.getD i 0 = l[i] := by rw [List.getD_eq_getElem?_getD, List.getElem?_eq_getElem hi]; rfl
    rw [this]
    simpa [Cel.k, zO] using g3
   ·rw [List.getElem?_map] at hx'
    cases hy : l[i]? with
    | none => rw [hy] at hx'; cases hx'
    | some y =>
     rw [hy] at hx'
     cases hx'
     cases j with
     | zero =>
      simp only [enc, List.getElem?_cons_zero, Option.some.injEq] at hu
      subst hu
      have : l.getD i 0 = y := by rw [List.getD_eq_getElem?_getD, hy]; rfl
      rw [this]
      exact .c _ (b8 y)
     | succ j => simp [enc] at hu
 have := e _ rfl
 rw [hl] at this
 exact this
theorem one1 {w : World} {u : V} {y : Value} (h : Rv w u y) : ∀ (i : Nat) (u' : V) (y' : Value), [u][i]? = some u' → [y][i]? = some y' → Rv w u' y' := fun i u' y' hu hy => by
 cases i with
 | zero => simp at hu hy; subst hu hy; exact h
 | succ i => simp at hu
def zvC (w : World) (e : Ending) (w' : World) : Prop := e = .returned (.bool true) ∧ Below w.heap.size w w'
theorem zea (l : List UInt8) (v : Value) (w : World) (h : Sl w l v) :
  Calls Tryz.prog 3 #[v] w (zvC w) := by
 refine (zrz (d := zLw) ziR.ok (a := (l.map (fun b => ((b.toNat : Nat) : Int)), ())) rfl trivial (xs := [v]) rfl (one1 (zqy h))).mono ?_
 rintro e w' ⟨y, ρ', Z', rfl, hb, -, hy⟩
 have hF : (zLw.F (l.map (fun b => ((b.toNat : Nat) : Int)), ())) = (true, ()) := by
  have := zoS (l.map (fun b => ((b.toNat : Nat) : Int)))
  show zIm _ = _
  generalize zIm _ = z at *
  obtain ⟨z1, ⟨⟩⟩ := z
  exact congrArg (fun b => (b, ())) this
 rw [hF] at hy
 exact ⟨congrArg _ (x8 hy), hb⟩
end Go.Proofs.YtkdidadegedmiaaGreat
