/- Parts of a proof. -/
import Derived.Test.YtkdidadegedmiaaGreatZd
namespace Go.Proofs.YtkdidadegedmiaaGreat
open Go.RowKit
set_option linter.defProp false
noncomputable section
abbrev zFj : LB := ⟨[], ⟨77, [], [(0, vd (.lst zp)), (1, vd (.lst .str)), (2, vd .int), (7, vd .int), (8, vd .int)], []⟩, ⟨77, [], [(6, vd .bool)], []⟩, 2, U5 fun (l0 : Li zp) (l1 : Li .str) (n2 n7 n8 : Int) => .ix n7 l0 (cond (decide (n8 < ((zB zp l0 n7).2.2.1.length : Int))) (.ix n7 l0 (.ix n8 (zB zp l0 n7).2.2.1 (let k1 := zB zo (zB zp l0 n7).2.2.1 n8; cond (!(xE k1.2.1 l1).1) (.v (.ret (false, ()))) (.ix n7 l0 (.ix n8 (zB zp l0 n7).2.2.1 (cond (!(xE k1.2.2 l1).1) (.v (.ret (false, ()))) (.ik (n8 + 1) (.v (.go (l0, l1, n2, n7, (n8 + 1), ())))))))))) (.v (.brk (l0, l1, n2, n7, n8, ()))))⟩
def zSc (l0 : Li zp) (l1 : Li .str) (n2 n7 : Int) := rA (l := zFj) (L := (zB zp l0 n7).2.2.1) (fun i => (l0, l1, n2, n7, i, ())) (fun i x => bif (!(xE x.2.1 l1).1) then false else (bif (!(xE x.2.2 l1).1) then false else true)) (false, ())
theorem zd4 : SF zFj fun x : Li zp × Li .str × Int × Int × Int × Unit => (0 ≤ x.2.2.2.2.1 ∧ (0 ≤ x.2.2.2.1 ∧ x.2.2.2.1 < (x.1.length : Int)), ((zB zp x.1 x.2.2.2.1).2.2.1.length : Int) - x.2.2.2.2.1) := sfk (by
 rintro ⟨(l0 : Li zp), (l1 : Li .str), (n2 : Int), (n7 : Int), (n8 : Int), ⟨⟩⟩ hI hw
 obtain ⟨i0, i1⟩ := hI
 dsimp only at i0 i1
 have _ : -9223372036854775808 ≤ n2 ∧ n2 ≤ 9223372036854775807 := zAd hw.2.2.1
 have _ : -9223372036854775808 ≤ n7 ∧ n7 ≤ 9223372036854775807 := zAd hw.2.2.2.1
 have _ : ((zB zp l0 n7).2.2.1.length : Int) ≤ 16777216 := vC ((zk4 (t := zp) hw.1.2 (by omega)).2.2.1.1)
 have _ : (l0.length : Int) ≤ 16777216 := vC (hw.1.1)
 simp [zFj, U5] at i0 i1 ⊢
 repeat' first | intro _ | apply And.intro
 all_goals omega)
abbrev zCt : LB := ⟨[], ⟨77, [], [(0, vd (.lst zp)), (1, vd (.lst .str)), (2, vd .int), (7, vd .int)], []⟩, ⟨77, [], [(6, vd .bool)], []⟩, 0, U4 fun (l0 : Li zp) (l1 : Li .str) (n2 n7 : Int) => cond (decide (n7 < (l0.length : Int))) (.ix n7 l0 (cond (!(zAb (zB zp l0 n7)).1) (.v (.ret (false, ()))) (.ix n7 l0 (let k1 := (l0, l1, n2, n7, (0 : Int), ()); cond ((zB zp l0 n7).1 == (2 : Int)) (.ix n7 l0 (cond (decide ((zB zp l0 n7).2.2.2.1 ≥ n2)) (.v (.ret (false, ()))) (.lp zFj k1 (fun r5 => .v (.ret (r5.1, ()))) (fun t1 => .ik (t1.2.2.2.1 + (1 : Int)) (.v (.go (t1.1, t1.2.1, t1.2.2.1, (t1.2.2.2.1 + (1 : Int)), ()))))))) (.lp zFj k1 (fun r6 => .v (.ret (r6.1, ()))) (fun t1 => .ik (t1.2.2.2.1 + (1 : Int)) (.v (.go (t1.1, t1.2.1, t1.2.2.1, (t1.2.2.2.1 + (1 : Int)), ()))))))))) (.v (.brk (l0, l1, n2, n7, ())))⟩
theorem zdx : SF zCt fun x : Li zp × Li .str × Int × Int × Unit => (0 ≤ x.2.2.2.1, (x.1.length : Int) - x.2.2.2.1) := sfk (by
 rintro ⟨(l0 : Li zp), (l1 : Li .str), (n2 : Int), (n7 : Int), ⟨⟩⟩ hI hw
 have _ : -9223372036854775808 ≤ n2 ∧ n2 ≤ 9223372036854775807 := zAd hw.2.2.1
 have _ : (l0.length : Int) ≤ 16777216 := vC (hw.1.1)
 simp only [zCt, U4, Tr.lp]
 rw [zSc l0 l1 n2 n7]
 simp [z3] at hI ⊢
 repeat' first | exact zd4 _ ⟨by (dsimp only <;> omega), by (dsimp only <;> omega)⟩ | intro _ | apply And.intro
 all_goals omega)
abbrev zPN (a0 : Li zp) (a1 : Li .str) (a2 : Int) : Tr (Bool × Unit) := .lp zCt (a0, a1, a2, (0 : Int), ()) (fun r7 => .v (r7.1, ())) (fun t1 => .v ((z6 (t1.1.length : Int) (1 : Int) (6 : Int)).1, ()))
def zHq a0 a1 a2 := (zPN a0 a1 a2).val
abbrev zbe := fd [vd (.lst zp), vd (.lst .str), vd .int] [vd .bool] (U3 zHq)
theorem zoM : Ok zbe (U3 zPN) := okG (an zdx trivial) (an @zBK trivial) trivial
def zmt := cn mo [zqY, zQf, zAQ] [zCt, zFj] 341 zbe Tryz.f341 (U3 zPN) zoM
theorem zTK (a0 : Li zp) (a1 : Li .str) (a2 : Int) : zHq a0 a1 a2 = bif xU (fun _ x => bif (!(zAb x).1) then false else bif (x.1 == (2 : Int)) && decide (x.2.2.2.1 ≥ a2) then false else xU (fun _ x => bif (!(xE x.2.1 a1).1) then false else (bif (!(xE x.2.2 a1).1) then false else true)) 0 x.2.2.1) 0 a0 then ((z6 (a0.length : Int) (1 : Int) (6 : Int)).1, ()) else (false, ()) := by
 simp only [zHq, zPN, ze, zY, zq]
 have : LB.run zCt (a0, a1, a2, (0 : Int), ()) = bif xU (fun _ x => bif (!(zAb x).1) then false else bif (x.1 == (2 : Int)) && decide (x.2.2.2.1 ≥ a2) then false else xU (fun i x => bif (!(xE x.2.1 a1).1) then false else (bif (!(xE x.2.2 a1).1) then false else true)) 0 x.2.2.1) 0 a0 then .brk (a0, a1, a2, (a0.length : Int), ()) else .ret (false, ()) := by
  refine LB.run_all (l := zCt) (L := a0) (fun i => (a0, a1, a2, (i : Int), ())) (r := (false, ())) (fun i x h => ?_) ?_
  ·have hi := (List.getElem?_eq_some_iff.1 h).1
   simp only [LB.b, zCt, z0, ze, zY, zq]
   rw [ltT hi, cond_true, zSc, zQ h]
   generalize xU _ 0 x.2.2.1 = A
   cases (!(zAb x).1) <;> cases (x.1 == (2 : Int)) <;> cases decide (x.2.2.2.1 ≥ a2) <;> cases A <;> rfl
  ·simp only [LB.b, zCt, z0, ze, zY, zq]
   rw [ltF]; rfl
 rw [this]
 cases xU _ 0 a0 <;> rfl
abbrev zCW (a0 : El zG) : Tr (Bool × Unit) := .ck (zFt a0) (cond (xV a0.1).1 (cond (z6 a0.2.1 (-100 : Int) (100 : Int)).1 (cond (zBb a0.2.2.1).1 (cond (zF1 a0.2.2.2.1 (xb a0).1).1 (.v ((zHq a0.2.2.2.2 (xb a0).1 (zc a0).1).1, ())) (.v (false, ()))) (.v (false, ()))) (.v (false, ()))) (.v (false, ())))
def vz a0 := (zCW a0).val
def zOq (a0 : El zG) : Prop := SzR a0
abbrev zan := fq [va zG] [vd .bool] (U1 zOq) (U1 vz)
theorem znH : Ok zan (U1 zCW) := by
 rintro ⟨(a0 : El zG), ⟨⟩⟩ hw hp
 replace hp : zOq a0 := hp
 show (zCW a0).ok
 unfold zOq at hp
 unfold zCW
 refine zg ?_ ?_
 ·exact hp
 ·simp
def zmO := cn mo [zYb, zEV, zAQ, zmN, zkk, zGy, zmt] [] 270 zan Tryz.f270 (U1 zCW) znH
theorem znQ {r : El zG} (h : (vz r).1 = true) : (∀ p ∈ r.2.2.1, p.2.1.length ≤ 5) ∧ (r.2.2.1.filter (fun p => !p.2.2)).length ≤ 3 := by
 simp only [vz, zCW, z0, ze, zY, v7, zJy] at h
 exact znF h.2.2.1
theorem zn3 {r : El zG} (h : (vz r).1 = true) : ∀ x ∈ r.2.2.2.2, x.1 = (2 : Int) → @LE.le Int _ 0 x.2.2.2.1 ∧ @LT.lt Int _ x.2.2.2.1 (zc r).1 := by
 intro x hx g
 have h' : (zHq r.2.2.2.2 (xb r).1 (zc r).1).1 = true := by
  simp only [vz, zCW, z0, ze, zY] at h
  revert h
  cases (xV r.1).1 <;> cases (z6 r.2.1 (-100 : Int) (100 : Int)).1 <;> cases (zBb r.2.2.1).1 <;> cases (zF1 r.2.2.2.1 (xb r).1).1 <;> intro h <;> first | exact h | cases h
 rw [zTK] at h'
 cases e : xU (fun _ x => bif (!(zAb x).1) then false else bif (x.1 == (2 : Int)) && decide (x.2.2.2.1 ≥ (zc r).1) then false else xU (fun i x => bif (!(xE x.2.1 (xb r).1).1) then false else (bif (!(xE x.2.2 (xb r).1).1) then false else true)) 0 x.2.2.1) 0 r.2.2.2.2 with
 | false => rw [e] at h'; cases h'
 | true =>
  obtain ⟨i, hi⟩ := List.getElem?_of_mem hx
  have := zR.1 e i x hi
  have e2 : (x.1 == (2 : Int)) = true := by rw [g]; rfl
  rw [e2, Bool.true_and] at this
  cases k1 : (zAb x).1 with
  | false => rw [k1] at this; cases this
  | true =>
   refine ⟨zpo k1 g, ?_⟩
   rw [k1] at this
   have k2 : decide (x.2.2.2.1 ≥ (zc r).1) = false := by
    cases k : decide (x.2.2.2.1 ≥ (zc r).1) with
    | false => rfl
    | true => rw [k] at this; cases this
   have := of_decide_eq_false k2
   exact Int.not_le.1 this
abbrev zLa : LB := ⟨[], ⟨22, [.d zN], [(1, vd .str), (2, .pt 0 0), (5, vd .int)], []⟩, ⟨22, [], [(4, vd .int)], []⟩, 0, U4 fun (w0 : El zN) (s1 : ByteArray) _ (n5 : Int) => cond (decide (n5 < (w0.2.length : Int))) (.ix n5 w0.2 (cond ((zB zG w0.2 n5).1.toList == s1.toList) (.v (.ret (n5, ()))) (.ik (n5 + 1) (.v (.go (w0, s1, (), (n5 + 1), ())))))) (.v (.brk (w0, s1, (), n5, ())))⟩
def ze0 (w0 : El zN) (s1 : ByteArray) := rS (l := zLa) (L := w0.2) (fun i => (w0, s1, (), i, ())) (fun i x => bif (x.1.toList == s1.toList) then (some ((i : Int), ())) else none)
theorem zet : SF zLa (U4 fun (w0 : El zN) _ _ (n5 : Int) => (0 ≤ n5, (w0.2.length : Int) - n5)) := sfA
abbrev zO4 (a0 : El zN) (a1 : ByteArray) : Tr (Int × Unit) := .lp zLa (a0, a1, (), (0 : Int), ()) (fun r1 => .v (r1.1, ())) (fun _ => .v ((-1 : Int), ()))
def zHy a0 a1 := (zO4 a0 a1).val
abbrev zcL := fd [va zN, vd .str] [vd .int] (U2 zHy)
theorem zno : Ok zcL (U2 zO4) := vN zet
def zmJ := cn mo [] [zLa] 271 zcL Tryz.f271 (U2 zO4) zno
def zlt (a0 : El zN) (a1 : ByteArray) := (by
 simp only [zHy, zO4, zY, zq, ze]
 rewrite [ze0, xH]
 dsimp only : zHy a0 a1 = _)
abbrev zKp : LB := ⟨[], ⟨39, [.d zN], [(1, .pt 0 0), (3, vd .int)], []⟩, ⟨39, [], [(2, vd .bool)], []⟩, 0, U3 fun (w0 : El zN) _ (n3 : Int) => cond (decide (n3 < (w0.2.length : Int))) (.ix n3 w0.2 (let k1 := zB zG w0.2 n3; .ck (zOq k1) (cond (!(vz k1).1) (.v (.ret (false, ()))) (.ix n3 w0.2 (cond ((zHy w0 k1.1).1 != n3) (.v (.ret (false, ()))) (.ik (n3 + 1) (.v (.go (w0, (), (n3 + 1), ()))))))))) (.v (.brk (w0, (), n3, ())))⟩
def zfP (w0 : El zN) := rA (l := zKp) (L := w0.2) (fun i => (w0, (), i, ())) (fun i x => bif (!(vz x).1) then false else (bif ((zHy w0 x.1).1 != (i : Int)) then false else true)) (false, ())
theorem zfL : SF zKp fun x : El zN × Unit × Int × Unit => (0 ≤ x.2.2.1 ∧ (∀ r ∈ x.1.2, SzR r), (x.1.2.length : Int) - x.2.2.1) := sfk (by
 rintro ⟨(w0 : El zN), ⟨⟩, (n3 : Int), ⟨⟩⟩ hI hw
 obtain ⟨i0, k0⟩ := hI
 dsimp only at i0 k0
 have _ : (w0.2.length : Int) ≤ 16777216 := vC (hw.1.2.1)
 simp [zKp, U3, -Prod.forall]
 repeat' first | exact k0 _ (zV (by omega)) | assumption | intro _ | apply And.intro
 all_goals omega)
abbrev zKN (a0 : El zN) : Tr (Bool × Unit) := .lp zKp (a0, (), (0 : Int), ()) (fun r3 => .v (r3.1, ())) (fun t1 => cond (xV t1.1.1).1 (.v ((z6 (t1.1.2.length : Int) (1 : Int) (12 : Int)).1, ())) (.v (false, ())))
def zCC a0 := (zKN a0).val
def zNJ (a0 : El zN) : Prop := ∀ r ∈ a0.2, SzR r
abbrev zgz := fq [va zN] [vd .bool] (U1 zNJ) (U1 zCC)
theorem zoq : Ok zgz (U1 zKN) := by
 rintro ⟨(a0 : El zN), ⟨⟩⟩ hw hp
 replace hp : zNJ a0 := hp
 show (zKN a0).ok
 unfold zNJ at hp
 unfold zKN
 refine zg ?_ ?_
 ·exact zfL _ ⟨by (dsimp only <;> first | omega | assumption | (simp <;> omega)), by (dsimp only <;> first | omega | assumption | (simp <;> omega))⟩
 ·simp
def zhf := cn mo [zmO, zmJ, zEV, zAQ] [zKp] 177 zgz Tryz.f177 (U1 zKN) zoq
def ze8 (a0 : El zN) := (by
 simp only [zCC, zKN, zY, z0, zq, ze]
 rewrite [zfP, z3]
 dsimp only : zCC a0 = _)
theorem zNi {d : El zN} (h : (zCC d).1 = true) : d.2.length ≤ 12 ∧ ∀ r ∈ d.2, (vz r).1 = true := by
 rw [ze8] at h
 simp only [v7, zJy] at h
 obtain ⟨h3, h1, h2⟩ := h
 have := zBK h2
 rw [zR] at h3
 refine ⟨by omega, fun r hr => ?_⟩
 obtain ⟨i, hi⟩ := List.mem_iff_getElem?.1 hr
 have := h3 i r hi
 simp only [zB1] at this
 exact zAT this.1
theorem zqI {d : El zN} {i : Int} (h : (zCC d).1 = true) (h1 : 0 ≤ i) (h2 : i < (d.2.length : Int)) : ∀ x ∈ (zB zG d.2 i).2.2.2.2, x.1 = (2 : Int) → @LE.le Int _ 0 x.2.2.2.1 ∧ @LT.lt Int _ x.2.2.2.1 (zc (zB zG d.2 i)).1 :=
 zn3 ((zNi h).2 _ (zV ⟨h1, h2⟩))
abbrev zLz : LB := ⟨[], ⟨19, [], [(0, vd (.lst zL)), (3, vd .int)], []⟩, ⟨19, [], [(2, vd .bool)], []⟩, 0, U2 fun (l0 : Li zL) (n3 : Int) => cond (decide (n3 < (l0.length : Int))) (.ix n3 l0 (cond (!(zAj (zB zL l0 n3)).1) (.v (.ret (false, ()))) (.ik (n3 + 1) (.v (.go (l0, (n3 + 1), ())))))) (.v (.brk (l0, n3, ())))⟩
def zeq (l0 : Li zL) := rA (l := zLz) (L := l0) (fun i => (l0, i, ())) (fun i x => bif (!(zAj x).1) then false else true) (false, ())
theorem zdB : SF zLz (U2 fun (l0 : Li zL) (n3 : Int) => (0 ≤ n3, (l0.length : Int) - n3)) := sfA
abbrev zOY (a0 : Li zL) : Tr (Bool × Unit) := .lp zLz (a0, (0 : Int), ()) (fun r2 => .v (r2.1, ())) (fun t1 => .v (decide (@LE.le Int _ (t1.1.length : Int) (5 : Int)), ()))
def zPI a0 := (zOY a0).val
abbrev za6 := fd [vd (.lst zL)] [vd .bool] (U1 zPI)
theorem zlp : Ok za6 (U1 zOY) := vN zdB
def zn4 := cn mo [zSB] [zLz] 343 za6 Tryz.f343 (U1 zOY) zlp
def zbM (a0 : Li zL) := (by
 simp only [zPI, zOY, zY, zq, ze]
 rewrite [zeq, z3]
 dsimp only : zPI a0 = _)
abbrev zKl (a0 : El zK) : Tr (Bool × Unit) := cond (xV a0.1).1 (.v ((zPI a0.2).1, ())) (.v (false, ()))
def xi a0 := (zKl a0).val
abbrev zmQ := fd [va zK] [vd .bool] (U1 xi)
def zFy := cn mo [zEV, zn4] [] 273 zmQ Tryz.f273 (U1 zKl) (fun _ _ _ => by simp [zKl])
theorem zkW {s : ByteArray} (h : (zDE s).1 = true) : (s.size : Int) ≤ 20 := by
 rw [zW7] at h
 simp only [v7, zJy, decide_eq_true_eq] at h
 exact h.2
theorem zbO {s : ByteArray} (h : (xV s).1 = true) : (s.size : Int) ≤ 12 := by
 rw [zbs] at h
 simp only [v7, zJy] at h
 exact (zBK h.2).2
theorem zqm {v : El zL} (h : (zAj v).1 = true) : Vl v.2.1 v.2.2 := by
 simp only [zAj, zNU, z0, zY] at h
 cases h1 : (v.1 == (1 : Int)) with
 | true =>
  rw [h1] at h
  cases h2 : (z6 v.2.1 (-1000000000 : Int) (1000000000 : Int)).1 with
  | false => rw [h2] at h; cases h
  | true =>
   rw [h2] at h
   have h : v.2.2.toList = (⟨#[]⟩ : ByteArray).toList := by simpa using h
   have := zBK h2
   have : v.2.2.size = 0 := by
    have e := congrArg List.length h
    rw [ByteArray.toList_eq, ByteArray.toList_eq] at e
    simpa using e
   exact ⟨by omega, by omega, by omega⟩
 | false =>
  rw [h1] at h
  cases h2 : (v.1 == (2 : Int)) with
  | false => rw [h2] at h; cases h
  | true =>
   rw [h2] at h
   cases h3 : (zDE v.2.2).1 with
   | false => rw [h3] at h; cases h
   | true =>
    rw [h3] at h
    have h : v.2.1 = 0 := by simpa using h
    have := zkW h3
    refine ⟨?_, ?_, by omega⟩ <;> rw [h] <;> decide
theorem zTX {f : El zK} (h : (xi f).1 = true) : (f.1.size : Int) ≤ 12 ∧ (f.2.length : Int) ≤ 5 ∧ ∀ v ∈ f.2, Vl v.2.1 v.2.2 := by
 simp only [xi, zKl, z0, zY, v7, zJy] at h
 obtain ⟨h1, h2⟩ := h
 rw [zbM] at h2
 simp only [v7, zJy, decide_eq_true_eq, zR] at h2
 refine ⟨zbO h1, h2.2, fun v hv => ?_⟩
 obtain ⟨i, hi⟩ := List.getElem?_of_mem hv
 have := h2.1 i v hi
 exact zqm (by simpa using this)
abbrev zJx (a0 : El zU) : Tr (Bool × Unit) := let k4 := a0.2.2.2.2.toList == (⟨#[]⟩ : ByteArray).toList; let k9 := a0.2.2.2.1 == (0 : Int); let k6 : Tr _ := cond k9 (.v (k4, ())) (.v (false, ())); let k8 := a0.2.2.1 == (0 : Int); let k1 : Tr _ := cond k8 k6 (.v (false, ())); let k2 : Tr _ := cond (xi a0.2.1).1 (cond k8 (cond k9 (cond k4 (.v (true, ())) (.v ((xV a0.2.2.2.2).1, ()))) (.v (false, ()))) (.v (false, ()))) (.v (false, ())); let k3 : Tr _ := cond (xi a0.2.1).1 (cond k8 (cond (z6 a0.2.2.2.1 0 100000).1 (.v (k4, ())) (.v (false, ()))) (.v (false, ()))) (.v (false, ())); let k7 : Tr _ := cond (xi a0.2.1).1 k1 (.v (false, ())); cond (a0.2.1.1.toList == (⟨#[]⟩ : ByteArray).toList) (cond (a0.1 == (1 : Int)) k7 (cond (a0.1 == (3 : Int)) k2 (cond (a0.1 == (4 : Int)) k3 (let k5 := (a0.2.1.2.length : Int) == 0; cond (a0.1 == (2 : Int)) (cond k5 (cond (decide (a0.2.2.1 ≥ (1 : Int))) k6 (.v (false, ()))) (.v (false, ()))) (cond (a0.1 == (5 : Int)) (cond (a0.1 == (5 : Int)) (cond k5 k1 (.v (false, ()))) (.v (false, ()))) (cond (a0.1 == (6 : Int)) (cond k5 k1 (.v (false, ()))) (.v (false, ())))))))) (cond (a0.1 == (1 : Int)) k7 (cond (a0.1 == (3 : Int)) k2 (cond (a0.1 == (4 : Int)) k3 (cond (a0.1 == (2 : Int)) (.v (false, ())) (cond (a0.1 == (5 : Int)) (cond (a0.1 == (5 : Int)) (.v (false, ())) (.v (false, ()))) (cond (a0.1 == (6 : Int)) (.v (false, ())) (.v (false, ()))))))))
def zEc a0 := (zJx a0).val
abbrev zgZ := fd [va zU] [vd .bool] (U1 zEc)
def zfp := cn mo [zFy, zEV, zAQ] [] 282 zgZ Tryz.f282 (U1 zJx) (fun _ _ _ => by simp [zJx])
abbrev zSG (a0 a1 : El zL) (a2 : Int) : Tr (El zL × Bool × Unit) := let k1 : Tr _ := .v (((0 : Int), ((0 : Int), (⟨#[]⟩ : ByteArray))), false, ()); cond (a0.1 != (1 : Int)) k1 (cond (a1.1 != (1 : Int)) k1 (cond (!(zAj a0).1) k1 (cond (!(zAj a1).1) k1 (let k2 := ((1 : Int), (a2, (⟨#[]⟩ : ByteArray))); cond (!(zAj k2).1) k1 (.v (k2, true, ()))))))
def zOM a0 a1 a2 := (zSG a0 a1 a2).val
abbrev zpY := fd [va zL, va zL, vd .int] [va zL, vd .bool] (U3 zOM)
def zfR := cn mo [zSB] [] 394 zpY Tryz.f394 (U3 zSG) (fun _ _ _ => by simp [zSG])
def zLc (a0 a1 : El zL) : El zL × Bool × Unit := let y1 := (zOM a0 a1 (IntKind.wrap .i64 (a0.2.1 + a1.2.1))); (y1.1, y1.2.1, ())
abbrev ziB := fd [va zL, va zL] [va zL, vd .bool] (U2 zLc)
def zj5 : Gv := ⟨true, fun _ => none, false⟩
def zin := cv mo [zfR] 379 ziB Tryz.f379 (g := zj5)
def zLo (a0 a1 : El zL) : El zL × Bool × Unit := let y1 := (zOM a0 a1 (IntKind.wrap .i64 (a0.2.1 - a1.2.1))); (y1.1, y1.2.1, ())
abbrev zkn := fd [va zL, va zL] [va zL, vd .bool] (U2 zLo)
def ziy : Gv := ⟨true, fun _ => none, false⟩
def zje := cv mo [zfR] 380 zkn Tryz.f380 (g := ziy)
abbrev zLq (a0 : El zo) (a1 : Li zH) : Tr (El zL × Bool × Unit) := let k1 : Tr _ := .v (((0 : Int), ((0 : Int), (⟨#[]⟩ : ByteArray))), false, ()); let k2 := zDT a0.2.1 a1; cond (!k2.2.1) k1 (cond (a0.1.toList == (⟨#[]⟩ : ByteArray).toList) (.v (k2.1, true, ())) (let k3 := zDT a0.2.2 a1; cond (!k3.2.1) k1 (cond (a0.1.toList == (⟨#[43]⟩ : ByteArray).toList) (let y1 := (zLc k2.1 k3.1); .v (y1.1, y1.2.1, ())) (cond (a0.1.toList == (⟨#[45]⟩ : ByteArray).toList) (let y1 := (zLo k2.1 k3.1); .v (y1.1, y1.2.1, ())) k1))))
def zAD a0 a1 := (zLq a0 a1).val
abbrev ziD := fd [va zo, vd (.lst zH)] [va zL, vd .bool] (U2 zAD)
def zkY := cn mo [zcA, zin, zje] [] 348 ziD Tryz.f348 (U2 zLq) (fun _ _ _ => by simp [zLq])
abbrev zAg : LB := ⟨[], ⟨34, [], [(0, vd (.lst zo)), (1, vd (.lst zH)), (6, vo zL), (7, vd .int)], []⟩, ⟨34, [], [(4, vo zL), (5, vd .bool)], []⟩, 0, U4 fun (l0 : Li zo) (l1 : Li zH) (l6 : Li zL) (n7 : Int) => cond (decide (n7 < (l0.length : Int))) (.ix n7 l0 (let y1 := (zAD (zB zo l0 n7) l1); cond (!y1.2.1) (.v (.ret (([] : Li zL), false, ()))) (.ck (((l6.length + [y1.1].length : Nat) : Int) ≤ 16777216) (.ik (n7 + 1) (.v (.go (l0, l1, (l6 ++ [y1.1]), (n7 + 1), ()))))))) (.v (.brk (l0, l1, l6, n7, ())))⟩
theorem zSy : SF zAg (U4 fun (l0 : Li zo) _ (l6 : Li zL) (n7 : Int) => (0 ≤ n7 ∧ (l6.length : Int) ≤ n7, (l0.length : Int) - n7)) := sfA
abbrev zDr (a0 : Li zo) (a1 : Li zH) : Tr (Li zL × Bool × Unit) := .lp zAg (a0, a1, ([] : Li zL), (0 : Int), ()) (fun r2 => .v (r2.1, r2.2.1, ())) (fun t1 => .v (t1.2.2.1, true, ()))
def vl a0 a1 := (zDr a0 a1).val
abbrev zPi := fd [vd (.lst zo), vd (.lst zH)] [vo zL, vd .bool] (U2 vl)
theorem zZm : Ok zPi (U2 zDr) := vN zSy
def zZt := cn mo [zkY] [zAg] 283 zPi Tryz.f283 (U2 zDr) zZm
abbrev zHS (a0 : El zp) (a1 : El zA) : Tr (El zU × Bool × Unit) := cond (a0.1 == (2 : Int)) (.ix a0.2.2.2.1 a1.2.1 (let k2 := (a0.1, (((⟨#[]⟩ : ByteArray), ([] : Li zL)), ((zB .int a1.2.1 a0.2.2.2.1), ((0 : Int), a0.2.2.2.2)))); .v (k2, (zEc k2).1, ()))) (let k4 := vl a0.2.2.1 a1.2.2; cond (a0.1 == (4 : Int)) (let y1 := k4; let k3 := (a0.1, ((a0.2.1, y1.1), ((0 : Int), a0.2.2.2))); cond y1.2.1 (.v (k3, (zEc k3).1, ())) (.v (k3, false, ()))) (let y1 := k4; let k1 := (a0.1, ((a0.2.1, y1.1), ((0 : Int), ((0 : Int), a0.2.2.2.2)))); cond y1.2.1 (.v (k1, (zEc k1).1, ())) (.v (k1, false, ()))))
def yp a0 a1 := (zHS a0 a1).val
@[simp] def zRJ (a0 : El zp) (a1 : El zA) : Prop := a0.1 = (2 : Int) → 0 ≤ a0.2.2.2.1 ∧ a0.2.2.2.1 < (a1.2.1.length : Int)
abbrev zRx := fq [va zp, va zA] [.val true (.pr (.d .int) (.pr (.pr (.d .str) (.o (.d zL))) (.d zL))), vd .bool] (U2 zRJ) (U2 yp)
theorem zde : Ok zRx (U2 zHS) := okG trivial trivial trivial
def zee := cn mo [zfp, zZt] [] 189 zRx Tryz.f189 (U2 zHS) zde
abbrev zAU : LB := ⟨[1], ⟨65, [.d zA], [(3, .pt 0 0), (6, vo zU), (7, vd (.lst zp)), (8, vd .int)], []⟩, ⟨65, [], [(4, vo zU), (5, vd .bool)], []⟩, 0, U5 fun (w0 : El zA) _ (l6 : Li zU) (l7 : Li zp) (n8 : Int) => cond (decide (n8 < (l7.length : Int))) (.ix n8 l7 (.ck (zRJ (zB zp l7 n8) w0) (let y1 := (yp (zB zp l7 n8) w0); cond (!y1.2.1) (.v (.ret (([] : Li zU), false, ()))) (.ck (((l6.length + [y1.1].length : Nat) : Int) ≤ 16777216) (.ik (n8 + 1) (.v (.go (w0, (), (l6 ++ [y1.1]), l7, (n8 + 1), ())))))))) (.v (.brk (w0, (), l6, l7, n8, ())))⟩
theorem zVI : SF zAU (U5 fun (w0 : El zA) _ (l6 : Li zU) (l7 : Li zp) (n8 : Int) => (0 ≤ n8 ∧ (l6.length : Int) ≤ n8 ∧ (∀ x ∈ l7, x.1 = (2 : Int) → @LE.le Int _ 0 x.2.2.2.1 ∧ @LT.lt Int _ x.2.2.2.1 (w0.2.1.length : Int)), (l7.length : Int) - n8)) := by
 refine sfk fun x hI hw => ?_
 have hb := SD.Bd.of hw
 clear hw
 obtain ⟨w0, u, l6, l7, n8, ⟨⟩⟩ := x
 simp only [SD.Bd, BdB, BdR, AD.Bd, Bd, lim, U5] at hb hI ⊢
 replace hb : (l7.length : Int) ≤ 16777216 := by simp_all
 obtain ⟨h1, h2, h3⟩ : 0 ≤ (n8 : Int) ∧ (l6.length : Int) ≤ (n8 : Int) ∧ _ := hI
 revert h1 h2
 generalize hn : (n8 : Int) = n
 intro h1 h2
 refine ⟨by omega, ?_⟩
 refine xI (fun c => ?_) (fun _ => trivial)
 replace c : n < (l7.length : Int) := of_decide_eq_true c
 refine z7 ⟨h1, c⟩ (z7 (h3 _ (zV ⟨h1, c⟩)) (xI (fun _ => trivial) (fun _ => z7 ?_ (z7 ?_ ?_))))
 ·simp only [List.length_singleton]; exact (zHF c hb h2).1
 ·exact (zM0 h1 c hb).1
 ·show (_ ∧ _ ∧ _) ∧ _
  simp only [List.length_append, List.length_singleton]
  exact ⟨⟨(zM0 h1 c hb).2.1, (zHF c hb h2).2.1, h3⟩, (zM0 h1 c hb).2.2⟩
abbrev zBz (a0 : El zN) (a1 : El zA) : Tr (Li zU × Bool × Unit) := .ck (zNJ a0) (let k1 : Tr _ := .v (([] : Li zU), false, ()); cond (!(zCC a0).1) k1 (cond (!(yO a0 a1).1) k1 (.ix a1.1 a0.2 (cond ((a1.2.1.length : Int) != (zc (zB zG a0.2 a1.1)).1) k1 (.ix a1.1 a0.2 (.lp zAU (a1, (), ([] : Li zU), (zB zG a0.2 a1.1).2.2.2.2, (0 : Int), ()) (fun r7 => .v (r7.1, r7.2.1, ())) (fun t1 => .v (t1.2.2.1, true, ()))))))))
def yQ a0 a1 := (zBz a0 a1).val
@[simp] def zLK (a0 : El zN) (_a1 : El zA) : Prop := ∀ r ∈ a0.2, SzR r
abbrev zRE := gq [va zN, va zA] [vo zU, vd .bool] (U2 zLK) (U2 yQ)
theorem zc9 : Ok zRE (U2 zBz) := fun a hw hp => by
 obtain ⟨(a0 : El zN), (a1 : El zA), ⟨⟩⟩ := a
 replace hp : ∀ r ∈ a0.2, SzR r := hp
 show (zBz a0 a1).ok
 unfold zBz
 refine zg hp (yK (fun _ => trivial) (fun h1 => yK (fun _ => trivial) (fun h2 => ?_)))
 replace h1 := zAT h1
 have hr := zIl (zAT h2)
 refine zg hr (yK (fun _ => trivial) (fun h3 => zg hr (zg (zVI _ ⟨Int.le_refl 0, Int.le_refl 0, ?_⟩) (okF.2 (xM (A := fun _ _ => True) (I := fun _ _ => True) (fun x _ => ?_) trivial (fun _ _ => trivial) (fun _ _ => trivial))))))
 ·have h4 : (a1.2.1.length : Int) = (zc (zB zG a0.2 a1.1)).1 := by simpa using h3
  intro x hx g
  have := zqI h1 hr.1 hr.2 x hx g
  rw [← h4] at this
  exact this
 ·exact LB.post (l := zAU) (fun _ => True) (fun x _ => by cases LB.b zAU x <;> trivial) trivial
def zSJ := cn mo [zhf, zee, zGy, zK8] [zAU] 102 zRE Tryz.f102 (U2 zBz) zc9
abbrev zLe : LB := ⟨[], ⟨51, [.pr (.o (.d zD)) (.d .int)], [(0, .pt 0 0), (1, vd .int), (5, vo zD), (6, vd .int)], []⟩, ⟨51, [.pr (.o (.d zD)) (.d .int)], [], []⟩, 0, U5 fun (w0 : El zE) _ (n1 : Int) (l5 : Li zD) (n6 : Int) => cond (decide (n6 < (w0.1.length : Int))) (.ix n6 w0.1 (let k1 := zB zD w0.1 n6; cond (k1.1 != n1) (.ix n6 w0.1 (.ck (((l5.length + [k1].length : Nat) : Int) ≤ 16777216) (.ik (n6 + 1) (.v (.go (w0, (), n1, (l5 ++ [k1]), (n6 + 1), ())))))) (.ik (n6 + 1) (.v (.go (w0, (), n1, l5, (n6 + 1), ())))))) (.v (.brk (w0, (), n1, l5, n6, ())))⟩
def zRc (w0 : El zE) (n1 : Int) (l5 : Li zD) := rF (l := zLe) (L := w0.1) (fun i (s : (Li zD)) => (w0, (), n1, s, i, ())) (fun i x s => bif (x.1 != n1) then (s ++ [x]) else s) l5
theorem zeS : SF zLe (U5 fun (w0 : El zE) _ _ (l5 : Li zD) (n6 : Int) => (0 ≤ n6 ∧ (l5.length : Int) ≤ n6, (w0.1.length : Int) - n6)) := sfA
abbrev zPA (a0 : El zE) (a1 : Int) : Tr (Bool × El zE × Unit) := .lp zLe (a0, (), a1, ([] : Li zD), (0 : Int), ()) (fun _ => .bad) (fun t1 => .v (decide (@LT.lt Int _ (t1.2.2.2.1.length : Int) (t1.1.1.length : Int)), (t1.2.2.2.1, t1.1.2), ()))
def zEr a0 a1 := (zPA a0 a1).val
abbrev zbk := gd [zhH, vd .int] [vd .bool, zhH] (U2 zEr)
theorem zn6 : Ok zbk (U2 zPA) := zNF zeS zRc
def zay := cn mo [] [zLe] 190 zbk Tryz.f190 (U2 zPA) zn6
def zbX (a0 : El zE) (a1 : Int) := (by
 simp only [zEr, zPA, zY, zq, ze]
 rewrite [zRc, xL]
 dsimp only : zEr a0 a1 = _)
theorem zbP {a0 : El zE} {a1 : Int} : ((zEr a0 a1).2.1.1.length : Int) ≤ (a0.1.length : Int) := by
 rw [zbX]
 have := zbo (fun (i : Nat) (x : El zD) (s : Li zD) => bif (x.1 != a1) then (s ++ [x]) else s) (fun i x s => by cases (x.1 != a1) <;> simp) a0.1 0 []
 simp only [List.length_nil, Nat.zero_add] at this
 exact Int.ofNat_le.2 this
abbrev zMn : LB := ⟨[], ⟨18, [], [(0, vd (.lst .int)), (1, vd .int), (5, vd .int)], []⟩, ⟨18, [], [(4, vd .bool)], []⟩, 0, U3 fun (l0 : Li .int) (n1 n5 : Int) => cond (decide (n5 < (l0.length : Int))) (.ix n5 l0 (cond ((zB .int l0 n5) == n1) (.v (.ret (true, ()))) (.ik (n5 + 1) (.v (.go (l0, n1, (n5 + 1), ())))))) (.v (.brk (l0, n1, n5, ())))⟩
def zc4 (l0 : Li .int) (n1 : Int) := rA (l := zMn) (L := l0) (fun i => (l0, n1, i, ())) (fun i x => bif (x == n1) then false else true) (true, ())
theorem zeP : SF zMn (U3 fun (l0 : Li .int) _ (n5 : Int) => (0 ≤ n5, (l0.length : Int) - n5)) := sfA
abbrev zO3 (a0 : Li .int) (a1 : Int) : Tr (Bool × Unit) := .lp zMn (a0, a1, (0 : Int), ()) (fun r1 => .v (r1.1, ())) (fun _ => .v (false, ()))
def v8 a0 a1 := (zO3 a0 a1).val
abbrev zap := fd [vd (.lst .int), vd .int] [vd .bool] (U2 v8)
theorem zoG : Ok zap (U2 zO3) := vN zeP
def znf := cn mo [] [zMn] 284 zap Tryz.f284 (U2 zO3) zoG
def zbr (a0 : Li .int) (a1 : Int) := (by
 simp only [v8, zO3, zY, zq, ze]
 rewrite [zc4, z3]
 dsimp only : v8 a0 a1 = _)
abbrev zLu : LB := ⟨[], ⟨31, [], [(0, vd (.lst zA)), (1, vd .int), (5, vo zA), (6, vd .int)], []⟩, ⟨31, [], [], []⟩, 0, U4 fun (l0 : Li zA) (n1 : Int) (l5 : Li zA) (n6 : Int) => cond (decide (n6 < (l0.length : Int))) (.ix n6 l0 (cond (!(v8 (zB zA l0 n6).2.1 n1).1) (.ix n6 l0 (let y1 := (v9 (zB zA l0 n6)); .ck (((l5.length + [y1.1].length : Nat) : Int) ≤ 16777216) (.ik (n6 + 1) (.v (.go (l0, n1, (l5 ++ [y1.1]), (n6 + 1), ())))))) (.ik (n6 + 1) (.v (.go (l0, n1, l5, (n6 + 1), ())))))) (.v (.brk (l0, n1, l5, n6, ())))⟩
def zSg (l0 : Li zA) (n1 : Int) (l5 : Li zA) := rF (l := zLu) (L := l0) (fun i (s : (Li zA)) => (l0, n1, s, i, ())) (fun i x s => bif (!(v8 x.2.1 n1).1) then (s ++ [(v9 x).1]) else s) l5
theorem zeH : SF zLu (U4 fun (l0 : Li zA) _ (l5 : Li zA) (n6 : Int) => (0 ≤ n6 ∧ (l5.length : Int) ≤ n6, (l0.length : Int) - n6)) := sfA
abbrev zPU (a0 : Li zA) (a1 : Int) : Tr (Li zA × Unit) := .lp zLu (a0, a1, ([] : Li zA), (0 : Int), ()) (fun _ => .bad) (fun t1 => .v (t1.2.2.1, ()))
def zBV a0 a1 := (zPU a0 a1).val
abbrev zbF := gd [vd (.lst zA), vd .int] [vo zA] (U2 zBV)
theorem zmv : Ok zbF (U2 zPU) := zNF zeH zSg
def zas := cn mo [znf, zMx] [zLu] 191 zbF Tryz.f191 (U2 zPU) zmv
def zav (a0 : Li zA) (a1 : Int) := (by
 simp only [zBV, zPU, zY, zq, ze]
 rewrite [zSg, xL]
 dsimp only : zBV a0 a1 = _)
abbrev zJF : LB := ⟨[], ⟨28, [], [(0, vd (.lst zD)), (3, vo zD), (4, vd .int)], []⟩, ⟨28, [], [], []⟩, 0, U3 fun (l0 l3 : Li zD) (n4 : Int) => cond (decide (n4 < (l0.length : Int))) (.ix n4 l0 (.ix n4 l0 (let y1 := (yo (zB zD l0 n4).2); let k1 := ((zB zD l0 n4).1, y1.1); .ck (((l3.length + [k1].length : Nat) : Int) ≤ 16777216) (.ik (n4 + 1) (.v (.go (l0, (l3 ++ [k1]), (n4 + 1), ()))))))) (.v (.brk (l0, l3, n4, ())))⟩
def zPk (l0 l3 : Li zD) := rF (l := zJF) (L := l0) (fun i (s : (Li zD)) => (l0, s, i, ())) (fun i x s => (s ++ [(x.1, (yo x.2).1)])) l3
theorem zZ3 : SF zJF (U3 fun (l0 l3 : Li zD) (n4 : Int) => (0 ≤ n4 ∧ (l3.length : Int) ≤ n4, (l0.length : Int) - n4)) := sfA
abbrev zMm (a0 : Li zD) : Tr (Li zD × Unit) := .lp zJF (a0, ([] : Li zD), (0 : Int), ()) (fun _ => .bad) (fun t1 => .v (t1.2.1, ()))
def zAm a0 := (zMm a0).val
abbrev zX3 := gd [vd (.lst zD)] [vo zD] (U1 zAm)
theorem zil : Ok zX3 (U1 zMm) := zNF zZ3 zPk
def zQW := cn mo [zAp] [zJF] 98 zX3 Tryz.f98 (U1 zMm) zil
def zYE (a0 : Li zD) := (by
 simp only [zAm, zMm, zY, zq, ze]
 rewrite [zPk, xL]
 dsimp only : zAm a0 = _)
theorem zYl (l : List _) : ((zAm l).1).length = l.length := by
 rw [zYE]; simp [vM]
abbrev zGg (a0 : El zD) : Tr (Bool × Unit) := cond (z6 a0.1 0 1000000000).1 (.v ((xi a0.2).1, ())) (.v (false, ()))
def zAW a0 := (zGg a0).val
abbrev zfI := fd [va zD] [vd .bool] (U1 zAW)
def zTu := cn mo [zAQ, zFy] [] 276 zfI Tryz.f276 (U1 zGg) (fun _ _ _ => by simp [zGg])
abbrev zHe : LB := ⟨[], ⟨37, [], [(0, vd (.lst zD)), (3, vd .int)], []⟩, ⟨37, [], [(2, vd .bool)], []⟩, 0, U2 fun (l0 : Li zD) (n3 : Int) => cond (decide (n3 < (l0.length : Int))) (.ix n3 l0 (cond (!(zAW (zB zD l0 n3)).1) (.v (.ret (false, ()))) (let k1 : Tr (St _ _) := .ik (n3 + 1) (.v (.go (l0, (n3 + 1), ()))); cond (decide (n3 > 0)) (.ik (n3 - 1) (.ix (n3 - 1) l0 (.ix n3 l0 (cond (decide ((zB zD l0 (n3 - 1)).1 > (zB zD l0 n3).1)) (.v (.ret (false, ()))) k1)))) k1))) (.v (.brk (l0, n3, ())))⟩
def zWJ (l0 : Li zD) := rA (l := zHe) (L := l0) (fun i => (l0, i, ())) (fun i x => bif (!(zAW x).1) then false else (bif (decide ((i : Int) > 0)) then (bif (decide ((zB zD l0 ((i : Int) - 1)).1 > x.1)) then false else true) else true)) (false, ())
theorem zYG : SF zHe (U2 fun (l0 : Li zD) (n3 : Int) => (0 ≤ n3, (l0.length : Int) - n3)) := sfA
abbrev zJK (a0 : Li zD) : Tr (Bool × Unit) := .lp zHe (a0, (0 : Int), ()) (fun r2 => .v (r2.1, ())) (fun t1 => .v (decide (@LE.le Int _ (t1.1.length : Int) (30 : Int)), ()))
def zC0 a0 := (zJK a0).val
abbrev zTh := fd [vd (.lst zD)] [vd .bool] (U1 zC0)
theorem zfZ : Ok zTh (U1 zJK) := vN zYG
def zT3 := cn mo [zTu] [zHe] 180 zTh Tryz.f180 (U1 zJK) zfZ
def zTe (a0 : Li zD) := (by
 simp only [zC0, zJK, zY, zq, ze]
 rewrite [zWJ, z3]
 dsimp only : zC0 a0 = _)
abbrev zA2 : LB := ⟨[], ⟨62, [.d zD], [(3, .pt 0 0), (6, vo zD), (7, vd .int)], []⟩, ⟨62, [], [], []⟩, 0, U4 fun (w0 : El zD) _ (l6 : Li zD) (n7 : Int) => let k2 := .brk (w0, (), l6, n7, ()); cond (decide (n7 > 0)) (.ik (n7 - 1) (.ix (n7 - 1) l6 (let k1 := zB zD l6 (n7 - 1); cond (decide (k1.1 > w0.1)) (.ik (n7 - 1) (.ix (n7 - 1) l6 (.ix n7 l6 (.ik (n7 - 1) (.v (.go (w0, (), (List.set l6 (Int.toNat n7) k1), (n7 - 1), ()))))))) (.v k2)))) (.v k2)⟩
theorem zYY : PO zA2 (fun _ _ => False) (U4 fun (w00 : El zD) _ _ _ => U4 fun (w0 : El zD) _ (l6 : Li zD) (n7 : Int) => w0 = w00 ∧ (0 ≤ n7 ∧ n7 < (l6.length : Int))) := poG trivial trivial trivial
theorem zXU : SF zA2 (U4 fun _ _ (l6 : Li zD) (n7 : Int) => (0 ≤ n7 ∧ n7 < (l6.length : Int), n7)) := sfG trivial trivial trivial
abbrev zJC (a0 : Li zD) (a1 : El zD) : Tr (Li zD × Bool × Unit) := let k1 := ((zAm a0).1, false, ()); cond (!(zC0 a0).1) (.v k1) (cond (!(zAW a1).1) (.v k1) (cond (decide ((a0.length : Int) ≥ 30)) (.v k1) (let k2 := (a1.1, (yo a1.2).1); .ck ((((zAm a0).1.length + [k2].length : Nat) : Int) ≤ 16777216) (.lp zA2 (k2, (), ((zAm a0).1 ++ [k2]), ((zAm a0).1.length : Int), ()) (fun _ => .bad) (fun t1 => .ix t1.2.2.2.1 t1.2.2.1 (.v ((List.set t1.2.2.1 (Int.toNat t1.2.2.2.1) t1.1), true, ())))))))
def xn a0 a1 := (zJC a0 a1).val
abbrev zUY := gd [vd (.lst zD), va zD] [vo zD, vd .bool] (U2 xn)
theorem zgO : Ok zUY (U2 zJC) := okG (an zXU (an zYY trivial)) (an @zYl trivial) trivial
def zUZ := cn mo [zQW, zT3, zAp, zTu] [zA2] 193 zUY Tryz.f193 (U2 zJC) zgO
abbrev zEw (a0 : El zF) (a1 : El zU) : Tr (El zF × Unit) := cond (a1.1 == (1 : Int)) (cond (!true) (.v ((zd (xB a0 a1.2.1).1 (3 : Int)).1, ())) (.v ((xB a0 a1.2.1).1, ()))) (cond (a1.1 == (2 : Int)) (let y1 := (zEr a0.1 a1.2.2.1); cond y1.1 (let y2 := (zBV a0.2.1 a1.2.2.1); cond (!true) (.v ((zd (y1.2.1, (y2.1, a0.2.2)) (3 : Int)).1, ())) (.v ((y1.2.1, (y2.1, a0.2.2)), ()))) (cond (!true) (.v ((zd (y1.2.1, a0.2) (3 : Int)).1, ())) (.v ((y1.2.1, a0.2), ())))) (cond (a1.1 == (3 : Int)) (let y1 := (zA4 a0.2.2.1 a1.2.1 a1.2.2.2.2 a0.2.2.2.2.2.2); let k2 := (a0.1, (a0.2.1, (y1.1, a0.2.2.2))); cond (!y1.2.1) (.v ((zd k2 3).1, ())) (.v (k2, ()))) (cond (a1.1 == (4 : Int)) (let k1 := IntKind.wrap .i64 (a0.2.2.2.2.2.2 + a1.2.2.2.1); cond (decide (k1 > (1000000000 : Int))) (let y1 := (xn a0.2.2.2.1 ((1000000000 : Int), a1.2.1)); cond (!y1.2.1) (.v ((zd (a0.1, (a0.2.1, (a0.2.2.1, (y1.1, a0.2.2.2.2)))) (3 : Int)).1, ())) (.v ((a0.1, (a0.2.1, (a0.2.2.1, (y1.1, a0.2.2.2.2)))), ()))) (let y1 := (xn a0.2.2.2.1 (k1, a1.2.1)); cond (!y1.2.1) (.v ((zd (a0.1, (a0.2.1, (a0.2.2.1, (y1.1, a0.2.2.2.2)))) (3 : Int)).1, ())) (.v ((a0.1, (a0.2.1, (a0.2.2.1, (y1.1, a0.2.2.2.2)))), ())))) (cond (a1.1 == (5 : Int)) (let y1 := (zDH a0 2); cond (!true) (.v ((zd y1.1 3).1, ())) (.v (y1.1, ()))) (cond (!false) (.v ((zd a0 3).1, ())) (.v (a0, ())))))))
def zAG a0 a1 := (zEw a0 a1).val
@[simp] def zrG (a0 : El zF) (_a1 : El zU) : Prop := (a0.1.1.length : Int) ≤ 40
abbrev zeb := gd [zEu, va zU] [zEu] (U2 zAG)
theorem zRu {a0 : El zF} {a1 : El zU} (h : (a0.1.1.length : Int) ≤ 40) : ((zAG a0 a1).1.1.1.length : Int) ≤ 40 := psG (T := zEw a0 a1) (P := fun y => (y.1.1.1.length : Int) ≤ 40) trivial (an h (an @zLQ (an @zA0 (an @@zbP (an @zQF trivial))))) trivial
def zeW : Gv := ⟨true, fun _ => none, false⟩
def zcs := cn mo [zDR, zQ2, zay, zas, zJX, zUZ, zYD] [] 103 zeb Tryz.f103 (U2 zEw) (fun _ _ _ => by simp [zEw]) (g := zeW)
abbrev x4 : LB := ⟨[], ⟨62, [.pr (.pr (.o (.d zD)) (.d .int)) (.pr (.o (.d zA)) (.pr (.o (.d zC)) (.pr (.o (.d zD)) (.pr (.o (.d zP)) (.d (.pr .int .int))))))], [(1, .pt 0 0), (6, vo zU), (8, vd .int)], []⟩, ⟨62, [.pr (.pr (.o (.d zD)) (.d .int)) (.pr (.o (.d zA)) (.pr (.o (.d zC)) (.pr (.o (.d zD)) (.pr (.o (.d zP)) (.d (.pr .int .int))))))], [], []⟩, 0, U4 fun (w0 : El zF) _ (l6 : Li zU) (n8 : Int) => let k1 := .brk (w0, (), l6, n8, ()); cond (decide (n8 < (l6.length : Int))) (cond (w0.2.2.2.2.2.1 == (1 : Int)) (.ix n8 l6 (.ik (n8 + 1) (.v (.go ((zAG w0 (zB zU l6 n8)).1, (), l6, (n8 + 1), ()))))) (.v k1)) (.v k1)⟩
theorem zPw : PO x4 (fun _ _ => False) (U4 fun _ _ (l60 : Li zU) _ => U4 fun (w0 : El zF) _ (l6 : Li zU) _ => l6 = l60 ∧ (w0.1.1.length : Int) ≤ 40) := poG trivial (an @zRu trivial) trivial
theorem zaF : SF x4 (U4 fun (w0 : El zF) _ (l6 : Li zU) (n8 : Int) => (0 ≤ n8 ∧ (w0.1.1.length : Int) ≤ 40, (l6.length : Int) - n8)) := sfG trivial (an @zRu trivial) trivial
abbrev zIW (a0 : El zN) (a1 : El zF) (a2 : El zA) : Tr (El zF × Unit) := .ck (zLK a0 a2) (let k2 := ((zd a1 3).1, ()); cond (!(yQ a0 a2).2.1) (.v k2) (cond (decide ((a1.2.1.length : Int) ≥ 1000)) (.v k2) (.ck ((a2.2.1.length : Int) ≤ 16777216) (let k1 := (a2.1, (a2.2.1, ([] : Li zH))); .ck (((a1.2.1.length + [k1].length : Nat) : Int) ≤ 16777216) (.lp x4 ((a1.1, ((a1.2.1 ++ [k1]), a1.2.2)), (), (yQ a0 a2).1, (0 : Int), ()) (fun r6 => .v (r6.1, ())) (fun t1 => .v (t1.1, ())))))))
def xa a0 a1 a2 := (zIW a0 a1 a2).val
@[simp] def zQv (a0 : El zN) (a1 : El zF) (_a2 : El zA) : Prop := (∀ r ∈ a0.2, SzR r) ∧ (a1.1.1.length : Int) ≤ 40
abbrev zYM := gq [va zN, zEu, va zA] [zEu] (U3 zQv) (U3 xa)
theorem zke : Ok zYM (U3 zIW) := okG (an zaF (an zPw trivial)) (an @zLQ trivial) trivial
theorem ztP {a0 : El zN} {a1 : El zF} {a2 : El zA} (h : (∀ r ∈ a0.2, SzR r) ∧ (a1.1.1.length : Int) ≤ 40) : ((xa a0 a1 a2).1.1.1.length : Int) ≤ 40 := psG (T := zIW a0 a1 a2) (P := fun y => (y.1.1.1.length : Int) ≤ 40) (an zPw trivial) (an h (an @zLQ trivial)) trivial
def zXA := cn mo [zSJ, zQ2, zcs] [x4] 32 zYM Tryz.f32 (U3 zIW) zke
abbrev zNf (a0 : El zF) : Tr (Bool × Unit) := cond (a0.2.2.2.2.2.1 == (2 : Int)) (.v (true, ())) (cond (a0.2.2.2.2.2.1 == (4 : Int)) (.v (true, ())) (.v ((a0.2.2.2.2.2.1 == (6 : Int)), ())))
def zGt a0 := (zNf a0).val
abbrev zqG := fd [va zF] [vd .bool] (U1 zGt)
def zYm := cn mo [] [] 155 zqG Tryz.f155 (U1 zNf) (fun _ _ _ => by simp [zNf])
abbrev zGK : LB := ⟨[], ⟨43, [], [(1, vd .int), (6, vo zD), (7, vo zD), (8, vo zD), (9, vd .int)], []⟩, ⟨43, [], [], []⟩, 0, U5 fun (n1 : Int) (l6 l7 l8 : Li zD) (n9 : Int) => cond (decide (n9 < (l8.length : Int))) (.ix n9 l8 (cond (decide ((zB zD l8 n9).1 ≤ n1)) (.ix n9 l8 (.ck (((l6.length + [(zB zD l8 n9)].length : Nat) : Int) ≤ 16777216) (.ik (n9 + 1) (.v (.go (n1, (l6 ++ [(zB zD l8 n9)]), l7, l8, (n9 + 1), ())))))) (.ix n9 l8 (.ck (((l7.length + [(zB zD l8 n9)].length : Nat) : Int) ≤ 16777216) (.ik (n9 + 1) (.v (.go (n1, l6, (l7 ++ [(zB zD l8 n9)]), l8, (n9 + 1), ())))))))) (.v (.brk (n1, l6, l7, l8, n9, ())))⟩
def zU9 (n1 : Int) (l8 l6 l7 : Li zD) := rF (l := zGK) (L := l8) (fun i (s : (Li zD) × (Li zD)) => (n1, s.1, s.2, l8, i, ())) (fun i x s => bif (decide (x.1 ≤ n1)) then ((s.1 ++ [x]), s.2) else (s.1, (s.2 ++ [x]))) (l6, l7)
theorem zVd : SF zGK (U5 fun _ (l6 l7 l8 : Li zD) (n9 : Int) => (0 ≤ n9 ∧ (l6.length : Int) ≤ n9 ∧ (l7.length : Int) ≤ n9, (l8.length : Int) - n9)) := sfA
abbrev zLX (a0 : Li zD) (a1 : Int) : Tr (Li zD × Li zD × Unit) := .lp zGK (a1, ([] : Li zD), ([] : Li zD), (zAm a0).1, (0 : Int), ()) (fun _ => .bad) (fun t1 => .v (t1.2.1, t1.2.2.1, ()))
def zMf a0 a1 := (zLX a0 a1).val
abbrev zRS := gd [vd (.lst zD), vd .int] [vo zD, vo zD] (U2 zMf)
theorem zdA : Ok zRS (U2 zLX) := okG (an zVd (an zU9 trivial)) (an @zYl trivial) trivial
def zRL := cn mo [zQW] [zGK] 248 zRS Tryz.f248 (U2 zLX) zdA
abbrev zTE (a0 : El zC) (a1 : Int) : Tr (Bool × Unit) := cond (a0.2.2.1 == (1 : Int)) (.v (decide (a0.2.2.2.2.1 ≤ a1), ())) (cond (a0.2.2.1 == (2 : Int)) (.v (decide (a0.2.2.2.2.1 ≤ a1), ())) (.v (false, ())))
def zTD a0 a1 := (zTE a0 a1).val
abbrev zmK := fd [va zC, vd .int] [vd .bool] (U2 zTD)
def zlm := cn mo [] [] 319 zmK Tryz.f319 (U2 zTE) (fun _ _ _ => by simp [zTE])
def vF (F : Int → ByteArray × Unit) (Q : Int → Prop) (a0 : Int) : Tr (ByteArray × Unit) := cond (decide (a0 < (0 : Int))) (.ik (0 - a0) (.ck (Q (0 - a0)) (.ck ((((⟨#[45]⟩ : ByteArray).size + (F (0 - a0)).1.size : Nat) : Int) ≤ 9223372036854775807) (.v (((⟨#[45]⟩ : ByteArray) ++ (F (0 - a0)).1), ()))))) (cond (decide (a0 < (10 : Int))) (.ik ((48 : Int) + a0) (.v ((strOfNums [(IntKind.wrap .u8 ((48 : Int) + a0))]), ()))) (let k2 := Int.tdiv a0 (10 : Int); .ck ((10 : Int) ≠ 0 ∧ InK .i64 k2) (.ck (Q k2) (let y1 := (F k2); .ck ((10 : Int) ≠ 0) (let k1 := (48 : Int) + (Int.tmod a0 (10 : Int)); .ik k1 (let k3 := strOfNums [(IntKind.wrap .u8 k1)]; .ck (((y1.1.size + k3.size : Nat) : Int) ≤ 9223372036854775807) (.v ((y1.1 ++ k3), ()))))))))
def xW : Nat → (Int → ByteArray × Unit) × (Int → Prop)
 | 0 => (fun _ => default, fun _ => False)
 | n + 1 => (fun a0 => (vF (xW n).1 (xW n).2 a0).val, fun a0 => (vF (xW n).1 (xW n).2 a0).ok)
def zGc (n : Nat) : Int → ByteArray × Unit := (xW n).1
def zIP (n : Nat) : Int → Prop := (xW n).2
abbrev zNV (n : Nat) : FnD := ⟨[vd .int], [vd .str], true, fun a => some (zIP n a.1), fun a => zGc n a.1⟩
def zp8 (n : Nat) (ih : zKC Tryz.prog 385 (zNV n)) : List (Con Tryz.prog) := ⟨385, zNV n, ih⟩ :: []
theorem zcH : ∀ n, zKC Tryz.prog 385 (zNV n)
 | 0 => ztN (by kernel_rfl) (fn := Tryz.f385) (by kernel_rfl) (c := (Tryz.f385.body.getD .skip)) (by kernel_rfl) (by kernel_rfl) fun _ h => h
 | n + 1 => zc0 mo g0 (zp8 n (zcH n)) [] (fn := Tryz.f385) (by kernel_rfl) (c := (Tryz.f385.body.getD .skip)) (by kernel_rfl) (by kernel_rfl) (zNV (n + 1)) (by kernel_rfl) trivial (fun a _ h => okT (t' := vF (zGc n) (zIP n) a.1) (by kernel_rfl) h rfl)
def zon : Con Tryz.prog := ⟨385, zNV 64, zcH 64⟩
theorem zVj (n : Int) : (strOfNums [n]).size = 1 := rfl
theorem zQZ : ∀ (n : Nat) (a : Int), 0 ≤ a → a < 10 ^ (n + 1) → n < 1000 ∧ a ≤ 9223372036854775807 → zIP (n + 1) a ∧ (zGc (n + 1) a).1.size ≤ n + 1
 | 0, a, h0, h1, _ => by
  have h1 : a < 10 := by simpa using h1
  have d1 : decide (a < (0 : Int)) = false := decide_eq_false (by omega)
  have d2 : decide (a < (10 : Int)) = true := decide_eq_true h1
  refine ⟨?_, ?_⟩
  ·show (vF (xW 0).1 (xW 0).2 a).ok
   unfold vF; rw [d1, d2]; simp; omega
  ·show (vF (xW 0).1 (xW 0).2 a).val.1.size ≤ _
   unfold vF; rw [d1, d2]; simp [zVj]
 | n + 1, a, h0, h1, hn => by
  have d1 : decide (a < (0 : Int)) = false := decide_eq_false (by omega)
  by_cases h : a < 10
  ·have d2 : decide (a < (10 : Int)) = true := decide_eq_true h
   refine ⟨?_, ?_⟩
   ·show (vF (xW (n + 1)).1 (xW (n + 1)).2 a).ok
    unfold vF; rw [d1, d2]; simp; omega
   ·show (vF (xW (n + 1)).1 (xW (n + 1)).2 a).val.1.size ≤ _
    unfold vF; rw [d1, d2]; simp [zVj]
  ·have d2 : decide (a < (10 : Int)) = false := decide_eq_false h
   have e1 : Int.tdiv a 10 = a / 10 := Int.tdiv_eq_ediv_of_nonneg h0
   have e2 : Int.tmod a 10 = a % 10 := Int.tmod_eq_emod_of_nonneg h0
   have hp : (10 : Int) ^ (n + 1 + 1) = 10 * 10 ^ (n + 1) := by rw [Int.pow_succ, Int.mul_comm]
   obtain ⟨i1, i2⟩ := zQZ n (a / 10) (by omega) (by rw [hp] at h1; omega) (by omega)
   refine ⟨?_, ?_⟩
   ·show (vF (xW (n + 1)).1 (xW (n + 1)).2 a).ok
    have i2 : ((xW (n + 1)).1 (a / 10)).1.size ≤ n + 1 := i2
    unfold vF; rw [d1, d2, e1, e2]; simp [zVj]
    exact ⟨⟨by omega, by omega⟩, i1, ⟨by omega, by omega⟩, by omega⟩
   ·show (vF (xW (n + 1)).1 (xW (n + 1)).2 a).val.1.size ≤ _
    have i2 : ((xW (n + 1)).1 (a / 10)).1.size ≤ n + 1 := i2
    unfold vF; rw [d1, d2, e1]; simp [zVj]
    omega
theorem zbW {a : Int} (h1 : -9223372036854775808 < a) (h2 : a ≤ 9223372036854775807) : zIP 64 a ∧ (zGc 64 a).1.size ≤ 64 := by
 have e : (9223372036854775807 : Int) < 10 ^ (62 + 1) := by decide
 by_cases h : a < 0
 ·have d1 : decide (a < (0 : Int)) = true := decide_eq_true h
  obtain ⟨i1, i2⟩ := zQZ 62 (0 - a) (by omega) (by omega) (by omega)
  replace i2 : (zGc 63 (0 - a)).1.size ≤ 63 := i2
  refine ⟨?_, ?_⟩
  ·show (vF (zGc 63) (zIP 63) a).ok
   unfold vF; rw [d1]; simp only [cond_true]
   refine ⟨ink (by omega) (by omega), i1, ?_, trivial⟩
   have : (⟨#[45]⟩ : ByteArray).size = 1 := rfl
   omega
  ·show (vF (zGc 63) (zIP 63) a).val.1.size ≤ 64
   unfold vF; rw [d1]; simp only [cond_true, ze, zY]
   rw [ByteArray.size_append]
   have : (⟨#[45]⟩ : ByteArray).size = 1 := rfl
   omega
 ·obtain ⟨i1, i2⟩ := zQZ 63 a (by omega) (by omega) (by omega)
  exact ⟨i1, i2⟩
abbrev zKQ (a0 : El zL) : Tr (ByteArray × Unit) := cond (a0.1 == (1 : Int)) (.ck (zIP 64 a0.2.1) (.v ((zGc 64 a0.2.1).1, ()))) (.ck ((((⟨#[39]⟩ : ByteArray).size + a0.2.2.size : Nat) : Int) ≤ 9223372036854775807) (let k1 := (⟨#[39]⟩ : ByteArray) ++ a0.2.2; .ck (((k1.size + (⟨#[39]⟩ : ByteArray).size : Nat) : Int) ≤ 9223372036854775807) (.v ((k1 ++ (⟨#[39]⟩ : ByteArray)), ()))))
def zPP a0 := (zKQ a0).val
@[simp] def zbc (a0 : El zL) : Prop := Vl a0.2.1 a0.2.2
abbrev za3 := fq [va zL] [vd .str] (U1 zbc) (U1 zPP)
theorem zma : Ok za3 (U1 zKQ) := fun a hw hp => by
 obtain ⟨h1, h2, h3⟩ : _ ∧ _ ∧ _ := hp
 have n := zbW h1 h2
 show (zKQ a.1).ok
 have e : (⟨#[39]⟩ : ByteArray).size = 1 := rfl
 simp [ByteArray.size_append, n.1, e]
 omega
theorem zbH {a0 : El zL} (h : Vl a0.2.1 a0.2.2) : ((zPP a0).1.size : Int) ≤ 2000 := by
 obtain ⟨h1, h2, h3⟩ := h
 have n := zbW h1 h2
 have e : (⟨#[39]⟩ : ByteArray).size = 1 := rfl
 simp only [zPP, zKQ, z0, ze, zY]
 cases (a0.1 == (1 : Int)) <;> simp [ByteArray.size_append, e] <;> omega
def zne := cn mo [zon] [] 364 za3 Tryz.f364 (U1 zKQ) zma
abbrev zE8 : LB := ⟨[], ⟨24, [], [(0, vd (.lst zL)), (3, vd .str), (4, vd .int)], []⟩, ⟨24, [], [], []⟩, 0, U3 fun (l0 : Li zL) (s3 : ByteArray) (n4 : Int) => cond (decide (n4 < (l0.length : Int))) (let k1 := zbc (zB zL l0 n4); let k2 := zPP (zB zL l0 n4); cond (decide (n4 > 0)) (.ck (((s3.size + (⟨#[44]⟩ : ByteArray).size : Nat) : Int) ≤ 9223372036854775807) (.ix n4 l0 (.ck k1 (let y1 := k2; let k3 := s3 ++ (⟨#[44]⟩ : ByteArray); .ck (((k3.size + y1.1.size : Nat) : Int) ≤ 9223372036854775807) (.ik (n4 + 1) (.v (.go (l0, (k3 ++ y1.1), (n4 + 1), ())))))))) (.ix n4 l0 (.ck k1 (let y1 := k2; .ck (((s3.size + y1.1.size : Nat) : Int) ≤ 9223372036854775807) (.ik (n4 + 1) (.v (.go (l0, (s3 ++ y1.1), (n4 + 1), ())))))))) (.v (.brk (l0, s3, n4, ())))⟩
theorem zKc : PO zE8 (fun _ _ => False) (U3 fun (l00 : Li zL) _ _ => U3 fun (l0 : Li zL) (s3 : ByteArray) (n4 : Int) => l0 = l00 ∧ ((s3.size : Int) ≤ 1 + 2001 * n4 ∧ 0 ≤ n4 ∧ n4 ≤ (l0.length : Int) ∧ (l0.length : Int) ≤ 100) ∧ (∀ v ∈ l0, Vl v.2.1 v.2.2)) := poG trivial (an @zbH (an @zV trivial)) trivial
theorem zTL : SF zE8 (U3 fun (l0 : Li zL) (s3 : ByteArray) (n4 : Int) => (0 ≤ n4 ∧ (s3.size : Int) ≤ 1 + 2001 * n4 ∧ (l0.length : Int) ≤ 100 ∧ (∀ v ∈ l0, Vl v.2.1 v.2.2), (l0.length : Int) - n4)) := sfG trivial (an @zbH (an @zV trivial)) trivial
abbrev zGP (a0 : Li zL) : Tr (ByteArray × Unit) := .lp zE8 (a0, (⟨#[40]⟩ : ByteArray), (0 : Int), ()) (fun _ => .bad) (fun t1 => .ck (((t1.2.1.size + (⟨#[41]⟩ : ByteArray).size : Nat) : Int) ≤ 9223372036854775807) (.v ((t1.2.1 ++ (⟨#[41]⟩ : ByteArray)), ())))
def zGI a0 := (zGP a0).val
@[simp] def zPf (a0 : Li zL) : Prop := (a0.length : Int) ≤ 100 ∧ ∀ v ∈ a0, Vl v.2.1 v.2.2
abbrev zPr := fq [vd (.lst zL)] [vd .str] (U1 zPf) (U1 zGI)
theorem zZG : Ok zPr (U1 zGP) := okG (an zTL (an zKc trivial)) (an @zV trivial) trivial
theorem zZa {a0 : Li zL} (h : (a0.length : Int) ≤ 100 ∧ ∀ v ∈ a0, Vl v.2.1 v.2.2) : ((zGI a0).1.size : Int) ≤ 300000 := psG (T := zGP a0) (P := fun y => (y.1.size : Int) ≤ 300000) (an zKc trivial) (an h (an @zV trivial)) trivial
def zaK := cn mo [zne] [zE8] 324 zPr Tryz.f324 (U1 zGP) zZG
abbrev zOF (a0 : El zK) : Tr (ByteArray × Unit) := cond (!(xi a0).1) (.v ((⟨#[]⟩ : ByteArray), ())) (.ck (zPf a0.2) (.ck (((a0.1.size + (zGI a0.2).1.size : Nat) : Int) ≤ 9223372036854775807) (.v ((a0.1 ++ (zGI a0.2).1), ()))))
def zTq a0 := (zOF a0).val
abbrev zT5 := fd [va zK] [vd .str] (U1 zTq)
theorem zgr : Ok zT5 (U1 zOF) := okG trivial (an @zTX (an @zZa trivial)) trivial
def zfh := cn mo [zFy, zaK] [] 254 zT5 Tryz.f254 (U1 zOF) zgr
def xl (a0 : El zK) : ByteArray × Unit := ((zTq a0).1, ())
abbrev zjt := fd [va zK] [vd .str] (U1 xl)
def zI2 := cv mo [zfh] 158 zjt Tryz.f158
def zFG (l : Li zC) (k : ByteArray) : Prop := ∃ t ∈ l, (xl t.1).1.toList = k.toList
theorem zBw {l : Li zC} {i : Int} {x : El zC} {k : ByteArray} (hx : x.1 = (zB zC l i).1) (h : zFG l k) : zFG (List.set l i.toNat x) k := by
 obtain ⟨t, ht, g⟩ := h
 obtain ⟨j, hj⟩ := List.getElem?_of_mem ht
 by_cases e : i.toNat = j
 ·subst e
  have hl := (List.getElem?_eq_some_iff.1 hj).1
  have h2 : zB zC l i = t := by unfold zB; rw [List.getD_eq_getElem?_getD, hj]; rfl
  refine ⟨x, List.mem_of_getElem? (List.getElem?_set_self hl), ?_⟩
  rw [hx, h2]; exact g
 ·exact ⟨t, List.mem_of_getElem? (by rw [List.getElem?_set_ne e]; exact hj), g⟩
abbrev zJE : LB := ⟨[], ⟨39, [], [(1, vd .int), (2, vd .int), (7, vd .int), (8, vd .int)], []⟩, ⟨39, [], [], []⟩, 0, U4 fun (n1 n2 n7 n8 : Int) => let k1 := .brk (n1, n2, n7, n8, ()); cond (decide (n8 < n1)) (cond (decide (n7 < n2)) (.ik ((2 : Int) * n7) (.ik (n8 + 1) (.v (.go (n1, n2, ((2 : Int) * n7), (n8 + 1), ()))))) (.v k1)) (.v k1)⟩
theorem zQD : PO zJE (fun _ _ => False) (U4 fun (n10 n20 : Int) _ _ => U4 fun (n1 n2 n7 : Int) _ => n1 = n10 ∧ n2 = n20 ∧ (0 ≤ n7 ∧ n7 ≤ 200000 ∧ n2 ≤ 100000)) := poG trivial trivial trivial
theorem zZ7 : SF zJE (U4 fun (n1 n2 n7 n8 : Int) => (0 ≤ n8 ∧ (0 ≤ n7 ∧ n7 ≤ 200000) ∧ n2 ≤ 100000, n1 - n8)) := sfG trivial trivial trivial
abbrev zL6 (a0 a1 a2 : Int) : Tr (Int × Unit) := cond (!(z6 a0 1 100000).1) (.v ((0 : Int), ())) (cond (!(z6 a2 1 100000).1) (.v ((0 : Int), ())) (cond (decide (a1 < (0 : Int))) (.v ((0 : Int), ())) (.lp zJE (a1, a2, a0, (0 : Int), ()) (fun _ => .bad) (fun t1 => cond (decide (@GT.gt Int _ t1.2.2.1 t1.2.1)) (.v (t1.2.1, ())) (.v (t1.2.2.1, ()))))))
def zLC a0 a1 a2 := (zL6 a0 a1 a2).val
abbrev zX1 := fd [vd .int, vd .int, vd .int] [vd .int] (U3 zLC)
theorem zh5 : Ok zX1 (U3 zL6) := okG (an zZ7 (an zQD trivial)) (an @zBK trivial) trivial
theorem zjS {a0 : Int} {a1 : Int} {a2 : Int} : 0 ≤ (zLC a0 a1 a2).1 ∧ (zLC a0 a1 a2).1 ≤ 200000 := psG (T := zL6 a0 a1 a2) (P := fun y => 0 ≤ y.1 ∧ y.1 ≤ 200000) (an zQD trivial) (an @zBK trivial) trivial
def zif := cn mo [zAQ] [zJE] 320 zX1 Tryz.f320 (U3 zL6) zh5
abbrev zBn : LB := ⟨[], ⟨84, [], [(0, vo zC), (1, vd .int), (6, vo zEb), (7, vo .str), (8, vd .int)], []⟩, ⟨84, [], [], []⟩, 0, U5 fun (l0 : Li zC) (n1 : Int) (l6 : Li zEb) (l7 : Li .str) (n8 : Int) => cond (decide (n8 < (l0.length : Int))) (.ix n8 l0 (let k5 := IntKind.wrap .i64 (n8 + 1); cond (!(zTD (zB zC l0 n8) n1).1) (.v (.go (l0, n1, l6, l7, k5, ()))) (cond ((zB zC l0 n8).2.2.2.1 == (4 : Int)) (let k4 := List.set l0 (Int.toNat n8) ((zB zC l0 n8).1, ((zB zC l0 n8).2.1, ((4 : Int), (zB zC l0 n8).2.2.2))); let y1 := (xl (zB zC k4 n8).1); .ck (((l7.length + [y1.1].length : Nat) : Int) ≤ 16777216) (.v (.go (k4, n1, l6, (l7 ++ [y1.1]), k5, ())))) (let k3 := List.set l0 (Int.toNat n8) ((zB zC l0 n8).1, ((zB zC l0 n8).2.1, ((zB zC l0 n8).2.2.1, ((IntKind.wrap .i64 ((zB zC l0 n8).2.2.2.1 + (1 : Int))), (zB zC l0 n8).2.2.2.2)))); let k1 := List.set k3 (Int.toNat n8) ((zB zC k3 n8).1, ((zB zC k3 n8).2.1, ((2 : Int), (zB zC k3 n8).2.2.2))); let y1 := (zLC 2 (zB zC k1 n8).2.2.2.1 (60 : Int)); let k2 := List.set k1 (Int.toNat n8) ((zB zC k1 n8).1, ((zB zC k1 n8).2.1, ((zB zC k1 n8).2.2.1, ((zB zC k1 n8).2.2.2.1, ((IntKind.wrap .i64 (n1 + y1.1)), (zB zC k1 n8).2.2.2.2.2))))); let y2 := (xl (zB zC k2 n8).1); let y3 := (yo (zB zC k2 n8).1); let k6 := (y2.1, (y3.1, (zB zC k2 n8).2.2.2.1)); .ck (((l6.length + [k6].length : Nat) : Int) ≤ 16777216) (.v (.go (k2, n1, (l6 ++ [k6]), l7, k5, ()))))))) (.v (.brk (l0, n1, l6, l7, n8, ())))⟩
theorem zaX : PO zBn (fun _ _ => False) (U5 fun _ (n10 : Int) _ _ _ => U5 fun _ (n1 : Int) _ _ _ => n1 = n10) := poG trivial (an @zjS (an @zso (an @zWg trivial))) trivial
theorem zZJ : SF zBn (U5 fun (l0 : Li zC) _ (l6 : Li zEb) (l7 : Li .str) (n8 : Int) => ((0 ≤ n8 ∧ n8 ≤ (l0.length : Int)) ∧ ((l6.length : Int) ≤ n8 ∧ (l7.length : Int) ≤ n8), (l0.length : Int) - n8)) := by
 refine sfk fun x hI hw => ?_
 have hb := SD.Bd.of hw
 clear hw
 obtain ⟨l0, n1, l6, l7, n8, ⟨⟩⟩ := x
 simp only [SD.Bd, BdB, BdR, AD.Bd, Bd, lim, U5] at hb hI ⊢
 obtain ⟨hl, _⟩ := hb
 replace hl : (l0.length : Int) ≤ 16777216 := hl
 obtain ⟨⟨h1, h2⟩, h3, h4⟩ : (0 ≤ (n8 : Int) ∧ (n8 : Int) ≤ (l0.length : Int)) ∧ (l6.length : Int) ≤ (n8 : Int) ∧ (l7.length : Int) ≤ (n8 : Int) := hI
 revert h1 h2 h3 h4
 generalize hn : (n8 : Int) = n
 intro h1 h2 h3 h4
 refine ⟨by omega, ?_⟩
 refine xI (fun c => ?_) (fun _ => trivial)
 replace c := of_decide_eq_true c
 refine z7 ⟨h1, c⟩ (xI (fun _ => ?_) (fun _ => xI (fun _ => ?_) (fun _ => ?_)))
 ·exact zpA h1 c hl (zHF c hl h3).2.2 (zHF c hl h4).2.2
 ·refine z7 ?_ ?_
  ·exact (zHF c hl h4).1
  ·show _ ∧ _
   simp only [List.length_set, List.length_append, List.length_singleton]
   exact zpA h1 c hl (zHF c hl h3).2.2 (zHF c hl h4).2.1
 ·refine z7 ?_ ?_
  ·exact (zHF c hl h3).1
  ·show _ ∧ _
   simp only [List.length_set, List.length_append, List.length_singleton]
   exact zpA h1 c hl (zHF c hl h3).2.1 (zHF c hl h4).2.2
abbrev zQL (a0 : Li zC) (a1 : Int) : Tr (Li zEb × Li .str × Li zC × Unit) := .lp zBn (a0, a1, ([] : Li zEb), ([] : Li .str), (0 : Int), ()) (fun _ => .bad) (fun t1 => .v (t1.2.2.1, t1.2.2.2.1, t1.1, ()))
def vG a0 a1 := (zQL a0 a1).val
abbrev zW8 := gd [vo zC, vd .int] [vo zEb, vo .str, vo zC] (U2 vG)
theorem zjT : Ok zW8 (U2 zQL) := okG (an zZJ (an zaX trivial)) (an @zso (an @zWg trivial)) trivial
def zjE : Gv := ⟨true, fun _ => none, false⟩
abbrev zjk : LnD := ⟨zW8, 0⟩
def zXx : LCon Tryz.prog := zuU mo zjE [zlm, zI2, zif, zAp] [zBn] [] [] 249 zjk (fn := Tryz.f249) ⟨lk, trivial⟩ (fun a hw h => okT (by kernel_rfl) (zjT a hw h) rfl)
theorem ziJ (l : Li zC) {i : Int} (h1 : 0 < l.length) (h2 : i < (l.length : Int)) : zFG l (xl (zB zC l i).1).1 := by
 have : i.toNat < l.length := by omega
 refine ⟨zB zC l i, ?_, rfl⟩
 unfold zB
 rw [List.getD_eq_getElem?_getD, List.getElem?_eq_getElem this]
 exact List.getElem_mem this
theorem zu1 {n : Int} {m : Nat} (h : n = 0 ∨ 0 < m) (g : n < (m : Int)) : 0 < m := by omega
theorem zQy (l : Li zC) (n : Int) : ∀ k ∈ (vG l n).2.1, zFG (vG l n).2.2.1 k := by
 have : (zBn.run (l, n, ([] : Li zEb), ([] : Li .str), (0 : Int), ())).all (fun _ => True) (fun x => (@Eq Int x.2.2.2.2.1 0 ∨ 0 < x.1.length) ∧ ∀ k ∈ x.2.2.2.1, zFG x.1 k) (fun x => (@Eq Int x.2.2.2.2.1 0 ∨ 0 < x.1.length) ∧ ∀ k ∈ x.2.2.2.1, zFG x.1 k) := by
  refine LB.post (l := zBn) (fun x => (@Eq Int x.2.2.2.2.1 0 ∨ 0 < x.1.length) ∧ ∀ k ∈ x.2.2.2.1, zFG x.1 k) (fun x hI => ?_) ⟨.inl rfl, fun k hk => by cases hk⟩
  obtain ⟨l0, n1, l6, l7, n8, ⟨⟩⟩ := x
  simp only [LB.b, zBn, z0, ze, zY, U5]
  cases c : decide (n8 < (l0.length : Int)) with
  | false => exact hI
  | true =>
   have hc : n8 < (l0.length : Int) := of_decide_eq_true c
   have h0 : 0 < l0.length := zu1 hI.1 hc
   have hk := hI.2
   simp only [cond_true]
   cases (!(zTD (zB zC l0 n8) n1).1) with
   | true => exact ⟨.inr h0, hk⟩
   | false =>
    simp only [cond_false]
    cases ((zB zC l0 n8).2.2.2.1 == (4 : Int)) with
    | true =>
     refine ⟨.inr (by simp only [List.length_set]; exact h0), fun k h => ?_⟩
     rcases List.mem_append.1 h with h | h
     ·exact zBw rfl (hk k h)
     ·rw [List.mem_singleton.1 h]
      exact ziJ _ (by rw [List.length_set]; exact h0) (by rw [List.length_set]; exact hc)
    | false =>
     refine ⟨.inr (by simp only [List.length_set]; exact h0), fun k h => ?_⟩
     refine zBw ?_ (zBw ?_ (zBw ?_ (hk k h)))
     ·rfl
     ·rfl
     ·rfl
 simp only [vG, zQL, ze, zY, zq]
 revert this
 cases (zBn.run (l, n, ([] : Li zEb), ([] : Li .str), (0 : Int), ())) with
 | ret r => intro _ k h; cases h
 | brk t => intro h; exact h.2
 | go t => intro h; exact h.2
abbrev zFf : LB := ⟨[], ⟨21, [], [(0, vd (.lst zC)), (1, vd .str), (5, vd .int)], []⟩, ⟨21, [], [(4, vd .int)], []⟩, 0, U3 fun (l0 : Li zC) (s1 : ByteArray) (n5 : Int) => cond (decide (n5 < (l0.length : Int))) (.ix n5 l0 (cond ((xl (zB zC l0 n5).1).1.toList == s1.toList) (.v (.ret (n5, ()))) (.ik (n5 + 1) (.v (.go (l0, s1, (n5 + 1), ())))))) (.v (.brk (l0, s1, n5, ())))⟩
def zdl (l0 : Li zC) (s1 : ByteArray) := rS (l := zFf) (L := l0) (fun i => (l0, s1, i, ())) (fun i x => bif ((xl x.1).1.toList == s1.toList) then (some ((i : Int), ())) else none)
theorem zeB : PO zFf (U3 fun (l00 : Li zC) _ _ => fun r => r.1 < (l00.length : Int)) (U3 fun (l00 : Li zC) (s10 : ByteArray) _ => U3 fun (l0 : Li zC) (s1 : ByteArray) _ => l00 = l0 ∧ s10 = s1) := poA
theorem zdN : SF zFf (U3 fun (l0 : Li zC) _ (n5 : Int) => (0 ≤ n5, (l0.length : Int) - n5)) := sfA
abbrev zKe (a0 : Li zC) (a1 : ByteArray) : Tr (Int × Unit) := .lp zFf (a0, a1, (0 : Int), ()) (fun r2 => .v (r2.1, ())) (fun _ => .v ((-1 : Int), ()))
def yD a0 a1 := (zKe a0 a1).val
abbrev zcG := fd [vd (.lst zC), vd .str] [vd .int] (U2 yD)
theorem zoJ : Ok zcG (U2 zKe) := vN zdN
def zKX := cn mo [zI2] [zFf] 250 zcG Tryz.f250 (U2 zKe) zoJ
def zbY (a0 : Li zC) (a1 : ByteArray) := (by
 simp only [yD, zKe, zY, zq, ze]
 rewrite [zdl, xH]
 dsimp only : yD a0 a1 = _)
theorem zFc (l : Li zC) (s : ByteArray) : (yD l s).1 < (l.length : Int) := by
 simp only [yD, zKe, ze, zY, zq]
 have := zeB (l, s, (0 : Int), ()) ⟨rfl, rfl⟩
 revert this
 cases (LB.run zFf (l, s, (0 : Int), ())) with
 | ret r => intro h; exact h
 | brk t => intro _; show (-1 : Int) < _; omega
 | go t => intro _; show (-1 : Int) < _; omega
theorem zbE {l : Li zC} {k : ByteArray} (h : zFG l k) : 0 ≤ (yD l k).1 := by
 rw [zbY]
 obtain ⟨t, ht, g⟩ := h
 cases e : vX (fun i x => bif ((xl x.1).1.toList == k.toList) then some ((i : Int), ()) else none) 0 l with
 | some r =>
  have := zer (fun _ (x : El zC) => (xl x.1).1.toList == k.toList) _ (fun _ _ => rfl) l 0 r e
  exact this.1
 | none =>
  exfalso
  have : ∀ (l : Li zC) (n : Nat), t ∈ l → vX (fun i x => bif ((xl x.1).1.toList == k.toList) then some ((i : Int), ()) else none) n l ≠ none := by
   intro l
   induction l with
   | nil => intro n h; cases h
   | cons y l ih =>
    intro n hm
    simp only [vX]
    cases c : ((xl y.1).1.toList == k.toList) with
    | true => simp
    | false =>
     simp only [cond_false]
     rcases List.mem_cons.1 hm with rfl | hm
     ·rw [g] at c; simp at c
     ·exact ih _ hm
  exact this l 0 ht e
theorem zFe {l : Li zC} {L : Li .str} {i : Int} (h : ∀ k ∈ L, zFG l k) (h1 : 0 ≤ i) (h2 : i < (L.length : Int)) : 0 ≤ (yD l (zB .str L i)).1 := zbE (h _ (zV ⟨h1, h2⟩))
theorem zjp {l : Li zC} {k : ByteArray} (h : 0 ≤ (yD l k).1) : zFG l k := by
 rw [zbY] at h
 cases e : vX (fun i x => bif ((xl x.1).1.toList == k.toList) then some ((i : Int), ()) else none) 0 l with
 | none => rw [e] at h; exact absurd h (by decide)
 | some r =>
  obtain ⟨i, x, hx, hy⟩ := za2 e
  refine ⟨x, hx, ?_⟩
  cases c : ((xl x.1).1.toList == k.toList) with
  | true => simpa using c
  | false => rw [c] at hy; cases hy
def zB2 (a0 : El zK) (a1 : ByteArray) (a2 : El zL) : El zK × Unit := ((a0.1, [((2 : Int), ((0 : Int), a1)), a2]), ())
abbrev zef := fd [va zK, vd .str, va zL] [.val true (.pr (.d .str) (.o (.d zL)))] (U3 zB2)
def zHa := cv mo [] 321 zef Tryz.f321
abbrev zJg : LB := ⟨[], ⟨28, [], [(0, vd (.lst zP)), (3, vo zP), (4, vd .int)], []⟩, ⟨28, [], [], []⟩, 0, U3 fun (l0 l3 : Li zP) (n4 : Int) => cond (decide (n4 < (l0.length : Int))) (.ix n4 l0 (.ix n4 l0 (let y1 := (yo (zB zP l0 n4).2); let k1 := ((zB zP l0 n4).1, y1.1); .ck (((l3.length + [k1].length : Nat) : Int) ≤ 16777216) (.ik (n4 + 1) (.v (.go (l0, (l3 ++ [k1]), (n4 + 1), ()))))))) (.v (.brk (l0, l3, n4, ())))⟩
def zP2 (l0 l3 : Li zP) := rF (l := zJg) (L := l0) (fun i (s : (Li zP)) => (l0, s, i, ())) (fun i x s => (s ++ [(x.1, (yo x.2).1)])) l3
theorem zZY : SF zJg (U3 fun (l0 l3 : Li zP) (n4 : Int) => (0 ≤ n4 ∧ (l3.length : Int) ≤ n4, (l0.length : Int) - n4)) := sfA
abbrev zMC (a0 : Li zP) : Tr (Li zP × Unit) := .lp zJg (a0, ([] : Li zP), (0 : Int), ()) (fun _ => .bad) (fun t1 => .v (t1.2.1, ()))
def zAi a0 := (zMC a0).val
abbrev zXb := gd [vd (.lst zP)] [vo zP] (U1 zAi)
theorem zjG : Ok zXb (U1 zMC) := zNF zZY zP2
def zQ1 := cn mo [zAp] [zJg] 99 zXb Tryz.f99 (U1 zMC) zjG
def zXB (a0 : Li zP) := (by
 simp only [zAi, zMC, zY, zq, ze]
 rewrite [zP2, xL]
 dsimp only : zAi a0 = _)
theorem zXl (l : List _) : ((zAi l).1).length = l.length := by
 rw [zXB]; simp [vM]
abbrev zQU (a0 : Li zP) : Tr (Li zP × Unit) := let k1 := ((zAi a0).1.length : Int); cond (decide (k1 > (0 : Int))) (.ik (k1 - (1 : Int)) (.ck (0 ≤ (k1 - (1 : Int)) ∧ (k1 - (1 : Int)) ≤ k1) (.v ((List.take (k1 - (1 : Int)).toNat (zAi a0).1), ())))) (.v ((zAi a0).1, ()))
def zQw a0 := (zQU a0).val
abbrev zW1 := gd [vd (.lst zP)] [vo zP] (U1 zQw)
theorem zi4 : Ok zW1 (U1 zQU) := okG trivial (an @zXl trivial) trivial
def zWF := cn mo [zQ1] [] 363 zW1 Tryz.f363 (U1 zQU) zi4
def zIR (a0 : El zF) : El zF × Unit := ((zCw (a0.1, (a0.2.1, (a0.2.2.1, (a0.2.2.2.1, ((zQw a0.2.2.2.2.1).1, a0.2.2.2.2.2)))))).1, ())
abbrev zjH := gd [zEu] [zEu] (U1 zIR)
theorem zQe {a0 : El zF} : (zIR a0).1.1 = a0.1 := by
 have F := (an @zNe trivial)
 unfold zIR
 simp (maxDischargeDepth := 12) [*]
def zYS := cv mo [zWF, zOQ] 322 zjH Tryz.f322
abbrev zGU : LB := ⟨[], ⟨38, [.pr (.pr (.o (.d zD)) (.d .int)) (.pr (.o (.d zA)) (.pr (.o (.d zC)) (.pr (.o (.d zD)) (.pr (.o (.d zP)) (.d (.pr .int .int))))))], [(0, .pt 0 0), (1, vd (.lst .str)), (2, vd (.lst zK)), (6, vd .int), (7, vd .int)], []⟩, ⟨38, [.pr (.pr (.o (.d zD)) (.d .int)) (.pr (.o (.d zA)) (.pr (.o (.d zC)) (.pr (.o (.d zD)) (.pr (.o (.d zP)) (.d (.pr .int .int))))))], [], []⟩, 0, U6 fun (w0 : El zF) _ (l1 : Li .str) (l2 : Li zK) (n6 n7 : Int) => let k1 := .brk (w0, (), l1, l2, n6, n7, ()); cond (decide (n7 < (l1.length : Int))) (cond (w0.2.2.2.2.2.1 == n6) (cond (n6 == 1) (.ix n7 l2 (.ik (n7 + 1) (.v (.go ((xB w0 (zB2 (zB zK l2 n7) (⟨#[110, 111]⟩ : ByteArray) ((1 : Int), ((0 : Int), (⟨#[]⟩ : ByteArray)))).1).1, (), l1, l2, n6, (n7 + 1), ()))))) (.ik (n7 + 1) (.v (.go ((zIR w0).1, (), l1, l2, n6, (n7 + 1), ()))))) (.v k1)) (.v k1)⟩
theorem zMq : PO zGU (fun _ _ => False) (U6 fun _ _ (l10 : Li .str) (l20 : Li zK) (n60 : Int) _ => U6 fun (w0 : El zF) _ (l1 : Li .str) (l2 : Li zK) (n6 : Int) _ => l1 = l10 ∧ l2 = l20 ∧ n6 = n60 ∧ (w0.1.1.length : Int) ≤ 40) := poG trivial (an @zA0 (an @zQe trivial)) trivial
theorem zVc : SF zGU (U6 fun (w0 : El zF) _ (l1 : Li .str) (l2 : Li zK) _ (n7 : Int) => (0 ≤ n7 ∧ (l1.length : Int) ≤ (l2.length : Int) ∧ (w0.1.1.length : Int) ≤ 40, (l1.length : Int) - n7)) := sfG trivial (an @zA0 (an @zQe trivial)) trivial
abbrev zHV (a0 : El zF) (a1 : Li .str) (a2 : Li zK) : Tr (El zF × Unit) := .lp zGU (a0, (), a1, a2, a0.2.2.2.2.2.1, (0 : Int), ()) (fun r3 => .v (r3.1, ())) (fun t1 => .v (t1.1, ()))
def zFR a0 a1 a2 := (zHV a0 a1 a2).val
@[simp] def zHX (a0 : El zF) (a1 : Li .str) (a2 : Li zK) : Prop := (a0.1.1.length : Int) ≤ 40 ∧ (a1.length : Int) ≤ (a2.length : Int)
abbrev zSP := gq [zEu, vd (.lst .str), vd (.lst zK)] [zEu] (U3 zHX) (U3 zFR)
theorem zem : Ok zSP (U3 zHV) := okG (an zVc (an zMq trivial)) trivial trivial
theorem zrF {a0 : El zF} {a1 : Li .str} {a2 : Li zK} (h : (a0.1.1.length : Int) ≤ 40 ∧ (a1.length : Int) ≤ (a2.length : Int)) : ((zFR a0 a1 a2).1.1.1.length : Int) ≤ 40 := psG (T := zHV a0 a1 a2) (P := fun y => (y.1.1.1.length : Int) ≤ 40) (an zMq trivial) (an h trivial) trivial
def zdM := cn mo [zHa, zDR, zYS] [zGU] 251 zSP Tryz.f251 (U3 zHV) zem
abbrev zJb : LB := ⟨[], ⟨95, [.pr (.pr (.o (.d zD)) (.d .int)) (.pr (.o (.d zA)) (.pr (.o (.d zC)) (.pr (.o (.d zD)) (.pr (.o (.d zP)) (.d (.pr .int .int))))))], [(0, .pt 0 0), (1, vd .int), (5, vo zD), (7, vd .int)], []⟩, ⟨95, [.pr (.pr (.o (.d zD)) (.d .int)) (.pr (.o (.d zA)) (.pr (.o (.d zC)) (.pr (.o (.d zD)) (.pr (.o (.d zP)) (.d (.pr .int .int))))))], [], []⟩, 0, U5 fun (w0 : El zF) _ (n1 : Int) (l5 : Li zD) (n7 : Int) => let k1 := .brk (w0, (), n1, l5, n7, ()); cond (decide (n7 < (l5.length : Int))) (cond (w0.2.2.2.2.2.1 == (1 : Int)) (.ix n7 l5 (.ik (n7 + 1) (.v (.go ((xB w0 (zB zD l5 n7).2).1, (), n1, l5, (n7 + 1), ()))))) (.v k1)) (.v k1)⟩
theorem zZe : PO zJb (fun _ _ => False) (U5 fun _ _ (n10 : Int) (l50 : Li zD) _ => U5 fun (w0 : El zF) _ (n1 : Int) (l5 : Li zD) _ => n1 = n10 ∧ l5 = l50 ∧ (w0.1.1.length : Int) ≤ 40) := poG trivial (an @zA0 (an @vM trivial)) (an @zFe trivial)
theorem zaf : SF zJb (U5 fun (w0 : El zF) _ _ (l5 : Li zD) (n7 : Int) => (0 ≤ n7 ∧ (w0.1.1.length : Int) ≤ 40, (l5.length : Int) - n7)) := sfG trivial (an @zA0 (an @vM trivial)) (an @zFe trivial)
abbrev zEn : LB := ⟨[], ⟨95, [.pr (.pr (.o (.d zD)) (.d .int)) (.pr (.o (.d zA)) (.pr (.o (.d zC)) (.pr (.o (.d zD)) (.pr (.o (.d zP)) (.d (.pr .int .int))))))], [(0, .pt 0 0), (8, vo zEb), (9, vo .str), (10, vo zK), (11, vd .int)], []⟩, ⟨95, [.pr (.pr (.o (.d zD)) (.d .int)) (.pr (.o (.d zA)) (.pr (.o (.d zC)) (.pr (.o (.d zD)) (.pr (.o (.d zP)) (.d (.pr .int .int))))))], [], []⟩, 2, U6 fun (w0 : El zF) _ (l8 : Li zEb) (l9 : Li .str) (l10 : Li zK) (n11 : Int) => cond (decide (n11 < (l9.length : Int))) (.ix n11 l9 (let y1 := (yD w0.2.2.1 (zB .str l9 n11)); .ix y1.1 w0.2.2.1 (let y2 := (yo (zB zC w0.2.2.1 y1.1).1); .ck (((l10.length + [y2.1].length : Nat) : Int) ≤ 16777216) (.ik (n11 + 1) (.v (.go (w0, (), l8, l9, (l10 ++ [y2.1]), (n11 + 1), ()))))))) (.v (.brk (w0, (), l8, l9, l10, n11, ())))⟩
def zaD (w0 : El zF) (l8 : Li zEb) (l9 : Li .str) (l10 : Li zK) := rF (l := zEn) (L := l9) (fun i (s : (Li zK)) => (w0, (), l8, l9, s, i, ())) (fun i x s => (s ++ [(yo (zB zC w0.2.2.1 (yD w0.2.2.1 x).1).1).1])) l10
theorem zZD : SF zEn (U6 fun (w0 : El zF) _ _ (l9 : Li .str) (l10 : Li zK) (n11 : Int) => (0 ≤ n11 ∧ (l10.length : Int) ≤ n11 ∧ (w0.1.1.length : Int) ≤ 40 ∧ (∀ k ∈ l9, zFG w0.2.2.1 k) ∧ (l10.length : Int) = n11, (l9.length : Int) - n11)) := by
 refine sfk fun x hI hw => ?_
 have hb := SD.Bd.of hw
 clear hw
 obtain ⟨w0, u, l8, l9, l10, n8, ⟨⟩⟩ := x
 simp only [SD.Bd, BdB, BdR, AD.Bd, Bd, lim, U6] at hb hI ⊢
 replace hb : (l9.length : Int) ≤ 16777216 := by simp_all
 obtain ⟨h1, h2, h5, h3, h4⟩ : 0 ≤ (n8 : Int) ∧ (l10.length : Int) ≤ (n8 : Int) ∧ (w0.1.1.length : Int) ≤ 40 ∧ (∀ k ∈ l9, zFG w0.2.2.1 k) ∧ (l10.length : Int) = (n8 : Int) := hI
 revert h1 h2 h4
 generalize hn : (n8 : Int) = n
 intro h1 h2 h4
 refine ⟨by omega, ?_⟩
 refine xI (fun c => ?_) (fun _ => trivial)
 replace c : n < (l9.length : Int) := of_decide_eq_true c
 refine z7 ⟨h1, c⟩ (z7 ⟨zFe h3 h1 c, zFc _ _⟩ (z7 ?_ (z7 ?_ ?_)))
 ·simp only [List.length_singleton]; exact (zHF c hb h2).1
 ·exact (zM0 h1 c hb).1
 ·show (_ ∧ _ ∧ _ ∧ _ ∧ _) ∧ _
  simp only [List.length_append, List.length_singleton]
  exact ⟨⟨(zM0 h1 c hb).2.1, (zHF c hb h2).2.1, h5, h3, zsS h4⟩, (zM0 h1 c hb).2.2⟩
abbrev zMR (a0 : El zF) (a1 : Int) : Tr (Li zEb × El zF × Unit) := let k2 := (a0.2.2.2.2.1, (a0.2.2.2.2.2.1, a1)); cond (a0.2.2.2.2.2.1 == (1 : Int)) (let y1 := (zMf a0.2.2.2.1 a1); .lp zJb ((a0.1, (a0.2.1, (a0.2.2.1, (y1.2.1, k2)))), (), a1, y1.1, (0 : Int), ()) (fun _ => .bad) (fun t2 => let y3 := (vG t2.1.2.2.1 t2.2.2.1); .lp zEn ((t2.1.1, (t2.1.2.1, (y3.2.2.1, t2.1.2.2.2))), (), y3.1, y3.2.1, ([] : Li zK), (0 : Int), ()) (fun _ => .bad) (fun t4 => .ck (zHX t4.1 t4.2.2.2.1 t4.2.2.2.2.1) (.v (t4.2.2.1, (zFR t4.1 t4.2.2.2.1 t4.2.2.2.2.1).1, ()))))) (let k1 := vG a0.2.2.1 a1; .lp zEn ((a0.1, (a0.2.1, (k1.2.2.1, (a0.2.2.2.1, k2)))), (), k1.1, k1.2.1, ([] : Li zK), (0 : Int), ()) (fun _ => .bad) (fun t1 => .ck (zHX t1.1 t1.2.2.2.1 t1.2.2.2.2.1) (.v (t1.2.2.1, (zFR t1.1 t1.2.2.2.1 t1.2.2.2.2.1).1, ()))))
def zYR a0 a1 := (zMR a0 a1).val
@[simp] def zXw (a0 : El zF) (_a1 : Int) : Prop := (a0.1.1.length : Int) ≤ 40
abbrev zXi := gq [zEu, vd .int] [vo zEb, zEu] (U2 zXw) (U2 zYR)
theorem zjB : Ok zXi (U2 zMR) := fun a hw hp => by
 obtain ⟨(a0 : El zF), (a1 : Int), ⟨⟩⟩ := a
 replace hp : (a0.1.1.length : Int) ≤ 40 := hp
 show (zMR a0 a1).ok
 unfold zMR
 have hend : ∀ (w : El zF) (n : Int), (w.1.1.length : Int) ≤ 40 → (Tr.lp zEn ((w.1, (w.2.1, ((vG w.2.2.1 n).2.2.1, w.2.2.2))), (), (vG w.2.2.1 n).1, (vG w.2.2.1 n).2.1, ([] : Li zK), (0 : Int), ()) (fun _ => .bad) (fun t8 => .ck (zHX t8.1 t8.2.2.2.1 t8.2.2.2.2.1) (.v (t8.2.2.1, (zFR t8.1 t8.2.2.2.1 t8.2.2.2.2.1).1, ()))) : Tr (Li zEb × El zF × Unit)).ok := by
  intro w n h1
  refine zg (zZD _ ⟨Int.le_refl 0, Int.le_refl 0, h1, zQy _ n, rfl⟩) ?_
  rw [zaD, xL]
  exact zg ⟨h1, by rw [vM]; simp⟩ trivial
 refine yK (fun _ => ?_) (fun _ => ?_)
 ·refine zg (zaf _ ⟨Int.le_refl 0, hp⟩) ?_
  refine okF.2 (xM zZe ⟨rfl, rfl, hp⟩ (fun r hr => hr.elim) (fun t ht => ?_))
  obtain ⟨w, u, n1, l5, n7, ⟨⟩⟩ := t
  have ht : n1 = a1 ∧ _ ∧ (w.1.1.length : Int) ≤ 40 := ht
  exact hend w n1 ht.2.2
 ·exact hend (a0.1, (a0.2.1, (a0.2.2.1, (a0.2.2.2.1, (a0.2.2.2.2.1, (a0.2.2.2.2.2.1, a1)))))) a1 hp
def ziP : Con Tryz.prog := zsE mo g0 [zRL, zDR, zKX, zAp, zdM] [zJb, zEn] [] [zXx] 156 zXi (fn := Tryz.f156) ⟨lk, lk, trivial⟩ (fun a hw h => okT (by kernel_rfl) (zjB a hw h) rfl)
abbrev zNc (a0 : Li zC) (a1 : ByteArray) (a2 : Bool) (a3 : El zL) : Tr (Int × Li zC × Unit) := cond (decide ((yD a0 a1).1 < (0 : Int))) (.v ((3 : Int), a0, ())) (.ix (yD a0 a1).1 a0 (let k4 := zB zC a0 (yD a0 a1).1; cond (k4.2.2.1 == (3 : Int)) (.v ((2 : Int), a0, ())) (cond (k4.2.2.1 == (4 : Int)) (.v ((2 : Int), a0, ())) (cond (k4.2.2.2.1 == (0 : Int)) (.v ((3 : Int), a0, ())) (let k6 := Int.toNat (yD a0 a1).1; let k1 := List.set a0 k6 (k4.1, (k4.2.1, ((4 : Int), k4.2.2.2))); let k3 := zB zC k1 (yD a0 a1).1; cond a2 (let k2 := List.set k1 k6 (k3.1, (k3.2.1, ((3 : Int), k3.2.2.2))); let k5 := zB zC k2 (yD a0 a1).1; .v ((1 : Int), (List.set k2 k6 (k5.1, (k5.2.1, (k5.2.2.1, (k5.2.2.2.1, (k5.2.2.2.2.1, a3)))))), ())) (.v ((1 : Int), (List.set k1 k6 (k3.1, (k3.2.1, (k3.2.2.1, (k3.2.2.2.1, (k3.2.2.2.2.1, a3)))))), ())))))))
def zEW a0 a1 a2 a3 := (zNc a0 a1 a2 a3).val
abbrev zUC := gd [vo zC, vd .str, vd .bool, va zL] [vd .int, vo zC] (U4 zEW)
theorem ze4 : Ok zUC (U4 zNc) := okG trivial (an @zFc trivial) trivial
abbrev zfx : LnD := ⟨zUC, 0⟩
def zUD : LCon Tryz.prog := zuU mo g0 [zKX] [] [] [] 252 zfx (fn := Tryz.f252) trivial (fun a hw h => okT (by kernel_rfl) (ze4 a hw h) rfl)
theorem zN7 {l : Li zC} {k : ByteArray} {b : Bool} {v : El zL} (h : (zEW l k b v).1 = 1) : 0 ≤ (yD (zEW l k b v).2.1 k).1 := by
 refine zbE ?_
 revert h
 simp only [zEW, zNc, z0, zY, ze]
 cases c : decide ((yD l k).1 < (0 : Int)) with
 | true => intro h; exact absurd (show (3 : Int) = 1 from h) (by decide)
 | false =>
  have hk := zjp (Int.not_lt.1 (of_decide_eq_false c))
  have hi : (yD l k).1 < (l.length : Int) := zFc l k
  have e1 : ∀ (m : Li zC) (a : El zC), m.length = l.length → zB zC (List.set m (Int.toNat (yD l k).1) a) (yD l k).1 = a := fun m a e => zWg m _ a (Int.not_lt.1 (of_decide_eq_false c)) (by rw [e]; exact hi)
  simp only [cond_false]
  cases ((zB zC l (yD l k).1).2.2.1 == (3 : Int)) with
  | true => intro h; exact absurd (show (2 : Int) = 1 from h) (by decide)
  | false =>
  simp only [cond_false]
  cases ((zB zC l (yD l k).1).2.2.1 == (4 : Int)) with
  | true => intro h; exact absurd (show (2 : Int) = 1 from h) (by decide)
  | false =>
  simp only [cond_false]
  cases ((zB zC l (yD l k).1).2.2.2.1 == (0 : Int)) with
  | true => intro h; exact absurd (show (3 : Int) = 1 from h) (by decide)
  | false =>
  simp only [cond_false]
  cases b with
  | true =>
   intro _
   exact zBw rfl (zBw rfl (zBw rfl hk))
  | false =>
   intro _
   exact zBw rfl (zBw rfl hk)
abbrev zBj : LB := ⟨[], ⟨47, [], [(0, vd (.lst zP)), (3, vd .int), (4, vd .int)], []⟩, ⟨47, [], [(2, vd .bool)], []⟩, 2, U3 fun (l0 : Li zP) (n3 n4 : Int) => cond (decide (n4 < n3)) (.ix n3 l0 (.ix n4 l0 (cond ((zB zP l0 n3).1.toList == (zB zP l0 n4).1.toList) (.v (.ret (false, ()))) (.ik (n4 + 1) (.v (.go (l0, n3, (n4 + 1), ()))))))) (.v (.brk (l0, n3, n4, ())))⟩
theorem zZU : PO zBj (fun _ _ => True) (U3 fun (l00 : Li zP) (n30 : Int) _ => U3 fun (l0 : Li zP) (n3 : Int) _ => l00 = l0 ∧ n30 = n3) := poA
theorem zZN : SF zBj (U3 fun (l0 : Li zP) (n3 n4 : Int) => (0 ≤ n4 ∧ (0 ≤ n3 ∧ n3 < (l0.length : Int)) ∧ n3 ≤ (l0.length : Int), n3 - n4)) := sfA
abbrev zDI : LB := ⟨[], ⟨47, [], [(0, vd (.lst zP)), (3, vd .int)], []⟩, ⟨47, [], [(2, vd .bool)], []⟩, 0, U2 fun (l0 : Li zP) (n3 : Int) => cond (decide (n3 < (l0.length : Int))) (.ix n3 l0 (cond (!(z6 ((zB zP l0 n3).1.size : Int) (1 : Int) (200 : Int)).1) (.v (.ret (false, ()))) (.ix n3 l0 (cond (!(xi (zB zP l0 n3).2).1) (.v (.ret (false, ()))) (.lp zBj (l0, n3, (0 : Int), ()) (fun r4 => .v (.ret (r4.1, ()))) (fun t1 => .ik (t1.2.1 + (1 : Int)) (.v (.go (t1.1, (t1.2.1 + (1 : Int)), ()))))))))) (.v (.brk (l0, n3, ())))⟩
theorem zZs : SF zDI fun x : Li zP × Int × Unit => (0 ≤ x.2.1, (x.1.length : Int) - x.2.1) := sfk (by
 rintro ⟨(l0 : Li zP), (n3 : Int), ⟨⟩⟩ hI hw
 dsimp only [U2] at hI ⊢
 have i0 := hI
 have hb : (l0.length : Int) ≤ 16777216 := vC (hw.1.1)
 refine ⟨by omega, ?_⟩
 refine xI (fun h1 => ?_) (fun h1 => ?_)
 ·replace h1 : n3 < (l0.length : Int) := of_decide_eq_true h1
  refine z7 ?_ ?_
  ·first | omega | (simp <;> omega)
  ·refine xI (fun h2 => ?_) (fun h2 => ?_)
   ·exact trivial
   ·replace h2 := zAT h2
    replace h2 := zBK h2
    refine z7 ?_ ?_
    ·first | omega | (simp <;> omega)
    ·refine xI (fun h3 => ?_) (fun h3 => ?_)
     ·exact trivial
     ·refine z7 ?_ ?_
      ·exact zZN _ ⟨by (dsimp only <;> omega), by (dsimp only <;> omega), by (dsimp only <;> omega)⟩
      ·refine zQi (zZU _ ⟨rfl, rfl⟩) (fun r _ => ?_) (fun t ht => ?_)
       ·obtain ⟨r4b2, ⟨⟩⟩ := r
        dsimp only
        exact trivial
       ·obtain ⟨t4l0, (t4n3 : Int), (t4n4 : Int), ⟨⟩⟩ := t
        dsimp only [U3] at ht ⊢
        obtain ⟨rfl, rfl⟩ := ht
        refine z7 ?_ ?_
        ·exact ink (by omega) (by omega)
        ·exact show (0 ≤ (n3 + 1)) ∧ (l0.length : Int) - (n3 + 1) < (l0.length : Int) - n3 ∧ 0 < (l0.length : Int) - n3 from ⟨by (first | omega | rfl | assumption | (simp <;> omega)), by (first | omega | (simp only [List.length_set]; omega)), by (first | omega | (simp only [List.length_set]; omega))⟩
 ·replace h1 : ¬ (n3 < (l0.length : Int)) := of_decide_eq_false h1
  exact trivial)
abbrev zLk (a0 : Li zP) : Tr (Bool × Unit) := .lp zDI (a0, (0 : Int), ()) (fun r5 => .v (r5.1, ())) (fun t1 => .v (decide (@LE.le Int _ (t1.1.length : Int) (30 : Int)), ()))
def zAC a0 := (zLk a0).val
abbrev zW4 := fd [vd (.lst zP)] [vd .bool] (U1 zAC)
theorem ziV : Ok zW4 (U1 zLk) := vN zZs
def zX0 := cn mo [zAQ, zFy] [zDI, zBj] 181 zW4 Tryz.f181 (U1 zLk) ziV
abbrev zHH : LB := ⟨[], ⟨62, [.d zC], [(0, vd (.lst zP)), (3, .pt 0 0), (6, vo zP), (7, vd .str), (8, vd .int)], []⟩, ⟨62, [], [(4, vo zP), (5, vd .bool)], []⟩, 0, U6 fun (w0 : El zC) (l0 : Li zP) _ (l6 : Li zP) (s7 : ByteArray) (n8 : Int) => cond (decide (n8 < (l0.length : Int))) (.ix n8 l0 (cond ((zB zP l0 n8).1.toList == s7.toList) (.v (.ret (l6, false, ()))) (.ik (n8 + 1) (.v (.go (w0, l0, (), l6, s7, (n8 + 1), ())))))) (.v (.brk (w0, l0, (), l6, s7, n8, ())))⟩
def zWn (w0 : El zC) (l0 l6 : Li zP) (s7 : ByteArray) := rA (l := zHH) (L := l0) (fun i => (w0, l0, (), l6, s7, i, ())) (fun i x => bif (x.1.toList == s7.toList) then false else true) (l6, false, ())
theorem zYi : SF zHH (U6 fun _ (l0 : Li zP) _ _ _ (n8 : Int) => (0 ≤ n8, (l0.length : Int) - n8)) := sfA
abbrev zNR (a0 : Li zP) (a1 : El zC) : Tr (Li zP × Bool × Unit) := let k1 := ((zAi a0).1, false, ()); cond (!(zAC a0).1) (.v k1) (cond (!(xi a1.1).1) (.v k1) (cond (!(xV a1.2.1).1) (.v k1) (cond (decide ((a0.length : Int) ≥ 30)) (.v k1) (.lp zHH (a1, a0, (), (zAi a0).1, (xl a1.1).1, (0 : Int), ()) (fun r8 => .v (r8.1, r8.2.1, ())) (fun t1 => .ck ((t1.1.1.2.length : Int) ≤ 16777216) (let k2 := (t1.2.2.2.2.1, (t1.1.2.1, t1.1.1.2)); .ck (((t1.2.2.2.1.length + [k2].length : Nat) : Int) ≤ 16777216) (.v ((t1.2.2.2.1 ++ [k2]), true, ()))))))))
def zOD a0 a1 := (zNR a0 a1).val
abbrev zUr := gd [vd (.lst zP), va zC] [vo zP, vd .bool] (U2 zOD)
theorem zgE : Ok zUr (U2 zNR) := okG (an zYi (an zWn trivial)) (an @zXl (an @zTX (an @zbO trivial))) trivial
def zT6 := cn mo [zQ1, zX0, zI2, zEV, zFy] [zHH] 323 zUr Tryz.f323 (U2 zNR) zgE
def zCU (a0 : El zF) (a1 : Int) : El zF × Unit := ((a0.1, (a0.2.1, ((zFh a0.2.2.1).1, (([] : Li zD), (a0.2.2.2.2.1, (a1, a0.2.2.2.2.2.2)))))), ())
abbrev zZj := gd [zAv, vd .int] [zAv] (U2 zCU)
theorem zJ4 {a0 : El zF} {a1 : Int} : (zCU a0 a1).1.1 = a0.1 := by
 have F := trivial
 unfold zCU
 simp (maxDischargeDepth := 12) [*]
def zPx := cv mo [zOo] 194 zZj Tryz.f194
abbrev zDy : LB := ⟨[0, 6], ⟨73, [.pr (.pr (.o (.d zD)) (.d .int)) (.pr (.o (.d zA)) (.pr (.o (.d zC)) (.pr (.o (.d zD)) (.d (.pr (.lst zP) (.pr .int .int)))))), .pr (.d .str) (.o (.d zL))], [(0, .pt 0 0), (2, .pt 1 0), (4, vo zC), (5, vd .int)], []⟩, ⟨73, [.pr (.pr (.o (.d zD)) (.d .int)) (.pr (.o (.d zA)) (.pr (.o (.d zC)) (.pr (.o (.d zD)) (.d (.pr (.lst zP) (.pr .int .int))))))], [], []⟩, 0, U6 fun (w0 : El zF) (w1 : El zK) _ _ (l4 : Li zC) (n5 : Int) => cond (decide (n5 < (w0.2.2.1.length : Int))) (.ix n5 w0.2.2.1 (let k1 := zB zC w0.2.2.1 n5; cond (!(zI k1.1 w1).1) (.ix n5 w0.2.2.1 (.ck (((l4.length + [k1].length : Nat) : Int) ≤ 16777216) (.ik (n5 + 1) (.v (.go (w0, w1, (), (), (l4 ++ [k1]), (n5 + 1), ())))))) (.ik (n5 + 1) (.v (.go (w0, w1, (), (), l4, (n5 + 1), ())))))) (.v (.brk (w0, w1, (), (), l4, n5, ())))⟩
def zJU (w0 : El zF) (w1 : El zK) (l4 : Li zC) := rF (l := zDy) (L := w0.2.2.1) (fun i (s : (Li zC)) => (w0, w1, (), (), s, i, ())) (fun i x s => bif (!(zI x.1 w1).1) then (s ++ [x]) else s) l4
theorem zSC : SF zDy (U6 fun (w0 : El zF) _ _ _ (l4 : Li zC) (n5 : Int) => (0 ≤ n5 ∧ (l4.length : Int) ≤ n5, (w0.2.2.1.length : Int) - n5)) := sfG trivial trivial trivial
abbrev zE7 (a0 : El zF) : Tr (El zF × Unit) := let y1 := (xP a0.2.2.2.2.1); cond (!y1.2.1) (cond (a0.2.2.2.2.2.1 == (3 : Int)) (.v ((zCU a0 4).1, ())) (.v ((zCU a0 6).1, ()))) (.lp zDy (a0, y1.1, (), (), ([] : Li zC), (0 : Int), ()) (fun r5 => .v (r5.1, ())) (fun t2 => cond (decide (@GE.ge Int _ (t2.2.2.2.2.1.length : Int) (30 : Int))) (.v ((t2.1.1, (t2.1.2.1, ((zA4 ([] : Li zC) t2.2.1 (⟨#[]⟩ : ByteArray) t2.1.2.2.2.2.2.2).1, t2.1.2.2.2))), ())) (.v ((t2.1.1, (t2.1.2.1, ((zA4 t2.2.2.2.2.1 t2.2.1 (⟨#[]⟩ : ByteArray) t2.1.2.2.2.2.2.2).1, t2.1.2.2.2))), ()))))
def zIB a0 := (zE7 a0).val
abbrev zN1 := gd [zAv] [zAv] (U1 zIB)
theorem zYB : Ok zN1 (U1 zE7) := okG (an zSC (an zJU trivial)) (an @zJ4 trivial) trivial
theorem zV8 {a0 : El zF} : (zIB a0).1.1 = a0.1 := psG (T := zE7 a0) (P := fun y => y.1.1 = a0.1) (an zJU trivial) (an @zJ4 trivial) trivial
def zWR := cn mo [zUu, zPx, zBm, zJX] [zDy] 161 zN1 Tryz.f161 (U1 zE7) zYB
def yi (a0 : El zF) (a1 : Int) : El zF × Unit := ((zIB (a0.1, (a0.2.1, ((zFh a0.2.2.1).1, (([] : Li zD), (a0.2.2.2.2.1, (a1, a0.2.2.2.2.2.2))))))).1, ())
abbrev zah := gd [zAv, vd .int] [zAv] (U2 yi)
theorem vE {a0 : El zF} {a1 : Int} : (yi a0 a1).1.1 = a0.1 := by
 have F := (an @zV8 trivial)
 unfold yi
 simp (maxDischargeDepth := 12) [*]
def zCV := cv mo [zOo, zWR] 80 zah Tryz.f80
abbrev zL3 (a0 : El zF) (a1 : Int) (a2 : Bool) (a3 : El zL) : Tr (El zF × Unit) := .ix a1 a0.2.2.1 (cond (a0.2.2.2.2.2.1 != (1 : Int)) (.v ((zIR a0).1, ())) (let k1 := zB zC a0.2.2.1 a1; let k4 := !(k1.2.1.toList == (⟨#[]⟩ : ByteArray).toList); let k5 := ((yi a0 3).1, ()); let k8 := zOD a0.2.2.2.2.1 k1; cond a2 (let k2 := zB2 k1.1 (⟨#[111, 107]⟩ : ByteArray) a3; let k6 := ((xB a0 k2.1).1, ()); cond a2 (cond k4 (let y1 := k8; cond (!y1.2.1) (.v k5) (.v ((xB (a0.1, (a0.2.1, (a0.2.2.1, (a0.2.2.2.1, (y1.1, a0.2.2.2.2.2))))) k2.1).1, ()))) (.v k6)) (.v k6)) (let k3 := zB2 k1.1 (⟨#[110, 111]⟩ : ByteArray) a3; let k7 := ((xB a0 k3.1).1, ()); cond a2 (cond k4 (let y1 := k8; cond (!y1.2.1) (.v k5) (.v ((xB (a0.1, (a0.2.1, (a0.2.2.1, (a0.2.2.2.1, (y1.1, a0.2.2.2.2.2))))) k3.1).1, ()))) (.v k7)) (.v k7))))
def zRY a0 a1 a2 a3 := (zL3 a0 a1 a2 a3).val
@[simp] def zRA (a0 : El zF) (a1 : Int) (_a2 : Bool) (_a3 : El zL) : Prop := (0 ≤ a1 ∧ a1 < (a0.2.2.1.length : Int)) ∧ (a0.1.1.length : Int) ≤ 40
abbrev zSo := gq [zEu, vd .int, vd .bool, va zL] [zAv] (U4 zRA) (U4 zRY)
theorem zeE : Ok zSo (U4 zL3) := okG trivial (an @zQe (an @vE (an @zA0 trivial))) trivial
def zeQ := cn mo [zYS, zT6, zCV, zHa, zDR] [] 253 zSo Tryz.f253 (U4 zL3) zeE
abbrev zJd (a0 : El zF) (a1 : ByteArray) (a2 : Bool) (a3 : El zL) : Tr (Int × El zF × Unit) := let y1 := (zEW a0.2.2.1 a1 a2 a3); let k1 := (a0.1, (a0.2.1, (y1.2.1, a0.2.2.2))); cond (y1.1 == (1 : Int)) (.ck (zRA k1 (yD y1.2.1 a1).1 a2 a3) (.v (y1.1, (zRY k1 (yD y1.2.1 a1).1 a2 a3).1, ()))) (.v (y1.1, k1, ()))
def zUq a0 a1 a2 a3 := (zJd a0 a1 a2 a3).val
@[simp] def zTy (a0 : El zF) (_a1 : ByteArray) (_a2 : Bool) (_a3 : El zL) : Prop := (a0.1.1.length : Int) ≤ 40
abbrev zTz := gq [zEu, vd .str, vd .bool, va zL] [vd .int, zAv] (U4 zTy) (U4 zUq)
theorem zgH : Ok zTz (U4 zJd) := fun a hw hp => by
 obtain ⟨(a0 : El zF), (a1 : ByteArray), (a2 : Bool), (a3 : El zL), ⟨⟩⟩ := a
 replace hp : (a0.1.1.length : Int) ≤ 40 := hp
 show (zJd a0 a1 a2 a3).ok
 unfold zJd
 exact yK (fun h => zg ⟨⟨zN7 (by simpa using h), zFc _ _⟩, hp⟩ trivial) (fun _ => trivial)
def zhg : Con Tryz.prog := zsE mo g0 [zKX, zeQ] [] [] [zUD] 157 zTz (fn := Tryz.f157) trivial (fun a hw h => okT (by kernel_rfl) (zgH a hw h) rfl)
abbrev zGr (a0 : El zJ) (a1 : El zN) (a2 : El zF) : Tr (El zJ × El zF × Unit) := .ck (yz a0 8) (let y1 := (zT a0 8); let k7 := (a2.2.2.1.length : Int); let k3 : Tr _ := cond (decide (k7 > (0 : Int))) (.ck (yz y1.2.1 k7) (let y2 := (zT y1.2.1 k7); .ix y2.1 a2.2.2.1 (let y3 := (xl (zB zC a2.2.2.1 y2.1).1); .ck (vZ y2.2.1 3) (let y4 := (vL y2.2.1 3); .ck (zF3 y4.2.1) (.ck (zTy a2 y3.1 (!y4.1) (vH y4.2.1).1) (.v ((vH y4.2.1).2.1, (zUq a2 y3.1 (!y4.1) (vH y4.2.1).1).2.1, ()))))))) (.v (y1.2.1, a2, ())); let k4 : Tr _ := cond (!(zGt a2).1) (.ck (zGz y1.2.1 [(0 : Int), (1 : Int), (5 : Int), (30 : Int)]) (let y2 := (zDB y1.2.1 [(0 : Int), (1 : Int), (5 : Int), (30 : Int)]); let k8 := IntKind.wrap .i64 (a2.2.2.2.2.2.2 + y2.1); .ck (zXw a2 k8) (.v (y2.2.1, (zYR a2 k8).2.1, ())))) (.v (y1.2.1, a2, ())); let k1 : Tr _ := cond (y1.1 == (5 : Int)) (cond (y1.1 == (5 : Int)) k4 k3) (cond (y1.1 == (6 : Int)) k4 k3); let k9 := a2.2.2.2.2.2.1 == (1 : Int); let k2 : Tr _ := cond k9 (.ck (zBx a1 a2) (cond (zBA a1 a2).2.1 (.ck (zQv a1 a2 (zBA a1 a2).1) (.v (y1.2.1, (xa a1 a2 (zBA a1 a2).1).1, ()))) (.v (y1.2.1, a2, ())))) (.v (y1.2.1, a2, ())); let k5 : Tr _ := cond (y1.1 == (2 : Int)) (cond (y1.1 == (2 : Int)) k2 k1) (cond (y1.1 == (3 : Int)) (cond (y1.1 == (3 : Int)) k2 k1) (cond (y1.1 == (4 : Int)) k2 k1)); let k6 : Tr _ := cond k9 (.ck (zTI y1.2.1) (.v ((zH6 y1.2.1).2.1, (xB a2 (zH6 y1.2.1).1).1, ()))) (.v (y1.2.1, a2, ())); cond (y1.1 == (0 : Int)) (cond (y1.1 == (0 : Int)) k6 k5) (cond (y1.1 == (1 : Int)) k6 k5))
def zge a0 a1 a2 := (zGr a0 a1 a2).val
@[simp] def zfi (a0 : El zJ) (a1 : El zN) (a2 : El zF) : Prop := Cu a0 ∧ (((a1.2.length : Int) ≤ 4 ∧ ∀ r ∈ a1.2, DrR r) ∧ (a2.1.1.length : Int) ≤ 40)
abbrev zTk := gq [zCi, va zN, zEu] [zCi, zAv] (U3 zfi) (U3 zge)
theorem zgv : Ok zTk (U3 zGr) := fun a hw hp => by
 obtain ⟨(a0 : El zJ), (a1 : El zN), (a2 : El zF), ⟨⟩⟩ := a
 obtain ⟨hc, hd, h40⟩ : Cu a0 ∧ ((a1.2.length : Int) ≤ 4 ∧ ∀ r ∈ a1.2, DrR r) ∧ (a2.1.1.length : Int) ≤ 40 := hp
 have hq : zBx a1 a2 := zhG hd h40
 have hz : ∀ r ∈ a1.2, SzR r := fun r h => SzR.of (hd.2 r h)
 have hu : Cu (zT a0 8).2.1 := zj hc
 show (zGr a0 a1 a2).ok
 unfold zGr
 refine zg hc ?_
 dsimp only
 repeat' first | (refine yK (fun _ => ?_) (fun _ => ?_)) | with_reducible exact okV.2 trivial | (refine zg ?_ ?_)
 all_goals first | with_reducible exact hu | with_reducible exact hq | exact ⟨hz, h40⟩ | (show Cu _; exact hu) | exact h40 | exact ⟨hu, by decide⟩ | exact ⟨zS.1, zS.2 (of_decide_eq_true ‹_›)⟩ | exact zj hu | exact xX (zj hu)
def zgR : Gv := ⟨true, fun _ => none, false⟩
def zgt := cn mo [vg, zbh, zDR, zQP, zXA, zYm, zNk, ziP, zI2, zDL, zIQ, zhg] [] 78 zTk Tryz.f78 (U3 zGr) zgv (g := zgR)
abbrev zDz (a0 : El zF) (a1 : El zK) : Tr (El zF × Unit) := let k1 := zEo a0.1 a1; cond (k1.1 == (0 : Int)) (.v ((yi (k1.2.1, a0.2) (3 : Int)).1, ())) (.v ((k1.2.1, a0.2), ()))
def vR a0 a1 := (zDz a0 a1).val
@[simp] def zoZ (a0 : El zF) (_a1 : El zK) : Prop := (a0.1.1.length : Int) ≤ 40
abbrev zVZ := gd [zAv, va zK] [zAv] (U2 vR)
theorem vP {a0 : El zF} {a1 : El zK} (h : (a0.1.1.length : Int) ≤ 40) : ((vR a0 a1).1.1.1.length : Int) ≤ 40 := psG (T := zDz a0 a1) (P := fun y => (y.1.1.1.length : Int) ≤ 40) trivial (an h (an @zT7 (an @vE trivial))) trivial
def zCK := cn mo [zTx, zCV] [] 153 zVZ Tryz.f153 (U2 zDz) (fun _ _ _ => by simp [zDz])
abbrev zD0 (a0 : El zF) (a1 : El zU) : Tr (El zF × Unit) := cond (a1.1 == (1 : Int)) (let y1 := (vR a0 a1.2.1); cond (!true) (.v ((yi y1.1 3).1, ())) (.v (y1.1, ()))) (cond (a1.1 == (2 : Int)) (let y1 := (zEr a0.1 a1.2.2.1); cond y1.1 (let y2 := (zBV a0.2.1 a1.2.2.1); cond (!true) (.v ((yi (y1.2.1, (y2.1, a0.2.2)) (3 : Int)).1, ())) (.v ((y1.2.1, (y2.1, a0.2.2)), ()))) (cond (!true) (.v ((yi (y1.2.1, a0.2) (3 : Int)).1, ())) (.v ((y1.2.1, a0.2), ())))) (cond (a1.1 == (3 : Int)) (let y1 := (zA4 a0.2.2.1 a1.2.1 a1.2.2.2.2 a0.2.2.2.2.2.2); let k2 := (a0.1, (a0.2.1, (y1.1, a0.2.2.2))); cond (!y1.2.1) (.v ((yi k2 3).1, ())) (.v (k2, ()))) (cond (a1.1 == (4 : Int)) (let k1 := IntKind.wrap .i64 (a0.2.2.2.2.2.2 + a1.2.2.2.1); cond (decide (k1 > (1000000000 : Int))) (let y1 := (xn a0.2.2.2.1 ((1000000000 : Int), a1.2.1)); cond (!y1.2.1) (.v ((yi (a0.1, (a0.2.1, (a0.2.2.1, (y1.1, a0.2.2.2.2)))) (3 : Int)).1, ())) (.v ((a0.1, (a0.2.1, (a0.2.2.1, (y1.1, a0.2.2.2.2)))), ()))) (let y1 := (xn a0.2.2.2.1 (k1, a1.2.1)); cond (!y1.2.1) (.v ((yi (a0.1, (a0.2.1, (a0.2.2.1, (y1.1, a0.2.2.2.2)))) (3 : Int)).1, ())) (.v ((a0.1, (a0.2.1, (a0.2.2.1, (y1.1, a0.2.2.2.2)))), ())))) (cond (a1.1 == (5 : Int)) (let y1 := (zCU a0 2); cond (!true) (.v ((yi y1.1 3).1, ())) (.v (y1.1, ()))) (cond (!false) (.v ((yi a0 3).1, ())) (.v (a0, ())))))))
def zHC a0 a1 := (zD0 a0 a1).val
@[simp] def zoY (a0 : El zF) (_a1 : El zU) : Prop := (a0.1.1.length : Int) ≤ 40
abbrev zVF := gd [zAv, va zU] [zAv] (U2 zHC)
theorem zM2 {a0 : El zF} {a1 : El zU} (h : (a0.1.1.length : Int) ≤ 40) : ((zHC a0 a1).1.1.1.length : Int) ≤ 40 := psG (T := zD0 a0 a1) (P := fun y => (y.1.1.1.length : Int) ≤ 40) trivial (an h (an @vP (an @vE (an @@zbP (an @zJ4 trivial))))) trivial
def zVS : Gv := ⟨true, fun _ => none, false⟩
def zU3 := cn mo [zCK, zCV, zay, zas, zJX, zUZ, zPx] [] 103 zVF Tryz.f103 (U2 zD0) (fun _ _ _ => by simp [zD0]) (g := zVS)
abbrev zFU : LB := ⟨[], ⟨62, [.pr (.pr (.o (.d zD)) (.d .int)) (.pr (.o (.d zA)) (.pr (.o (.d zC)) (.pr (.o (.d zD)) (.d (.pr (.lst zP) (.pr .int .int))))))], [(1, .pt 0 0), (6, vo zU), (8, vd .int)], []⟩, ⟨62, [.pr (.pr (.o (.d zD)) (.d .int)) (.pr (.o (.d zA)) (.pr (.o (.d zC)) (.pr (.o (.d zD)) (.d (.pr (.lst zP) (.pr .int .int))))))], [], []⟩, 0, U4 fun (w0 : El zF) _ (l6 : Li zU) (n8 : Int) => let k1 := .brk (w0, (), l6, n8, ()); cond (decide (n8 < (l6.length : Int))) (cond (w0.2.2.2.2.2.1 == (1 : Int)) (.ix n8 l6 (.ik (n8 + 1) (.v (.go ((zHC w0 (zB zU l6 n8)).1, (), l6, (n8 + 1), ()))))) (.v k1)) (.v k1)⟩
theorem zKR : PO zFU (fun _ _ => False) (U4 fun _ _ (l60 : Li zU) _ => U4 fun (w0 : El zF) _ (l6 : Li zU) _ => l6 = l60 ∧ (w0.1.1.length : Int) ≤ 40) := poG trivial (an @zM2 trivial) trivial
theorem zTO : SF zFU (U4 fun (w0 : El zF) _ (l6 : Li zU) (n8 : Int) => (0 ≤ n8 ∧ (w0.1.1.length : Int) ≤ 40, (l6.length : Int) - n8)) := sfG trivial (an @zM2 trivial) trivial
abbrev zGR (a0 : El zN) (a1 : El zF) (a2 : El zA) : Tr (El zF × Unit) := .ck (zLK a0 a2) (let k2 := ((yi a1 3).1, ()); cond (!(yQ a0 a2).2.1) (.v k2) (cond (decide ((a1.2.1.length : Int) ≥ 1000)) (.v k2) (.ck ((a2.2.1.length : Int) ≤ 16777216) (let k1 := (a2.1, (a2.2.1, ([] : Li zH))); .ck (((a1.2.1.length + [k1].length : Nat) : Int) ≤ 16777216) (.lp zFU ((a1.1, ((a1.2.1 ++ [k1]), a1.2.2)), (), (yQ a0 a2).1, (0 : Int), ()) (fun r6 => .v (r6.1, ())) (fun t1 => .v (t1.1, ())))))))
def zJ3 a0 a1 a2 := (zGR a0 a1 a2).val
@[simp] def zP0 (a0 : El zN) (a1 : El zF) (_a2 : El zA) : Prop := (∀ r ∈ a0.2, SzR r) ∧ (a1.1.1.length : Int) ≤ 40
abbrev zPe := gq [va zN, zAv, va zA] [zAv] (U3 zP0) (U3 zJ3)
theorem zZB : Ok zPe (U3 zGR) := okG (an zTO (an zKR trivial)) (an @vE trivial) trivial
theorem zZr {a0 : El zN} {a1 : El zF} {a2 : El zA} (h : (∀ r ∈ a0.2, SzR r) ∧ (a1.1.1.length : Int) ≤ 40) : ((zJ3 a0 a1 a2).1.1.1.length : Int) ≤ 40 := psG (T := zGR a0 a1 a2) (P := fun y => (y.1.1.1.length : Int) ≤ 40) (an zKR trivial) (an h (an @vE trivial)) trivial
def zaP := cn mo [zSJ, zCV, zU3] [zFU] 32 zPe Tryz.f32 (U3 zGR) zZB
def zDs (a0 : El zF) : El zF × Unit := ((zCw (a0.1, (a0.2.1, (a0.2.2.1, (a0.2.2.2.1, ((zQw a0.2.2.2.2.1).1, a0.2.2.2.2.2)))))).1, ())
abbrev zZb := gd [zAv] [zEu] (U1 zDs)
theorem zGN {a0 : El zF} : (zDs a0).1.1 = a0.1 := by
 have F := (an @zNe trivial)
 unfold zDs
 simp (maxDischargeDepth := 12) [*]
def zPt := cv mo [zWF, zOQ] 322 zZb Tryz.f322
abbrev zDV : LB := ⟨[], ⟨38, [.pr (.pr (.o (.d zD)) (.d .int)) (.pr (.o (.d zA)) (.pr (.o (.d zC)) (.pr (.o (.d zD)) (.d (.pr (.lst zP) (.pr .int .int))))))], [(0, .pt 0 0), (1, vd (.lst .str)), (2, vd (.lst zK)), (6, vd .int), (7, vd .int)], []⟩, ⟨38, [.pr (.pr (.o (.d zD)) (.d .int)) (.pr (.o (.d zA)) (.pr (.o (.d zC)) (.pr (.o (.d zD)) (.d (.pr (.lst zP) (.pr .int .int))))))], [], []⟩, 0, U6 fun (w0 : El zF) _ (l1 : Li .str) (l2 : Li zK) (n6 n7 : Int) => let k1 := .brk (w0, (), l1, l2, n6, n7, ()); cond (decide (n7 < (l1.length : Int))) (cond (w0.2.2.2.2.2.1 == n6) (cond (n6 == 1) (.ix n7 l2 (.ik (n7 + 1) (.v (.go ((vR w0 (zB2 (zB zK l2 n7) (⟨#[110, 111]⟩ : ByteArray) ((1 : Int), ((0 : Int), (⟨#[]⟩ : ByteArray)))).1).1, (), l1, l2, n6, (n7 + 1), ()))))) (.ik (n7 + 1) (.v (.go ((zDs w0).1, (), l1, l2, n6, (n7 + 1), ()))))) (.v k1)) (.v k1)⟩
theorem zI0 : PO zDV (fun _ _ => False) (U6 fun _ _ (l10 : Li .str) (l20 : Li zK) (n60 : Int) _ => U6 fun (w0 : El zF) _ (l1 : Li .str) (l2 : Li zK) (n6 : Int) _ => l1 = l10 ∧ l2 = l20 ∧ n6 = n60 ∧ (w0.1.1.length : Int) ≤ 40) := poG trivial (an @vP (an @zGN trivial)) trivial
theorem zQK : SF zDV (U6 fun (w0 : El zF) _ (l1 : Li .str) (l2 : Li zK) _ (n7 : Int) => (0 ≤ n7 ∧ (l1.length : Int) ≤ (l2.length : Int) ∧ (w0.1.1.length : Int) ≤ 40, (l1.length : Int) - n7)) := sfG trivial (an @vP (an @zGN trivial)) trivial
abbrev zD8 (a0 : El zF) (a1 : Li .str) (a2 : Li zK) : Tr (El zF × Unit) := .lp zDV (a0, (), a1, a2, a0.2.2.2.2.2.1, (0 : Int), ()) (fun r5 => .v (r5.1, ())) (fun t1 => .v (t1.1, ()))
def zCJ a0 a1 a2 := (zD8 a0 a1 a2).val
@[simp] def zD2 (a0 : El zF) (a1 : Li .str) (a2 : Li zK) : Prop := (a0.1.1.length : Int) ≤ 40 ∧ (a1.length : Int) ≤ (a2.length : Int)
abbrev zM5 := gq [zAv, vd (.lst .str), vd (.lst zK)] [zAv] (U3 zD2) (U3 zCJ)
theorem zVa : Ok zM5 (U3 zD8) := okG (an zQK (an zI0 trivial)) trivial trivial
theorem zVM {a0 : El zF} {a1 : Li .str} {a2 : Li zK} (h : (a0.1.1.length : Int) ≤ 40 ∧ (a1.length : Int) ≤ (a2.length : Int)) : ((zCJ a0 a1 a2).1.1.1.length : Int) ≤ 40 := psG (T := zD8 a0 a1 a2) (P := fun y => (y.1.1.1.length : Int) ≤ 40) (an zI0 trivial) (an h trivial) trivial
def zVe := cn mo [zHa, zCK, zPt] [zDV] 251 zM5 Tryz.f251 (U3 zD8) zVa
abbrev zFN : LB := ⟨[], ⟨95, [.pr (.pr (.o (.d zD)) (.d .int)) (.pr (.o (.d zA)) (.pr (.o (.d zC)) (.pr (.o (.d zD)) (.d (.pr (.lst zP) (.pr .int .int))))))], [(0, .pt 0 0), (1, vd .int), (5, vo zD), (7, vd .int)], []⟩, ⟨95, [.pr (.pr (.o (.d zD)) (.d .int)) (.pr (.o (.d zA)) (.pr (.o (.d zC)) (.pr (.o (.d zD)) (.d (.pr (.lst zP) (.pr .int .int))))))], [], []⟩, 0, U5 fun (w0 : El zF) _ (n1 : Int) (l5 : Li zD) (n7 : Int) => let k1 := .brk (w0, (), n1, l5, n7, ()); cond (decide (n7 < (l5.length : Int))) (cond (w0.2.2.2.2.2.1 == (1 : Int)) (.ix n7 l5 (.ik (n7 + 1) (.v (.go ((vR w0 (zB zD l5 n7).2).1, (), n1, l5, (n7 + 1), ()))))) (.v k1)) (.v k1)⟩
theorem zK3 : PO zFN (fun _ _ => False) (U5 fun _ _ (n10 : Int) (l50 : Li zD) _ => U5 fun (w0 : El zF) _ (n1 : Int) (l5 : Li zD) _ => n1 = n10 ∧ l5 = l50 ∧ (w0.1.1.length : Int) ≤ 40) := poG trivial (an @vP (an @vM trivial)) (an @zFe trivial)
theorem zSz : SF zFN (U5 fun (w0 : El zF) _ _ (l5 : Li zD) (n7 : Int) => (0 ≤ n7 ∧ (w0.1.1.length : Int) ≤ 40, (l5.length : Int) - n7)) := sfG trivial (an @vP (an @vM trivial)) (an @zFe trivial)
abbrev zBa : LB := ⟨[], ⟨95, [.pr (.pr (.o (.d zD)) (.d .int)) (.pr (.o (.d zA)) (.pr (.o (.d zC)) (.pr (.o (.d zD)) (.d (.pr (.lst zP) (.pr .int .int))))))], [(0, .pt 0 0), (8, vo zEb), (9, vo .str), (10, vo zK), (11, vd .int)], []⟩, ⟨95, [.pr (.pr (.o (.d zD)) (.d .int)) (.pr (.o (.d zA)) (.pr (.o (.d zC)) (.pr (.o (.d zD)) (.d (.pr (.lst zP) (.pr .int .int))))))], [], []⟩, 2, U6 fun (w0 : El zF) _ (l8 : Li zEb) (l9 : Li .str) (l10 : Li zK) (n11 : Int) => cond (decide (n11 < (l9.length : Int))) (.ix n11 l9 (let y1 := (yD w0.2.2.1 (zB .str l9 n11)); .ix y1.1 w0.2.2.1 (let y2 := (yo (zB zC w0.2.2.1 y1.1).1); .ck (((l10.length + [y2.1].length : Nat) : Int) ≤ 16777216) (.ik (n11 + 1) (.v (.go (w0, (), l8, l9, (l10 ++ [y2.1]), (n11 + 1), ()))))))) (.v (.brk (w0, (), l8, l9, l10, n11, ())))⟩
def zKH (w0 : El zF) (l8 : Li zEb) (l9 : Li .str) (l10 : Li zK) := rF (l := zBa) (L := l9) (fun i (s : (Li zK)) => (w0, (), l8, l9, s, i, ())) (fun i x s => (s ++ [(yo (zB zC w0.2.2.1 (yD w0.2.2.1 x).1).1).1])) l10
theorem zS5 : SF zBa (U6 fun (w0 : El zF) _ _ (l9 : Li .str) (l10 : Li zK) (n11 : Int) => (0 ≤ n11 ∧ (l10.length : Int) ≤ n11 ∧ (w0.1.1.length : Int) ≤ 40 ∧ (∀ k ∈ l9, zFG w0.2.2.1 k) ∧ (l10.length : Int) = n11, (l9.length : Int) - n11)) := by
 refine sfk fun x hI hw => ?_
 have hb := SD.Bd.of hw
 clear hw
 obtain ⟨w0, u, l8, l9, l10, n8, ⟨⟩⟩ := x
 simp only [SD.Bd, BdB, BdR, AD.Bd, Bd, lim, U6] at hb hI ⊢
 replace hb : (l9.length : Int) ≤ 16777216 := by simp_all
 obtain ⟨h1, h2, h5, h3, h4⟩ : 0 ≤ (n8 : Int) ∧ (l10.length : Int) ≤ (n8 : Int) ∧ (w0.1.1.length : Int) ≤ 40 ∧ (∀ k ∈ l9, zFG w0.2.2.1 k) ∧ (l10.length : Int) = (n8 : Int) := hI
 revert h1 h2 h4
 generalize hn : (n8 : Int) = n
 intro h1 h2 h4
 refine ⟨by omega, ?_⟩
 refine xI (fun c => ?_) (fun _ => trivial)
 replace c : n < (l9.length : Int) := of_decide_eq_true c
 refine z7 ⟨h1, c⟩ (z7 ⟨zFe h3 h1 c, zFc _ _⟩ (z7 ?_ (z7 ?_ ?_)))
 ·simp only [List.length_singleton]; exact (zHF c hb h2).1
 ·exact (zM0 h1 c hb).1
 ·show (_ ∧ _ ∧ _ ∧ _ ∧ _) ∧ _
  simp only [List.length_append, List.length_singleton]
  exact ⟨⟨(zM0 h1 c hb).2.1, (zHF c hb h2).2.1, h5, h3, zsS h4⟩, (zM0 h1 c hb).2.2⟩
abbrev zDm (a0 : El zF) (a1 : Int) : Tr (Li zEb × El zF × Unit) := let k2 := (a0.2.2.2.2.1, (a0.2.2.2.2.2.1, a1)); cond (a0.2.2.2.2.2.1 == (1 : Int)) (let y1 := (zMf a0.2.2.2.1 a1); .lp zFN ((a0.1, (a0.2.1, (a0.2.2.1, (y1.2.1, k2)))), (), a1, y1.1, (0 : Int), ()) (fun _ => .bad) (fun t2 => let y3 := (vG t2.1.2.2.1 t2.2.2.1); .lp zBa ((t2.1.1, (t2.1.2.1, (y3.2.2.1, t2.1.2.2.2))), (), y3.1, y3.2.1, ([] : Li zK), (0 : Int), ()) (fun _ => .bad) (fun t4 => .ck (zD2 t4.1 t4.2.2.2.1 t4.2.2.2.2.1) (.v (t4.2.2.1, (zCJ t4.1 t4.2.2.2.1 t4.2.2.2.2.1).1, ()))))) (let k1 := vG a0.2.2.1 a1; .lp zBa ((a0.1, (a0.2.1, (k1.2.2.1, (a0.2.2.2.1, k2)))), (), k1.1, k1.2.1, ([] : Li zK), (0 : Int), ()) (fun _ => .bad) (fun t1 => .ck (zD2 t1.1 t1.2.2.2.1 t1.2.2.2.2.1) (.v (t1.2.2.1, (zCJ t1.1 t1.2.2.2.1 t1.2.2.2.2.1).1, ()))))
def zJ8 a0 a1 := (zDm a0 a1).val
@[simp] def zPg (a0 : El zF) (_a1 : Int) : Prop := (a0.1.1.length : Int) ≤ 40
abbrev zPq := gq [zAv, vd .int] [vo zEb, zAv] (U2 zPg) (U2 zJ8)
theorem zZC : Ok zPq (U2 zDm) := fun a hw hp => by
 obtain ⟨(a0 : El zF), (a1 : Int), ⟨⟩⟩ := a
 replace hp : (a0.1.1.length : Int) ≤ 40 := hp
 show (zDm a0 a1).ok
 unfold zDm
 have hend : ∀ (w : El zF) (n : Int), (w.1.1.length : Int) ≤ 40 → (Tr.lp zBa ((w.1, (w.2.1, ((vG w.2.2.1 n).2.2.1, w.2.2.2))), (), (vG w.2.2.1 n).1, (vG w.2.2.1 n).2.1, ([] : Li zK), (0 : Int), ()) (fun _ => .bad) (fun t8 => .ck (zD2 t8.1 t8.2.2.2.1 t8.2.2.2.2.1) (.v (t8.2.2.1, (zCJ t8.1 t8.2.2.2.1 t8.2.2.2.2.1).1, ()))) : Tr (Li zEb × El zF × Unit)).ok := by
  intro w n h1
  refine zg (zS5 _ ⟨Int.le_refl 0, Int.le_refl 0, h1, zQy _ n, rfl⟩) ?_
  rw [zKH, xL]
  exact zg ⟨h1, by rw [vM]; simp⟩ trivial
 refine yK (fun _ => ?_) (fun _ => ?_)
 ·refine zg (zSz _ ⟨Int.le_refl 0, hp⟩) ?_
  refine okF.2 (xM zK3 ⟨rfl, rfl, hp⟩ (fun r hr => hr.elim) (fun t ht => ?_))
  obtain ⟨w, u, n1, l5, n7, ⟨⟩⟩ := t
  have ht : n1 = a1 ∧ _ ∧ (w.1.1.length : Int) ≤ 40 := ht
  exact hend w n1 ht.2.2
 ·exact hend (a0.1, (a0.2.1, (a0.2.2.1, (a0.2.2.2.1, (a0.2.2.2.2.1, (a0.2.2.2.2.2.1, a1)))))) a1 hp
theorem zZK {a0 : El zF} {a1 : Int} (h : (a0.1.1.length : Int) ≤ 40) : ((zJ8 a0 a1).2.1.1.1.length : Int) ≤ 40 := psG (T := zDm a0 a1) (P := fun y => (y.2.1.1.1.length : Int) ≤ 40) (an zK3 (an zKH trivial)) (an h (an @@zQy (an @zVM (an @vM trivial)))) (an @zFe trivial)
def zab : Con Tryz.prog := zsE mo g0 [zRL, zCK, zKX, zAp, zVe] [zFN, zBa] [] [zXx] 156 zPq (fn := Tryz.f156) ⟨lk, lk, trivial⟩ (fun a hw h => okT (by kernel_rfl) (zZC a hw h) rfl)
abbrev zDv (a0 : El zF) (a1 : Int) (a2 : Bool) (a3 : El zL) : Tr (El zF × Unit) := .ix a1 a0.2.2.1 (cond (a0.2.2.2.2.2.1 != (1 : Int)) (.v ((zDs a0).1, ())) (let k1 := zB zC a0.2.2.1 a1; let k4 := !(k1.2.1.toList == (⟨#[]⟩ : ByteArray).toList); let k5 := ((yi a0 3).1, ()); let k8 := zOD a0.2.2.2.2.1 k1; cond a2 (let k2 := zB2 k1.1 (⟨#[111, 107]⟩ : ByteArray) a3; let k6 := ((vR a0 k2.1).1, ()); cond a2 (cond k4 (let y1 := k8; cond (!y1.2.1) (.v k5) (.v ((xB (a0.1, (a0.2.1, (a0.2.2.1, (a0.2.2.2.1, (y1.1, a0.2.2.2.2.2))))) k2.1).1, ()))) (.v k6)) (.v k6)) (let k3 := zB2 k1.1 (⟨#[110, 111]⟩ : ByteArray) a3; let k7 := ((vR a0 k3.1).1, ()); cond a2 (cond k4 (let y1 := k8; cond (!y1.2.1) (.v k5) (.v ((xB (a0.1, (a0.2.1, (a0.2.2.1, (a0.2.2.2.1, (y1.1, a0.2.2.2.2.2))))) k3.1).1, ()))) (.v k7)) (.v k7))))
def zG7 a0 a1 a2 a3 := (zDv a0 a1 a2 a3).val
@[simp] def zMr (a0 : El zF) (a1 : Int) (_a2 : Bool) (_a3 : El zL) : Prop := (0 ≤ a1 ∧ a1 < (a0.2.2.1.length : Int)) ∧ (a0.1.1.length : Int) ≤ 40
abbrev zNA := gq [zAv, vd .int, vd .bool, va zL] [zAv] (U4 zMr) (U4 zG7)
theorem zVE : Ok zNA (U4 zDv) := okG trivial (an @zGN (an @vE (an @vP (an @zA0 trivial)))) trivial
theorem zU4 {a0 : El zF} {a1 : Int} {a2 : Bool} {a3 : El zL} (h : (0 ≤ a1 ∧ a1 < (a0.2.2.1.length : Int)) ∧ (a0.1.1.length : Int) ≤ 40) : ((zG7 a0 a1 a2 a3).1.1.1.length : Int) ≤ 40 := psG (T := zDv a0 a1 a2 a3) (P := fun y => (y.1.1.1.length : Int) ≤ 40) trivial (an h (an @zGN (an @vE (an @vP (an @zA0 trivial))))) trivial
def zVg := cn mo [zPt, zT6, zCV, zHa, zDR, zCK] [] 253 zNA Tryz.f253 (U4 zDv) zVE
abbrev zBO (a0 : El zF) (a1 : ByteArray) (a2 : Bool) (a3 : El zL) : Tr (Int × El zF × Unit) := let y1 := (zEW a0.2.2.1 a1 a2 a3); let k1 := (a0.1, (a0.2.1, (y1.2.1, a0.2.2.2))); cond (y1.1 == (1 : Int)) (.ck (zMr k1 (yD y1.2.1 a1).1 a2 a3) (.v (y1.1, (zG7 k1 (yD y1.2.1 a1).1 a2 a3).1, ()))) (.v (y1.1, k1, ()))
def zIG a0 a1 a2 a3 := (zBO a0 a1 a2 a3).val
@[simp] def zNr (a0 : El zF) (_a1 : ByteArray) (_a2 : Bool) (_a3 : El zL) : Prop := (a0.1.1.length : Int) ≤ 40
abbrev zOI := gq [zAv, vd .str, vd .bool, va zL] [vd .int, zAv] (U4 zNr) (U4 zIG)
theorem zWU : Ok zOI (U4 zBO) := fun a hw hp => by
 obtain ⟨(a0 : El zF), (a1 : ByteArray), (a2 : Bool), (a3 : El zL), ⟨⟩⟩ := a
 replace hp : (a0.1.1.length : Int) ≤ 40 := hp
 show (zBO a0 a1 a2 a3).ok
 unfold zBO
 exact yK (fun h => zg ⟨⟨zN7 (by simpa using h), zFc _ _⟩, hp⟩ trivial) (fun _ => trivial)
theorem zVz {a0 : El zF} {a1 : ByteArray} {a2 : Bool} {a3 : El zL} (h : (a0.1.1.length : Int) ≤ 40) : ((zIG a0 a1 a2 a3).2.1.1.1.length : Int) ≤ 40 := by
 show (zBO a0 a1 a2 a3).ps (fun y => (y.2.1.1.1.length : Int) ≤ 40)
 unfold zBO
 refine psC.2 ⟨fun c => zU4 ⟨⟨zN7 (by simpa using c), zFc _ _⟩, h⟩, fun _ => h⟩
def zYo : Con Tryz.prog := zsE mo g0 [zKX, zVg] [] [] [zUD] 157 zOI (fn := Tryz.f157) trivial (fun a hw h => okT (by kernel_rfl) (zWU a hw h) rfl)
abbrev vI (a0 : El zJ) (a1 : El zN) (a2 : El zF) : Tr (El zJ × El zF × Unit) := .ck (yz a0 8) (let y1 := (zT a0 8); let k7 := (a2.2.2.1.length : Int); let k3 : Tr _ := cond (decide (k7 > (0 : Int))) (.ck (yz y1.2.1 k7) (let y2 := (zT y1.2.1 k7); .ix y2.1 a2.2.2.1 (let y3 := (xl (zB zC a2.2.2.1 y2.1).1); .ck (vZ y2.2.1 3) (let y4 := (vL y2.2.1 3); .ck (zF3 y4.2.1) (.ck (zNr a2 y3.1 (!y4.1) (vH y4.2.1).1) (.v ((vH y4.2.1).2.1, (zIG a2 y3.1 (!y4.1) (vH y4.2.1).1).2.1, ()))))))) (.v (y1.2.1, a2, ())); let k4 : Tr _ := cond (!(zGt a2).1) (.ck (zGz y1.2.1 [(0 : Int), (1 : Int), (5 : Int), (30 : Int)]) (let y2 := (zDB y1.2.1 [(0 : Int), (1 : Int), (5 : Int), (30 : Int)]); let k8 := IntKind.wrap .i64 (a2.2.2.2.2.2.2 + y2.1); .ck (zPg a2 k8) (.v (y2.2.1, (zJ8 a2 k8).2.1, ())))) (.v (y1.2.1, a2, ())); let k1 : Tr _ := cond (y1.1 == (5 : Int)) (cond (y1.1 == (5 : Int)) k4 k3) (cond (y1.1 == (6 : Int)) k4 k3); let k9 := a2.2.2.2.2.2.1 == (1 : Int); let k2 : Tr _ := cond k9 (.ck (zBx a1 a2) (cond (zBA a1 a2).2.1 (.ck (zP0 a1 a2 (zBA a1 a2).1) (.v (y1.2.1, (zJ3 a1 a2 (zBA a1 a2).1).1, ()))) (.v (y1.2.1, a2, ())))) (.v (y1.2.1, a2, ())); let k5 : Tr _ := cond (y1.1 == (2 : Int)) (cond (y1.1 == (2 : Int)) k2 k1) (cond (y1.1 == (3 : Int)) (cond (y1.1 == (3 : Int)) k2 k1) (cond (y1.1 == (4 : Int)) k2 k1)); let k6 : Tr _ := cond k9 (.ck (zTI y1.2.1) (.v ((zH6 y1.2.1).2.1, (vR a2 (zH6 y1.2.1).1).1, ()))) (.v (y1.2.1, a2, ())); cond (y1.1 == (0 : Int)) (cond (y1.1 == (0 : Int)) k6 k5) (cond (y1.1 == (1 : Int)) k6 k5))
def zFK a0 a1 a2 := (vI a0 a1 a2).val
@[simp] def zNK (a0 : El zJ) (a1 : El zN) (a2 : El zF) : Prop := Cu a0 ∧ (((a1.2.length : Int) ≤ 4 ∧ ∀ r ∈ a1.2, DrR r) ∧ (a2.1.1.length : Int) ≤ 40)
abbrev zNL := gq [zCi, va zN, zAv] [zCi, zAv] (U3 zNK) (U3 zFK)
theorem zXk : Ok zNL (U3 vI) := fun a hw hp => by
 obtain ⟨(a0 : El zJ), (a1 : El zN), (a2 : El zF), ⟨⟩⟩ := a
 obtain ⟨hc, hd, h40⟩ : Cu a0 ∧ ((a1.2.length : Int) ≤ 4 ∧ ∀ r ∈ a1.2, DrR r) ∧ (a2.1.1.length : Int) ≤ 40 := hp
 have hq : zBx a1 a2 := zhG hd h40
 have hz : ∀ r ∈ a1.2, SzR r := fun r h => SzR.of (hd.2 r h)
 have hu : Cu (zT a0 8).2.1 := zj hc
 show (vI a0 a1 a2).ok
 unfold vI
 refine zg hc ?_
 dsimp only
 repeat' first | (refine yK (fun _ => ?_) (fun _ => ?_)) | with_reducible exact okV.2 trivial | (refine zg ?_ ?_)
 all_goals first | with_reducible exact hu | with_reducible exact hq | exact ⟨hz, h40⟩ | (show Cu _; exact hu) | exact h40 | exact ⟨hu, by decide⟩ | exact ⟨zS.1, zS.2 (of_decide_eq_true ‹_›)⟩ | exact zj hu | exact xX (zj hu)
theorem zNn {a0 : El zJ} {a1 : El zN} {a2 : El zF} (h : Cu a0 ∧ (((a1.2.length : Int) ≤ 4 ∧ ∀ r ∈ a1.2, DrR r) ∧ (a2.1.1.length : Int) ≤ 40)) : Cu (zFK a0 a1 a2).1 := by
 have key : (vI a0 a1 a2).ps (fun y => Cu y.1) := by
  obtain ⟨hc, hd, h40⟩ := h
  have hz : ∀ r ∈ a1.2, SzR r := fun r h => SzR.of (hd.2 r h)
  have hu : Cu (zT a0 8).2.1 := zj hc
  unfold vI
  refine psK.2 ?_
  dsimp only
  repeat' first | with_reducible refine zuM ?_ ?_ | with_reducible refine psK.2 ?_
  all_goals first | with_reducible exact psV.2 hu | with_reducible exact psV.2 (zm2 hu) | with_reducible exact psV.2 (zDo ⟨hu, by decide⟩) | with_reducible exact psV.2 (zEJ (xX (zj hu)))
 exact key
theorem zNz {a0 : El zJ} {a1 : El zN} {a2 : El zF} (h : Cu a0 ∧ (((a1.2.length : Int) ≤ 4 ∧ ∀ r ∈ a1.2, DrR r) ∧ (a2.1.1.length : Int) ≤ 40)) : ((zFK a0 a1 a2).2.1.1.1.length : Int) ≤ 40 := by
 have key : (vI a0 a1 a2).ps (fun y => (y.2.1.1.1.length : Int) ≤ 40) := by
  obtain ⟨hc, hd, h40⟩ := h
  have hz : ∀ r ∈ a1.2, SzR r := fun r h => SzR.of (hd.2 r h)
  have hu : Cu (zT a0 8).2.1 := zj hc
  unfold vI
  refine psK.2 ?_
  dsimp only
  repeat' first | with_reducible refine zuM ?_ ?_ | with_reducible refine psK.2 ?_
  all_goals first | with_reducible exact psV.2 h40 | with_reducible exact psV.2 (zZr ⟨hz, h40⟩) | with_reducible exact psV.2 (vP h40) | with_reducible exact psV.2 (zZK h40) | with_reducible exact psV.2 (zVz h40)
 exact key
def zXe : Gv := ⟨true, fun _ => none, false⟩
def zYX := cn mo [vg, zbh, zCK, zQP, zaP, zYm, zNk, zab, zI2, zDL, zIQ, zYo] [] 78 zNL Tryz.f78 (U3 vI) zXk (g := zXe)
abbrev zJt : LB := ⟨[0, 1, 2, 4, 11], ⟨35, [.d zJ, .pr (.d .str) (.o (.d zG)), .pr (.pr (.o (.d zD)) (.d .int)) (.pr (.o (.d zA)) (.pr (.o (.d zC)) (.pr (.o (.d zD)) (.pr (.o (.d zP)) (.d (.pr .int .int)))))), .d zN, .pr (.pr (.o (.d zD)) (.d .int)) (.pr (.o (.d zA)) (.pr (.o (.d zC)) (.pr (.o (.d zD)) (.d (.pr (.lst zP) (.pr .int .int))))))], [(0, .pt 0 0), (4, .pt 1 0), (5, .pt 2 0), (6, .pt 3 0), (7, .pt 4 0), (8, vd .int)], []⟩, ⟨35, [.d zJ], [], []⟩, 0, U11 fun (w0 : El zJ) (w1 : El zN) (w2 : El zF) (w3 : El zN) (w4 : El zF) _ _ _ _ _ (n8 : Int) => cond (decide (n8 > 0)) (.ck (zNK w0 w3 w4) (let y1 := (zFK w0 w3 w4); .ik (n8 - 1) (.v (.go (y1.1, w1, w2, w3, y1.2.1, (), (), (), (), (), (n8 - 1), ()))))) (.v (.brk (w0, w1, w2, w3, w4, (), (), (), (), (), n8, ())))⟩
theorem zJz : PO zJt (fun _ _ => False) (U11 fun _ (w10 : El zN) (w20 : El zF) (w30 : El zN) _ _ _ _ _ _ _ => U11 fun (w0 : El zJ) (w1 : El zN) (w2 : El zF) (w3 : El zN) (w4 : El zF) _ _ _ _ _ _ => w1 = w10 ∧ w2 = w20 ∧ w3 = w30 ∧ Cu w0 ∧ (((w3.2.length : Int) ≤ 4 ∧ ∀ r ∈ w3.2, DrR r)) ∧ (w4.1.1.length : Int) ≤ 40) := poG trivial (an @zNn (an @zNz trivial)) trivial
theorem zZR : SF zJt (U11 fun (w0 : El zJ) _ _ (w3 : El zN) (w4 : El zF) _ _ _ _ _ (n8 : Int) => (0 ≤ n8 ∧ Cu w0 ∧ (((w3.2.length : Int) ≤ 4 ∧ ∀ r ∈ w3.2, DrR r)) ∧ (w4.1.1.length : Int) ≤ 40, n8)) := sfG trivial (an @zNn (an @zNz trivial)) trivial
abbrev zIE (a0 : El zJ) (a1 : Int) : Tr (El zN × El zF × El zJ × Unit) := .ck (zXG a0) (.ck (zGz (zEC a0).2.1 [(0 : Int), (0 : Int), (7 : Int)]) (let y1 := (zDB (zEC a0).2.1 [(0 : Int), (0 : Int), (7 : Int)]); .ck (yz y1.2.1 a1) (.lp zJt ((zT y1.2.1 a1).2.1, ((⟨#[]⟩ : ByteArray), ([] : Li zG)), ((([] : Li zD), (0 : Int)), (([] : Li zA), (([] : Li zC), (([] : Li zD), (([] : Li zP), ((0 : Int), (0 : Int))))))), (zEC a0).1, (zQp y1.1).1, (), (), (), (), (), (zT y1.2.1 a1).1, ()) (fun _ => .bad) (fun t2 => cond (t2.2.2.2.2.1.2.2.2.2.2.1 == (1 : Int)) (.ck (vZ t2.1 10) (let y3 := (vL t2.1 10); cond y3.1 (.v (t2.2.2.2.1, (yi t2.2.2.2.2.1 5).1, y3.2.1, ())) (.v (t2.2.2.2.1, t2.2.2.2.2.1, y3.2.1, ())))) (.v (t2.2.2.2.1, t2.2.2.2.2.1, t2.1, ()))))))
def zGA a0 a1 := (zIE a0 a1).val
@[simp] def zYw (a0 : El zJ) (_a1 : Int) : Prop := Cu a0
abbrev zY3 := gq [zCi, vd .int] [va zN, .val true (.pr (.pr (.o (.d zD)) (.d .int)) (.pr (.o (.d zA)) (.pr (.o (.d zC)) (.pr (.o (.d zD)) (.d (.pr (.lst zP) (.pr .int .int))))))), zCi] (U2 zYw) (U2 zGA)
set_option maxHeartbeats 2000000 in
theorem ziH : Ok zY3 (U2 zIE) := okG (an zZR (an zJz trivial)) (an @zQN (an @zQb (an @zDo (an @zFF (an @zj (an @zS (an @zQR (an @xX (an @vE trivial))))))))) trivial
set_option maxHeartbeats 2000000 in
theorem zYc {a0 : El zJ} {a1 : Int} (h : Cu a0) : Cu (zGA a0 a1).2.2.1 := psG (T := zIE a0 a1) (P := fun y => Cu y.2.2.1) (an zJz trivial) (an h (an @zQN (an @zQb (an @zDo (an @zFF (an @zj (an @zS (an @zQR (an @xX (an @vE trivial)))))))))) trivial
set_option maxHeartbeats 2000000 in
theorem zYd {a0 : El zJ} {a1 : Int} (h : Cu a0) : (((zGA a0 a1).1.2.length : Int) ≤ 4 ∧ ∀ r ∈ (zGA a0 a1).1.2, DrR r) ∧ ((zGA a0 a1).2.1.1.1.length : Int) ≤ 40 := psG (T := zIE a0 a1) (P := fun y => ((y.1.2.length : Int) ≤ 4 ∧ ∀ r ∈ y.1.2, DrR r) ∧ (y.2.1.1.1.length : Int) ≤ 40) (an zJz trivial) (an h (an @zQN (an @zQb (an @zDo (an @zFF (an @zj (an @zS (an @zQR (an @xX (an @vE trivial)))))))))) trivial
def zid := cn mo [ziG, zNk, zju, vg, zgt, zYX, zDL, zCV] [zJt] 24 zY3 Tryz.f24 (U2 zIE) ziH
abbrev zNX (a0 : Li .u8) : Tr (El zN × El zF × Unit) := let y1 := (zb8 a0 30); let k1 := IntKind.wrap .i64 ((6 : Int) + y1.1); .ck (zYw (zSi a0) k1) (let y2 := (zGA (zSi a0) k1); .v (y2.1, y2.2.1, ()))
def z8 a0 := (zNX a0).val
@[simp] def zUT (a0 : Li .u8) : Prop := (a0.length : Int) ≤ 1048576
abbrev zUk := gq [vd (.lst .u8)] [va zN, .val true (.pr (.pr (.o (.d zD)) (.d .int)) (.pr (.o (.d zA)) (.pr (.o (.d zC)) (.pr (.o (.d zD)) (.d (.pr (.lst zP) (.pr .int .int)))))))] (U1 zUT) (U1 z8)
theorem zfr : Ok zUk (U1 zNX) := okG trivial (an @zfJ (an @zYc (an @zYd (an @SzR.of trivial)))) trivial
theorem zhA {a0 : Li .u8} (h : (a0.length : Int) ≤ 1048576) : ∀ r ∈ (z8 a0).1.2, SzR r := psG (T := zNX a0) (P := fun y => ∀ r ∈ y.1.2, SzR r) trivial (an h (an @zfJ (an @zYc (an @zYd (an @SzR.of trivial))))) trivial
def zfW : Gv := ⟨true, fun _ => none, false⟩
def zgQ : Con Tryz.prog := zu0 mo zfW [zmr, zid] [] [zpL] 6 zUk (fn := Tryz.f6) trivial (fun a hw h => okT (by kernel_rfl) (zfr a hw h) rfl)
abbrev zQ8 : LB := ⟨[], ⟨25, [], [(1, vd .bool), (5, vo zM), (9, vd (.lst zM)), (10, vd .int), (11, vd .int)], []⟩, ⟨25, [], [], []⟩, 0, U5 fun (b1 : Bool) (l5 l9 : Li zM) (n10 n11 : Int) => cond (decide (n11 < n10)) (.ix n11 l9 (cond ((zB zM l9 n11).2.2 == b1) (.ck (((l5.length + [(zB zM l9 n11)].length : Nat) : Int) ≤ 16777216) (.ik (n11 + 1) (.v (.go (b1, (l5 ++ [(zB zM l9 n11)]), l9, n10, (n11 + 1), ()))))) (.ik (n11 + 1) (.v (.go (b1, l5, l9, n10, (n11 + 1), ())))))) (.v (.brk (b1, l5, l9, n10, n11, ())))⟩
def zQQ (b1 : Bool) (l9 l5 : Li zM) := rF (l := zQ8) (L := l9) (fun i (s : (Li zM)) => (b1, s, l9, (l9.length : Int), i, ())) (fun i x s => bif (x.2.2 == b1) then (s ++ [x]) else s) l5
theorem ziX : SF zQ8 (U5 fun _ (l5 l9 : Li zM) (n10 n11 : Int) => (0 ≤ n11 ∧ n10 = (l9.length : Int) ∧ (l5.length : Int) ≤ n11, n10 - n11)) := sfA
abbrev zSq (a0 : El zG) (a1 : Bool) : Tr (Li zM × Unit) := .lp zQ8 (a1, ([] : Li zM), a0.2.2.1, (a0.2.2.1.length : Int), (0 : Int), ()) (fun _ => .bad) (fun t1 => .v (t1.2.1, ()))
def yZ a0 a1 := (zSq a0 a1).val
abbrev zlZ := gd [va zG, vd .bool] [vo zM] (U2 yZ)
theorem zrA : Ok zlZ (U2 zSq) := zNF ziX zQQ
def zrl := cn mo [] [zQ8] 258 zlZ Tryz.f258 (U2 zSq) zrA
def zr0 (a0 : El zG) (a1 : Bool) := (by
 simp only [yZ, zSq, zY, zq, ze]
 rewrite [zQQ, xL]
 dsimp only : yZ a0 a1 = _)
theorem zRW (r : El zG) (b : Bool) : (yZ r b).1 = r.2.2.1.filter (fun p => p.2.2 == b) := by
 simp only [yZ, zSq, ze, zY, zq]
 rw [zQQ]
 show yC (fun i x (s : (Li zM)) => bif (x.2.2 == b) then (s ++ [x]) else s) 0 r.2.2.1 [] = _
 rw [zDU]; rfl
theorem znr {r : El zG} {b : Bool} {p : El zM} (h : p ∈ (yZ r b).1) : p ∈ r.2.2.1 := by
 rw [zRW] at h; exact (List.mem_filter.1 h).1
def zuL (d : El zN) (s : El zE) : Prop := s.1.length ≤ 40 ∧ d.2.length ≤ 12 ∧ ∀ r ∈ d.2, (∀ p ∈ r.2.2.1, p.2.1.length ≤ 5) ∧ (yZ r false).1.length ≤ 3
def xx : Con Tryz.prog := ⟨165, zIc zH false, zV3 mo (fn := Tryz.f165) (t := 39) (u := 4) (e := 237) (p0 := "slices.go:355") (p1 := "slices.go:357") (p2 := "slices.go:358") (p3 := "slices.go:362") (by kernel_rfl) (by kernel_rfl) (by kernel_rfl) (by kernel_rfl) (by kernel_rfl) zH false (by kernel_rfl) (fun l => by kernel_rfl) (.inr rfl)⟩
abbrev zLH : LB := ⟨[], ⟨22, [.d zL], [(1, vd .str), (4, .pt 0 0), (8, vd (.lst zH)), (9, vd .int), (10, vd .int)], []⟩, ⟨22, [.d zL], [(4, .pt 0 0), (5, vd .bool)], []⟩, 0, U6 fun (w0 : El zL) (s1 : ByteArray) _ (l8 : Li zH) (n9 n10 : Int) => cond (decide (n10 < n9)) (.ix n10 l8 (cond ((zB zH l8 n10).1.toList == s1.toList) (.v (.ret ((zB zH l8 n10).2, (), true, ()))) (.ik (n10 + 1) (.v (.go (w0, s1, (), l8, n9, (n10 + 1), ())))))) (.v (.brk (w0, s1, (), l8, n9, n10, ())))⟩
def zct (w0 : El zL) (s1 : ByteArray) (l8 : Li zH) := rS (l := zLH) (L := l8) (fun i => (w0, s1, (), l8, (l8.length : Int), i, ())) (fun i x => bif (x.1.toList == s1.toList) then (some (x.2, (), true, ())) else none)
theorem zdP : SF zLH (U6 fun _ _ _ (l8 : Li zH) (n9 n10 : Int) => (0 ≤ n10 ∧ n9 = (l8.length : Int), n9 - n10)) := sfA
abbrev zO7 (a0 : Li zH) (a1 : ByteArray) : Tr (El zL × Bool × Unit) := let k1 := ((0 : Int), ((0 : Int), (⟨#[]⟩ : ByteArray))); .lp zLH (k1, a1, (), a0, (a0.length : Int), (0 : Int), ()) (fun r1 => .v (r1.1, r1.2.2.1, ())) (fun _ => .v (k1, false, ()))
def zFo a0 a1 := (zO7 a0 a1).val
abbrev zcS := fd [vd (.lst zH), vd .str] [va zL, vd .bool] (U2 zFo)
theorem znR : Ok zcS (U2 zO7) := vN zdP
def zb7 := cn mo [] [zLH] 330 zcS Tryz.f330 (U2 zO7) znR
def zn5 (a0 : Li zH) (a1 : ByteArray) := (by
 simp only [zFo, zO7, zY, zq, ze]
 rewrite [zct, xH]
 dsimp only : zFo a0 a1 = _)
abbrev zAO : LB := ⟨[1], ⟨83, [.d zK], [(2, vd (.lst zH)), (4, .pt 0 0), (8, vo zH), (33, vd (.lst yb)), (34, vd .int), (35, vd .int)], []⟩, ⟨83, [], [(6, vo zH), (7, vd .bool)], []⟩, 0, U7 fun (w0 : El zK) (l2 : Li zH) _ (l8 : Li zH) (l33 : Li yb) (n34 n35 : Int) => cond (decide (n35 < n34)) (.ix n35 l33 (.ix n35 w0.2 (let k2 : Tr (St _ _) := .ik (n35 + 1) (.v (.go (w0, l2, (), l8, l33, n34, (n35 + 1), ()))); let k3 := zB zL w0.2 n35; cond ((zB yb l33 n35).1 == (2 : Int)) (cond (!(((zB yb l33 n35).2.2.1 == k3.1) && (((zB yb l33 n35).2.2.2.1 == k3.2.1) && (((zB yb l33 n35).2.2.2.2.toList == k3.2.2.toList) && true)))) (.v (.ret (l2, false, ()))) k2) (cond ((zB yb l33 n35).1 == (1 : Int)) (let y1 := (zFo l8 (zB yb l33 n35).2.1); let k1 : Tr (St _ _) := cond (!y1.2.1) (let k4 := ((zB yb l33 n35).2.1, k3); .ck (((l8.length + [k4].length : Nat) : Int) ≤ 16777216) (.ik (n35 + 1) (.v (.go (w0, l2, (), (l8 ++ [k4]), l33, n34, (n35 + 1), ()))))) k2; cond y1.2.1 (cond (!((y1.1.1 == k3.1) && ((y1.1.2.1 == k3.2.1) && ((y1.1.2.2.toList == k3.2.2.toList) && true)))) (.v (.ret (l2, false, ()))) k1) k1) k2)))) (.v (.brk (w0, l2, (), l8, l33, n34, n35, ())))⟩
theorem zVx : PO zAO (U7 fun _ (l20 : Li zH) _ _ _ _ _ => fun r => (r.1.length : Int) ≤ (l20.length : Int)) (U7 fun (w00 : El zK) (l20 : Li zH) _ _ (l330 : Li yb) (n340 : Int) _ => U7 fun (w0 : El zK) (l2 : Li zH) _ (l8 : Li zH) (l33 : Li yb) (n34 n35 : Int) => w00 = w0 ∧ l20 = l2 ∧ l330 = l33 ∧ n340 = n34 ∧ ((l8.length : Int) ≤ (l2.length : Int) + n35 ∧ n35 ≤ n34)) := poA
theorem zYQ : SF zAO (U7 fun (w0 : El zK) (l2 : Li zH) _ (l8 : Li zH) (l33 : Li yb) (n34 n35 : Int) => (0 ≤ n35 ∧ n34 = (l33.length : Int) ∧ n34 ≤ (w0.2.length : Int) ∧ (l8.length : Int) ≤ (l2.length : Int) + n35 ∧ (l2.length : Int) + (l33.length : Int) ≤ 16777216, n34 - n35)) := sfA
abbrev zCk (a0 : El zM) (a1 : El zK) (a2 : Li zH) : Tr (Li zH × Bool × Unit) := cond (!(a1.1.toList == a0.1.toList)) (.v (a2, false, ())) (let k1 := (a0.2.1.length : Int); cond ((a1.2.length : Int) != k1) (.v (a2, false, ())) (.lp zAO (a1, a2, (), a2, a0.2.1, k1, (0 : Int), ()) (fun r3 => .v (r3.1, r3.2.1, ())) (fun t1 => .v (t1.2.2.2.1, true, ()))))
def zA9 a0 a1 a2 := (zCk a0 a1 a2).val
def zGX (a0 : El zM) (_a1 : El zK) (a2 : Li zH) : Prop := (a2.length : Int) + (a0.2.1.length : Int) ≤ 16777216
abbrev zUS := fq [va zM, va zK, vd (.lst zH)] [vo zH, vd .bool] (U3 zGX) (U3 zA9)
theorem zfu : Ok zUS (U3 zCk) := by
 rintro ⟨(a0 : El zM), (a1 : El zK), (a2 : Li zH), ⟨⟩⟩ hw hp
 replace hp : zGX a0 a1 a2 := hp
 show (zCk a0 a1 a2).ok
 unfold zGX at hp
 unfold zCk
 refine yK (fun _ => trivial) (fun h1 => ?_)
 refine yK (fun _ => trivial) (fun h2 => ?_)
 replace h2 := zT9 h2
 refine zg ?_ ?_
 ·exact zYQ _ ⟨by (dsimp only <;> first | omega | assumption | (simp <;> omega)), by (dsimp only <;> first | omega | assumption | (simp <;> omega)), by (dsimp only <;> first | omega | assumption | (simp <;> omega)), by (dsimp only <;> first | omega | assumption | (simp <;> omega)), by (dsimp only <;> first | omega | assumption | (simp <;> omega))⟩
 ·simp
def zUV := cn mo [xx, zb7] [zAO] 261 zUS Tryz.f261 (U3 zCk) zfu
theorem zgX (p : El zM) (f : El zK) (l : Li zH) : ((zA9 p f l).1.length : Int) ≤ (l.length : Int) + (p.2.1.length : Int) := by
 simp only [zA9, zCk, z0, ze, zY, zq]
 cases h1 : (!(f.1.toList == p.1.toList)) with
 | true => show (l.length : Int) ≤ _; omega
 | false =>
  cases h2 : ((f.2.length : Int) != (p.2.1.length : Int)) with
  | true => show (l.length : Int) ≤ _; omega
  | false =>
   have := zVx (f, l, (), l, p.2.1, (p.2.1.length : Int), (0 : Int), ()) ⟨rfl, rfl, rfl, rfl, by dsimp only; constructor <;> omega⟩
   revert this
   cases (LB.run zAO (f, l, (), l, p.2.1, (p.2.1.length : Int), (0 : Int), ())) with
   | ret r => obtain ⟨r1, r2, ⟨⟩⟩ := r; intro h; have h : (r1.length : Int) ≤ (l.length : Int) := h; show (r1.length : Int) ≤ _; omega
   | brk t => obtain ⟨t0, t1, ⟨⟩, t8, t9, t10, n, ⟨⟩⟩ := t; rintro ⟨rfl, rfl, rfl, rfl, h3, h4⟩; obtain ⟨n, rfl⟩ : ∃ y : Int, y = n := ⟨_, rfl⟩; replace h3 : (t8.length : Int) ≤ (l.length : Int) + n := h3; replace h4 : n ≤ (p.2.1.length : Int) := h4; show (t8.length : Int) ≤ _; omega
   | go t => obtain ⟨t0, t1, ⟨⟩, t8, t9, t10, n, ⟨⟩⟩ := t; rintro ⟨rfl, rfl, rfl, rfl, h3, h4⟩; obtain ⟨n, rfl⟩ : ∃ y : Int, y = n := ⟨_, rfl⟩; replace h3 : (t8.length : Int) ≤ (l.length : Int) + n := h3; replace h4 : n ≤ (p.2.1.length : Int) := h4; show (t8.length : Int) ≤ _; omega
abbrev zIL : LB := ⟨[], ⟨32, [.d zM], [(2, vd (.lst zH)), (3, .pt 0 0), (7, vd .int), (13, vd (.lst zD)), (14, vd .int), (15, vd .int)], []⟩, ⟨32, [], [], []⟩, 0, U7 fun (w0 : El zM) (l2 : Li zH) _ (n7 : Int) (l13 : Li zD) (n14 n15 : Int) => cond (decide (n15 < n14)) (.ix n15 l13 (.ck (zGX w0 (zB zD l13 n15).2 l2) (cond (zA9 w0 (zB zD l13 n15).2 l2).2.1 (.ik (n7 + 1) (.ik (n15 + 1) (.v (.go (w0, l2, (), (n7 + 1), l13, n14, (n15 + 1), ()))))) (.ik (n15 + 1) (.v (.go (w0, l2, (), n7, l13, n14, (n15 + 1), ()))))))) (.v (.brk (w0, l2, (), n7, l13, n14, n15, ())))⟩
def zRy (w0 : El zM) (l2 : Li zH) (l13 : Li zD) (n7 : Int) := rF (l := zIL) (L := l13) (fun i (s : Int) => (w0, l2, (), s, l13, (l13.length : Int), i, ())) (fun i x s => bif (zA9 w0 x.2 l2).2.1 then (s + (1 : Int)) else s) n7
theorem zeJ : SF zIL fun x : El zM × Li zH × Unit × Int × Li zD × Int × Int × Unit => (0 ≤ x.2.2.2.2.2.2.1 ∧ x.2.2.2.2.2.1 = (x.2.2.2.2.1.length : Int) ∧ (0 ≤ x.2.2.2.1 ∧ x.2.2.2.1 ≤ x.2.2.2.2.2.2.1) ∧ (x.2.1.length : Int) + (x.1.2.1.length : Int) ≤ 16777216, x.2.2.2.2.2.1 - x.2.2.2.2.2.2.1) := sfk (by
 rintro ⟨(w0 : El zM), (l2 : Li zH), ⟨⟩, (n7 : Int), (l13 : Li zD), (n14 : Int), (n15 : Int), ⟨⟩⟩ hI hw
 obtain ⟨i0, i1, i2, k0⟩ := hI
 dsimp only at i0 i1 i2 k0
 have _ : -9223372036854775808 ≤ n7 ∧ n7 ≤ 9223372036854775807 := zAd hw.2.2.2.1
 have _ : -9223372036854775808 ≤ n14 ∧ n14 ≤ 9223372036854775807 := zAd hw.2.2.2.2.2.1
 have _ : (l13.length : Int) ≤ 16777216 := vC (hw.2.2.2.2.1.1)
 simp [zIL, U7]
 repeat' first | exact k0 | assumption | intro _ | apply And.intro
 all_goals omega)
abbrev zH8 (a0 : El zM) (a1 : El zE) (a2 : Li zH) : Tr (Int × Unit) := .lp zIL (a0, a2, (), (0 : Int), a1.1, (a1.1.length : Int), (0 : Int), ()) (fun _ => .bad) (fun t1 => .v (t1.2.2.2.1, ()))
def zH0 a0 a1 a2 := (zH8 a0 a1 a2).val
def zO0 (a0 : El zM) (_a1 : El zE) (a2 : Li zH) : Prop := (a2.length : Int) + (a0.2.1.length : Int) ≤ 16777216
abbrev zcj := fq [va zM, va zE, vd (.lst zH)] [vd .int] (U3 zO0) (U3 zH0)
theorem zoL : Ok zcj (U3 zH8) := by
 rintro ⟨(a0 : El zM), (a1 : El zE), (a2 : Li zH), ⟨⟩⟩ hw hp
 replace hp : zO0 a0 a1 a2 := hp
 show (zH8 a0 a1 a2).ok
 unfold zO0 at hp
 unfold zH8
 refine zg ?_ ?_
 ·exact zeJ _ ⟨by (dsimp only <;> first | omega | assumption | (simp <;> omega)), by (dsimp only <;> first | omega | assumption | (simp <;> omega)), by (dsimp only <;> first | omega | assumption | (simp <;> omega)), by (dsimp only <;> first | omega | assumption | (simp <;> omega))⟩
 ·refine zk7 (zRy a0 a2 a1.1 (0 : Int)) ?_
  try dsimp only
  trivial
def zn8 := cn mo [zUV] [zIL] 328 zcj Tryz.f328 (U3 zH8) zoL
def zmw (a0 : El zM) (a1 : El zE) (a2 : Li zH) := (by
 simp only [zH0, zH8, zY, zq, ze]
 rewrite [zRy, xL]
 dsimp only : zH0 a0 a1 a2 = _)
abbrev zGs : LB := ⟨[1], ⟨26, [.d zE], [(2, vd (.lst zH)), (4, .pt 0 0), (10, vd (.lst zM)), (11, vd .int), (12, vd .int)], []⟩, ⟨26, [], [(6, vd .bool)], []⟩, 0, U6 fun (w0 : El zE) (l2 : Li zH) _ (l10 : Li zM) (n11 n12 : Int) => cond (decide (n12 < n11)) (.ix n12 l10 (let k1 : Tr (St _ _) := .ik (n12 + 1) (.v (.go (w0, l2, (), l10, n11, (n12 + 1), ()))); cond (zB zM l10 n12).2.2 (.ck (zO0 (zB zM l10 n12) w0 l2) (cond (decide ((zH0 (zB zM l10 n12) w0 l2).1 > (0 : Int))) (.v (.ret (true, ()))) k1)) k1)) (.v (.brk (w0, l2, (), l10, n11, n12, ())))⟩
def zZP (w0 : El zE) (l2 : Li zH) (l10 : Li zM) := rA (l := zGs) (L := l10) (fun i => (w0, l2, (), l10, (l10.length : Int), i, ())) (fun i x => bif x.2.2 then (bif (decide ((zH0 x w0 l2).1 > (0 : Int))) then false else true) else true) (true, ())
theorem zZx : SF zGs fun x : El zE × Li zH × Unit × Li zM × Int × Int × Unit => (0 ≤ x.2.2.2.2.2.1 ∧ x.2.2.2.2.1 = (x.2.2.2.1.length : Int) ∧ (∀ p ∈ x.2.2.2.1, (x.2.1.length : Int) + (p.2.1.length : Int) ≤ 16777216), x.2.2.2.2.1 - x.2.2.2.2.2.1) := sfk (by
 rintro ⟨(w0 : El zE), (l2 : Li zH), ⟨⟩, (l10 : Li zM), (n11 : Int), (n12 : Int), ⟨⟩⟩ hI hw
 obtain ⟨i0, i1, k0⟩ := hI
 dsimp only at i0 i1 k0
 have _ : -9223372036854775808 ≤ n11 ∧ n11 ≤ 9223372036854775807 := zAd hw.2.2.2.2.1
 have _ : (l10.length : Int) ≤ 16777216 := vC (hw.2.2.2.1.1)
 simp [zGs, U6, -Prod.forall]
 repeat' first | exact k0 _ (zV (by omega)) | assumption | intro _ | apply And.intro
 all_goals omega)
abbrev zFp (a0 : El zG) (a1 : El zE) (a2 : Li zH) : Tr (Bool × Unit) := .lp zGs (a1, a2, (), a0.2.2.1, (a0.2.2.1.length : Int), (0 : Int), ()) (fun r2 => .v (r2.1, ())) (fun _ => .v (false, ()))
def zFi a0 a1 a2 := (zFp a0 a1 a2).val
def zMg (a0 : El zG) (_a1 : El zE) (a2 : Li zH) : Prop := ∀ p ∈ a0.2.2.1, (a2.length : Int) + (p.2.1.length : Int) ≤ 16777216
abbrev zX6 := fq [va zG, va zE, vd (.lst zH)] [vd .bool] (U3 zMg) (U3 zFi)
theorem ziO : Ok zX6 (U3 zFp) := by
 rintro ⟨(a0 : El zG), (a1 : El zE), (a2 : Li zH), ⟨⟩⟩ hw hp
 replace hp : zMg a0 a1 a2 := hp
 show (zFp a0 a1 a2).ok
 unfold zMg at hp
 unfold zFp
 refine zg ?_ ?_
 ·exact zZx _ ⟨by (dsimp only <;> first | omega | assumption | (simp <;> omega)), by (dsimp only <;> first | omega | assumption | (simp <;> omega)), by (dsimp only <;> first | omega | assumption | (simp <;> omega))⟩
 ·simp
def ziz := cn mo [zn8] [zGs] 259 zX6 Tryz.f259 (U3 zFp) ziO
def ziu (a0 : El zG) (a1 : El zE) (a2 : Li zH) := (by
 simp only [zFi, zFp, zY, zq, ze]
 rewrite [zZP, z3]
 dsimp only : zFi a0 a1 a2 = _)
end
end Go.Proofs.YtkdidadegedmiaaGreat
namespace Go.Proofs.YtkdidadegedmiaaGreat
open Go.RowKit
set_option linter.defProp false
noncomputable section
abbrev zPB (a0 : El yb) (a1 : Li zH) : Tr (El zL × Bool × Unit) := cond (a0.1 == (2 : Int)) (.v (a0.2.2, true, ())) (cond (a0.1 == (1 : Int)) (.v ((zFo a1 a0.2.1).1, (zFo a1 a0.2.1).2.1, ())) (.v (((0 : Int), ((0 : Int), (⟨#[]⟩ : ByteArray))), false, ())))
def zFg a0 a1 := (zPB a0 a1).val
abbrev zmp := fd [va yb, vd (.lst zH)] [va zL, vd .bool] (U2 zFg)
def zcl := cn mo [zb7] [] 366 zmp Tryz.f366 (U2 zPB) (fun _ _ _ => by simp [zPB])
def zCO (a0 : Int) : Bool × Unit := ((a0 != a0), ())
abbrev zUy := fd [vd .int] [vd .bool] (U1 zCO)
def zU6 := cv mo [] 365 zUy Tryz.f365
abbrev zCh (a0 a1 : Int) : Tr (Int × Unit) := cond (zCO a0).1 (cond (zCO a1).1 (.v ((0 : Int), ())) (.v ((-1 : Int), ()))) (cond (zCO a1).1 (.v ((1 : Int), ())) (cond (decide (a0 < a1)) (.v ((-1 : Int), ())) (cond (decide (a0 > a1)) (.v ((1 : Int), ())) (.v ((0 : Int), ())))))
def zx a0 a1 := (zCh a0 a1).val
abbrev zRI := fd [vd .int, vd .int] [vd .int] (U2 zx)
def zE4 := cn mo [zU6] [] 326 zRI Tryz.f326 (U2 zCh) (fun _ _ _ => by simp [zCh])
def zAe (a0 : ByteArray) : Bool × Unit := ((!(a0.toList == a0.toList)), ())
abbrev zQS := fd [vd .str] [vd .bool] (U1 zAe)
def zQd := cv mo [] 400 zQS Tryz.f400
abbrev zAz (a0 a1 : ByteArray) : Tr (Int × Unit) := cond (zAe a0).1 (cond (zAe a1).1 (.v ((0 : Int), ())) (.v ((-1 : Int), ()))) (cond (zAe a1).1 (.v ((1 : Int), ())) (let k1 := Op.bytesLess a0.toList a1.toList; cond k1 (.v ((-1 : Int), ())) (cond (!(k1 || (a0.toList == a1.toList))) (.v ((1 : Int), ())) (.v ((0 : Int), ())))))
def zA1 a0 a1 := (zAz a0 a1).val
abbrev zNp := fd [vd .str, vd .str] [vd .int] (U2 zA1)
def zN6 := cn mo [zQd] [] 396 zNp Tryz.f396 (U2 zAz) (fun _ _ _ => by simp [zAz])
abbrev zGL : LB := ⟨[], ⟨18, [], [(3, vd .int), (6, vd (.lst .int)), (7, vd .int), (8, vd .int)], []⟩, ⟨18, [], [(2, vd .int)], []⟩, 0, U4 fun (n3 : Int) (l6 : Li .int) (n7 n8 : Int) => cond (decide (n8 < n7)) (.ix n8 l6 (cond ((zB .int l6 n8) != n3) (.v (.ret ((zB .int l6 n8), ()))) (.ik (n8 + 1) (.v (.go (n3, l6, n7, (n8 + 1), ())))))) (.v (.brk (n3, l6, n7, n8, ())))⟩
def zU8 (n3 : Int) (l6 : Li .int) := rS (l := zGL) (L := l6) (fun i => (n3, l6, (l6.length : Int), i, ())) (fun i x => bif (x != n3) then (some (x, ())) else none)
theorem zVP : SF zGL (U4 fun _ (l6 : Li .int) (n7 n8 : Int) => (0 ≤ n8 ∧ n7 = (l6.length : Int), n7 - n8)) := sfA
abbrev zHJ (a0 : Li .int) : Tr (Int × Unit) := .lp zGL ((0 : Int), a0, (a0.length : Int), (0 : Int), ()) (fun r1 => .v (r1.1, ())) (fun t1 => .v (t1.1, ()))
def zAN a0 := (zHJ a0).val
abbrev zSL := fd [vd (.lst .int)] [vd .int] (U1 zAN)
theorem zc3 : Ok zSL (U1 zHJ) := vN zVP
def zRt := cn mo [] [zGL] 325 zSL Tryz.f325 (U1 zHJ) zc3
def zSm (a0 : Li .int) := (by
 simp only [zAN, zHJ, zY, zq, ze]
 rewrite [zU8, xH]
 dsimp only : zAN a0 = _)
def zIY (a0 a1 : El zL) : Int × Unit := ((zAN [(zx a0.1 a1.1).1, (zx a0.2.1 a1.2.1).1, (zA1 a0.2.2 a1.2.2).1]).1, ())
abbrev zYs := fd [va zL, va zL] [vd .int] (U2 zIY)
def zXJ := cv mo [zE4, zN6, zRt] 386 zYs Tryz.f386
def zL1 (a0 a1 : El zL) : Bool × Unit := (decide ((zIY a0 a1).1 < (0 : Int)), ())
abbrev zjc := fd [va zL, va zL] [vd .bool] (U2 zL1)
def zjI := cv mo [zXJ] 367 zjc Tryz.f367
abbrev zSS (a0 : El z5) (a1 : Li zH) : Tr (Bool × Unit) := let k2 := zFg a0.2.1 a1; cond (!k2.2.1) (.v (false, ())) (let k3 := zFg a0.2.2 a1; cond (!k3.2.1) (.v (false, ())) (let k1 := (k2.1.1 == k3.1.1) && ((k2.1.2.1 == k3.1.2.1) && ((k2.1.2.2.toList == k3.1.2.2.toList) && true)); cond (a0.1 == (1 : Int)) (.v (k1, ())) (cond (a0.1 == (2 : Int)) (.v ((!k1), ())) (cond (a0.1 == (3 : Int)) (.v ((zL1 k2.1 k3.1).1, ())) (.v (false, ()))))))
def zON a0 a1 := (zSS a0 a1).val
abbrev zq0 := fd [va z5, vd (.lst zH)] [vd .bool] (U2 zON)
def zo8 := cn mo [zcl, zjI] [] 329 zq0 Tryz.f329 (U2 zSS) (fun _ _ _ => by simp [zSS])
abbrev zJJ : LB := ⟨[], ⟨18, [], [(1, vd (.lst zH)), (7, vd (.lst z5)), (8, vd .int), (9, vd .int)], []⟩, ⟨18, [], [(4, vd .bool)], []⟩, 0, U4 fun (l1 : Li zH) (l7 : Li z5) (n8 n9 : Int) => cond (decide (n9 < n8)) (.ix n9 l7 (cond (!(zON (zB z5 l7 n9) l1).1) (.v (.ret (false, ()))) (.ik (n9 + 1) (.v (.go (l1, l7, n8, (n9 + 1), ())))))) (.v (.brk (l1, l7, n8, n9, ())))⟩
def zaC (l1 : Li zH) (l7 : Li z5) := rA (l := zJJ) (L := l7) (fun i => (l1, l7, (l7.length : Int), i, ())) (fun i x => bif (!(zON x l1).1) then false else true) (false, ())
theorem zZq : SF zJJ (U4 fun _ (l7 : Li z5) (n8 n9 : Int) => (0 ≤ n9 ∧ n8 = (l7.length : Int), n8 - n9)) := sfA
abbrev zMI (a0 : Li z5) (a1 : Li zH) : Tr (Bool × Unit) := .lp zJJ (a1, a0, (a0.length : Int), (0 : Int), ()) (fun r2 => .v (r2.1, ())) (fun _ => .v (true, ()))
def zFr a0 a1 := (zMI a0 a1).val
abbrev zYx := fd [vd (.lst z5), vd (.lst zH)] [vd .bool] (U2 zFr)
theorem zij : Ok zYx (U2 zMI) := vN zZq
def zi0 := cn mo [zo8] [zJJ] 260 zYx Tryz.f260 (U2 zMI) zij
def zkh (a0 : Li z5) (a1 : Li zH) := (by
 simp only [zFr, zMI, zY, zq, ze]
 rewrite [zaC, z3]
 dsimp only : zFr a0 a1 = _)
def zB0 : Con Tryz.prog := ⟨93, zIc .int false, zV3 mo (fn := Tryz.f93) (t := 38) (u := 4) (e := 3) (p0 := "slices.go:355") (p1 := "slices.go:357") (p2 := "slices.go:358") (p3 := "slices.go:362") (by kernel_rfl) (by kernel_rfl) (by kernel_rfl) (by kernel_rfl) (by kernel_rfl) .int false (by kernel_rfl) (fun l => by kernel_rfl) (.inr rfl)⟩
abbrev yJ (F : Li zA → El zG → El zE → Li .int → Li zH → Li zA × Unit) (Q : Li zA → El zG → El zE → Li .int → Li zH → Prop) : LB := ⟨[0, 2, 3], ⟨77, [.o (.d zA), .d zG, .d zE], [(0, .pt 0 0), (3, vd (.lst .int)), (4, vd (.lst zH)), (6, .pt 1 0), (7, .pt 2 0), (10, vo zM), (46, vd (.lst zD)), (47, vd .int), (48, vd .int)], []⟩, ⟨77, [.o (.d zA)], [], []⟩, 0, U12 fun (w0 : Li zA) (w1 : El zG) (w2 : El zE) _ (l3 : Li .int) (l4 : Li zH) _ _ (l10 : Li zM) (l46 : Li zD) (n47 n48 : Int) => cond (decide (n48 < n47)) (.ix n48 l46 (let k2 := (l3.length : Int); .ix k2 l10 (let k1 := zB zD l46 n48; .ck (zGX (zB zM l10 k2) k1.2 l4) (let y1 := (zA9 (zB zM l10 k2) k1.2 l4); cond y1.2.1 (.ck (((l3.length + [k1.1].length : Nat) : Int) ≤ 16777216) (.ck (Q w0 w1 w2 (l3 ++ [k1.1]) y1.1) (.ik (n48 + 1) (.v (.go ((F w0 w1 w2 (l3 ++ [k1.1]) y1.1).1, w1, w2, (), l3, l4, (), (), l10, l46, n47, (n48 + 1), ())))))) (.ik (n48 + 1) (.v (.go (w0, w1, w2, (), l3, l4, (), (), l10, l46, n47, (n48 + 1), ())))))))) (.v (.brk (w0, w1, w2, (), l3, l4, (), (), l10, l46, n47, n48, ())))⟩
def vh (F : Li zA → El zG → El zE → Li .int → Li zH → Li zA × Unit) (Q : Li zA → El zG → El zE → Li .int → Li zH → Prop) (a0 : Li zA) (a1 : El zG) (a2 : El zE) (a3 : Li .int) (a4 : Li zH) : Tr (Li zA × Unit) := cond ((a3.length : Int) == ((yZ a1 false).1.length : Int)) (.ck (zMg a1 a2 a4) (cond (!(zFi a1 a2 a4).1) (cond (zFr a1.2.2.2.1 a4).1 (.ck (((a0.length + [((0 : Int), (a3, a4))].length : Nat) : Int) ≤ 16777216) (.v ((a0 ++ [((0 : Int), (a3, a4))]), ()))) (.v (a0, ()))) (.v (a0, ())))) (.lp (yJ F Q) (a0, a1, a2, (), a3, a4, (), (), (yZ a1 false).1, a2.1, (a2.1.length : Int), (0 : Int), ()) (fun r4 => .v (r4.1, ())) (fun t1 => .v (t1.1, ())))
def zEg : Nat → (Li zA → El zG → El zE → Li .int → Li zH → Li zA × Unit) × (Li zA → El zG → El zE → Li .int → Li zH → Prop)
 | 0 => (fun _ _ _ _ _ => default, fun _ _ _ _ _ => False)
 | n + 1 => (fun a0 a1 a2 a3 a4 => (vh (zEg n).1 (zEg n).2 a0 a1 a2 a3 a4).val, fun a0 a1 a2 a3 a4 => (vh (zEg n).1 (zEg n).2 a0 a1 a2 a3 a4).ok)
def xk (n : Nat) : Li zA → El zG → El zE → Li .int → Li zH → Li zA × Unit := (zEg n).1
def xw (n : Nat) : Li zA → El zG → El zE → Li .int → Li zH → Prop := (zEg n).2
abbrev zIn (n : Nat) : FnD := ⟨[zrp, va zG, va zE, vd (.lst .int), vd (.lst zH)], [zrp], false, fun a => some (xw n a.1 a.2.1 a.2.2.1 a.2.2.2.1 a.2.2.2.2.1), fun a => xk n a.1 a.2.1 a.2.2.1 a.2.2.2.1 a.2.2.2.2.1⟩
def zkQ (n : Nat) (ih : zKC Tryz.prog 166 (zIn n)) : List (Con Tryz.prog) := ⟨166, zIn n, ih⟩ :: [zrl, ziz, zi0, zB0, xx, zUV]
theorem zUh : ∀ n, zKC Tryz.prog 166 (zIn n)
 | 0 => ztN (by kernel_rfl) (fn := Tryz.f166) (by kernel_rfl) (c := (Tryz.f166.body.getD .skip)) (by kernel_rfl) (by kernel_rfl) fun _ h => h
 | n + 1 => zc0 mo g0 (zkQ n (zUh n)) [yJ (xk n) (xw n)] (fn := Tryz.f166) (by kernel_rfl) (c := (Tryz.f166.body.getD .skip)) (by kernel_rfl) (by kernel_rfl) (zIn (n + 1)) (by kernel_rfl) ⟨lk, trivial⟩ (fun a _ h => okT (t' := vh (xk n) (xw n) a.1 a.2.1 a.2.2.1 a.2.2.2.1 a.2.2.2.2.1) (by kernel_rfl) h rfl)
def ziN : Con Tryz.prog := ⟨166, zIn 64, zUh 64⟩
theorem zZ6 {F : Li zA → El zG → El zE → Li .int → Li zH → Li zA × Unit} {Q : Li zA → El zG → El zE → Li .int → Li zH → Prop} {r : El zG} {s : El zE} {ids : Li .int} {l : Li zH} {pos : Li zM} {k : Nat}
  (hF : ∀ (w : Li zA) (x : Int) (y : Li zH), w.length + k ≤ 16777216 → (y.length : Int) ≤ 5 * (ids.length : Int) + 5 → Q w r s (ids ++ [x]) y ∧ (F w r s (ids ++ [x]) y).1.length ≤ w.length + k)
  (hpos : ids.length < pos.length) (hargs : ∀ p ∈ pos, p.2.1.length ≤ 5) (hl : l.length ≤ 5 * ids.length) (hids : ids.length ≤ 3) (hit : s.1.length ≤ 40) (w0 : Li zA) (h0 : w0.length + 40 * k ≤ 16777216) :
  LB.sf (yJ F Q) (w0, r, s, (), ids, l, (), (), pos, s.1, (s.1.length : Int), (0 : Int), ()) ∧ (LB.run (yJ F Q) (w0, r, s, (), ids, l, (), (), pos, s.1, (s.1.length : Int), (0 : Int), ())).all (fun t => t.1.length ≤ w0.length + 40 * k) (fun t => t.1.length ≤ w0.length + 40 * k) (fun t => t.1.length ≤ w0.length + 40 * k) := by
 have step : ∀ (w : Li zA) (n : Int), 0 ≤ n → n ≤ (s.1.length : Int) → w.length ≤ w0.length + n.toNat * k → ((yJ F Q).T (w, r, s, (), ids, l, (), (), pos, s.1, (s.1.length : Int), n, ())).ok ∧
   St.all (fun (t : (yJ F Q).r.T) => (t.1 : Li zA).length ≤ w0.length + 40 * k) (fun (t : (yJ F Q).d.T) => (t.1 : Li zA).length ≤ w0.length + 40 * k) (fun y => n < (s.1.length : Int) ∧ ∃ w' : Li zA, y = (w', r, s, (), ids, l, (), (), pos, s.1, (s.1.length : Int), (n + 1), ()) ∧ w'.length ≤ w0.length + (n + 1).toNat * k) ((yJ F Q).b (w, r, s, (), ids, l, (), (), pos, s.1, (s.1.length : Int), n, ())) := by
  intro w n h1 h2 h3
  have hmem := zV (t := zM) (l := pos) (i := (ids.length : Int)) (by omega)
  have ha := hargs _ hmem
  have key : n < (s.1.length : Int) → n.toNat * k + k ≤ 40 * k ∧ (n + 1).toNat * k = n.toNat * k + k := fun h => by
   constructor
   ·rw [← Nat.succ_mul]; exact Nat.mul_le_mul_right k (by omega)
   ·rw [show (n + 1).toNat = n.toNat + 1 by omega, Nat.succ_mul]
  have hm : ∀ x : El zK, ((((zA9 (zB zM pos (ids.length : Int)) x l).1.length : Nat)) : Int) ≤ 5 * (ids.length : Int) + 5 := fun x => by have := zgX (zB zM pos (ids.length : Int)) x l; omega
  constructor
  ·dsimp only [yJ, U9, U12]
   refine yK (fun h => ?_) (fun _ => trivial)
   replace h : n < (s.1.length : Int) := of_decide_eq_true h
   obtain ⟨k1, k2⟩ := key h
   have hq := hF w (zB zD s.1 n).1 _ (by omega) (hm (zB zD s.1 n).2)
   refine zg ⟨h1, h⟩ (zg ⟨by omega, by omega⟩ (zg ?_ (yK (fun _ => zg ?_ (zg hq.1 (zg (ink (by omega) (by omega)) trivial))) (fun _ => zg (ink (by omega) (by omega)) trivial))))
   ·show (l.length : Int) + ((zB zM pos (ids.length : Int)).2.1.length : Int) ≤ 16777216
    omega
   ·show (((ids.length + 1 : Nat)) : Int) ≤ 16777216
    omega
  ·simp only [LB.b, yJ, U12, z0, ze, zY]
   refine zDu (fun h => ?_) (fun h => ?_)
   ·replace h : n < (s.1.length : Int) := of_decide_eq_true h
    obtain ⟨k1, k2⟩ := key h
    have hq := hF w (zB zD s.1 n).1 _ (by omega) (hm (zB zD s.1 n).2)
    refine zDu (fun _ => ?_) (fun _ => ?_)
    ·exact zNg ⟨h, _, rfl, by have := hq.2; omega⟩
    ·exact zNg ⟨h, _, rfl, by omega⟩
   ·refine zRR ?_
    have : n.toNat * k ≤ 40 * k := Nat.mul_le_mul_right k (by omega)
    show w.length ≤ _
    omega
 have I0 : ∃ (w : Li zA) (n : Int), (w0, r, s, (), ids, l, (), (), pos, s.1, (s.1.length : Int), (0 : Int), ()) = ((w, r, s, (), ids, l, (), (), pos, s.1, (s.1.length : Int), n, ()) : (yJ F Q).d.T) ∧ 0 ≤ n ∧ n ≤ (s.1.length : Int) ∧ w.length ≤ w0.length + n.toNat * k := ⟨w0, 0, rfl, by omega, by omega, by omega⟩
 constructor
 ·refine LB.safe' (l := yJ F Q) (fun x => ∃ (w : Li zA) (n : Int), x = (w, r, s, (), ids, l, (), (), pos, s.1, (s.1.length : Int), n, ()) ∧ 0 ≤ n ∧ n ≤ (s.1.length : Int) ∧ w.length ≤ w0.length + n.toNat * k) (fun x => ((s.1.length : Int) - x.2.2.2.2.2.2.2.2.2.2.2.1).toNat) (fun x hx _ => ?_) I0 (fun _ => ?_)
  ·obtain ⟨w, n, rfl, h1, h2, h3⟩ := hx
   obtain ⟨g1, g2⟩ := step w n h1 h2 h3
   refine ⟨g1, ?_⟩
   show St.all _ _ _ ((yJ F Q).b (w, r, s, (), ids, l, (), (), pos, s.1, (s.1.length : Int), n, ()))
   revert g2
   cases ((yJ F Q).b (w, r, s, (), ids, l, (), (), pos, s.1, (s.1.length : Int), n, ())) with
   | ret t => intro _; exact trivial
   | brk t => intro _; exact trivial
   | go y =>
    rintro ⟨h4, w', rfl, h5⟩
    exact ⟨⟨w', n + 1, rfl, by omega, by omega, h5⟩, by show ((s.1.length : Int) - (n + 1)).toNat < ((s.1.length : Int) - n).toNat; omega⟩
  ·show ((s.1.length : Int) - 0).toNat < 18446744073709551616
   omega
 ·refine LB.post3 (l := yJ F Q) (fun x => ∃ (w : Li zA) (n : Int), x = (w, r, s, (), ids, l, (), (), pos, s.1, (s.1.length : Int), n, ()) ∧ 0 ≤ n ∧ n ≤ (s.1.length : Int) ∧ w.length ≤ w0.length + n.toNat * k) (fun x hx => ?_) (fun x hx => ?_) I0
  ·obtain ⟨w, n, rfl, h1, h2, h3⟩ := hx
   obtain ⟨g1, g2⟩ := step w n h1 h2 h3
   show St.all _ _ _ ((yJ F Q).b (w, r, s, (), ids, l, (), (), pos, s.1, (s.1.length : Int), n, ()))
   revert g2
   cases ((yJ F Q).b (w, r, s, (), ids, l, (), (), pos, s.1, (s.1.length : Int), n, ())) with
   | ret t => intro h; exact h
   | brk t => intro h; exact h
   | go y =>
    rintro ⟨h4, w', rfl, h5⟩
    exact ⟨w', n + 1, rfl, by omega, by omega, h5⟩
  ·obtain ⟨w, n, rfl, h1, h2, h3⟩ := hx
   have : n.toNat * k ≤ 40 * k := Nat.mul_le_mul_right k (by omega)
   show w.length ≤ _
   omega
theorem zPs {r : El zG} {s : El zE} (hit : s.1.length ≤ 40) (hargs : ∀ p ∈ r.2.2.1, p.2.1.length ≤ 5) (hnp : (yZ r false).1.length ≤ 3) : ∀ (n : Nat) (out : Li zA) (ids : Li .int) (l : Li zH), ids.length ≤ (yZ r false).1.length → (yZ r false).1.length - ids.length < n → l.length ≤ 5 * ids.length → out.length + 40 ^ ((yZ r false).1.length - ids.length) ≤ 16777216 →
  xw n out r s ids l ∧ (xk n out r s ids l).1.length ≤ out.length + 40 ^ ((yZ r false).1.length - ids.length) := by
 intro n
 induction n with
 | zero => intro out ids l h1 h2; omega
 | succ n ih =>
  intro out ids l h1 h2 h3 h4
  skip
  by_cases he : ids.length = (yZ r false).1.length
  ·have hc : ((ids.length : Int) == ((yZ r false).1.length : Int)) = true := by simp [he]
   have hz : 40 ^ ((yZ r false).1.length - ids.length) = 1 := by rw [he, Nat.sub_self]
   rw [hz] at h4 ⊢
   constructor
   ·show (vh (xk n) (xw n) out r s ids l).ok
    dsimp only [vh]
    rw [hc]
    refine zg ?_ (yK (fun _ => yK (fun _ => zg ?_ trivial) (fun _ => trivial)) (fun _ => trivial))
    ·intro p hp; have := hargs p hp; omega
    ·show (((out.length + 1 : Nat)) : Int) ≤ 16777216
     omega
   ·show (vh (xk n) (xw n) out r s ids l).val.1.length ≤ _
    simp only [vh, z0, ze, zY, zq]
    rw [hc]
    show ((bif _ then _ else _ : Li zA × Unit)).1.length ≤ _
    cases (!(zFi r s l).1) with
    | false => show out.length ≤ _; omega
    | true =>
     cases (zFr r.2.2.2.1 l).1 with
     | false => show out.length ≤ _; omega
     | true => show (out ++ [((0 : Int), (ids, l))]).length ≤ _; simp
  ·have hlt : ids.length < (yZ r false).1.length := by omega
   have hc : ((ids.length : Int) == ((yZ r false).1.length : Int)) = false := by simp; omega
   have hd : (yZ r false).1.length - ids.length = ((yZ r false).1.length - (ids.length + 1)) + 1 := by omega
   have hp : 40 ^ ((yZ r false).1.length - ids.length) = 40 * 40 ^ ((yZ r false).1.length - (ids.length + 1)) := by rw [hd, Nat.pow_succ, Nat.mul_comm]
   rw [hp] at h4 ⊢
   have L := zZ6 (F := xk n) (Q := xw n) (r := r) (s := s) (ids := ids) (l := l) (k := 40 ^ ((yZ r false).1.length - (ids.length + 1))) (fun w x y hw hy => by
    have hl1 : (ids ++ [x]).length = ids.length + 1 := by simp
    have := ih w (ids ++ [x]) y (by omega) (by omega) (by omega) (by rw [hl1]; exact hw)
    rw [hl1] at this; exact this) hlt (fun p hp => hargs p (znr hp)) h3 (by omega) hit out h4
   constructor
   ·show (vh (xk n) (xw n) out r s ids l).ok
    dsimp only [vh]
    rw [hc]
    exact zg L.1 (zJ1 (zhB _) (fun _ _ => trivial) (fun _ _ => trivial))
   ·show (vh (xk n) (xw n) out r s ids l).val.1.length ≤ _
    simp only [vh, z0, ze, zY, zq]
    rw [hc]
    have L2 := L.2
    revert L2
    cases (LB.run (yJ (xk n) (xw n)) (out, r, s, (), ids, l, (), (), (yZ r false).1, s.1, (s.1.length : Int), (0 : Int), ())) with
    | ret t => intro h; exact h
    | brk t => intro h; exact h
    | go t => intro h; exact h
theorem zVY {r : El zG} {s : El zE} (h1 : s.1.length ≤ 40) (h2 : ∀ p ∈ r.2.2.1, p.2.1.length ≤ 5) (h3 : (yZ r false).1.length ≤ 3) : xw 64 [] r s [] [] := by
 have hb : 40 ^ ((yZ r false).1.length - 0) ≤ 64000 := Nat.le_trans (Nat.pow_le_pow_right (by decide) (show (yZ r false).1.length - 0 ≤ 3 by omega)) (by decide)
 exact (zPs h1 h2 h3 64 [] [] [] (by simp) (by simp only [List.length_nil]; omega) (by simp) (by simp only [List.length_nil]; omega)).1
abbrev zDc (a0 : El zG) (a1 : El zE) : Tr (Li zA × Unit) := .ck (xw 64 ([] : Li zA) a0 a1 ([] : Li .int) ([] : Li zH)) (.v ((xk 64 ([] : Li zA) a0 a1 ([] : Li .int) ([] : Li zH)).1, ()))
def zE2 a0 a1 := (zDc a0 a1).val
def zHj (a0 : El zG) (a1 : El zE) : Prop := a1.1.length ≤ 40 ∧ (∀ p ∈ a0.2.2.1, p.2.1.length ≤ 5) ∧ (yZ a0 false).1.length ≤ 3
abbrev zRV := gq [va zG, va zE] [vo zA] (U2 zHj) (U2 zE2)
theorem zdV : Ok zRV (U2 zDc) := by
 rintro ⟨(a0 : El zG), (a1 : El zE), ⟨⟩⟩ hw hp
 replace hp : zHj a0 a1 := hp
 show (zDc a0 a1).ok
 unfold zHj at hp
 unfold zDc
 refine zg ?_ ?_
 ·exact zVY hp.1 hp.2.1 hp.2.2
 ·simp
def zdh := cn mo [ziN] [] 85 zRV Tryz.f85 (U2 zDc) zdV
theorem xu {r : El zG} {s : El zE} (h1 : s.1.length ≤ 40) (h2 : ∀ p ∈ r.2.2.1, p.2.1.length ≤ 5) (h3 : (yZ r false).1.length ≤ 3) : ((zE2 r s).1.length : Int) ≤ 64000 := by
 have hb : 40 ^ ((yZ r false).1.length - 0) ≤ 64000 := Nat.le_trans (Nat.pow_le_pow_right (by decide) (show (yZ r false).1.length - 0 ≤ 3 by omega)) (by decide)
 have := (zPs h1 h2 h3 64 [] [] [] (by simp) (by simp only [List.length_nil]; omega) (by simp) (by simp only [List.length_nil]; omega)).2
 simp only [List.length_nil] at this
 show ((xk 64 [] r s [] []).1.length : Int) ≤ 64000
 omega
abbrev zHz : LB := ⟨[], ⟨35, [.d zE], [(3, .pt 0 0), (5, vo zA), (6, vd .int), (11, vd (.lst zG)), (12, vd .int), (13, vd .int), (20, vo zA), (21, vd .int), (22, vd .int)], []⟩, ⟨35, [], [], []⟩, 2, U10 fun (w0 : El zE) _ (l5 : Li zA) (n6 : Int) (l11 : Li zG) (n12 n13 : Int) (l20 : Li zA) (n21 n22 : Int) => cond (decide (n22 < n21)) (.ix n22 l20 (let k1 := (n6, (zB zA l20 n22).2); .ck (((l5.length + [k1].length : Nat) : Int) ≤ 16777216) (.ik (n22 + 1) (.v (.go (w0, (), (l5 ++ [k1]), n6, l11, n12, n13, l20, n21, (n22 + 1), ())))))) (.v (.brk (w0, (), l5, n6, l11, n12, n13, l20, n21, n22, ())))⟩
def zgG (w0 : El zE) (n6 : Int) (l11 : Li zG) (n12 n13 : Int) (l20 l5 : Li zA) := rF (l := zHz) (L := l20) (fun i (s : (Li zA)) => (w0, (), s, n6, l11, n12, n13, l20, (l20.length : Int), i, ())) (fun i x s => (s ++ [(n6, x.2)])) l5
theorem zhr : PO zHz (fun _ _ => False) (U10 fun (w00 : El zE) _ _ (n60 : Int) (l110 : Li zG) (n120 n130 : Int) (l200 : Li zA) (n210 : Int) _ => U10 fun (w0 : El zE) _ (l5 : Li zA) (n6 : Int) (l11 : Li zG) (n12 n13 : Int) (l20 : Li zA) (n21 n22 : Int) => w00 = w0 ∧ n60 = n6 ∧ l110 = l11 ∧ n120 = n12 ∧ n130 = n13 ∧ l200 = l20 ∧ n210 = n21 ∧ ((l5.length : Int) ≤ 64000 * n13 + n22 ∧ n22 ≤ n21 ∧ n21 = (l20.length : Int))) := poA
theorem zgl : PO zHz (fun _ _ => False) (U10 fun (w00 : El zE) _ _ (n60 : Int) (l110 : Li zG) (n120 n130 : Int) (l200 : Li zA) (n210 : Int) _ => U10 fun (w0 : El zE) _ _ (n6 : Int) (l11 : Li zG) (n12 n13 : Int) (l20 : Li zA) (n21 : Int) _ => w00 = w0 ∧ n60 = n6 ∧ l110 = l11 ∧ n120 = n12 ∧ n130 = n13 ∧ l200 = l20 ∧ n210 = n21) := poA
theorem zhY : SF zHz (U10 fun _ _ (l5 : Li zA) _ _ _ (n13 : Int) (l20 : Li zA) (n21 n22 : Int) => (0 ≤ n22 ∧ n21 = (l20.length : Int) ∧ (l5.length : Int) ≤ 64000 * n13 + n22 ∧ (l20.length : Int) ≤ 64000 ∧ (0 ≤ n13 ∧ n13 < 12), n21 - n22)) := sfA
abbrev zDZ : LB := ⟨[1], ⟨35, [.d zE], [(3, .pt 0 0), (5, vo zA), (11, vd (.lst zG)), (12, vd .int), (13, vd .int)], []⟩, ⟨35, [], [], []⟩, 0, U6 fun (w0 : El zE) _ (l5 : Li zA) (l11 : Li zG) (n12 n13 : Int) => cond (decide (n13 < n12)) (.ix n13 l11 (.ck (zHj (zB zG l11 n13) w0) (let y1 := (zE2 (zB zG l11 n13) w0); .lp zHz (w0, (), l5, n13, l11, n12, n13, y1.1, (y1.1.length : Int), (0 : Int), ()) (fun _ => .v (.ret ())) (fun t2 => let k1 := t2.2.2.2.2.2.2.1 + (1 : Int); .ik k1 (.v (.go (t2.1, (), t2.2.2.1, t2.2.2.2.2.1, t2.2.2.2.2.2.1, k1, ()))))))) (.v (.brk (w0, (), l5, l11, n12, n13, ())))⟩
theorem zhX : PO zDZ (fun _ _ => False) (U6 fun (w00 : El zE) _ _ (l110 : Li zG) (n120 : Int) _ => U6 fun (w0 : El zE) _ _ (l11 : Li zG) (n12 : Int) _ => w00 = w0 ∧ l110 = l11 ∧ n120 = n12) := poB (by
 rintro ⟨w00, ⟨⟩, l50, l110, n120, n130, ⟨⟩⟩ ⟨(w0 : El zE), ⟨⟩, (l5 : Li zA), (l11 : Li zG), (n12 : Int), (n13 : Int), ⟨⟩⟩ hI
 dsimp only [U6] at hI ⊢
 obtain ⟨eq0, eq1, eq2⟩ := hI
 simp only [LB.b, zDZ, U6, z0, ze, zY, zq]
 refine zDu (fun h1 => ?_) (fun h1 => ?_)
 ·replace h1 : n13 < n12 := of_decide_eq_true h1
  refine zVq (zgl _ ⟨rfl, rfl, rfl, rfl, rfl, rfl, rfl⟩) (fun _ h => h.elim) (fun t ht => ?_)
  obtain ⟨t2w0, ⟨⟩, t2l5, (t2n6 : Int), t2l11, (t2n12 : Int), (t2n13 : Int), t2l20, (t2n21 : Int), (t2n22 : Int), ⟨⟩⟩ := t
  dsimp only [U10] at ht ⊢
  obtain ⟨rfl, rfl, rfl, rfl, rfl, rfl, rfl⟩ := ht
  exact ⟨eq0, eq1, eq2⟩
 ·replace h1 : ¬ (n13 < n12) := of_decide_eq_false h1
  exact ⟨eq0, eq1, eq2⟩)
theorem zfF : SF zDZ fun x : El zE × Unit × Li zA × Li zG × Int × Int × Unit => (0 ≤ x.2.2.2.2.2.1 ∧ x.2.2.2.2.1 = (x.2.2.2.1.length : Int) ∧ (x.2.2.1.length : Int) ≤ 64000 * x.2.2.2.2.2.1 ∧ x.1.1.length ≤ 40 ∧ x.2.2.2.1.length ≤ 12 ∧ (∀ r ∈ x.2.2.2.1, (∀ p ∈ r.2.2.1, p.2.1.length ≤ 5) ∧ (yZ r false).1.length ≤ 3), x.2.2.2.2.1 - x.2.2.2.2.2.1) := sfk (by
 rintro ⟨(w0 : El zE), ⟨⟩, (l5 : Li zA), (l11 : Li zG), (n12 : Int), (n13 : Int), ⟨⟩⟩ hI hw
 dsimp only [U6] at hI ⊢
 obtain ⟨i0, i1, k0, k1, k2, k3⟩ := hI
 have _ : -9223372036854775808 ≤ n12 ∧ n12 ≤ 9223372036854775807 := zAd hw.2.2.2.2.1
 have hb : (l11.length : Int) ≤ 16777216 := vC (hw.2.2.2.1.1)
 refine ⟨by omega, ?_⟩
 refine xI (fun h2 => ?_) (fun h2 => ?_)
 ·replace h2 : n13 < n12 := of_decide_eq_true h2
  refine z7 ?_ ?_
  ·first | omega | (simp <;> omega)
  ·refine z7 ?_ ?_
   ·exact ⟨k1, (k3 _ (zV (by omega))).1, (k3 _ (zV (by omega))).2⟩
   ·refine z7 ?_ ?_
    ·exact zhY _ ⟨by (have _ := xu (r := zB zG l11 n13) (s := w0) k1 (k3 _ (zV (by omega))).1 (k3 _ (zV (by omega))).2; dsimp only <;> first | omega | assumption | (simp <;> omega)), by (have _ := xu (r := zB zG l11 n13) (s := w0) k1 (k3 _ (zV (by omega))).1 (k3 _ (zV (by omega))).2; dsimp only <;> first | omega | assumption | (simp <;> omega)), by (have _ := xu (r := zB zG l11 n13) (s := w0) k1 (k3 _ (zV (by omega))).1 (k3 _ (zV (by omega))).2; dsimp only <;> first | omega | assumption | (simp <;> omega)), by (have _ := xu (r := zB zG l11 n13) (s := w0) k1 (k3 _ (zV (by omega))).1 (k3 _ (zV (by omega))).2; dsimp only <;> first | omega | assumption | (simp <;> omega)), by (have _ := xu (r := zB zG l11 n13) (s := w0) k1 (k3 _ (zV (by omega))).1 (k3 _ (zV (by omega))).2; dsimp only <;> first | omega | assumption | (simp <;> omega))⟩
    ·refine zQi (zhr _ ⟨rfl, rfl, rfl, rfl, rfl, rfl, rfl, by (have _ := xu (r := zB zG l11 n13) (s := w0) k1 (k3 _ (zV (by omega))).1 (k3 _ (zV (by omega))).2; dsimp only; first | omega | rfl | assumption | (simp <;> omega) | (refine ⟨?_, ?_, ?_⟩ <;> first | omega | rfl | (simp <;> omega)) | (refine ⟨?_, ?_⟩ <;> first | omega | rfl | (simp <;> omega)))⟩) (fun _ h => h.elim) (fun t ht => ?_)
     obtain ⟨t2w0, ⟨⟩, t2l5, (t2n6 : Int), t2l11, (t2n12 : Int), (t2n13 : Int), t2l20, (t2n21 : Int), (t2n22 : Int), ⟨⟩⟩ := t
     dsimp only [U10] at ht ⊢
     obtain ⟨rfl, rfl, rfl, rfl, rfl, rfl, rfl, hth3⟩ := ht
     refine z7 ?_ ?_
     ·exact ink (by omega) (by omega)
     ·exact show (0 ≤ (n13 + 1) ∧ n12 = (l11.length : Int) ∧ (t2l5.length : Int) ≤ 64000 * (n13 + 1) ∧ w0.1.length ≤ 40 ∧ l11.length ≤ 12 ∧ (∀ r ∈ l11, (∀ p ∈ r.2.2.1, p.2.1.length ≤ 5) ∧ (yZ r false).1.length ≤ 3)) ∧ n12 - (n13 + 1) < n12 - n13 ∧ 0 < n12 - n13 from ⟨⟨by (have _ := xu (r := zB zG l11 n13) (s := w0) k1 (k3 _ (zV (by omega))).1 (k3 _ (zV (by omega))).2; first | omega | rfl | assumption | (simp <;> omega)), by (have _ := xu (r := zB zG l11 n13) (s := w0) k1 (k3 _ (zV (by omega))).1 (k3 _ (zV (by omega))).2; first | omega | rfl | assumption | (simp <;> omega)), by (have _ := xu (r := zB zG l11 n13) (s := w0) k1 (k3 _ (zV (by omega))).1 (k3 _ (zV (by omega))).2; first | omega | rfl | assumption | (simp <;> omega)), by (have _ := xu (r := zB zG l11 n13) (s := w0) k1 (k3 _ (zV (by omega))).1 (k3 _ (zV (by omega))).2; first | omega | rfl | assumption | (simp <;> omega)), by (have _ := xu (r := zB zG l11 n13) (s := w0) k1 (k3 _ (zV (by omega))).1 (k3 _ (zV (by omega))).2; first | omega | rfl | assumption | (simp <;> omega)), by (have _ := xu (r := zB zG l11 n13) (s := w0) k1 (k3 _ (zV (by omega))).1 (k3 _ (zV (by omega))).2; first | omega | rfl | assumption | (simp <;> omega))⟩, by (first | omega | (simp only [List.length_set]; omega)), by (first | omega | (simp only [List.length_set]; omega))⟩
 ·replace h2 : ¬ (n13 < n12) := of_decide_eq_false h2
  exact trivial)
abbrev zKs (a0 : El zN) (a1 : El zE) : Tr (Li zA × Unit) := .lp zDZ (a1, (), ([] : Li zA), a0.2, (a0.2.length : Int), (0 : Int), ()) (fun _ => .bad) (fun t1 => .v (t1.2.2.1, ()))
def zRB a0 a1 := (zKs a0 a1).val
def zRZ (a0 : El zN) (a1 : El zE) : Prop := zuL a0 a1
abbrev zg5 := gq [va zN, va zE] [vo zA] (U2 zRZ) (U2 zRB)
theorem zqZ : Ok zg5 (U2 zKs) := by
 rintro ⟨(a0 : El zN), (a1 : El zE), ⟨⟩⟩ hw hp
 replace hp : zRZ a0 a1 := hp
 show (zKs a0 a1).ok
 unfold zRZ at hp
 obtain ⟨hp1, hp2, hp3⟩ := hp
 unfold zKs
 refine zg ?_ ?_
 ·exact zfF _ ⟨by (dsimp only <;> first | omega | rfl | assumption | (simp <;> omega)), by (dsimp only <;> first | omega | rfl | assumption | (simp <;> omega)), by (dsimp only <;> first | omega | rfl | assumption | (simp <;> omega)), by (dsimp only <;> first | omega | rfl | assumption | (simp <;> omega)), by (dsimp only <;> first | omega | rfl | assumption | (simp <;> omega)), by (dsimp only <;> first | omega | rfl | assumption | (simp <;> omega))⟩
 ·refine zJ1 (zhX _ ⟨rfl, rfl, rfl⟩) (fun _ h => h.elim) (fun t ht => ?_)
  obtain ⟨t3w0, ⟨⟩, t3l5, t3l11, (t3n12 : Int), (t3n13 : Int), ⟨⟩⟩ := t
  dsimp only [U6] at ht ⊢
  obtain ⟨rfl, rfl, rfl⟩ := ht
  trivial
def zqn := cn mo [zdh] [zDZ, zHz] 27 zg5 Tryz.f27 (U2 zKs) zqZ
abbrev zMD (a0 : El zN) (a1 : El zA) : Tr (Bool × Unit) := cond (decide (a1.1 ≥ (0 : Int))) (.v (decide (a1.1 < (a0.2.length : Int)), ())) (.v (false, ()))
def vf a0 a1 := (zMD a0 a1).val
abbrev zj8 := fd [va zN, va zA] [vd .bool] (U2 vf)
def zLA := cn mo [] [] 81 zj8 Tryz.f81 (U2 zMD) (fun _ _ _ => by simp [zMD])
theorem zLp {d : El zN} {m : El zA} (h : (vf d m).1 = true) : 0 ≤ m.1 ∧ m.1 < (d.2.length : Int) := by
 simp only [vf, zMD, z0, zY] at h
 cases e : decide (m.1 ≥ (0 : Int)) with
 | false => rw [e] at h; cases h
 | true =>
  rw [e] at h
  exact ⟨of_decide_eq_true e, of_decide_eq_true h⟩
abbrev vV : LB := ⟨[], ⟨36, [], [(0, vd (.lst .int)), (1, vd (.lst .int)), (9, vd (.lst .int)), (10, vd .int), (11, vd .int)], []⟩, ⟨36, [], [(4, vd .int)], []⟩, 0, U5 fun (l0 l1 l9 : Li .int) (n10 n11 : Int) => cond (decide (n11 < n10)) (.ix n11 l9 (cond (decide (n11 ≥ (l1.length : Int))) (.v (.ret ((1 : Int), ()))) (.ix n11 l1 (let y1 := (zx (zB .int l9 n11) (zB .int l1 n11)); cond (y1.1 != (0 : Int)) (.v (.ret (y1.1, ()))) (.ik (n11 + 1) (.v (.go (l0, l1, l9, n10, (n11 + 1), ())))))))) (.v (.brk (l0, l1, l9, n10, n11, ())))⟩
def zHc (l0 l1 l9 : Li .int) := rS (l := vV) (L := l0) (fun i => (l0, l1, l9, (l0.length : Int), i, ())) (fun i x => bif (decide ((i : Int) ≥ (l1.length : Int))) then (some ((1 : Int), ())) else (bif ((zx (zB .int l9 (i : Int)) (zB .int l1 (i : Int))).1 != (0 : Int)) then (some ((zx (zB .int l9 (i : Int)) (zB .int l1 (i : Int))).1, ())) else none))
theorem zHf : SF vV (U5 fun (l0 : Li .int) _ (l9 : Li .int) (n10 n11 : Int) => (0 ≤ n11 ∧ n10 = (l0.length : Int) ∧ n10 ≤ (l9.length : Int), n10 - n11)) := sfA
abbrev vq (a0 a1 : Li .int) : Tr (Int × Unit) := .lp vV (a0, a1, a0, (a0.length : Int), (0 : Int), ()) (fun r2 => .v (r2.1, ())) (fun t1 => cond (decide (@LT.lt Int _ (t1.1.length : Int) (t1.2.1.length : Int))) (.v ((-1 : Int), ())) (.v ((0 : Int), ())))
def vn a0 a1 := (vq a0 a1).val
abbrev zDn := fd [vd (.lst .int), vd (.lst .int)] [vd .int] (U2 vn)
theorem zJ5 : Ok zDn (U2 vq) := vN zHf
def zJ7 := cn mo [zE4] [vV] 327 zDn Tryz.f327 (U2 vq) zJ5
def zKE (a0 a1 : Li .int) := (by
 simp only [vn, vq, zY, z0, zq, ze]
 rewrite [zHc, xH]
 dsimp only : vn a0 a1 = _)
abbrev zCg (a0 a1 : El zA) : Tr (Int × Unit) := let y1 := (zAN [(zx a0.1 a1.1).1, (zx (a0.2.1.length : Int) (a1.2.1.length : Int)).1]); cond (y1.1 == (0 : Int)) (.v ((vn a0.2.1 a1.2.1).1, ())) (.v (y1.1, ()))
def zEv a0 a1 := (zCg a0 a1).val
abbrev zRq := fd [va zA, va zA] [vd .int] (U2 zEv)
def zSR := cn mo [zE4, zRt, zJ7] [] 257 zRq Tryz.f257 (U2 zCg) (fun _ _ _ => by simp [zCg])
def zHT (a0 a1 : El zA) : Bool × Unit := (decide ((zEv a0 a1).1 < (0 : Int)), ())
abbrev zdn := fd [va zA, va zA] [vd .bool] (U2 zHT)
def zeY := cv mo [zSR] 164 zdn Tryz.f164
abbrev zIA (a0 : El zN) (a1 a2 : El zA) : Tr (Bool × Unit) := cond (!(vf a0 a1).1) (.v (false, ())) (cond (!(vf a0 a2).1) (.v (false, ())) (.ix a1.1 a0.2 (.ix a2.1 a0.2 (cond (decide ((zB zG a0.2 a1.1).2.1 > (zB zG a0.2 a2.1).2.1)) (.v (true, ())) (cond ((zB zG a0.2 a1.1).2.1 == (zB zG a0.2 a2.1).2.1) (.v ((zHT a1 a2).1, ())) (.v (false, ())))))))
def zH9 a0 a1 a2 := (zIA a0 a1 a2).val
abbrev za4 := fd [va zN, va zA, va zA] [vd .bool] (U3 zH9)
theorem zmF : Ok za4 (U3 zIA) := by
 rintro ⟨(a0 : El zN), (a1 : El zA), (a2 : El zA), ⟨⟩⟩ hw hp
 show (zIA a0 a1 a2).ok
 unfold zIA
 refine yK (fun _ => trivial) (fun h1 => ?_)
 replace h1 := zAT h1
 replace h1 := zLp h1
 refine yK (fun _ => trivial) (fun h2 => ?_)
 replace h2 := zAT h2
 replace h2 := zLp h2
 refine zg ?_ ?_
 ·first | omega | (simp <;> omega)
 ·refine zg ?_ ?_
  ·first | omega | (simp <;> omega)
  ·simp
def zmj := cn mo [zLA, zeY] [] 83 za4 Tryz.f83 (U3 zIA) zmF
abbrev v5 : LB := ⟨[], ⟨26, [], [(0, vd (.lst .int)), (1, vd (.lst .int)), (12, vd .int), (13, vd .int)], []⟩, ⟨26, [], [(4, vd .bool)], []⟩, 0, U4 fun (l0 l1 : Li .int) (n12 n13 : Int) => cond (decide (n13 < n12)) (.ix n13 l0 (.ix n13 l1 (cond ((zB .int l0 n13) != (zB .int l1 n13)) (.v (.ret (false, ()))) (.ik (n13 + 1) (.v (.go (l0, l1, n12, (n13 + 1), ()))))))) (.v (.brk (l0, l1, n12, n13, ())))⟩
def zJB (l0 l1 : Li .int) := rA (l := v5) (L := l0) (fun i => (l0, l1, (l0.length : Int), i, ())) (fun i x => bif (x != (zB .int l1 (i : Int))) then false else true) (false, ())
theorem zI5 : SF v5 (U4 fun (l0 l1 : Li .int) (n12 n13 : Int) => (0 ≤ n13 ∧ n12 = (l0.length : Int) ∧ n12 ≤ (l1.length : Int), n12 - n13)) := sfA
abbrev zAL (a0 a1 : Li .int) : Tr (Bool × Unit) := let k1 := (a0.length : Int); cond (k1 != (a1.length : Int)) (.v (false, ())) (.lp v5 (a0, a1, k1, (0 : Int), ()) (fun r1 => .v (r1.1, ())) (fun _ => .v (true, ())))
def zAJ a0 a1 := (zAL a0 a1).val
abbrev zFB := fd [vd (.lst .int), vd (.lst .int)] [vd .bool] (U2 zAJ)
theorem zLU : Ok zFB (U2 zAL) := vN zI5
def zMk := cn mo [] [v5] 34 zFB Tryz.f34 (U2 zAL) zLU
def zMJ (a0 a1 : Li .int) := (by
 simp only [zAJ, zAL, zY, z0, zq, ze]
 rewrite [zJB, z3]
 dsimp only : zAJ a0 a1 = _)
abbrev zHg (a0 a1 : El zA) : Tr (Bool × Unit) := cond (a0.1 == a1.1) (.v ((zAJ a0.2.1 a1.2.1).1, ())) (.v (false, ()))
def zDe a0 a1 := (zHg a0 a1).val
abbrev zc5 := fd [va zA, va zA] [vd .bool] (U2 zDe)
def zSN := cn mo [zMk] [] 11 zc5 Tryz.f11 (U2 zHg) (fun _ _ _ => by simp [zHg])
def zGE (a0 a1 : El zA) : Bool × Unit := ((zDe a0 a1).1, ())
abbrev zZ8 := fd [va zA, .bx zA 0] [vd .bool] (U2 zGE)
def zZE := cv mo [zSN] 163 zZ8 Tryz.f163
abbrev yV : LB := ⟨[], ⟨19, [], [(0, vd (.lst zA)), (1, .fn 163 [zA]), (7, vd .int), (8, vd .int)], []⟩, ⟨19, [], [(4, vd .int)], []⟩, 0, U4 fun (l0 : Li zA) (f1 : TyL [zA]) (n7 n8 : Int) => cond (decide (n8 < n7)) (.ix n8 l0 (cond (zGE (zB zA l0 n8) f1.1).1 (.v (.ret (n8, ()))) (.ik (n8 + 1) (.v (.go (l0, (f1.1, ()), n7, (n8 + 1), ())))))) (.v (.brk (l0, (f1.1, ()), n7, n8, ())))⟩
def zBd (l0 : Li zA) (f1 : TyL [zA]) := rS (l := yV) (L := l0) (fun i => (l0, f1, (l0.length : Int), i, ())) (fun i x => bif (zGE x f1.1).1 then (some ((i : Int), ())) else none)
theorem zBe : SF yV (U4 fun (l0 : Li zA) _ (n7 n8 : Int) => (0 ≤ n8 ∧ n7 = (l0.length : Int), n7 - n8)) := sfA
abbrev yf (a0 : Li zA) (a1 : TyL [zA]) : Tr (Int × Unit) := .lp yV (a0, (a1.1, ()), (a0.length : Int), (0 : Int), ()) (fun r2 => .v (r2.1, ())) (fun _ => .v ((-1 : Int), ()))
def yg a0 a1 := (yf a0 a1).val
abbrev vW := fd [vd (.lst zA), .fn 163 [zA]] [vd .int] (U2 yg)
theorem zCa : Ok vW (U2 yf) := vN zBe
def zCf := cn mo [zZE] [yV] 256 vW Tryz.f256 (U2 yf) zCa
def zCb (a0 : Li zA) (a1 : TyL [zA]) := (by
 simp only [yg, yf, zY, zq, ze]
 rewrite [zBd, xH]
 dsimp only : yg a0 a1 = _)
def xF (a0 : Li zA) (a1 : TyL [zA]) : Bool × Unit := (decide ((yg a0 (a1.1, ())).1 ≥ (0 : Int)), ())
abbrev zBg := fd [vd (.lst zA), .fn 163 [zA]] [vd .bool] (U2 xF)
def zBi := cv mo [zCf] 162 zBg Tryz.f162
def zGn (a0 : Li zA) (a1 : El zA) : Bool × Unit := ((xF a0 (a1, ())).1, ())
abbrev ze9 := fd [vd (.lst zA), va zA] [vd .bool] (U2 zGn)
def zfb := cv mo [zBi] 82 ze9 Tryz.f82
def zAx (a0 : El zA) : El zA × Unit := (a0, ())
abbrev zdK := fd [va zA] [.val true (.pr (.d .int) (.pr (.o (.d .int)) (.o (.d zH))))] (U1 zAx)
def zLZ := cv mo [zB0, xx] 84 zdK Tryz.f84
abbrev zGW : LB := ⟨[1, 0, 2], ⟨40, [.pr (.d .int) (.pr (.o (.d .int)) (.o (.d zH))), .d zN, .d zA], [(2, vd (.lst zA)), (3, .pt 1 0), (6, .pt 0 0), (8, .pt 2 0), (9, vd .bool), (12, vd (.lst zA)), (13, vd .int), (14, vd .int)], []⟩, ⟨40, [], [], []⟩, 0, U11 fun (w0 : El zA) (w1 : El zN) (w2 : El zA) (l2 : Li zA) _ _ _ (b9 : Bool) (l12 : Li zA) (n13 n14 : Int) => cond (decide (n14 < n13)) (.ix n14 l12 (let k1 : Tr (St _ _) := .ik (n14 + 1) (.v (.go (w0, w1, w2, l2, (), (), (), b9, l12, n13, (n14 + 1), ()))); let k3 := zB zA l12 n14; cond (!(vf w1 k3).1) k1 (cond (zGn l2 k3).1 k1 (let k2 : Tr (St _ _) := .ik (n14 + 1) (.v (.go (w0, w1, k3, l2, (), (), (), true, l12, n13, (n14 + 1), ()))); cond (!b9) k2 (cond (zH9 w1 k3 w2).1 k2 k1))))) (.v (.brk (w0, w1, w2, l2, (), (), (), b9, l12, n13, n14, ())))⟩
def zND (w0 : El zA) (w1 : El zN) (l2 l12 : Li zA) (w2 : El zA) (b9 : Bool) := rF (l := zGW) (L := l12) (fun i (s : (El zA) × Bool) => (w0, w1, s.1, l2, (), (), (), s.2, l12, (l12.length : Int), i, ())) (fun i x s => bif (!(vf w1 x).1) then (s.1, s.2) else (bif (zGn l2 x).1 then (s.1, s.2) else (bif (!s.2) then (x, true) else (bif (zH9 w1 x s.1).1 then (x, true) else (s.1, s.2))))) (w2, b9)
theorem zVR : SF zGW (U11 fun _ _ _ _ _ _ _ _ (l12 : Li zA) (n13 n14 : Int) => (0 ≤ n14 ∧ n13 = (l12.length : Int), n13 - n14)) := sfA
abbrev zHI (a0 : El zN) (a1 a2 : Li zA) : Tr (El zA × Bool × Unit) := let k1 := ((0 : Int), (([] : Li .int), ([] : Li zH))); .lp zGW (k1, a0, k1, a2, (), (), (), false, a1, (a1.length : Int), (0 : Int), ()) (fun _ => .bad) (fun t1 => .v ((zAx t1.2.2.1).1, t1.2.2.2.2.2.2.2.1, ()))
def zAP a0 a1 a2 := (zHI a0 a1 a2).val
abbrev zRa := fd [va zN, vd (.lst zA), vd (.lst zA)] [.val true (.pr (.d .int) (.pr (.o (.d .int)) (.o (.d zH)))), vd .bool] (U3 zAP)
theorem zc8 : Ok zRa (U3 zHI) := zNF zVR zND
def zey := cn mo [zLA, zmj, zfb, zLZ] [zGW] 26 zRa Tryz.f26 (U3 zHI) zc8
def zRm (a0 : El zN) (a1 a2 : Li zA) := (by
 simp only [zAP, zHI, zY, zq, ze]
 rewrite [zND, xL]
 dsimp only : zAP a0 a1 a2 = _)
abbrev zLO (a0 : Int) : Tr (Bool × Unit) := cond (decide (a0 ≥ (97 : Int))) (.v (decide (a0 ≤ (122 : Int)), ())) (.v (false, ()))
def zIt a0 := (zLO a0).val
abbrev zko := fd [vd .u8] [vd .bool] (U1 zIt)
def zYz := cn mo [] [] 200 zko Tryz.f200 (U1 zLO) (fun _ _ _ => by simp [zLO])
abbrev zL4 (a0 : Int) : Tr (Bool × Unit) := cond (decide (a0 ≥ (48 : Int))) (.v (decide (a0 ≤ (57 : Int)), ())) (.v (false, ()))
def zQx a0 := (zL4 a0).val
abbrev zh6 := fd [vd .u8] [vd .bool] (U1 zQx)
def zi9 := cn mo [] [] 350 zh6 Tryz.f350 (U1 zL4) (fun _ _ _ => by simp [zL4])
abbrev zGJ (a0 : Int) : Tr (Bool × Unit) := cond (zIt a0).1 (.v (true, ())) (cond (zQx a0).1 (.v (true, ())) (.v ((a0 == (95 : Int)), ())))
def zBC a0 := (zGJ a0).val
abbrev zad := fd [vd .u8] [vd .bool] (U1 zBC)
def zPl := cn mo [zYz, zi9] [] 289 zad Tryz.f289 (U1 zGJ) (fun _ _ _ => by simp [zGJ])
abbrev zLr : LB := ⟨[], ⟨21, [], [(0, vd .str), (5, vd .int)], []⟩, ⟨21, [], [(4, vd .bool)], []⟩, 0, U2 fun (s0 : ByteArray) (n5 : Int) => cond (decide (n5 < (s0.size : Int))) (.is n5 s0 (cond (!(zBC ((bt s0 n5).toNat : Int)).1) (.v (.ret (false, ()))) (.ik (n5 + 1) (.v (.go (s0, (n5 + 1), ())))))) (.v (.brk (s0, n5, ())))⟩
def zd9 (s0 : ByteArray) := rAb (l := zLr) (b := s0) (fun i => (s0, i, ())) (fun i x => bif (!(zBC (x.toNat : Int)).1) then false else true) (false, ())
theorem zdd : SF zLr (U2 fun (s0 : ByteArray) (n5 : Int) => (0 ≤ n5, (s0.size : Int) - n5)) := sfA
abbrev zOg (a0 : ByteArray) (a1 : Int) : Tr (Bool × Unit) := cond (decide ((a0.size : Int) > a1)) (.v (false, ())) (.lp zLr (a0, (0 : Int), ()) (fun r2 => .v (r2.1, ())) (fun _ => .v (true, ())))
def zFu a0 a1 := (zOg a0 a1).val
abbrev zbI := fd [vd .str, vd .int] [vd .bool] (U2 zFu)
theorem zmy : Ok zbI (U2 zOg) := vN zdd
def zcM := cn mo [zPl] [zLr] 201 zbI Tryz.f201 (U2 zOg) zmy
def zmG (a0 : ByteArray) (a1 : Int) := (by
 simp only [zFu, zOg, zY, z0, zq, ze]
 rewrite [zd9, z3]
 dsimp only : zFu a0 a1 = _)
abbrev zOb (a0 : ByteArray) : Tr (Bool × Unit) := cond (decide ((a0.size : Int) > 0)) (.is (0 : Int) a0 (cond (zIt ((bt a0 (0 : Int)).toNat : Int)).1 (.v ((zFu a0 12).1, ())) (.v (false, ())))) (.v (false, ()))
def zDY a0 := (zOb a0).val
abbrev zcR := fd [vd .str] [vd .bool] (U1 zDY)
theorem znJ : Ok zcR (U1 zOb) := okA
def zH1 := cn mo [zYz, zcM] [] 106 zcR Tryz.f106 (U1 zOb) znJ
abbrev zLM (a0 a1 a2 : Int) : Tr (Bool × Unit) := cond (decide (a0 ≥ a1)) (.v (decide (a0 ≤ a2), ())) (.v (false, ()))
def z9 a0 a1 a2 := (zLM a0 a1 a2).val
abbrev zh8 := fd [vd .int, vd .int, vd .int] [vd .bool] (U3 z9)
def zAB := cn mo [] [] 40 zh8 Tryz.f40 (U3 zLM) (fun _ _ _ => by simp [zLM])
theorem zC6 {x a b : Int} (h : (z9 x a b).1 = true) : a ≤ x ∧ x ≤ b := by
 simp only [z9, zLM, z0, zY] at h
 cases e : decide (x ≥ a) with
 | false => rw [e] at h; cases h
 | true =>
  rw [e] at h
  exact ⟨of_decide_eq_true e, of_decide_eq_true h⟩
abbrev zL2 (a0 : Int) : Tr (Bool × Unit) := cond (decide (a0 ≥ (65 : Int))) (.v (decide (a0 ≤ (90 : Int)), ())) (.v (false, ()))
def zF0 a0 := (zL2 a0).val
abbrev zi2 := fd [vd .u8] [vd .bool] (U1 zF0)
def zia := cn mo [] [] 395 zi2 Tryz.f395 (U1 zL2) (fun _ _ _ => by simp [zL2])
abbrev zOc : LB := ⟨[], ⟨36, [], [(0, vd .str), (3, vd .int)], []⟩, ⟨36, [], [(2, vd .bool)], []⟩, 0, U2 fun (s0 : ByteArray) (n3 : Int) => cond (decide (n3 < (s0.size : Int))) (.is n3 s0 (let k1 : Tr (St _ _) := .ik (n3 + 1) (.v (.go (s0, (n3 + 1), ()))); cond (!(zBC ((bt s0 n3).toNat : Int)).1) (.is n3 s0 (cond (!(zF0 ((bt s0 n3).toNat : Int)).1) (.v (.ret (false, ()))) k1)) k1)) (.v (.brk (s0, n3, ())))⟩
def zhi (s0 : ByteArray) := rAb (l := zOc) (b := s0) (fun i => (s0, i, ())) (fun i x => bif (!(zBC (x.toNat : Int)).1) then (bif (!(zF0 (x.toNat : Int)).1) then false else true) else true) (false, ())
theorem zfV : SF zOc (U2 fun (s0 : ByteArray) (n3 : Int) => (0 ≤ n3, (s0.size : Int) - n3)) := sfA
abbrev zQ7 (a0 : ByteArray) : Tr (Bool × Unit) := cond (decide ((a0.size : Int) < 1)) (.v (false, ())) (cond (decide ((a0.size : Int) > 12)) (.v (false, ())) (.is (0 : Int) a0 (cond (!(zF0 ((bt a0 (0 : Int)).toNat : Int)).1) (.v (false, ())) (.lp zOc (a0, (0 : Int), ()) (fun r8 => .v (r8.1, ())) (fun _ => .v (true, ()))))))
def zNM a0 := (zQ7 a0).val
abbrev zgx := fd [vd .str] [vd .bool] (U1 zNM)
theorem zo2 : Ok zgx (U1 zQ7) := vN zfV
def zp0 := cn mo [zPl, zia] [zOc] 381 zgx Tryz.f381 (U1 zQ7) zo2
def zoy (a0 : ByteArray) := (by
 simp only [zNM, zQ7, zY, z0, zq, ze]
 rewrite [zhi, z3]
 dsimp only : zNM a0 = _)
abbrev zSa (a0 : El zL) : Tr (Bool × Unit) := cond (a0.1 == (1 : Int)) (cond (z9 a0.2.1 (-1000000000 : Int) (1000000000 : Int)).1 (.v ((a0.2.2.toList == (⟨#[]⟩ : ByteArray).toList), ())) (.v (false, ()))) (cond (a0.1 == (2 : Int)) (cond (a0.2.1 == (0 : Int)) (.v ((zFu a0.2.2 20).1, ())) (.v (false, ()))) (.v (false, ())))
def zBT a0 := (zSa a0).val
abbrev zok := fd [va zL] [vd .bool] (U1 zBT)
def zN0 := cn mo [zAB, zcM] [] 210 zok Tryz.f210 (U1 zSa) (fun _ _ _ => by simp [zSa])
abbrev zRK (a0 : El yb) : Tr (Bool × Unit) := let k1 := (((a0.2.2.1 == (0 : Int)) && ((a0.2.2.2.1 == (0 : Int)) && ((a0.2.2.2.2.toList == (⟨#[]⟩ : ByteArray).toList) && true))), ()); cond (a0.1 == (1 : Int)) (cond (zNM a0.2.1).1 (.v k1) (.v (false, ()))) (let k2 := a0.2.1.toList == (⟨#[]⟩ : ByteArray).toList; cond (a0.1 == (2 : Int)) (cond k2 (.v ((zBT a0.2.2).1, ())) (.v (false, ()))) (cond (a0.1 == (3 : Int)) (cond k2 (.v k1) (.v (false, ()))) (.v (false, ()))))
def zKn a0 := (zRK a0).val
abbrev zpK := fd [va yb] [vd .bool] (U1 zKn)
def zf0 := cn mo [zp0, zN0] [] 351 zpK Tryz.f351 (U1 zRK) (fun _ _ _ => by simp [zRK])
abbrev zOz (a0 : El yb) : Tr (Bool × Unit) := cond (a0.1 != (3 : Int)) (.v ((zKn a0).1, ())) (.v (false, ()))
def zEf a0 := (zOz a0).val
abbrev znI := fd [va yb] [vd .bool] (U1 zEf)
def zb3 := cn mo [zf0] [] 291 znI Tryz.f291 (U1 zOz) (fun _ _ _ => by simp [zOz])
abbrev zO6 (a0 : El z5) : Tr (Bool × Unit) := cond (z9 a0.1 1 3).1 (cond (zEf a0.2.1).1 (.v ((zEf a0.2.2).1, ())) (.v (false, ()))) (.v (false, ()))
def zHw a0 := (zO6 a0).val
abbrev zmA := fd [va z5] [vd .bool] (U1 zHw)
def zmg := cn mo [zAB, zb3] [] 203 zmA Tryz.f203 (U1 zO6) (fun _ _ _ => by simp [zO6])
abbrev zOf (a0 : El zo) : Tr (Bool × Unit) := cond (a0.1.toList == (⟨#[]⟩ : ByteArray).toList) (cond (zEf a0.2.1).1 (.v (((a0.2.2.1 == (0 : Int)) && ((a0.2.2.2.1.toList == (⟨#[]⟩ : ByteArray).toList) && (((a0.2.2.2.2.1 == (0 : Int)) && ((a0.2.2.2.2.2.1 == (0 : Int)) && ((a0.2.2.2.2.2.2.toList == (⟨#[]⟩ : ByteArray).toList) && true))) && true))), ())) (.v (false, ()))) (let k1 : Tr _ := cond (zEf a0.2.1).1 (.v ((zEf a0.2.2).1, ())) (.v (false, ())); let k2 := a0.1.toList == (⟨#[43]⟩ : ByteArray).toList; cond k2 (cond k2 k1 (.v (false, ()))) (cond (a0.1.toList == (⟨#[45]⟩ : ByteArray).toList) k1 (.v (false, ()))))
def zKU a0 := (zOf a0).val
abbrev zli := fd [va zo] [vd .bool] (U1 zKU)
def zlh := cn mo [zb3] [] 352 zli Tryz.f352 (U1 zOf) (fun _ _ _ => by simp [zOf])
abbrev zLh : LB := ⟨[], ⟨26, [], [(16, vd (.lst zo)), (17, vd .int), (18, vd .int)], []⟩, ⟨26, [], [(2, vd .bool)], []⟩, 0, U3 fun (l16 : Li zo) (n17 n18 : Int) => cond (decide (n18 < n17)) (.ix n18 l16 (cond (!(zKU (zB zo l16 n18)).1) (.v (.ret (false, ()))) (.ik (n18 + 1) (.v (.go (l16, n17, (n18 + 1), ())))))) (.v (.brk (l16, n17, n18, ())))⟩
def zdq (l16 : Li zo) := rA (l := zLh) (L := l16) (fun i => (l16, (l16.length : Int), i, ())) (fun i x => bif (!(zKU x).1) then false else true) (false, ())
theorem zen : SF zLh (U3 fun (l16 : Li zo) (n17 n18 : Int) => (0 ≤ n18 ∧ n17 = (l16.length : Int), n17 - n18)) := sfA
abbrev zPV (a0 : El zp) : Tr (Bool × Unit) := cond (!(zDY a0.2.1).1) (.v (false, ())) (let k1 := (a0.2.2.1.length : Int); cond (decide (k1 > (5 : Int))) (.v (false, ())) (.lp zLh (a0.2.2.1, k1, (0 : Int), ()) (fun r3 => .v (r3.1, ())) (fun _ => .v (true, ()))))
def zFk a0 := (zPV a0).val
abbrev zcb := fd [va zp] [vd .bool] (U1 zFk)
theorem zlz : Ok zcb (U1 zPV) := vN zen
def zlv := cn mo [zH1, zlh] [zLh] 292 zcb Tryz.f292 (U1 zPV) zlz
def znZ (a0 : El zp) := (by
 simp only [zFk, zPV, zY, z0, zq, ze]
 rewrite [zdq, z3]
 dsimp only : zFk a0 = _)
abbrev zOZ (a0 : ByteArray) : Tr (Bool × Unit) := cond (a0.toList == (⟨#[]⟩ : ByteArray).toList) (.v (true, ())) (.v ((zDY a0).1, ()))
def zBQ a0 := (zOZ a0).val
abbrev znV := fd [vd .str] [vd .bool] (U1 zBQ)
def zPK := cn mo [zH1] [] 212 znV Tryz.f212 (U1 zOZ) (fun _ _ _ => by simp [zOZ])
abbrev zKT (a0 : El zp) : Tr (Bool × Unit) := let k4 : Tr _ := .v ((a0.2.2.2.2.toList == (⟨#[]⟩ : ByteArray).toList), ()); let k7 := a0.2.2.2.1 == (0 : Int); let k1 : Tr _ := cond k7 k4 (.v (false, ())); let k2 : Tr _ := cond (zFk a0).1 (cond (z9 a0.2.2.2.1 0 100000).1 k4 (.v (false, ()))) (.v (false, ())); let k3 : Tr _ := cond (zFk a0).1 (cond k7 (.v ((zBQ a0.2.2.2.2).1, ())) (.v (false, ()))) (.v (false, ())); let k6 : Tr _ := cond (zFk a0).1 k1 (.v (false, ())); cond (a0.2.1.toList == (⟨#[]⟩ : ByteArray).toList) (cond (a0.1 == (1 : Int)) k6 (let k5 := (a0.2.2.1.length : Int) == 0; cond (a0.1 == (2 : Int)) (cond k5 (cond (z9 a0.2.2.2.1 0 7).1 k4 (.v (false, ()))) (.v (false, ()))) (cond (a0.1 == (3 : Int)) k3 (cond (a0.1 == (4 : Int)) k2 (cond (a0.1 == (5 : Int)) (cond (a0.1 == (5 : Int)) (cond k5 k1 (.v (false, ()))) (.v (false, ()))) (cond (a0.1 == (6 : Int)) (cond k5 k1 (.v (false, ()))) (.v (false, ())))))))) (cond (a0.1 == (1 : Int)) k6 (cond (a0.1 == (2 : Int)) (.v (false, ())) (cond (a0.1 == (3 : Int)) k3 (cond (a0.1 == (4 : Int)) k2 (cond (a0.1 == (5 : Int)) (cond (a0.1 == (5 : Int)) (.v (false, ())) (.v (false, ()))) (cond (a0.1 == (6 : Int)) (.v (false, ())) (.v (false, ()))))))))
def zC5 a0 := (zKT a0).val
abbrev zpt := fd [va zp] [vd .bool] (U1 zC5)
def zpi := cn mo [zlv, zAB, zPK] [] 204 zpt Tryz.f204 (U1 zKT) (fun _ _ _ => by simp [zKT])
theorem zpW {x : El zp} (h : (zC5 x).1 = true) (g : x.1 = (2 : Int)) : @LE.le Int _ 0 x.2.2.2.1 := by
 have e1 : (x.1 == (1 : Int)) = false := by rw [g]; rfl
 have e2 : (x.1 == (2 : Int)) = true := by rw [g]; rfl
 simp only [zC5, zKT, z0, zY, e1, e2, cond_true, cond_false] at h
 generalize (x.2.1.toList == (⟨#[]⟩ : ByteArray).toList) = A at h
 generalize ((x.2.2.1.length : Int) == 0) = B at h
 cases D : (z9 x.2.2.2.1 0 7).1 with
 | true => exact (zC6 D).1
 | false =>
  rw [D] at h
  cases A <;> cases B <;> simp only [cond_true, cond_false] at h <;> cases h
abbrev zHM : LB := ⟨[], ⟨20, [], [(3, vd .int), (7, vd (.lst zM)), (8, vd .int), (9, vd .int)], []⟩, ⟨20, [], [], []⟩, 0, U4 fun (n3 : Int) (l7 : Li zM) (n8 n9 : Int) => cond (decide (n9 < n8)) (.ix n9 l7 (cond (!(zB zM l7 n9).2.2) (.ik (n3 + 1) (.ik (n9 + 1) (.v (.go ((n3 + 1), l7, n8, (n9 + 1), ()))))) (.ik (n9 + 1) (.v (.go (n3, l7, n8, (n9 + 1), ())))))) (.v (.brk (n3, l7, n8, n9, ())))⟩
def zIC (l7 : Li zM) (n3 : Int) := rF (l := zHM) (L := l7) (fun i (s : Int) => (s, l7, (l7.length : Int), i, ())) (fun i x s => bif (!x.2.2) then (s + (1 : Int)) else s) n3
theorem zXX : SF zHM (U4 fun (n3 : Int) (l7 : Li zM) (n8 n9 : Int) => (0 ≤ n9 ∧ n8 = (l7.length : Int) ∧ (0 ≤ n3 ∧ n3 ≤ n9), n8 - n9)) := sfA
abbrev zGd (a0 : El zG) : Tr (Int × Unit) := .lp zHM ((0 : Int), a0.2.2.1, (a0.2.2.1.length : Int), (0 : Int), ()) (fun _ => .bad) (fun t1 => .v (t1.1, ()))
def yF a0 := (zGd a0).val
abbrev zUA := fd [va zG] [vd .int] (U1 yF)
theorem zgW : Ok zUA (U1 zGd) := zNF zXX zIC
def zJw := cn mo [] [zHM] 116 zUA Tryz.f116 (U1 zGd) zgW
def zfN (a0 : El zG) := (by
 simp only [yF, zGd, zY, zq, ze]
 rewrite [zIC, xL]
 dsimp only : yF a0 = _)
theorem zZp (r : El zG) : (yF r).1 = ((r.2.2.1.filter (fun p => !p.2.2)).length : Int) := by
 simp only [yF, zGd, ze, zY, zq]
 rw [zIC]
 show yC (fun i x (s : Int) => bif (!x.2.2) then (s + (1 : Int)) else s) 0 r.2.2.1 (0 : Int) = _
 rw [zJO]; simp
abbrev xo : LB := ⟨[], ⟨19, [], [(0, vd (.lst .str)), (1, vd .str), (7, vd .int), (8, vd .int)], []⟩, ⟨19, [], [(4, vd .int)], []⟩, 0, U4 fun (l0 : Li .str) (s1 : ByteArray) (n7 n8 : Int) => cond (decide (n8 < n7)) (.ix n8 l0 (cond (s1.toList == (zB .str l0 n8).toList) (.v (.ret (n8, ()))) (.ik (n8 + 1) (.v (.go (l0, s1, n7, (n8 + 1), ())))))) (.v (.brk (l0, s1, n7, n8, ())))⟩
def zFX (l0 : Li .str) (s1 : ByteArray) := rS (l := xo) (L := l0) (fun i => (l0, s1, (l0.length : Int), i, ())) (fun i x => bif (s1.toList == x.toList) then (some ((i : Int), ())) else none)
theorem zFV : SF xo (U4 fun (l0 : Li .str) _ (n7 n8 : Int) => (0 ≤ n8 ∧ n7 = (l0.length : Int), n7 - n8)) := sfA
abbrev xt (a0 : Li .str) (a1 : ByteArray) : Tr (Int × Unit) := .lp xo (a0, a1, (a0.length : Int), (0 : Int), ()) (fun r1 => .v (r1.1, ())) (fun _ => .v ((-1 : Int), ()))
def xr a0 a1 := (xt a0 a1).val
abbrev zCH := fd [vd (.lst .str), vd .str] [vd .int] (U2 xr)
theorem zHA : Ok zCH (U2 xt) := vN zFV
def zG0 := cn mo [] [xo] 294 zCH Tryz.f294 (U2 xt) zHA
def zHB (a0 : Li .str) (a1 : ByteArray) := (by
 simp only [xr, xt, zY, zq, ze]
 rewrite [zFX, xH]
 dsimp only : xr a0 a1 = _)
def zr (a0 : Li .str) (a1 : ByteArray) : Bool × Unit := (decide ((xr a0 a1).1 ≥ (0 : Int)), ())
abbrev zFY := fd [vd (.lst .str), vd .str] [vd .bool] (U2 zr)
def zBE := cv mo [zG0] 207 zFY Tryz.f207
abbrev zER (a0 : Li .str) (a1 : ByteArray) : Tr (Li .str × Unit) := cond (zr a0 a1).1 (.v (a0, ())) (.ck (((a0.length + [a1].length : Nat) : Int) ≤ 16777216) (.v ((a0 ++ [a1]), ())))
def zBB a0 a1 := (zER a0 a1).val
def zIe (a0 : Li .str) (_a1 : ByteArray) : Prop := (a0.length : Int) < 16777216
abbrev zWw := fq [vo .str, vd .str] [vo .str] (U2 zIe) (U2 zBB)
theorem zi7 : Ok zWw (U2 zER) := by
 rintro ⟨(a0 : Li .str), (a1 : ByteArray), ⟨⟩⟩ hw hp
 replace hp : zIe a0 a1 := hp
 show (zER a0 a1).ok
 unfold zIe at hp
 unfold zER
 refine yK (fun _ => trivial) (fun h1 => ?_)
 refine zg ?_ ?_
 ·have _ : (a0.length : Int) ≤ 16777216 := vC (hw.1.1); first | omega | (simp <;> omega)
 ·trivial
def ziW := cn mo [zBE] [] 353 zWw Tryz.f353 (U2 zER) zi7
theorem zYJ (l : Li .str) (s : ByteArray) : ((zBB l s).1.length : Int) ≤ (l.length : Int) + 1 := by
 simp only [zBB, zER, z0, ze, zY]
 cases (zr l s).1 with
 | true => show (l.length : Int) ≤ _; omega
 | false => show ((l ++ [s]).length : Int) ≤ _; simp
abbrev zBk : LB := ⟨[], ⟨22, [], [(0, vo .str), (7, vd (.lst yb)), (8, vd .int), (9, vd .int)], []⟩, ⟨22, [], [], []⟩, 0, U4 fun (l0 : Li .str) (l7 : Li yb) (n8 n9 : Int) => cond (decide (n9 < n8)) (.ix n9 l7 (cond ((zB yb l7 n9).1 == (1 : Int)) (.ck (zIe l0 (zB yb l7 n9).2.1) (.ik (n9 + 1) (.v (.go ((zBB l0 (zB yb l7 n9).2.1).1, l7, n8, (n9 + 1), ()))))) (.ik (n9 + 1) (.v (.go (l0, l7, n8, (n9 + 1), ())))))) (.v (.brk (l0, l7, n8, n9, ())))⟩
def zZv (l7 : Li yb) (l0 : Li .str) := rF (l := zBk) (L := l7) (fun i (s : (Li .str)) => (s, l7, (l7.length : Int), i, ())) (fun i x s => bif (x.1 == (1 : Int)) then (zBB s x.2.1).1 else s) l0
theorem zPp : PO zBk (fun _ _ => False) (U4 fun (l00 : Li .str) (l70 : Li yb) (n80 : Int) _ => U4 fun (l0 : Li .str) (l7 : Li yb) (n8 n9 : Int) => l70 = l7 ∧ n80 = n8 ∧ ((l0.length : Int) ≤ (l00.length : Int) + n9 ∧ n9 ≤ n8 ∧ n8 = (l7.length : Int))) := poB (by
 rintro ⟨l00, l70, n80, n90, ⟨⟩⟩ ⟨(l0 : Li .str), (l7 : Li yb), (n8 : Int), (n9 : Int), ⟨⟩⟩ hI
 dsimp only [U4] at hI ⊢
 obtain ⟨eq0, eq1, eq2⟩ := hI
 simp only [LB.b, zBk, U4, z0, ze, zY]
 refine zDu (fun h1 => ?_) (fun h1 => ?_)
 ·replace h1 : n9 < n8 := of_decide_eq_true h1
  refine zDu (fun h2 => ?_) (fun h2 => ?_)
  ·replace h2 := zuX h2
   exact zNg (show l70 = l7 ∧ n80 = n8 ∧ (((zBB l0 (zB yb l7 n9).2.1).1.length : Int) ≤ (l00.length : Int) + (n9 + 1) ∧ (n9 + 1) ≤ n8 ∧ n8 = (l7.length : Int)) from ⟨eq0, eq1, by have _ := zYJ l0 (zB yb l7 n9).2.1; first | omega | rfl | assumption | (simp <;> omega)⟩)
  ·replace h2 := zuN h2
   exact zNg (show l70 = l7 ∧ n80 = n8 ∧ ((l0.length : Int) ≤ (l00.length : Int) + (n9 + 1) ∧ (n9 + 1) ≤ n8 ∧ n8 = (l7.length : Int)) from ⟨eq0, eq1, by first | omega | rfl | assumption | (simp <;> omega)⟩)
 ·replace h1 : ¬ (n9 < n8) := of_decide_eq_false h1
  exact zRR (show l70 = l7 ∧ n80 = n8 ∧ ((l0.length : Int) ≤ (l00.length : Int) + n9 ∧ n9 ≤ n8 ∧ n8 = (l7.length : Int)) from ⟨eq0, eq1, by first | omega | rfl | assumption | (simp <;> omega)⟩))
theorem zZg : SF zBk fun x : Li .str × Li yb × Int × Int × Unit => (0 ≤ x.2.2.2.1 ∧ x.2.2.1 = (x.2.1.length : Int) ∧ (x.1.length : Int) + (x.2.1.length : Int) - x.2.2.2.1 ≤ 16777216, x.2.2.1 - x.2.2.2.1) := sfk (by
 rintro ⟨(l0 : Li .str), (l7 : Li yb), (n8 : Int), (n9 : Int), ⟨⟩⟩ hI hw
 obtain ⟨i0, i1, k0⟩ := hI
 dsimp only at i0 i1 k0
 have _ : -9223372036854775808 ≤ n8 ∧ n8 ≤ 9223372036854775807 := zAd hw.2.2.1
 have _ : (l7.length : Int) ≤ 16777216 := vC (hw.2.1.1)
 have _ := zYJ l0 (zB yb l7 n9).2.1
 simp [zBk, U4]
 repeat' first | (simp [zIe]; omega) | assumption | intro _ | apply And.intro
 all_goals omega)
abbrev zEA (a0 : Li .str) (a1 : Li yb) : Tr (Li .str × Unit) := .lp zBk (a0, a1, (a1.length : Int), (0 : Int), ()) (fun _ => .bad) (fun t1 => .v (t1.1, ()))
def yE a0 a1 := (zEA a0 a1).val
def zFq (a0 : Li .str) (a1 : Li yb) : Prop := (a0.length : Int) + (a1.length : Int) ≤ 16777216
abbrev zYp := fq [vo .str, vd (.lst yb)] [vo .str] (U2 zFq) (U2 yE)
theorem zjJ : Ok zYp (U2 zEA) := by
 rintro ⟨(a0 : Li .str), (a1 : Li yb), ⟨⟩⟩ hw hp
 replace hp : zFq a0 a1 := hp
 show (zEA a0 a1).ok
 unfold zFq at hp
 unfold zEA
 refine zg ?_ ?_
 ·exact zZg _ ⟨by (dsimp only <;> first | omega | assumption | (simp <;> omega)), by (dsimp only <;> first | omega | assumption | (simp <;> omega)), by (dsimp only <;> first | omega | assumption | (simp <;> omega))⟩
 ·refine zJ1 (zPp _ ⟨rfl, rfl, by (dsimp only; first | omega | rfl | assumption | (simp <;> omega) | (refine ⟨?_, ?_, ?_⟩ <;> first | omega | rfl | (simp <;> omega)) | (refine ⟨?_, ?_⟩ <;> first | omega | rfl | (simp <;> omega)))⟩) (fun _ h => h.elim) (fun t ht => ?_)
  obtain ⟨t2l0, t2l7, (t2n8 : Int), (t2n9 : Int), ⟨⟩⟩ := t
  dsimp only [U4] at ht ⊢
  obtain ⟨rfl, rfl, hth3⟩ := ht
  trivial
def zXH := cn mo [ziW] [zBk] 293 zYp Tryz.f293 (U2 zEA) zjJ
def zVv (a0 : Li .str) (a1 : Li yb) := (by
 simp only [yE, zEA, zY, zq, ze]
 rewrite [zZv, xL]
 dsimp only : yE a0 a1 = _)
theorem zAh (l : Li .str) (a : Li yb) : ((yE l a).1.length : Int) ≤ (l.length : Int) + (a.length : Int) := by
 simp only [yE, zEA, ze, zY, zq]
 have := zPp (l, a, (a.length : Int), (0 : Int), ()) ⟨rfl, rfl, by dsimp only; omega⟩
 revert this
 cases (LB.run zBk (l, a, (a.length : Int), (0 : Int), ())) with
 | ret r => intro h; exact h.elim
 | brk t => obtain ⟨t0, t1, t2, t3, ⟨⟩⟩ := t; rintro ⟨rfl, rfl, h1, h2, h3⟩; obtain ⟨t3, rfl⟩ : ∃ y : Int, y = t3 := ⟨_, rfl⟩; replace h1 : (t0.length : Int) ≤ (l.length : Int) + t3 := h1; replace h2 : t3 ≤ (a.length : Int) := h2; show (t0.length : Int) ≤ _; omega
 | go t => obtain ⟨t0, t1, t2, t3, ⟨⟩⟩ := t; rintro ⟨rfl, rfl, h1, h2, h3⟩; obtain ⟨t3, rfl⟩ : ∃ y : Int, y = t3 := ⟨_, rfl⟩; replace h1 : (t0.length : Int) ≤ (l.length : Int) + t3 := h1; replace h2 : t3 ≤ (a.length : Int) := h2; show (t0.length : Int) ≤ _; omega
abbrev zJr : LB := ⟨[], ⟨22, [], [(3, vo .str), (7, vd (.lst zM)), (8, vd .int), (9, vd .int)], []⟩, ⟨22, [], [], []⟩, 0, U4 fun (l3 : Li .str) (l7 : Li zM) (n8 n9 : Int) => cond (decide (n9 < n8)) (.ix n9 l7 (cond (!(zB zM l7 n9).2.2) (.ck (zFq l3 (zB zM l7 n9).2.1) (.ik (n9 + 1) (.v (.go ((yE l3 (zB zM l7 n9).2.1).1, l7, n8, (n9 + 1), ()))))) (.ik (n9 + 1) (.v (.go (l3, l7, n8, (n9 + 1), ())))))) (.v (.brk (l3, l7, n8, n9, ())))⟩
def zP1 (l7 : Li zM) (l3 : Li .str) := rF (l := zJr) (L := l7) (fun i (s : (Li .str)) => (s, l7, (l7.length : Int), i, ())) (fun i x s => bif (!x.2.2) then (yE s x.2.1).1 else s) l3
theorem zZ0 : SF zJr fun x : Li .str × Li zM × Int × Int × Unit => (0 ≤ x.2.2.2.1 ∧ x.2.2.1 = (x.2.1.length : Int) ∧ (x.1.length : Int) + zFZ x.2.1 x.2.2.2.1 ≤ 16777216, x.2.2.1 - x.2.2.2.1) := sfk (by
 rintro ⟨(l3 : Li .str), (l7 : Li zM), (n8 : Int), (n9 : Int), ⟨⟩⟩ hI hw
 dsimp only [U4] at hI ⊢
 obtain ⟨i0, i1, k0⟩ := hI
 have _ : -9223372036854775808 ≤ n8 ∧ n8 ≤ 9223372036854775807 := zAd hw.2.2.1
 have hb : (l7.length : Int) ≤ 16777216 := vC (hw.2.1.1)
 refine ⟨by omega, ?_⟩
 refine xI (fun h1 => ?_) (fun h1 => ?_)
 ·replace h1 : n9 < n8 := of_decide_eq_true h1
  refine z7 ?_ ?_
  ·first | omega | (simp <;> omega)
  ·refine xI (fun h2 => ?_) (fun h2 => ?_)
   ·refine z7 ?_ ?_
    ·have _ := zAc l7 n9 (by omega); show (l3.length : Int) + ((zB zM l7 n9).2.1.length : Int) ≤ 16777216; omega
    ·refine z7 ?_ ?_
     ·exact ink (by omega) (by omega)
     ·exact show (0 ≤ (n9 + 1) ∧ n8 = (l7.length : Int) ∧ ((yE l3 (zB zM l7 n9).2.1).1.length : Int) + zFZ l7 (n9 + 1) ≤ 16777216) ∧ n8 - (n9 + 1) < n8 - n9 ∧ 0 < n8 - n9 from ⟨⟨by (have _ := zAh l3 (zB zM l7 n9).2.1; have _ := zAc l7 n9 (by omega); first | omega | rfl | assumption | (simp <;> omega)), by (have _ := zAh l3 (zB zM l7 n9).2.1; have _ := zAc l7 n9 (by omega); first | omega | rfl | assumption | (simp <;> omega)), by (have _ := zAh l3 (zB zM l7 n9).2.1; have _ := zAc l7 n9 (by omega); first | omega | rfl | assumption | (simp <;> omega))⟩, by (first | omega | (simp only [List.length_set]; omega)), by (first | omega | (simp only [List.length_set]; omega))⟩
   ·refine z7 ?_ ?_
    ·exact ink (by omega) (by omega)
    ·exact show (0 ≤ (n9 + 1) ∧ n8 = (l7.length : Int) ∧ (l3.length : Int) + zFZ l7 (n9 + 1) ≤ 16777216) ∧ n8 - (n9 + 1) < n8 - n9 ∧ 0 < n8 - n9 from ⟨⟨by (have _ := zAc l7 n9 (by omega); first | omega | rfl | assumption | (simp <;> omega)), by (have _ := zAc l7 n9 (by omega); first | omega | rfl | assumption | (simp <;> omega)), by (have _ := zAc l7 n9 (by omega); first | omega | rfl | assumption | (simp <;> omega))⟩, by (first | omega | (simp only [List.length_set]; omega)), by (first | omega | (simp only [List.length_set]; omega))⟩
 ·replace h1 : ¬ (n9 < n8) := of_decide_eq_false h1
  exact trivial)
abbrev zF6 (a0 : El zG) : Tr (Li .str × Unit) := .lp zJr (([] : Li .str), a0.2.2.1, (a0.2.2.1.length : Int), (0 : Int), ()) (fun _ => .bad) (fun t1 => .v (t1.1, ()))
def zEK a0 := (zF6 a0).val
def zMV (a0 : El zG) : Prop := SzR a0
abbrev zVy := fq [va zG] [vo .str] (U1 zMV) (U1 zEK)
theorem zj3 : Ok zVy (U1 zF6) := by
 rintro ⟨(a0 : El zG), ⟨⟩⟩ hw hp
 replace hp : zMV a0 := hp
 show (zF6 a0).ok
 unfold zMV at hp
 unfold zF6
 refine zg ?_ ?_
 ·exact zZ0 _ ⟨by (have _ := hp.1; dsimp only <;> first | omega | rfl | assumption | (simp <;> omega)), by (have _ := hp.1; dsimp only <;> first | omega | rfl | assumption | (simp <;> omega)), by (have _ := hp.1; dsimp only <;> first | omega | rfl | assumption | (simp <;> omega))⟩
 ·refine zk7 (zP1 a0.2.2.1 ([] : Li .str)) ?_
  try dsimp only
  trivial
def zjw := cn mo [zXH] [zJr] 205 zVy Tryz.f205 (U1 zF6) zj3
def zjF (a0 : El zG) := (by
 simp only [zEK, zF6, zY, zq, ze]
 rewrite [zP1, xL]
 dsimp only : zEK a0 = _)
abbrev zDQ : LB := ⟨[], ⟨49, [.d zG], [(1, .pt 0 0), (3, vo .str), (11, vd (.lst z5)), (12, vd .int), (13, vd .int)], []⟩, ⟨49, [], [], []⟩, 0, U6 fun (w0 : El zG) _ (l3 : Li .str) (l11 : Li z5) (n12 n13 : Int) => cond (decide (n13 < n12)) (.ix n13 l11 (let k1 := zB z5 l11 n13; .ck (zFq l3 [k1.2.1, k1.2.2]) (.ik (n13 + 1) (.v (.go (w0, (), (yE l3 [k1.2.1, k1.2.2]).1, l11, n12, (n13 + 1), ())))))) (.v (.brk (w0, (), l3, l11, n12, n13, ())))⟩
def zYK (w0 : El zG) (l11 : Li z5) (l3 : Li .str) := rF (l := zDQ) (L := l11) (fun i (s : (Li .str)) => (w0, (), s, l11, (l11.length : Int), i, ())) (fun i x s => (yE s [x.2.1, x.2.2]).1) l3
theorem zX7 : PO zDQ (fun _ _ => False) (U6 fun (w00 : El zG) _ _ (l110 : Li z5) (n120 : Int) _ => U6 fun (w0 : El zG) _ (l3 : Li .str) (l11 : Li z5) (n12 n13 : Int) => w00 = w0 ∧ l110 = l11 ∧ n120 = n12 ∧ ((l3.length : Int) + 2 * ((l11.length : Int) - n13) + 2 * zDp w0.2.2.2.2 0 ≤ 16777216 ∧ n12 = (l11.length : Int) ∧ n13 ≤ n12)) := poB (by
 rintro ⟨w00, ⟨⟩, l30, l110, n120, n130, ⟨⟩⟩ ⟨(w0 : El zG), ⟨⟩, (l3 : Li .str), (l11 : Li z5), (n12 : Int), (n13 : Int), ⟨⟩⟩ hI
 dsimp only [U6] at hI ⊢
 obtain ⟨eq0, eq1, eq2, eq3⟩ := hI
 simp only [LB.b, zDQ, U6, z0, ze, zY]
 refine zDu (fun h1 => ?_) (fun h1 => ?_)
 ·replace h1 : n13 < n12 := of_decide_eq_true h1
  exact zNg (show w00 = w0 ∧ l110 = l11 ∧ n120 = n12 ∧ (((yE l3 [(zB z5 l11 n13).2.1, (zB z5 l11 n13).2.2]).1.length : Int) + 2 * ((l11.length : Int) - (n13 + 1)) + 2 * zDp w0.2.2.2.2 0 ≤ 16777216 ∧ n12 = (l11.length : Int) ∧ (n13 + 1) ≤ n12) from ⟨eq0, eq1, eq2, by have _ := zAh l3 [(zB z5 l11 n13).2.1, (zB z5 l11 n13).2.2]; simp only [List.length_cons, List.length_nil] at *; first | omega | rfl | assumption | (simp <;> omega)⟩)
 ·replace h1 : ¬ (n13 < n12) := of_decide_eq_false h1
  exact zRR (show w00 = w0 ∧ l110 = l11 ∧ n120 = n12 ∧ ((l3.length : Int) + 2 * ((l11.length : Int) - n13) + 2 * zDp w0.2.2.2.2 0 ≤ 16777216 ∧ n12 = (l11.length : Int) ∧ n13 ≤ n12) from ⟨eq0, eq1, eq2, by first | omega | rfl | assumption | (simp <;> omega)⟩))
theorem zXg : SF zDQ fun x : El zG × Unit × Li .str × Li z5 × Int × Int × Unit => (0 ≤ x.2.2.2.2.2.1 ∧ x.2.2.2.2.1 = (x.2.2.2.1.length : Int) ∧ (x.2.2.1.length : Int) + 2 * ((x.2.2.2.1.length : Int) - x.2.2.2.2.2.1) + 2 * zDp x.1.2.2.2.2 0 ≤ 16777216, x.2.2.2.2.1 - x.2.2.2.2.2.1) := sfk (by
 rintro ⟨(w0 : El zG), ⟨⟩, (l3 : Li .str), (l11 : Li z5), (n12 : Int), (n13 : Int), ⟨⟩⟩ hI hw
 dsimp only [U6] at hI ⊢
 obtain ⟨i0, i1, k0⟩ := hI
 have _ : -9223372036854775808 ≤ n12 ∧ n12 ≤ 9223372036854775807 := zAd hw.2.2.2.2.1
 have hb : (l11.length : Int) ≤ 16777216 := vC (hw.2.2.2.1.1)
 refine ⟨by omega, ?_⟩
 refine xI (fun h2 => ?_) (fun h2 => ?_)
 ·replace h2 : n13 < n12 := of_decide_eq_true h2
  refine z7 ?_ ?_
  ·first | omega | (simp <;> omega)
  ·refine z7 ?_ ?_
   ·have _ := zfK w0.2.2.2.2 0; show (l3.length : Int) + ([(zB z5 l11 n13).2.1, (zB z5 l11 n13).2.2].length : Int) ≤ 16777216; simp only [List.length_cons, List.length_nil]; omega
   ·refine z7 ?_ ?_
    ·exact ink (by omega) (by omega)
    ·exact show (0 ≤ (n13 + 1) ∧ n12 = (l11.length : Int) ∧ ((yE l3 [(zB z5 l11 n13).2.1, (zB z5 l11 n13).2.2]).1.length : Int) + 2 * ((l11.length : Int) - (n13 + 1)) + 2 * zDp w0.2.2.2.2 0 ≤ 16777216) ∧ n12 - (n13 + 1) < n12 - n13 ∧ 0 < n12 - n13 from ⟨⟨by (have _ := zAh l3 [(zB z5 l11 n13).2.1, (zB z5 l11 n13).2.2]; simp only [List.length_cons, List.length_nil] at *; first | omega | rfl | assumption | (simp <;> omega)), by (have _ := zAh l3 [(zB z5 l11 n13).2.1, (zB z5 l11 n13).2.2]; simp only [List.length_cons, List.length_nil] at *; first | omega | rfl | assumption | (simp <;> omega)), by (have _ := zAh l3 [(zB z5 l11 n13).2.1, (zB z5 l11 n13).2.2]; simp only [List.length_cons, List.length_nil] at *; first | omega | rfl | assumption | (simp <;> omega))⟩, by (first | omega | (simp only [List.length_set]; omega)), by (first | omega | (simp only [List.length_set]; omega))⟩
 ·replace h2 : ¬ (n13 < n12) := of_decide_eq_false h2
  exact trivial)
abbrev zBp : LB := ⟨[], ⟨49, [], [(3, vo .str), (26, vd (.lst zp)), (27, vd .int), (28, vd .int), (33, vd (.lst zo)), (34, vd .int), (35, vd .int)], []⟩, ⟨49, [], [], []⟩, 4, U7 fun (l3 : Li .str) (l26 : Li zp) (n27 n28 : Int) (l33 : Li zo) (n34 n35 : Int) => cond (decide (n35 < n34)) (.ix n35 l33 (let k1 := zB zo l33 n35; .ck (zFq l3 [k1.2.1, k1.2.2]) (.ik (n35 + 1) (.v (.go ((yE l3 [k1.2.1, k1.2.2]).1, l26, n27, n28, l33, n34, (n35 + 1), ())))))) (.v (.brk (l3, l26, n27, n28, l33, n34, n35, ())))⟩
def zW2 (l26 : Li zp) (n27 n28 : Int) (l33 : Li zo) (l3 : Li .str) := rF (l := zBp) (L := l33) (fun i (s : (Li .str)) => (s, l26, n27, n28, l33, (l33.length : Int), i, ())) (fun i x s => (yE s [x.2.1, x.2.2]).1) l3
theorem zXO : PO zBp (fun _ _ => False) (U7 fun _ (l260 : Li zp) (n270 n280 : Int) (l330 : Li zo) (n340 : Int) _ => U7 fun (l3 : Li .str) (l26 : Li zp) (n27 n28 : Int) (l33 : Li zo) (n34 n35 : Int) => l260 = l26 ∧ n270 = n27 ∧ n280 = n28 ∧ l330 = l33 ∧ n340 = n34 ∧ ((l3.length : Int) + 2 * ((l33.length : Int) - n35) + 2 * zDp l26 (n28 + 1) ≤ 16777216 ∧ n34 = (l33.length : Int) ∧ n35 ≤ n34)) := poB (by
 rintro ⟨l30, l260, n270, n280, l330, n340, n350, ⟨⟩⟩ ⟨(l3 : Li .str), (l26 : Li zp), (n27 : Int), (n28 : Int), (l33 : Li zo), (n34 : Int), (n35 : Int), ⟨⟩⟩ hI
 dsimp only [U7] at hI ⊢
 obtain ⟨eq0, eq1, eq2, eq3, eq4, eq5⟩ := hI
 simp only [LB.b, zBp, U7, z0, ze, zY]
 refine zDu (fun h3 => ?_) (fun h3 => ?_)
 ·replace h3 : n35 < n34 := of_decide_eq_true h3
  exact zNg (show l260 = l26 ∧ n270 = n27 ∧ n280 = n28 ∧ l330 = l33 ∧ n340 = n34 ∧ (((yE l3 [(zB zo l33 n35).2.1, (zB zo l33 n35).2.2]).1.length : Int) + 2 * ((l33.length : Int) - (n35 + 1)) + 2 * zDp l26 (n28 + 1) ≤ 16777216 ∧ n34 = (l33.length : Int) ∧ (n35 + 1) ≤ n34) from ⟨eq0, eq1, eq2, eq3, eq4, by have _ := zAh l3 [(zB zo l33 n35).2.1, (zB zo l33 n35).2.2]; simp only [List.length_cons, List.length_nil] at *; first | omega | rfl | assumption | (simp <;> omega)⟩)
 ·replace h3 : ¬ (n35 < n34) := of_decide_eq_false h3
  exact zRR (show l260 = l26 ∧ n270 = n27 ∧ n280 = n28 ∧ l330 = l33 ∧ n340 = n34 ∧ ((l3.length : Int) + 2 * ((l33.length : Int) - n35) + 2 * zDp l26 (n28 + 1) ≤ 16777216 ∧ n34 = (l33.length : Int) ∧ n35 ≤ n34) from ⟨eq0, eq1, eq2, eq3, eq4, by first | omega | rfl | assumption | (simp <;> omega)⟩))
theorem zYO : PO zBp (fun _ _ => False) (U7 fun _ (l260 : Li zp) (n270 n280 : Int) (l330 : Li zo) (n340 : Int) _ => U7 fun _ (l26 : Li zp) (n27 n28 : Int) (l33 : Li zo) (n34 : Int) _ => l260 = l26 ∧ n270 = n27 ∧ n280 = n28 ∧ l330 = l33 ∧ n340 = n34) := poA
theorem zWA : SF zBp fun x : Li .str × Li zp × Int × Int × Li zo × Int × Int × Unit => (0 ≤ x.2.2.2.2.2.2.1 ∧ x.2.2.2.2.2.1 = (x.2.2.2.2.1.length : Int) ∧ (x.1.length : Int) + 2 * ((x.2.2.2.2.1.length : Int) - x.2.2.2.2.2.2.1) + 2 * zDp x.2.1 (x.2.2.2.1 + 1) ≤ 16777216, x.2.2.2.2.2.1 - x.2.2.2.2.2.2.1) := sfk (by
 rintro ⟨(l3 : Li .str), (l26 : Li zp), (n27 : Int), (n28 : Int), (l33 : Li zo), (n34 : Int), (n35 : Int), ⟨⟩⟩ hI hw
 dsimp only [U7] at hI ⊢
 obtain ⟨i0, i1, k0⟩ := hI
 have _ : -9223372036854775808 ≤ n27 ∧ n27 ≤ 9223372036854775807 := zAd hw.2.2.1
 have _ : -9223372036854775808 ≤ n28 ∧ n28 ≤ 9223372036854775807 := zAd hw.2.2.2.1
 have _ : -9223372036854775808 ≤ n34 ∧ n34 ≤ 9223372036854775807 := zAd hw.2.2.2.2.2.1
 have hb : (l33.length : Int) ≤ 16777216 := vC (hw.2.2.2.2.1.1)
 refine ⟨by omega, ?_⟩
 refine xI (fun h4 => ?_) (fun h4 => ?_)
 ·replace h4 : n35 < n34 := of_decide_eq_true h4
  refine z7 ?_ ?_
  ·first | omega | (simp <;> omega)
  ·refine z7 ?_ ?_
   ·have _ := zfK l26 (n28 + 1); show (l3.length : Int) + ([(zB zo l33 n35).2.1, (zB zo l33 n35).2.2].length : Int) ≤ 16777216; simp only [List.length_cons, List.length_nil]; omega
   ·refine z7 ?_ ?_
    ·exact ink (by omega) (by omega)
    ·exact show (0 ≤ (n35 + 1) ∧ n34 = (l33.length : Int) ∧ ((yE l3 [(zB zo l33 n35).2.1, (zB zo l33 n35).2.2]).1.length : Int) + 2 * ((l33.length : Int) - (n35 + 1)) + 2 * zDp l26 (n28 + 1) ≤ 16777216) ∧ n34 - (n35 + 1) < n34 - n35 ∧ 0 < n34 - n35 from ⟨⟨by (have _ := zAh l3 [(zB zo l33 n35).2.1, (zB zo l33 n35).2.2]; simp only [List.length_cons, List.length_nil] at *; first | omega | rfl | assumption | (simp <;> omega)), by (have _ := zAh l3 [(zB zo l33 n35).2.1, (zB zo l33 n35).2.2]; simp only [List.length_cons, List.length_nil] at *; first | omega | rfl | assumption | (simp <;> omega)), by (have _ := zAh l3 [(zB zo l33 n35).2.1, (zB zo l33 n35).2.2]; simp only [List.length_cons, List.length_nil] at *; first | omega | rfl | assumption | (simp <;> omega))⟩, by (first | omega | (simp only [List.length_set]; omega)), by (first | omega | (simp only [List.length_set]; omega))⟩
 ·replace h4 : ¬ (n35 < n34) := of_decide_eq_false h4
  exact trivial)
abbrev vk : LB := ⟨[], ⟨49, [], [(3, vo .str), (26, vd (.lst zp)), (27, vd .int), (28, vd .int)], []⟩, ⟨49, [], [], []⟩, 2, U4 fun (l3 : Li .str) (l26 : Li zp) (n27 n28 : Int) => cond (decide (n28 < n27)) (.ix n28 l26 (.lp zBp (l3, l26, n27, n28, (zB zp l26 n28).2.2.1, ((zB zp l26 n28).2.2.1.length : Int), (0 : Int), ()) (fun _ => .v (.ret ())) (fun t1 => .ik (t1.2.2.2.1 + (1 : Int)) (.v (.go (t1.1, t1.2.1, t1.2.2.1, (t1.2.2.2.1 + (1 : Int)), ())))))) (.v (.brk (l3, l26, n27, n28, ())))⟩
theorem zWs : PO vk (fun _ _ => False) (U4 fun _ (l260 : Li zp) (n270 : Int) _ => U4 fun _ (l26 : Li zp) (n27 : Int) _ => l260 = l26 ∧ n270 = n27) := poB (by
 rintro ⟨l30, l260, n270, n280, ⟨⟩⟩ ⟨(l3 : Li .str), (l26 : Li zp), (n27 : Int), (n28 : Int), ⟨⟩⟩ hI
 dsimp only [U4] at hI ⊢
 obtain ⟨eq0, eq1⟩ := hI
 simp only [LB.b, vk, U4, z0, ze, zY, zq]
 refine zDu (fun h5 => ?_) (fun h5 => ?_)
 ·replace h5 : n28 < n27 := of_decide_eq_true h5
  refine zVq (zYO _ ⟨rfl, rfl, rfl, rfl, rfl⟩) (fun _ h => h.elim) (fun t ht => ?_)
  obtain ⟨t4l3, t4l26, (t4n27 : Int), (t4n28 : Int), t4l33, (t4n34 : Int), (t4n35 : Int), ⟨⟩⟩ := t
  dsimp only [U7] at ht ⊢
  obtain ⟨rfl, rfl, rfl, rfl, rfl⟩ := ht
  exact ⟨eq0, eq1⟩
 ·replace h5 : ¬ (n28 < n27) := of_decide_eq_false h5
  exact ⟨eq0, eq1⟩)
theorem zWl : SF vk fun x : Li .str × Li zp × Int × Int × Unit => (0 ≤ x.2.2.2.1 ∧ x.2.2.1 = (x.2.1.length : Int) ∧ (x.1.length : Int) + 2 * zDp x.2.1 x.2.2.2.1 ≤ 16777216, x.2.2.1 - x.2.2.2.1) := sfk (by
 rintro ⟨(l3 : Li .str), (l26 : Li zp), (n27 : Int), (n28 : Int), ⟨⟩⟩ hI hw
 dsimp only [U4] at hI ⊢
 obtain ⟨i0, i1, k0⟩ := hI
 have _ : -9223372036854775808 ≤ n27 ∧ n27 ≤ 9223372036854775807 := zAd hw.2.2.1
 have hb : (l26.length : Int) ≤ 16777216 := vC (hw.2.1.1)
 refine ⟨by omega, ?_⟩
 refine xI (fun h6 => ?_) (fun h6 => ?_)
 ·replace h6 : n28 < n27 := of_decide_eq_true h6
  refine z7 ?_ ?_
  ·first | omega | (simp <;> omega)
  ·refine z7 ?_ ?_
   ·exact zWA _ ⟨by (have _ := zMG l26 n28 (by omega); dsimp only <;> first | omega | rfl | assumption | (simp <;> omega)), by (have _ := zMG l26 n28 (by omega); dsimp only <;> first | omega | rfl | assumption | (simp <;> omega)), by (have _ := zMG l26 n28 (by omega); dsimp only <;> first | omega | rfl | assumption | (simp <;> omega))⟩
   ·refine zQi (zXO _ ⟨rfl, rfl, rfl, rfl, rfl, by (have _ := zMG l26 n28 (by omega); dsimp only; first | omega | rfl | assumption | (simp <;> omega) | (refine ⟨?_, ?_, ?_⟩ <;> first | omega | rfl | (simp <;> omega)) | (refine ⟨?_, ?_⟩ <;> first | omega | rfl | (simp <;> omega)))⟩) (fun _ h => h.elim) (fun t ht => ?_)
    obtain ⟨t4l3, t4l26, (t4n27 : Int), (t4n28 : Int), t4l33, (t4n34 : Int), (t4n35 : Int), ⟨⟩⟩ := t
    dsimp only [U7] at ht ⊢
    obtain ⟨rfl, rfl, rfl, rfl, rfl, hth7⟩ := ht
    refine z7 ?_ ?_
    ·exact ink (by omega) (by omega)
    ·exact show (0 ≤ (n28 + 1) ∧ n27 = (l26.length : Int) ∧ (t4l3.length : Int) + 2 * zDp l26 (n28 + 1) ≤ 16777216) ∧ n27 - (n28 + 1) < n27 - n28 ∧ 0 < n27 - n28 from ⟨⟨by (first | omega | rfl | assumption | (simp <;> omega)), by (first | omega | rfl | assumption | (simp <;> omega)), by (first | omega | rfl | assumption | (simp <;> omega))⟩, by (first | omega | (simp only [List.length_set]; omega)), by (first | omega | (simp only [List.length_set]; omega))⟩
 ·replace h6 : ¬ (n28 < n27) := of_decide_eq_false h6
  exact trivial)
abbrev zEd (a0 : El zG) : Tr (Li .str × Unit) := .lp zDQ (a0, (), ([] : Li .str), a0.2.2.2.1, (a0.2.2.2.1.length : Int), (0 : Int), ()) (fun _ => .bad) (fun t1 => .lp vk (t1.2.2.1, t1.1.2.2.2.2, (t1.1.2.2.2.2.length : Int), (0 : Int), ()) (fun _ => .bad) (fun t2 => .v (t2.1, ())))
def zA3 a0 := (zEd a0).val
def zJe (a0 : El zG) : Prop := SzR a0
abbrev zUW := fq [va zG] [vo .str] (U1 zJe) (U1 zA3)
theorem zgT : Ok zUW (U1 zEd) := by
 rintro ⟨(a0 : El zG), ⟨⟩⟩ hw hp
 replace hp : zJe a0 := hp
 show (zEd a0).ok
 unfold zJe at hp
 unfold zEd
 refine zg ?_ ?_
 ·exact zXg _ ⟨by (have _ := hp.2; dsimp only <;> first | omega | rfl | assumption | (simp <;> omega)), by (have _ := hp.2; dsimp only <;> first | omega | rfl | assumption | (simp <;> omega)), by (have _ := hp.2; dsimp only <;> first | omega | rfl | assumption | (simp <;> omega))⟩
 ·refine zJ1 (zX7 _ ⟨rfl, rfl, rfl, by (have _ := hp.2; dsimp only; first | omega | rfl | assumption | (simp <;> omega) | (refine ⟨?_, ?_, ?_⟩ <;> first | omega | rfl | (simp <;> omega)) | (refine ⟨?_, ?_⟩ <;> first | omega | rfl | (simp <;> omega)))⟩) (fun _ h => h.elim) (fun t ht => ?_)
  obtain ⟨t2w0, ⟨⟩, t2l3, t2l11, (t2n12 : Int), (t2n13 : Int), ⟨⟩⟩ := t
  dsimp only [U6] at ht ⊢
  obtain ⟨rfl, rfl, rfl, hth8⟩ := ht
  refine zg ?_ ?_
  ·exact zWl _ ⟨by (dsimp only <;> first | omega | rfl | assumption | (simp <;> omega)), by (dsimp only <;> first | omega | rfl | assumption | (simp <;> omega)), by (dsimp only <;> first | omega | rfl | assumption | (simp <;> omega))⟩
  ·refine zJ1 (zWs _ ⟨rfl, rfl⟩) (fun _ h => h.elim) (fun t ht => ?_)
   obtain ⟨t5l3, t5l26, (t5n27 : Int), (t5n28 : Int), ⟨⟩⟩ := t
   dsimp only [U4] at ht ⊢
   obtain ⟨rfl, rfl⟩ := ht
   trivial
def zgi := cn mo [zXH] [zDQ, vk, zBp] 206 zUW Tryz.f206 (U1 zEd) zgT
abbrev zO1 : LB := ⟨[], ⟨26, [], [(16, vd (.lst yb)), (17, vd .int), (18, vd .int)], []⟩, ⟨26, [], [(2, vd .bool)], []⟩, 0, U3 fun (l16 : Li yb) (n17 n18 : Int) => cond (decide (n18 < n17)) (.ix n18 l16 (cond (!(zKn (zB yb l16 n18)).1) (.v (.ret (false, ()))) (.ik (n18 + 1) (.v (.go (l16, n17, (n18 + 1), ())))))) (.v (.brk (l16, n17, n18, ())))⟩
def zgC (l16 : Li yb) := rA (l := zO1) (L := l16) (fun i => (l16, (l16.length : Int), i, ())) (fun i x => bif (!(zKn x).1) then false else true) (false, ())
theorem zfA : SF zO1 (U3 fun (l16 : Li yb) (n17 n18 : Int) => (0 ≤ n18 ∧ n17 = (l16.length : Int), n17 - n18)) := sfA
abbrev zN2 (a0 : El zM) : Tr (Bool × Unit) := cond (!(zDY a0.1).1) (.v (false, ())) (let k1 := (a0.2.1.length : Int); cond (decide (k1 > (5 : Int))) (.v (false, ())) (.lp zO1 (a0.2.1, k1, (0 : Int), ()) (fun r3 => .v (r3.1, ())) (fun _ => .v (true, ()))))
def zGx a0 := (zN2 a0).val
abbrev zgb := fd [va zM] [vd .bool] (U1 zGx)
theorem zqh : Ok zgb (U1 zN2) := vN zfA
def zpv := cn mo [zH1, zf0] [zO1] 290 zgb Tryz.f290 (U1 zN2) zqh
def zow (a0 : El zM) := (by
 simp only [zGx, zN2, zY, z0, zq, ze]
 rewrite [zgC, z3]
 dsimp only : zGx a0 = _)
theorem zo6 {p : El zM} (h : (zGx p).1 = true) : p.2.1.length ≤ 5 := by
 simp only [zGx, zN2, z0, ze, zY, zq, v7, zB1] at h
 have := of_decide_eq_false h.2.1
 omega
abbrev zMd : LB := ⟨[], ⟨37, [.d zG], [(1, .pt 0 0), (17, vd (.lst zM)), (18, vd .int), (19, vd .int)], []⟩, ⟨37, [], [(2, vd .bool)], []⟩, 0, U5 fun (w0 : El zG) _ (l17 : Li zM) (n18 n19 : Int) => cond (decide (n19 < n18)) (.ix n19 l17 (cond (!(zGx (zB zM l17 n19)).1) (.v (.ret (false, ()))) (cond (!((zB zM l17 n19).2.2 == decide (n19 ≥ (yF w0).1))) (.v (.ret (false, ()))) (.ik (n19 + 1) (.v (.go (w0, (), l17, n18, (n19 + 1), ()))))))) (.v (.brk (w0, (), l17, n18, n19, ())))⟩
def zdF (w0 : El zG) (l17 : Li zM) := rA (l := zMd) (L := l17) (fun i => (w0, (), l17, (l17.length : Int), i, ())) (fun i x => bif (!(zGx x).1) then false else (bif (!(x.2.2 == decide ((i : Int) ≥ (yF w0).1))) then false else true)) (false, ())
theorem zdv : SF zMd (U5 fun _ _ (l17 : Li zM) (n18 n19 : Int) => (0 ≤ n19 ∧ n18 = (l17.length : Int), n18 - n19)) := sfA
abbrev zOy (a0 : El zG) : Tr (Bool × Unit) := let k1 := (a0.2.2.1.length : Int); cond (!(z9 k1 1 6).1) (.v (false, ())) (cond (!(z9 (yF a0).1 (1 : Int) (3 : Int)).1) (.v (false, ())) (.lp zMd (a0, (), a0.2.2.1, k1, (0 : Int), ()) (fun r5 => .v (r5.1, ())) (fun _ => .v (true, ()))))
def zH4 a0 := (zOy a0).val
abbrev zbf := fd [va zG] [vd .bool] (U1 zH4)
theorem zlj : Ok zbf (U1 zOy) := vN zdv
def zoV := cn mo [zAB, zpv, zJw] [zMd] 202 zbf Tryz.f202 (U1 zOy) zlj
def zcX (a0 : El zG) := (by
 simp only [zH4, zOy, zY, z0, zq, ze]
 rewrite [zdF, z3]
 dsimp only : zH4 a0 = _)
theorem znY {r : El zG} (h : (zH4 r).1 = true) : (∀ p ∈ r.2.2.1, p.2.1.length ≤ 5) ∧ (yZ r false).1.length ≤ 3 := by
 rw [zcX] at h
 simp only [v7, zB1, zJy] at h
 obtain ⟨h1, h2, h3, _⟩ := h
 rw [zR] at h3
 constructor
 ·intro p hp
  obtain ⟨i, hi⟩ := List.mem_iff_getElem?.1 hp
  have := h3 i p hi
  simp only [zB1] at this
  exact zo6 (zAT this.1)
 ·have := zC6 (zAT h2)
  rw [zZp] at this
  rw [zRW]
  have e : (fun (p : El zM) => p.2.2 == false) = fun p => !p.2.2 := by funext p; cases p.2.2 <;> rfl
  rw [e]; omega
abbrev zMl : LB := ⟨[], ⟨84, [.d zG], [(1, .pt 0 0), (37, vd (.lst z5)), (38, vd .int), (39, vd .int)], []⟩, ⟨84, [], [(2, vd .bool)], []⟩, 0, U5 fun (w0 : El zG) _ (l37 : Li z5) (n38 n39 : Int) => cond (decide (n39 < n38)) (.ix n39 l37 (cond (!(zHw (zB z5 l37 n39)).1) (.v (.ret (false, ()))) (.ik (n39 + 1) (.v (.go (w0, (), l37, n38, (n39 + 1), ())))))) (.v (.brk (w0, (), l37, n38, n39, ())))⟩
def zRs (w0 : El zG) (l37 : Li z5) := rA (l := zMl) (L := l37) (fun i => (w0, (), l37, (l37.length : Int), i, ())) (fun i x => bif (!(zHw x).1) then false else true) (false, ())
theorem zcx : SF zMl (U5 fun _ _ (l37 : Li z5) (n38 n39 : Int) => (0 ≤ n39 ∧ n38 = (l37.length : Int), n38 - n39)) := sfA
abbrev zLb : LB := ⟨[], ⟨84, [.d zG], [(1, .pt 0 0), (48, vd (.lst zp)), (49, vd .int), (50, vd .int)], []⟩, ⟨84, [], [(2, vd .bool)], []⟩, 2, U5 fun (w0 : El zG) _ (l48 : Li zp) (n49 n50 : Int) => cond (decide (n50 < n49)) (.ix n50 l48 (cond (!(zC5 (zB zp l48 n50)).1) (.v (.ret (false, ()))) (let k1 : Tr (St _ _) := .ik (n50 + 1) (.v (.go (w0, (), l48, n49, (n50 + 1), ()))); cond ((zB zp l48 n50).1 == (2 : Int)) (cond (decide ((zB zp l48 n50).2.2.2.1 ≥ (yF w0).1)) (.v (.ret (false, ()))) k1) k1))) (.v (.brk (w0, (), l48, n49, n50, ())))⟩
def zSp (w0 : El zG) (l48 : Li zp) := rA (l := zLb) (L := l48) (fun i => (w0, (), l48, (l48.length : Int), i, ())) (fun i x => bif (!(zC5 x).1) then false else (bif (x.1 == (2 : Int)) then (bif (decide (x.2.2.2.1 ≥ (yF w0).1)) then false else true) else true)) (false, ())
theorem zcu : SF zLb (U5 fun _ _ (l48 : Li zp) (n49 n50 : Int) => (0 ≤ n50 ∧ n49 = (l48.length : Int), n49 - n50)) := sfA
abbrev zLN : LB := ⟨[], ⟨84, [], [(7, vo .str), (73, vo .str), (74, vd .int), (75, vd .int)], []⟩, ⟨84, [], [(2, vd .bool)], []⟩, 4, U4 fun (l7 l73 : Li .str) (n74 n75 : Int) => cond (decide (n75 < n74)) (.ix n75 l73 (cond (!(zr l7 (zB .str l73 n75)).1) (.v (.ret (false, ()))) (.ik (n75 + 1) (.v (.go (l7, l73, n74, (n75 + 1), ())))))) (.v (.brk (l7, l73, n74, n75, ())))⟩
def zcz (l7 l73 : Li .str) := rA (l := zLN) (L := l73) (fun i => (l7, l73, (l73.length : Int), i, ())) (fun i x => bif (!(zr l7 x).1) then false else true) (false, ())
theorem zev : SF zLN (U4 fun _ (l73 : Li .str) (n74 n75 : Int) => (0 ≤ n75 ∧ n74 = (l73.length : Int), n74 - n75)) := sfA
abbrev zFx (a0 : El zG) : Tr (Bool × Unit) := cond (!(zDY a0.1).1) (.v (false, ())) (cond (!(z9 a0.2.1 (-100 : Int) (100 : Int)).1) (.v (false, ())) (cond (!(zH4 a0).1) (.v (false, ())) (let k1 := (a0.2.2.2.1.length : Int); cond (decide (k1 > (6 : Int))) (.v (false, ())) (cond (!(z9 (a0.2.2.2.2.length : Int) (1 : Int) (6 : Int)).1) (.v (false, ())) (.lp zMl (a0, (), a0.2.2.2.1, k1, (0 : Int), ()) (fun r30 => .v (r30.1, ())) (fun t1 => .lp zLb (t1.1, (), t1.1.2.2.2.2, (t1.1.2.2.2.2.length : Int), (0 : Int), ()) (fun r31 => .v (r31.1, ())) (fun t2 => .ck (zMV t2.1) (.ck (zJe t2.1) (.lp zLN ((zEK t2.1).1, (zA3 t2.1).1, ((zA3 t2.1).1.length : Int), (0 : Int), ()) (fun r32 => .v (r32.1, ())) (fun _ => .v (true, ())))))))))))
def zCY a0 := (zFx a0).val
def zOX (a0 : El zG) : Prop := SzR a0
abbrev zcD := fq [va zG] [vd .bool] (U1 zOX) (U1 zCY)
theorem zmV : Ok zcD (U1 zFx) := by
 rintro ⟨(a0 : El zG), ⟨⟩⟩ hw hp
 replace hp : zOX a0 := hp
 show (zFx a0).ok
 unfold zOX at hp
 unfold zFx
 refine yK (fun _ => trivial) (fun h1 => ?_)
 refine yK (fun _ => trivial) (fun h2 => ?_)
 replace h2 := zAT h2
 replace h2 := zC6 h2
 refine yK (fun _ => trivial) (fun h3 => ?_)
 refine yK (fun _ => trivial) (fun h4 => ?_)
 replace h4 : ¬ ((a0.2.2.2.1.length : Int) > 6) := of_decide_eq_false h4
 refine yK (fun _ => trivial) (fun h5 => ?_)
 replace h5 := zAT h5
 replace h5 := zC6 h5
 refine zg ?_ ?_
 ·exact zcx _ ⟨by (dsimp only <;> omega), by (dsimp only <;> omega)⟩
 ·refine zoa (zRs a0 a0.2.2.2.1) ?_ trivial
  try dsimp only
  refine zg ?_ ?_
  ·exact zcu _ ⟨by (dsimp only <;> omega), by (dsimp only <;> omega)⟩
  ·refine zoa (zSp a0 a0.2.2.2.2) ?_ trivial
   try dsimp only
   refine zg ?_ ?_
   ·exact hp
   ·refine zg ?_ ?_
    ·exact hp
    ·refine zg ?_ ?_
     ·exact zev _ ⟨by (dsimp only <;> omega), by (dsimp only <;> omega)⟩
     ·simp
def znO := cn mo [zH1, zmg, zpi, zJw, zjw, zgi, zBE, zAB, zoV] [zMl, zLb, zLN] 107 zcD Tryz.f107 (U1 zFx) zmV
def zar (a0 : El zG) := (by
 simp only [zCY, zFx, zY, z0, zq, ze]
 rewrite [zRs, z3, zSp, z3, zcz, z3]
 dsimp only : zCY a0 = _)
theorem zml {r : El zG} (h : (zCY r).1 = true) : (∀ p ∈ r.2.2.1, p.2.1.length ≤ 5) ∧ (yZ r false).1.length ≤ 3 := by
 simp only [zCY, zFx, z0, ze, zY, zq, v7, zB1] at h
 exact znY (zAT h.2.2.1)
theorem zoD {r : El zG} (h : (zCY r).1 = true) : ∀ x ∈ r.2.2.2.2, x.1 = (2 : Int) → @LE.le Int _ 0 x.2.2.2.1 ∧ @LT.lt Int _ x.2.2.2.1 (yF r).1 := by
 intro x hx g
 rw [zar] at h
 simp only [v7, zB1] at h
 have e := h.2.2.2.2.2
 have e' : xU (fun _ x => bif (!(zC5 x).1) then false else (bif (x.1 == (2 : Int)) then (bif (decide (x.2.2.2.1 ≥ (yF r).1)) then false else true) else true)) 0 r.2.2.2.2 = true := by
  revert e
  cases xU (fun i x => bif !(zHw x).1 then false else true) 0 r.2.2.2.1 with
  | false => intro e; cases e
  | true =>
   rw [cond_true]
   intro e
   cases k : xU (fun _ x => bif (!(zC5 x).1) then false else (bif (x.1 == (2 : Int)) then (bif (decide (x.2.2.2.1 ≥ (yF r).1)) then false else true) else true)) 0 r.2.2.2.2 with
   | true => rfl
   | false => rw [k] at e; cases e
 obtain ⟨i, hi⟩ := List.getElem?_of_mem hx
 have := zR.1 e' i x hi
 have e2 : (x.1 == (2 : Int)) = true := by rw [g]; rfl
 rw [e2, cond_true] at this
 cases k1 : (zC5 x).1 with
 | false => rw [k1] at this; cases this
 | true =>
  refine ⟨zpW k1 g, ?_⟩
  rw [k1] at this
  have k2 : decide (x.2.2.2.1 ≥ (yF r).1) = false := by
   cases k : decide (x.2.2.2.1 ≥ (yF r).1) with
   | false => rfl
   | true => rw [k] at this; cases this
  have := of_decide_eq_false k2
  exact Int.not_le.1 this
def zOG (a0 : El zG) (a1 : ByteArray) : Bool × Unit := ((a0.1.toList == a1.toList), ())
abbrev zft := fd [va zG, .bx .str 0] [vd .bool] (U2 zOG)
def zgY := cv mo [] 209 zft Tryz.f209
abbrev yj : LB := ⟨[], ⟨19, [], [(0, vd (.lst zG)), (1, .fn 209 [.str]), (7, vd .int), (8, vd .int)], []⟩, ⟨19, [], [(4, vd .int)], []⟩, 0, U4 fun (l0 : Li zG) (f1 : TyL [.str]) (n7 n8 : Int) => cond (decide (n8 < n7)) (.ix n8 l0 (cond (zOG (zB zG l0 n8) f1.1).1 (.v (.ret (n8, ()))) (.ik (n8 + 1) (.v (.go (l0, (f1.1, ()), n7, (n8 + 1), ())))))) (.v (.brk (l0, (f1.1, ()), n7, n8, ())))⟩
def zB4 (l0 : Li zG) (f1 : TyL [.str]) := rS (l := yj) (L := l0) (fun i => (l0, f1, (l0.length : Int), i, ())) (fun i x => bif (zOG x f1.1).1 then (some ((i : Int), ())) else none)
theorem zB5 : SF yj (U4 fun (l0 : Li zG) _ (n7 n8 : Int) => (0 ≤ n8 ∧ n7 = (l0.length : Int), n7 - n8)) := sfA
abbrev yx (a0 : Li zG) (a1 : TyL [.str]) : Tr (Int × Unit) := .lp yj (a0, (a1.1, ()), (a0.length : Int), (0 : Int), ()) (fun r2 => .v (r2.1, ())) (fun _ => .v ((-1 : Int), ()))
def yu a0 a1 := (yx a0 a1).val
abbrev vr := fd [vd (.lst zG), .fn 209 [.str]] [vd .int] (U2 yu)
theorem zCz : Ok vr (U2 yx) := vN zB5
def zC9 := cn mo [zgY] [yj] 208 vr Tryz.f208 (U2 yx) zCz
def zCm (a0 : Li zG) (a1 : TyL [.str]) := (by
 simp only [yu, yx, zY, zq, ze]
 rewrite [zB4, xH]
 dsimp only : yu a0 a1 = _)
def zKY (a0 : El zN) (a1 : ByteArray) : Int × Unit := ((yu a0.2 (a1, ())).1, ())
abbrev zl5 := fd [va zN, vd .str] [vd .int] (U2 zKY)
def znm := cv mo [zC9] 108 zl5 Tryz.f108
abbrev zKJ : LB := ⟨[], ⟨36, [.d zN], [(1, .pt 0 0), (17, vd (.lst zG)), (18, vd .int), (19, vd .int)], []⟩, ⟨36, [], [(2, vd .bool)], []⟩, 0, U5 fun (w0 : El zN) _ (l17 : Li zG) (n18 n19 : Int) => cond (decide (n19 < n18)) (.ix n19 l17 (let k1 := zB zG l17 n19; .ck (zOX k1) (cond (!(zCY k1).1) (.v (.ret (false, ()))) (cond ((zKY w0 k1.1).1 != n19) (.v (.ret (false, ()))) (.ik (n19 + 1) (.v (.go (w0, (), l17, n18, (n19 + 1), ())))))))) (.v (.brk (w0, (), l17, n18, n19, ())))⟩
def zfX (w0 : El zN) (l17 : Li zG) := rA (l := zKJ) (L := l17) (fun i => (w0, (), l17, (l17.length : Int), i, ())) (fun i x => bif (!(zCY x).1) then false else (bif ((zKY w0 x.1).1 != (i : Int)) then false else true)) (false, ())
theorem zgF : SF zKJ fun x : El zN × Unit × Li zG × Int × Int × Unit => (0 ≤ x.2.2.2.2.1 ∧ x.2.2.2.1 = (x.2.2.1.length : Int) ∧ (∀ r ∈ x.2.2.1, SzR r), x.2.2.2.1 - x.2.2.2.2.1) := sfk (by
 rintro ⟨(w0 : El zN), ⟨⟩, (l17 : Li zG), (n18 : Int), (n19 : Int), ⟨⟩⟩ hI hw
 obtain ⟨i0, i1, k0⟩ := hI
 dsimp only at i0 i1 k0
 have _ : -9223372036854775808 ≤ n18 ∧ n18 ≤ 9223372036854775807 := zAd hw.2.2.2.1
 have _ : (l17.length : Int) ≤ 16777216 := vC (hw.2.2.1.1)
 simp [zKJ, U5, -Prod.forall]
 repeat' first | exact k0 _ (zV (by omega)) | assumption | intro _ | apply And.intro
 all_goals omega)
abbrev zKx (a0 : El zN) : Tr (Bool × Unit) := cond (!(zDY a0.1).1) (.v (false, ())) (let k1 := (a0.2.length : Int); cond (!(z9 k1 1 12).1) (.v (false, ())) (.lp zKJ (a0, (), a0.2, k1, (0 : Int), ()) (fun r5 => .v (r5.1, ())) (fun _ => .v (true, ()))))
def zCr a0 := (zKx a0).val
def zRN (a0 : El zN) : Prop := ∀ r ∈ a0.2, SzR r
abbrev zga := fq [va zN] [vd .bool] (U1 zRN) (U1 zCr)
theorem zqk : Ok zga (U1 zKx) := by
 rintro ⟨(a0 : El zN), ⟨⟩⟩ hw hp
 replace hp : zRN a0 := hp
 show (zKx a0).ok
 unfold zRN at hp
 unfold zKx
 refine yK (fun _ => trivial) (fun h1 => ?_)
 refine yK (fun _ => trivial) (fun h2 => ?_)
 replace h2 := zAT h2
 replace h2 := zC6 h2
 refine zg ?_ ?_
 ·exact zgF _ ⟨by (dsimp only <;> first | omega | assumption | (simp <;> omega)), by (dsimp only <;> first | omega | assumption | (simp <;> omega)), by (dsimp only <;> first | omega | assumption | (simp <;> omega))⟩
 ·simp
def zpS := cn mo [zH1, znO, znm, zAB] [zKJ] 35 zga Tryz.f35 (U1 zKx) zqk
def zgD (a0 : El zN) := (by
 simp only [zCr, zKx, zY, z0, zq, ze]
 rewrite [zfX, z3]
 dsimp only : zCr a0 = _)
theorem zhC {d : El zN} (h : (zCr d).1 = true) : d.2.length ≤ 12 ∧ ∀ r ∈ d.2, (zCY r).1 = true := by
 rw [zgD] at h
 simp only [v7, zB1, zJy] at h
 obtain ⟨h1, h2, h3, _⟩ := h
 have := zC6 (zAT h2)
 rw [zR] at h3
 refine ⟨by omega, fun r hr => ?_⟩
 obtain ⟨i, hi⟩ := List.mem_iff_getElem?.1 hr
 have := h3 i r hi
 simp only [zB1] at this
 exact zAT this.1
theorem zov {d : El zN} {i : Int} (h : (zCr d).1 = true) (h1 : 0 ≤ i) (h2 : i < (d.2.length : Int)) : ∀ x ∈ (zB zG d.2 i).2.2.2.2, x.1 = (2 : Int) → @LE.le Int _ 0 x.2.2.2.1 ∧ @LT.lt Int _ x.2.2.2.1 (yF (zB zG d.2 i)).1 :=
 zoD ((zhC h).2 _ (zV ⟨h1, h2⟩))
abbrev zIK (a0 : El zF) : Tr (Bool × Unit) := cond (a0.2.2.2.2.2.1 == (2 : Int)) (.v (true, ())) (cond (a0.2.2.2.2.2.1 == (4 : Int)) (.v (true, ())) (.v ((a0.2.2.2.2.2.1 == (6 : Int)), ())))
def zGu a0 := (zIK a0).val
abbrev zo9 := fd [va zF] [vd .bool] (U1 zGu)
def zgJ := cn mo [] [] 13 zo9 Tryz.f13 (U1 zIK) (fun _ _ _ => by simp [zIK])
abbrev zKP (a0 : El zC) : Tr (Bool × Unit) := cond (a0.2.2.1 == (1 : Int)) (.v (true, ())) (.v ((a0.2.2.1 == (2 : Int)), ()))
def zDN a0 := (zKP a0).val
abbrev zoE := fd [va zC] [vd .bool] (U1 zDN)
def za0 := cn mo [] [] 44 zoE Tryz.f44 (U1 zKP) (fun _ _ _ => by simp [zKP])
abbrev yk : LB := ⟨[], ⟨19, [], [(0, vd (.lst zC)), (1, .fn 44 []), (7, vd .int), (8, vd .int)], []⟩, ⟨19, [], [(4, vd .int)], []⟩, 0, U4 fun (l0 : Li zC) _ (n7 n8 : Int) => cond (decide (n8 < n7)) (.ix n8 l0 (cond (zDN (zB zC l0 n8)).1 (.v (.ret (n8, ()))) (.ik (n8 + 1) (.v (.go (l0, (), n7, (n8 + 1), ())))))) (.v (.brk (l0, (), n7, n8, ())))⟩
def zCI (l0 : Li zC) (f1 : TyL []) := rS (l := yk) (L := l0) (fun i => (l0, f1, (l0.length : Int), i, ())) (fun i x => bif (zDN x).1 then (some ((i : Int), ())) else none)
theorem zCL : SF yk (U4 fun (l0 : Li zC) _ (n7 n8 : Int) => (0 ≤ n8 ∧ n7 = (l0.length : Int), n7 - n8)) := sfA
abbrev yr (a0 : Li zC) (_a1 : TyL []) : Tr (Int × Unit) := .lp yk (a0, (), (a0.length : Int), (0 : Int), ()) (fun r2 => .v (r2.1, ())) (fun _ => .v ((-1 : Int), ()))
def yw a0 a1 := (yr a0 a1).val
abbrev vv := fd [vd (.lst zC), .fn 44 []] [vd .int] (U2 yw)
theorem zDG : Ok vv (U2 yr) := vN zCL
def zCy := cn mo [za0] [yk] 118 vv Tryz.f118 (U2 yr) zDG
def zCp (a0 : Li zC) (a1 : TyL []) := (by
 simp only [yw, yr, zY, zq, ze]
 rewrite [zCI, xH]
 dsimp only : yw a0 a1 = _)
def yX (a0 : Li zC) (_a1 : TyL []) : Bool × Unit := (decide ((yw a0 ()).1 ≥ (0 : Int)), ())
abbrev zB8 := fd [vd (.lst zC), .fn 44 []] [vd .bool] (U2 yX)
def zCT := cv mo [zCy] 43 zB8 Tryz.f43
def zFI : Con Tryz.prog := ⟨262, zIc zL false, zV3 mo (fn := Tryz.f262) (t := 96) (u := 4) (e := 100) (p0 := "slices.go:355") (p1 := "slices.go:357") (p2 := "slices.go:358") (p3 := "slices.go:362") (by kernel_rfl) (by kernel_rfl) (by kernel_rfl) (by kernel_rfl) (by kernel_rfl) zL false (by kernel_rfl) (fun l => by kernel_rfl) (.inr rfl)⟩
def yh (a0 : El zK) : El zK × Unit := (a0, ())
abbrev zgm := fd [va zK] [.val true (.pr (.d .str) (.o (.d zL)))] (U1 yh)
def zA8 := cv mo [zFI] 167 zgm Tryz.f167
abbrev zLW : LB := ⟨[1], ⟨24, [.pr (.d .str) (.o (.d zL))], [(1, vd .int), (4, .pt 0 0), (9, vd (.lst zD)), (10, vd .int), (11, vd .int)], []⟩, ⟨24, [.pr (.d .str) (.o (.d zL))], [(4, .pt 0 0), (5, vd .bool)], []⟩, 0, U6 fun (w0 : El zK) (n1 : Int) _ (l9 : Li zD) (n10 n11 : Int) => cond (decide (n11 < n10)) (.ix n11 l9 (cond ((zB zD l9 n11).1 == n1) (.v (.ret ((yh (zB zD l9 n11).2).1, (), true, ()))) (.ik (n11 + 1) (.v (.go (w0, n1, (), l9, n10, (n11 + 1), ())))))) (.v (.brk (w0, n1, (), l9, n10, n11, ())))⟩
def zdH (w0 : El zK) (n1 : Int) (l9 : Li zD) := rS (l := zLW) (L := l9) (fun i => (w0, n1, (), l9, (l9.length : Int), i, ())) (fun i x => bif (x.1 == n1) then (some ((yh x.2).1, (), true, ())) else none)
theorem zdZ : SF zLW (U6 fun _ _ _ (l9 : Li zD) (n10 n11 : Int) => (0 ≤ n11 ∧ n10 = (l9.length : Int), n10 - n11)) := sfA
abbrev zOa (a0 : El zE) (a1 : Int) : Tr (El zK × Bool × Unit) := let k1 := ((⟨#[]⟩ : ByteArray), ([] : Li zL)); .lp zLW (k1, a1, (), a0.1, (a0.1.length : Int), (0 : Int), ()) (fun r2 => .v (r2.1, r2.2.2.1, ())) (fun _ => .v (k1, false, ()))
def zBU a0 a1 := (zOa a0 a1).val
abbrev zck := fd [va zE, vd .int] [.val true (.pr (.d .str) (.o (.d zL))), vd .bool] (U2 zBU)
theorem znn : Ok zck (U2 zOa) := vN zdZ
def zl3 := cn mo [zA8] [zLW] 117 zck Tryz.f117 (U2 zOa) znn
def znN (a0 : El zE) (a1 : Int) := (by
 simp only [zBU, zOa, zY, zq, ze]
 rewrite [zdH, xH]
 dsimp only : zBU a0 a1 = _)
abbrev zBo : LB := ⟨[], ⟨63, [.d zN, .d zF], [(2, .pt 0 0), (3, .pt 1 0), (16, vd (.lst zA)), (17, vd .int), (18, vd .int), (46, vd (.lst .int)), (47, vd .int), (48, vd .int)], []⟩, ⟨63, [], [(4, vd .bool)], []⟩, 2, U10 fun (w0 : El zN) (w1 : El zF) _ _ (l16 : Li zA) (n17 n18 : Int) (l46 : Li .int) (n47 n48 : Int) => cond (decide (n48 < n47)) (.ix n48 l46 (cond (!(zBU w1.1 (zB .int l46 n48)).2.1) (.v (.ret (false, ()))) (.ik (n48 + 1) (.v (.go (w0, w1, (), (), l16, n17, n18, l46, n47, (n48 + 1), ())))))) (.v (.brk (w0, w1, (), (), l16, n17, n18, l46, n47, n48, ())))⟩
def zZ9 (w0 : El zN) (w1 : El zF) (l16 : Li zA) (n17 n18 : Int) (l46 : Li .int) := rA (l := zBo) (L := l46) (fun i => (w0, w1, (), (), l16, n17, n18, l46, (l46.length : Int), i, ())) (fun i x => bif (!(zBU w1.1 x).2.1) then false else true) (false, ())
theorem zZO : SF zBo (U10 fun _ _ _ _ _ _ _ (l46 : Li .int) (n47 n48 : Int) => (0 ≤ n48 ∧ n47 = (l46.length : Int), n47 - n48)) := sfA
abbrev zCq : LB := ⟨[], ⟨63, [.d zN, .d zF], [(2, .pt 0 0), (3, .pt 1 0), (16, vd (.lst zA)), (17, vd .int), (18, vd .int)], []⟩, ⟨63, [], [(4, vd .bool)], []⟩, 0, U7 fun (w0 : El zN) (w1 : El zF) _ _ (l16 : Li zA) (n17 n18 : Int) => cond (decide (n18 < n17)) (.ix n18 l16 (let k1 := zB zA l16 n18; cond (!(vf w0 k1).1) (.v (.ret (false, ()))) (cond ((k1.2.2.length : Int) != 0) (.v (.ret (false, ()))) (.ix k1.1 w0.2 (let k3 := (k1.2.1.length : Int); cond (k3 != (yF (zB zG w0.2 k1.1)).1) (.v (.ret (false, ()))) (.lp zBo (w0, w1, (), (), l16, n17, n18, k1.2.1, k3, (0 : Int), ()) (fun r8 => .v (.ret (r8.1, ()))) (fun t1 => let k2 := t1.2.2.2.2.2.2.1 + (1 : Int); .ik k2 (.v (.go (t1.1, t1.2.1, (), (), t1.2.2.2.2.1, t1.2.2.2.2.2.1, k2, ())))))))))) (.v (.brk (w0, w1, (), (), l16, n17, n18, ())))⟩
theorem zZH : SF zCq fun x : El zN × El zF × Unit × Unit × Li zA × Int × Int × Unit => (0 ≤ x.2.2.2.2.2.2.1 ∧ x.2.2.2.2.2.1 = (x.2.2.2.2.1.length : Int), x.2.2.2.2.2.1 - x.2.2.2.2.2.2.1) := sfk (by
 rintro ⟨(w0 : El zN), (w1 : El zF), ⟨⟩, ⟨⟩, (l16 : Li zA), (n17 : Int), (n18 : Int), ⟨⟩⟩ hI hw
 dsimp only [U7] at hI ⊢
 obtain ⟨i0, i1⟩ := hI
 have _ : -9223372036854775808 ≤ n17 ∧ n17 ≤ 9223372036854775807 := zAd hw.2.2.2.2.2.1
 have hb : (l16.length : Int) ≤ 16777216 := vC (hw.2.2.2.2.1.1)
 refine ⟨by omega, ?_⟩
 refine xI (fun h1 => ?_) (fun h1 => ?_)
 ·replace h1 : n18 < n17 := of_decide_eq_true h1
  refine z7 ?_ ?_
  ·first | omega | (simp <;> omega)
  ·refine xI (fun h2 => ?_) (fun h2 => ?_)
   ·exact trivial
   ·replace h2 := zAT h2
    replace h2 := zLp h2
    refine xI (fun h3 => ?_) (fun h3 => ?_)
    ·replace h3 := zlA h3
     exact trivial
    ·replace h3 := zT9 h3
     refine z7 ?_ ?_
     ·first | omega | (simp <;> omega)
     ·refine xI (fun h4 => ?_) (fun h4 => ?_)
      ·replace h4 := zlA h4
       exact trivial
      ·replace h4 := zT9 h4
       refine z7 ?_ ?_
       ·exact zZO _ ⟨by (dsimp only <;> omega), by (dsimp only <;> omega)⟩
       ·refine zc2 (zZ9 w0 w1 l16 n17 n18 (zB zA l16 n18).2.1) ?_ ?_
        ·try dsimp only
         refine z7 ?_ ?_
         ·exact ink (by omega) (by omega)
         ·exact show (0 ≤ (n18 + 1) ∧ n17 = (l16.length : Int)) ∧ n17 - (n18 + 1) < n17 - n18 ∧ 0 < n17 - n18 from ⟨⟨by (first | omega | rfl | assumption | (simp <;> omega)), by (first | omega | rfl | assumption | (simp <;> omega))⟩, by (first | omega | (simp only [List.length_set]; omega)), by (first | omega | (simp only [List.length_set]; omega))⟩
        ·try dsimp only
         exact trivial
 ·replace h1 : ¬ (n18 < n17) := of_decide_eq_false h1
  exact trivial)
abbrev zMi (a0 : El zN) (a1 : El zF) : Tr (Bool × Unit) := let k1 := (a1.2.1.length : Int); cond (decide (k1 > (1000 : Int))) (.v (false, ())) (.lp zCq (a0, a1, (), (), a1.2.1, k1, (0 : Int), ()) (fun r9 => .v (r9.1, ())) (fun _ => .v (true, ())))
def zIM a0 a1 := (zMi a0 a1).val
abbrev zY2 := fd [va zN, va zF] [vd .bool] (U2 zIM)
theorem zjj : Ok zY2 (U2 zMi) := vN zZH
def zkV := cn mo [zLA, zl3, zJw] [zCq, zBo] 42 zY2 Tryz.f42 (U2 zMi) zjj
def zDO (a0 : Int) : Bool × Unit := ((z9 a0 0 1000000000).1, ())
abbrev znS := fd [vd .int] [vd .bool] (U1 zDO)
def zTa := cv mo [zAB] 41 znS Tryz.f41
def zSl (a0 : ByteArray) : Bool × Unit := ((z9 (a0.size : Int) (1 : Int) (200 : Int)).1, ())
abbrev zp5 := fd [vd .str] [vd .bool] (U1 zSl)
def zpI := cv mo [zAB] 114 zp5 Tryz.f114
def zNY (a0 : El zP) (a1 : ByteArray) : Bool × Unit := ((a0.1.toList == a1.toList), ())
abbrev zfG := fd [va zP, .bx .str 0] [vd .bool] (U2 zNY)
def zfz := cv mo [] 215 zfG Tryz.f215
abbrev yl : LB := ⟨[], ⟨19, [], [(0, vd (.lst zP)), (1, .fn 215 [.str]), (7, vd .int), (8, vd .int)], []⟩, ⟨19, [], [(4, vd .int)], []⟩, 0, U4 fun (l0 : Li zP) (f1 : TyL [.str]) (n7 n8 : Int) => cond (decide (n8 < n7)) (.ix n8 l0 (cond (zNY (zB zP l0 n8) f1.1).1 (.v (.ret (n8, ()))) (.ik (n8 + 1) (.v (.go (l0, (f1.1, ()), n7, (n8 + 1), ())))))) (.v (.brk (l0, (f1.1, ()), n7, n8, ())))⟩
def zCP (l0 : Li zP) (f1 : TyL [.str]) := rS (l := yl) (L := l0) (fun i => (l0, f1, (l0.length : Int), i, ())) (fun i x => bif (zNY x f1.1).1 then (some ((i : Int), ())) else none)
theorem zB7 : SF yl (U4 fun (l0 : Li zP) _ (n7 n8 : Int) => (0 ≤ n8 ∧ n7 = (l0.length : Int), n7 - n8)) := sfA
abbrev yy (a0 : Li zP) (a1 : TyL [.str]) : Tr (Int × Unit) := .lp yl (a0, (a1.1, ()), (a0.length : Int), (0 : Int), ()) (fun r2 => .v (r2.1, ())) (fun _ => .v ((-1 : Int), ()))
def yq a0 a1 := (yy a0 a1).val
abbrev vt := fd [vd (.lst zP), .fn 215 [.str]] [vd .int] (U2 yq)
theorem zC1 : Ok vt (U2 yy) := vN zB7
def zC7 := cn mo [zfz] [yl] 295 vt Tryz.f295 (U2 yy) zC1
def zDC (a0 : Li zP) (a1 : TyL [.str]) := (by
 simp only [yq, yy, zY, zq, ze]
 rewrite [zCP, xH]
 dsimp only : yq a0 a1 = _)
def xN (a0 : Li zP) (a1 : TyL [.str]) : Bool × Unit := (decide ((yq a0 (a1.1, ())).1 ≥ (0 : Int)), ())
abbrev zCB := fd [vd (.lst zP), .fn 215 [.str]] [vd .bool] (U2 xN)
def zB6 := cv mo [zC7] 214 zCB Tryz.f214
def zKG (a0 : Li zP) (a1 : ByteArray) : Bool × Unit := ((xN a0 (a1, ())).1, ())
abbrev zl7 := fd [vd (.lst zP), vd .str] [vd .bool] (U2 zKG)
def zlo := cv mo [zB6] 115 zl7 Tryz.f115
abbrev zLv : LB := ⟨[], ⟨26, [], [(16, vd (.lst zL)), (17, vd .int), (18, vd .int)], []⟩, ⟨26, [], [(2, vd .bool)], []⟩, 0, U3 fun (l16 : Li zL) (n17 n18 : Int) => cond (decide (n18 < n17)) (.ix n18 l16 (cond (!(zBT (zB zL l16 n18)).1) (.v (.ret (false, ()))) (.ik (n18 + 1) (.v (.go (l16, n17, (n18 + 1), ())))))) (.v (.brk (l16, n17, n18, ())))⟩
def zeh (l16 : Li zL) := rA (l := zLv) (L := l16) (fun i => (l16, (l16.length : Int), i, ())) (fun i x => bif (!(zBT x).1) then false else true) (false, ())
theorem zei : SF zLv (U3 fun (l16 : Li zL) (n17 n18 : Int) => (0 ≤ n18 ∧ n17 = (l16.length : Int), n17 - n18)) := sfA
abbrev zPW (a0 : El zK) : Tr (Bool × Unit) := cond (!(zDY a0.1).1) (.v (false, ())) (let k1 := (a0.2.length : Int); cond (decide (k1 > (5 : Int))) (.v (false, ())) (.lp zLv (a0.2, k1, (0 : Int), ()) (fun r3 => .v (r3.1, ())) (fun _ => .v (true, ()))))
def yS a0 := (zPW a0).val
abbrev zca := fd [va zK] [vd .bool] (U1 yS)
theorem zmR : Ok zca (U1 zPW) := vN zei
def zHm := cn mo [zH1, zN0] [zLv] 109 zca Tryz.f109 (U1 zPW) zmR
def zmB (a0 : El zK) := (by
 simp only [yS, zPW, zY, z0, zq, ze]
 rewrite [zeh, z3]
 dsimp only : yS a0 = _)
abbrev zJP : LB := ⟨[], ⟨34, [], [(0, vd (.lst zP)), (8, vd (.lst zP)), (9, vd .int), (10, vd .int)], []⟩, ⟨34, [], [(2, vd .bool)], []⟩, 0, U4 fun (l0 l8 : Li zP) (n9 n10 : Int) => cond (decide (n10 < n9)) (.ix n10 l8 (cond (!(zSl (zB zP l8 n10).1).1) (.v (.ret (false, ()))) (cond (!(yS (zB zP l8 n10).2).1) (.v (.ret (false, ()))) (.ck (0 ≤ (0 : Int) ∧ (0 : Int) ≤ n10 ∧ n10 ≤ (l0.length : Int)) (cond (zKG ((l0.take n10.toNat).drop (0 : Int).toNat) (zB zP l8 n10).1).1 (.v (.ret (false, ()))) (.ik (n10 + 1) (.v (.go (l0, l8, n9, (n10 + 1), ()))))))))) (.v (.brk (l0, l8, n9, n10, ())))⟩
def zZZ (l0 l8 : Li zP) := rA (l := zJP) (L := l0) (fun i => (l0, l8, (l0.length : Int), i, ())) (fun i x => bif (!(zSl (zB zP l8 (i : Int)).1).1) then false else (bif (!(yS (zB zP l8 (i : Int)).2).1) then false else (bif (zKG ((l0.take (i : Int).toNat).drop (0 : Int).toNat) (zB zP l8 (i : Int)).1).1 then false else true))) (false, ())
theorem zaE : SF zJP (U4 fun (l0 l8 : Li zP) (n9 n10 : Int) => (0 ≤ n10 ∧ n9 = (l0.length : Int) ∧ n9 ≤ (l8.length : Int), n9 - n10)) := sfA
abbrev zLi (a0 : Li zP) : Tr (Bool × Unit) := let k1 := (a0.length : Int); cond (decide (k1 > (30 : Int))) (.v (false, ())) (.lp zJP (a0, a0, k1, (0 : Int), ()) (fun r5 => .v (r5.1, ())) (fun _ => .v (true, ())))
def zId a0 := (zLi a0).val
abbrev zXI := fd [vd (.lst zP)] [vd .bool] (U1 zId)
theorem zjW : Ok zXI (U1 zLi) := vN zaE
def zj2 := cn mo [zpI, zlo, zHm] [zJP] 39 zXI Tryz.f39 (U1 zLi) zjW
def zYu (a0 : Li zP) := (by
 simp only [zId, zLi, zY, z0, zq, ze]
 rewrite [zZZ, z3]
 dsimp only : zId a0 = _)
abbrev zLP (a0 : El zD) : Tr (Bool × Unit) := cond (zDO a0.1).1 (.v ((yS a0.2).1, ())) (.v (false, ()))
def zFn a0 := (zLP a0).val
abbrev zi8 := fd [va zD] [vd .bool] (U1 zFn)
def zWQ := cn mo [zTa, zHm] [] 113 zi8 Tryz.f113 (U1 zLP) (fun _ _ _ => by simp [zLP])
abbrev zHK : LB := ⟨[], ⟨34, [], [(0, vd (.lst zD)), (8, vd (.lst zD)), (9, vd .int), (10, vd .int)], []⟩, ⟨34, [], [(2, vd .bool)], []⟩, 0, U4 fun (l0 l8 : Li zD) (n9 n10 : Int) => cond (decide (n10 < n9)) (.ix n10 l8 (cond (!(zFn (zB zD l8 n10)).1) (.v (.ret (false, ()))) (let k1 : Tr (St _ _) := .ik (n10 + 1) (.v (.go (l0, l8, n9, (n10 + 1), ()))); cond (decide (n10 > 0)) (.ik (n10 - 1) (.ix (n10 - 1) l0 (cond (decide ((zB zD l0 (n10 - 1)).1 > (zB zD l8 n10).1)) (.v (.ret (false, ()))) k1))) k1))) (.v (.brk (l0, l8, n9, n10, ())))⟩
def zXc (l0 l8 : Li zD) := rA (l := zHK) (L := l0) (fun i => (l0, l8, (l0.length : Int), i, ())) (fun i x => bif (!(zFn (zB zD l8 (i : Int))).1) then false else (bif (decide ((i : Int) > 0)) then (bif (decide ((zB zD l0 ((i : Int) - 1)).1 > (zB zD l8 (i : Int)).1)) then false else true) else true)) (false, ())
theorem zVu : SF zHK (U4 fun (l0 l8 : Li zD) (n9 n10 : Int) => (0 ≤ n10 ∧ n9 = (l0.length : Int) ∧ n9 ≤ (l8.length : Int), n9 - n10)) := sfA
abbrev zGf (a0 : Li zD) : Tr (Bool × Unit) := let k1 := (a0.length : Int); cond (decide (k1 > (30 : Int))) (.v (false, ())) (.lp zHK (a0, a0, k1, (0 : Int), ()) (fun r2 => .v (r2.1, ())) (fun _ => .v (true, ())))
def xc a0 := (zGf a0).val
abbrev zUN := fd [vd (.lst zD)] [vd .bool] (U1 xc)
theorem zf3 : Ok zUN (U1 zGf) := vN zVu
def zTf := cn mo [zWQ] [zHK] 38 zUN Tryz.f38 (U1 zGf) zf3
def zhn (a0 : Li zD) := (by
 simp only [xc, zGf, zY, z0, zq, ze]
 rewrite [zXc, z3]
 dsimp only : xc a0 = _)
theorem zT2 {l : Li zD} (h : (xc l).1 = true) : l.length ≤ 30 := by
 simp only [xc, zGf, z0, ze, zY, zq, v7, zB1] at h
 have := of_decide_eq_false h.1
 omega
abbrev zOS (a0 : El zC) : Tr (Bool × Unit) := cond (!(yS a0.1).1) (.v (false, ())) (cond (!(zBQ a0.2.1).1) (.v (false, ())) (cond (!(z9 a0.2.2.1 1 4).1) (.v (false, ())) (cond (!(z9 a0.2.2.2.1 0 4).1) (.v (false, ())) (let k1 : Tr _ := cond (z9 a0.2.2.2.2.1 0 1000001000).1 (cond ((a0.2.2.2.2.2.1 == (0 : Int)) && ((a0.2.2.2.2.2.2.1 == (0 : Int)) && ((a0.2.2.2.2.2.2.2.toList == (⟨#[]⟩ : ByteArray).toList) && true))) (.v (true, ())) (.v ((zBT a0.2.2.2.2.2).1, ()))) (.v (false, ())); let k2 : Tr _ := cond (a0.2.2.1 == (2 : Int)) (cond (a0.2.2.2.1 == (0 : Int)) (.v (false, ())) k1) k1; cond (a0.2.2.1 == (1 : Int)) (cond (a0.2.2.2.1 != (0 : Int)) (.v (false, ())) k2) k2))))
def zKh a0 := (zOS a0).val
abbrev zmx := fd [va zC] [vd .bool] (U1 zKh)
def zmI := cn mo [zHm, zAB, zN0, zPK] [] 111 zmx Tryz.f111 (U1 zOS) (fun _ _ _ => by simp [zOS])
abbrev xO : LB := ⟨[], ⟨26, [], [(0, vd (.lst zL)), (1, vd (.lst zL)), (12, vd .int), (13, vd .int)], []⟩, ⟨26, [], [(4, vd .bool)], []⟩, 0, U4 fun (l0 l1 : Li zL) (n12 n13 : Int) => cond (decide (n13 < n12)) (.ix n13 l0 (.ix n13 l1 (cond (!(((zB zL l0 n13).1 == (zB zL l1 n13).1) && (((zB zL l0 n13).2.1 == (zB zL l1 n13).2.1) && (((zB zL l0 n13).2.2.toList == (zB zL l1 n13).2.2.toList) && true)))) (.v (.ret (false, ()))) (.ik (n13 + 1) (.v (.go (l0, l1, n12, (n13 + 1), ()))))))) (.v (.brk (l0, l1, n12, n13, ())))⟩
def zDi (l0 l1 : Li zL) := rA (l := xO) (L := l0) (fun i => (l0, l1, (l0.length : Int), i, ())) (fun i x => bif (!((x.1 == (zB zL l1 (i : Int)).1) && ((x.2.1 == (zB zL l1 (i : Int)).2.1) && ((x.2.2.toList == (zB zL l1 (i : Int)).2.2.toList) && true)))) then false else true) (false, ())
theorem zDj : SF xO (U4 fun (l0 l1 : Li zL) (n12 n13 : Int) => (0 ≤ n13 ∧ n12 = (l0.length : Int) ∧ n12 ≤ (l1.length : Int), n12 - n13)) := sfA
abbrev xS (a0 a1 : Li zL) : Tr (Bool × Unit) := let k1 := (a0.length : Int); cond (k1 != (a1.length : Int)) (.v (false, ())) (.lp xO (a0, a1, k1, (0 : Int), ()) (fun r1 => .v (r1.1, ())) (fun _ => .v (true, ())))
def yt a0 a1 := (xS a0 a1).val
abbrev zA6 := fd [vd (.lst zL), vd (.lst zL)] [vd .bool] (U2 yt)
theorem zEz : Ok zA6 (U2 xS) := vN zDj
def zFH := cn mo [] [xO] 211 zA6 Tryz.f211 (U2 xS) zEz
def zFJ (a0 a1 : Li zL) := (by
 simp only [yt, xS, zY, z0, zq, ze]
 rewrite [zDi, z3]
 dsimp only : yt a0 a1 = _)
abbrev zJM (a0 a1 : El zK) : Tr (Bool × Unit) := cond (a0.1.toList == a1.1.toList) (.v ((yt a0.2 a1.2).1, ())) (.v (false, ()))
def xp a0 a1 := (zJM a0 a1).val
abbrev zg8 := fd [va zK, va zK] [vd .bool] (U2 xp)
def zJq := cn mo [zFH] [] 110 zg8 Tryz.f110 (U2 zJM) (fun _ _ _ => by simp [zJM])
def zDS (a0 : El zC) (a1 : El zK) : Bool × Unit := ((xp a0.1 a1).1, ())
abbrev zSv := fd [va zC, .bx zK 0] [vd .bool] (U2 zDS)
def zS9 := cv mo [zJq] 213 zSv Tryz.f213
abbrev yR : LB := ⟨[], ⟨19, [], [(0, vd (.lst zC)), (1, .fn 213 [zK]), (7, vd .int), (8, vd .int)], []⟩, ⟨19, [], [(4, vd .int)], []⟩, 0, U4 fun (l0 : Li zC) (f1 : TyL [zK]) (n7 n8 : Int) => cond (decide (n8 < n7)) (.ix n8 l0 (cond (zDS (zB zC l0 n8) f1.1).1 (.v (.ret (n8, ()))) (.ik (n8 + 1) (.v (.go (l0, (f1.1, ()), n7, (n8 + 1), ())))))) (.v (.brk (l0, (f1.1, ()), n7, n8, ())))⟩
def zBR (l0 : Li zC) (f1 : TyL [zK]) := rS (l := yR) (L := l0) (fun i => (l0, f1, (l0.length : Int), i, ())) (fun i x => bif (zDS x f1.1).1 then (some ((i : Int), ())) else none)
theorem zBY : SF yR (U4 fun (l0 : Li zC) _ (n7 n8 : Int) => (0 ≤ n8 ∧ n7 = (l0.length : Int), n7 - n8)) := sfA
abbrev yY (a0 : Li zC) (a1 : TyL [zK]) : Tr (Int × Unit) := .lp yR (a0, (a1.1, ()), (a0.length : Int), (0 : Int), ()) (fun r2 => .v (r2.1, ())) (fun _ => .v ((-1 : Int), ()))
def yU a0 a1 := (yY a0 a1).val
abbrev vU := fd [vd (.lst zC), .fn 213 [zK]] [vd .int] (U2 yU)
theorem zCN : Ok vU (U2 yY) := vN zBY
def zCS := cn mo [zS9] [yR] 118 vU Tryz.f118 (U2 yY) zCN
def zCA (a0 : Li zC) (a1 : TyL [zK]) := (by
 simp only [yU, yY, zY, zq, ze]
 rewrite [zBR, xH]
 dsimp only : yU a0 a1 = _)
def zBN (a0 : Li zC) (a1 : El zK) : Int × Unit := ((yU a0 (a1, ())).1, ())
abbrev zWS := fd [vd (.lst zC), va zK] [vd .int] (U2 zBN)
def zNQ := cv mo [zCS] 112 zWS Tryz.f112
abbrev zJf : LB := ⟨[], ⟨27, [], [(0, vd (.lst zC)), (8, vd (.lst zC)), (9, vd .int), (10, vd .int)], []⟩, ⟨27, [], [(2, vd .bool)], []⟩, 0, U4 fun (l0 l8 : Li zC) (n9 n10 : Int) => cond (decide (n10 < n9)) (.ix n10 l8 (cond (!(zKh (zB zC l8 n10)).1) (.v (.ret (false, ()))) (cond ((zBN l0 (zB zC l8 n10).1).1 != n10) (.v (.ret (false, ()))) (.ik (n10 + 1) (.v (.go (l0, l8, n9, (n10 + 1), ()))))))) (.v (.brk (l0, l8, n9, n10, ())))⟩
def zY8 (l0 l8 : Li zC) := rA (l := zJf) (L := l0) (fun i => (l0, l8, (l0.length : Int), i, ())) (fun i x => bif (!(zKh (zB zC l8 (i : Int))).1) then false else (bif ((zBN l0 (zB zC l8 (i : Int)).1).1 != (i : Int)) then false else true)) (false, ())
theorem zZy : SF zJf (U4 fun (l0 l8 : Li zC) (n9 n10 : Int) => (0 ≤ n10 ∧ n9 = (l0.length : Int) ∧ n9 ≤ (l8.length : Int), n9 - n10)) := sfA
abbrev zIg (a0 : Li zC) : Tr (Bool × Unit) := let k1 := (a0.length : Int); cond (decide (k1 > (30 : Int))) (.v (false, ())) (.lp zJf (a0, a0, k1, (0 : Int), ()) (fun r3 => .v (r3.1, ())) (fun _ => .v (true, ())))
def yc a0 := (zIg a0).val
abbrev zWu := fd [vd (.lst zC)] [vd .bool] (U1 yc)
theorem zkH : Ok zWu (U1 zIg) := vN zZy
def zYe := cn mo [zmI, zNQ] [zJf] 37 zWu Tryz.f37 (U1 zIg) zkH
def zjd (a0 : Li zC) := (by
 simp only [yc, zIg, zY, z0, zq, ze]
 rewrite [zY8, z3]
 dsimp only : yc a0 = _)
theorem zWO {l : Li zC} (h : (yc l).1 = true) : l.length ≤ 30 := by
 simp only [yc, zIg, z0, ze, zY, zq, v7, zB1] at h
 have := of_decide_eq_false h.1
 omega
abbrev zGk : LB := ⟨[], ⟨70, [.d zE, .d zD], [(1, .pt 0 0), (4, .pt 1 0), (18, vd (.lst zD)), (19, vd .int), (20, vd .int), (57, vd (.lst zD)), (58, vd .int), (59, vd .int)], []⟩, ⟨70, [], [(2, vd .bool)], []⟩, 2, U10 fun (w0 : El zE) (w1 : El zD) _ _ (l18 : Li zD) (n19 n20 : Int) (l57 : Li zD) (n58 n59 : Int) => cond (decide (n59 < n58)) (.ix n59 l57 (cond (xp w1.2 (zB zD l57 n59).2).1 (.v (.ret (false, ()))) (.ik (n59 + 1) (.v (.go (w0, w1, (), (), l18, n19, n20, l57, n58, (n59 + 1), ())))))) (.v (.brk (w0, w1, (), (), l18, n19, n20, l57, n58, n59, ())))⟩
def zJ2 (w0 : El zE) (w1 : El zD) (l18 : Li zD) (n19 n20 : Int) (l57 : Li zD) := rA (l := zGk) (L := l57) (fun i => (w0, w1, (), (), l18, n19, n20, l57, (l57.length : Int), i, ())) (fun i x => bif (xp w1.2 x.2).1 then false else true) (false, ())
theorem zQB : SF zGk (U10 fun _ _ _ _ _ _ _ (l57 : Li zD) (n58 n59 : Int) => (0 ≤ n59 ∧ n58 = (l57.length : Int), n58 - n59)) := sfA
abbrev zCn : LB := ⟨[], ⟨70, [.d zE], [(1, .pt 0 0), (18, vd (.lst zD)), (19, vd .int), (20, vd .int)], []⟩, ⟨70, [], [(2, vd .bool)], []⟩, 0, U5 fun (w0 : El zE) _ (l18 : Li zD) (n19 n20 : Int) => cond (decide (n20 < n19)) (.ix n20 l18 (let k2 := zB zD l18 n20; cond (!(yS k2.2).1) (.v (.ret (false, ()))) (.ik (w0.2 - (1 : Int)) (cond (!(z9 k2.1 1 (w0.2 - (1 : Int))).1) (.v (.ret (false, ()))) (let k3 := (w0.1.take n20.toNat).drop (0 : Int).toNat; let k1 := (w0, k2, (), (), l18, n19, n20, k3, (k3.length : Int), (0 : Int), ()); let k4 := (w0.1.length : Int); cond (decide (n20 > 0)) (.ik (n20 - 1) (.ix (n20 - 1) w0.1 (cond (decide (k2.1 ≤ (zB zD w0.1 (n20 - 1)).1)) (.v (.ret (false, ()))) (.ck (0 ≤ (0 : Int) ∧ (0 : Int) ≤ n20 ∧ n20 ≤ k4) (.lp zGk k1 (fun r8 => .v (.ret (r8.1, ()))) (fun t1 => .ik (t1.2.2.2.2.2.2.1 + (1 : Int)) (.v (.go (t1.1, (), t1.2.2.2.2.1, t1.2.2.2.2.2.1, (t1.2.2.2.2.2.2.1 + (1 : Int)), ()))))))))) (.ck (0 ≤ (0 : Int) ∧ (0 : Int) ≤ n20 ∧ n20 ≤ k4) (.lp zGk k1 (fun r9 => .v (.ret (r9.1, ()))) (fun t1 => .ik (t1.2.2.2.2.2.2.1 + (1 : Int)) (.v (.go (t1.1, (), t1.2.2.2.2.1, t1.2.2.2.2.2.1, (t1.2.2.2.2.2.2.1 + (1 : Int)), ()))))))))))) (.v (.brk (w0, (), l18, n19, n20, ())))⟩
theorem zaL : SF zCn fun x : El zE × Unit × Li zD × Int × Int × Unit => (0 ≤ x.2.2.2.2.1 ∧ x.2.2.2.1 = (x.2.2.1.length : Int) ∧ @LE.le Int _ 1 x.1.2 ∧ (x.2.2.1.length : Int) = (x.1.1.length : Int), x.2.2.2.1 - x.2.2.2.2.1) := sfk (by
 rintro ⟨(w0 : El zE), ⟨⟩, (l18 : Li zD), (n19 : Int), (n20 : Int), ⟨⟩⟩ hI hw
 dsimp only [U5] at hI ⊢
 obtain ⟨i0, i1, k0, k1⟩ := hI
 have _ : -9223372036854775808 ≤ n19 ∧ n19 ≤ 9223372036854775807 := zAd hw.2.2.2.1
 have hb : (l18.length : Int) ≤ 16777216 := vC (hw.2.2.1.1)
 refine ⟨by omega, ?_⟩
 refine xI (fun h1 => ?_) (fun h1 => ?_)
 ·replace h1 : n20 < n19 := of_decide_eq_true h1
  refine z7 ?_ ?_
  ·first | omega | (simp <;> omega)
  ·refine xI (fun h2 => ?_) (fun h2 => ?_)
   ·exact trivial
   ·refine z7 ?_ ?_
    ·exact ink (by have _ : @LE.le Int _ (-9223372036854775808) w0.2 ∧ @LE.le Int _ w0.2 9223372036854775807 := zAd hw.1.2; omega) (by have _ : @LE.le Int _ (-9223372036854775808) w0.2 ∧ @LE.le Int _ w0.2 9223372036854775807 := zAd hw.1.2; omega)
    ·refine xI (fun h3 => ?_) (fun h3 => ?_)
     ·exact trivial
     ·replace h3 := zAT h3
      replace h3 := zC6 h3
      refine xI (fun h4 => ?_) (fun h4 => ?_)
      ·replace h4 : n20 > 0 := of_decide_eq_true h4
       refine z7 ?_ ?_
       ·exact ink (by omega) (by omega)
       ·refine z7 ?_ ?_
        ·first | omega | (simp <;> omega)
        ·refine xI (fun h5 => ?_) (fun h5 => ?_)
         ·replace h5 : (zB zD l18 n20).1 ≤ (zB zD w0.1 (n20 - 1)).1 := of_decide_eq_true h5
          exact trivial
         ·replace h5 : ¬ ((zB zD l18 n20).1 ≤ (zB zD w0.1 (n20 - 1)).1) := of_decide_eq_false h5
          refine z7 ?_ ?_
          ·first | omega | (simp <;> omega)
          ·refine z7 ?_ ?_
           ·exact zQB _ ⟨by (dsimp only <;> omega), by (dsimp only <;> omega)⟩
           ·refine zc2 (zJ2 w0 (zB zD l18 n20) l18 n19 n20 ((w0.1.take n20.toNat).drop (0 : Int).toNat)) ?_ ?_
            ·try dsimp only
             refine z7 ?_ ?_
             ·exact ink (by omega) (by omega)
             ·exact show (0 ≤ (n20 + 1) ∧ n19 = (l18.length : Int) ∧ @LE.le Int _ 1 w0.2 ∧ (l18.length : Int) = (w0.1.length : Int)) ∧ n19 - (n20 + 1) < n19 - n20 ∧ 0 < n19 - n20 from ⟨⟨by (first | omega | rfl | assumption | (simp <;> omega)), by (first | omega | rfl | assumption | (simp <;> omega)), by (first | omega | rfl | assumption | (simp <;> omega)), by (first | omega | rfl | assumption | (simp <;> omega))⟩, by (first | omega | (simp only [List.length_set]; omega)), by (first | omega | (simp only [List.length_set]; omega))⟩
            ·try dsimp only
             exact trivial
      ·replace h4 : ¬ (n20 > 0) := of_decide_eq_false h4
       refine z7 ?_ ?_
       ·first | omega | (simp <;> omega)
       ·refine z7 ?_ ?_
        ·exact zQB _ ⟨by (dsimp only <;> omega), by (dsimp only <;> omega)⟩
        ·refine zc2 (zJ2 w0 (zB zD l18 n20) l18 n19 n20 ((w0.1.take n20.toNat).drop (0 : Int).toNat)) ?_ ?_
         ·try dsimp only
          refine z7 ?_ ?_
          ·exact ink (by omega) (by omega)
          ·exact show (0 ≤ (n20 + 1) ∧ n19 = (l18.length : Int) ∧ @LE.le Int _ 1 w0.2 ∧ (l18.length : Int) = (w0.1.length : Int)) ∧ n19 - (n20 + 1) < n19 - n20 ∧ 0 < n19 - n20 from ⟨⟨by (first | omega | rfl | assumption | (simp <;> omega)), by (first | omega | rfl | assumption | (simp <;> omega)), by (first | omega | rfl | assumption | (simp <;> omega)), by (first | omega | rfl | assumption | (simp <;> omega))⟩, by (first | omega | (simp only [List.length_set]; omega)), by (first | omega | (simp only [List.length_set]; omega))⟩
         ·try dsimp only
          exact trivial
 ·replace h1 : ¬ (n20 < n19) := of_decide_eq_false h1
  exact trivial)
abbrev zEN (a0 : El zE) : Tr (Bool × Unit) := let k1 := (a0.1.length : Int); cond (decide (k1 > (40 : Int))) (.v (false, ())) (cond (!(z9 a0.2 1 1000000).1) (.v (false, ())) (.lp zCn (a0, (), a0.1, k1, (0 : Int), ()) (fun r12 => .v (r12.1, ())) (fun _ => .v (true, ()))))
def xK a0 := (zEN a0).val
abbrev zYP := fd [va zE] [vd .bool] (U1 xK)
theorem zkR : Ok zYP (U1 zEN) := by
 rintro ⟨(a0 : El zE), ⟨⟩⟩ hw hp
 show (zEN a0).ok
 unfold zEN
 refine yK (fun _ => trivial) (fun h6 => ?_)
 replace h6 : ¬ ((a0.1.length : Int) > 40) := of_decide_eq_false h6
 refine yK (fun _ => trivial) (fun h7 => ?_)
 replace h7 := zAT h7
 replace h7 := zC6 h7
 refine zg ?_ ?_
 ·exact zaL _ ⟨by (dsimp only <;> first | omega | rfl | assumption | (simp <;> omega)), by (dsimp only <;> first | omega | rfl | assumption | (simp <;> omega)), by (dsimp only <;> first | omega | rfl | assumption | (simp <;> omega)), by (dsimp only <;> first | omega | rfl | assumption | (simp <;> omega))⟩
 ·simp
def ziM := cn mo [zHm, zJq, zAB] [zCn, zGk] 36 zYP Tryz.f36 (U1 zEN) zkR
theorem ziS {s : El zE} (h : (xK s).1 = true) : s.1.length ≤ 40 := by
 simp only [xK, zEN, z0, ze, zY, zq, v7, zB1] at h
 have := of_decide_eq_false h.1
 omega
abbrev zF9 (a0 : El zN) (a1 : El zF) : Tr (Bool × Unit) := .ck (zRN a0) (cond (!(zCr a0).1) (.v (false, ())) (cond (!(xK a1.1).1) (.v (false, ())) (cond (!(yc a1.2.2.1).1) (.v (false, ())) (cond (!(xc a1.2.2.2.1).1) (.v (false, ())) (cond (!(zId a1.2.2.2.2.1).1) (.v (false, ())) (cond (!(z9 a1.2.2.2.2.2.1 1 6).1) (.v (false, ())) (cond (!(zDO a1.2.2.2.2.2.2).1) (.v (false, ())) (cond (!(zIM a0 a1).1) (.v (false, ())) (let k1 := (decide ((a1.2.2.2.2.1.length : Int) > 0), ()); cond (a1.2.2.2.2.2.1 == (3 : Int)) (.v k1) (cond (a1.2.2.2.2.2.1 == (5 : Int)) (.v k1) (cond (!(zGu a1).1) (.v (true, ())) (cond ((a1.2.2.2.1.length : Int) == 0) (.v ((!(yX a1.2.2.1 ()).1), ())) (.v (false, ()))))))))))))))
def zBX a0 a1 := (zF9 a0 a1).val
def zKi (a0 : El zN) (_a1 : El zF) : Prop := ∀ r ∈ a0.2, SzR r
abbrev zby := fq [va zN, va zF] [vd .bool] (U2 zKi) (U2 zBX)
theorem zmE : Ok zby (U2 zF9) := by
 rintro ⟨(a0 : El zN), (a1 : El zF), ⟨⟩⟩ hw hp
 replace hp : zKi a0 a1 := hp
 show (zF9 a0 a1).ok
 unfold zKi at hp
 unfold zF9
 refine zg ?_ ?_
 ·exact hp
 ·simp
def zbg := cn mo [zpS, zAB, zgJ, zCT, zkV, zTa, zj2, zTf, zYe, ziM] [] 12 zby Tryz.f12 (U2 zF9) zmE
theorem zch {d : El zN} {x : El zF} (h : (zBX d x).1 = true) : (zCr d).1 = true ∧ (xK x.1).1 = true := by
 simp only [zBX, zF9, z0, ze, zY, v7, zB1] at h
 exact ⟨zAT h.1, zAT h.2.1⟩
theorem zna {d : El zN} {x : El zF} (h : (zBX d x).1 = true) : zuL d x.1 := by
 obtain ⟨h1, h2⟩ := zch h
 obtain ⟨h3, h4⟩ := zhC h1
 exact ⟨ziS h2, h3, fun r hr => zml (h4 r hr)⟩
end
end Go.Proofs.YtkdidadegedmiaaGreat
