/- Structs as data, printed by a program: how they lie in cells; their sizes. -/
import Derived.Test.YthnilnggpbploaaGreatOpen0
import Derived.Test.YthnilnggpbploaaGreatHarn
namespace Go.Proofs.YthnilnggpbploaaGreat
open Go.RowKit
open Cel (rd own rd_len rd_one own_rd own_lt rd_below rd_mono own_keep)

theorem opnBool : Opn Tryz.prog 4 Bool := opn_bool Tryz.underlying4
theorem opnSInt : Opn Tryz.prog 72 (List Int) := opn_slice Tryz.underlying72 (by kernel_rfl) opnInt
def sznSInt (l : List Int) : Nat := l.length
theorem opnStr : Opn Tryz.prog 9 ByteArray := opn_string Tryz.underlying9
def szR (n : Nat) (left : Int) : Int := if (n : Int) ≤ left then left - n else -1
theorem szR_pos {n : Nat} {left : Int} (h : (n : Int) ≤ left) : szR n left = left - n := if_pos h
theorem szR_neg {n : Nat} {left : Int} (h : ¬ (n : Int) ≤ left) : szR n left = -1 := if_neg h
theorem sum_step {α : Type} (f : α → Nat) (l : List α) (k : Nat) (h : k < l.length) : ((l.take (k + 1)).map f).sum = ((l.take k).map f).sum + f l[k] := by rw [List.take_succ_eq_append_getElem h, List.map_append, List.sum_append]; simp
theorem sum_le {α : Type} (f : α → Nat) (l : List α) (k : Nat) : ((l.take k).map f).sum ≤ (l.map f).sum := by
  have e : (l.map f).sum = ((l.take k).map f).sum + ((l.drop k).map f).sum := by rw [← List.sum_append, ← List.map_append, List.take_append_drop]
  omega
structure ValD where
  K : Int
  N : Int
  S : ByteArray
instance : Flat ValD := Flat.iso fun x => (x.K, x.N, x.S)
def okVal (x : ValD) : Prop := In64 x.K ∧ In64 x.N ∧ x.S.size ≤ maxLen
theorem rd_Val {B : Nat} {w : World} {vs : List Value} {x : ValD} (h : rd B w vs x) : vs = [.int .i64 x.K, .int .i64 x.N, .string x.S] ∧ okVal x := by
  obtain ⟨a0, b0, rfl, ⟨rfl, i0⟩, ⟨a1, b1, rfl, ⟨rfl, i1⟩, ⟨rfl, i2⟩⟩⟩ := h
  exact ⟨rfl, ⟨i0, i1, i2⟩⟩
theorem Sl.atVal {w : World} {l : List ValD} {a : Option Addr} {n c : Nat} (h : Sl w l (.slice a n c)) (i : Nat) (hi : i < l.length) :
    ∃ b o , a = some ⟨b, o, none⟩ ∧ b < w.heap.size ∧ okVal l[i] ∧ (w.cell? ⟨b, o + i * 3, none⟩ = some (.int .i64 l[i].K) ∧ w.cell? ⟨b, o + i * 3 + 1, none⟩ = some (.int .i64 l[i].N) ∧ w.cell? ⟨b, o + i * 3 + 2, none⟩ = some (.string l[i].S)) := by
  obtain ⟨b, o, vs, h1, h2, h4, h3⟩ := h.at i hi
  obtain ⟨rfl, ho⟩ := rd_Val h4
  have hk : Cel.k ValD = 3 := rfl
  rw [hk] at h3
  exact ⟨b, o, h1, h2, ho, ⟨h3 0 (by decide), h3 1 (by decide), h3 2 (by decide)⟩⟩
theorem opnVal : Opn Tryz.prog 364 ValD :=
  opn_iso (fun x : ValD => (x.K, x.N, x.S)) (fun x => ⟨x.1, x.2.1, x.2.2⟩) (fun _ => rfl) (opn_struct Tryz.underlying364 (by kernel_rfl) (opnF_cons rfl (by kernel_rfl) opnInt (opnF_cons rfl (by kernel_rfl) opnInt (opnF_one rfl (by kernel_rfl) opnStr))))
theorem opnSVal : Opn Tryz.prog 361 (List ValD) := opn_slice Tryz.underlying361 (by kernel_rfl) opnVal
def sznVal (x : ValD) : Nat := x.S.size
def sznSVal (l : List ValD) : Nat := l.length + (l.map sznVal).sum
structure FactD where
  Kind : ByteArray
  Fields : List ValD
instance : Cel FactD := Cel.iso fun x => (x.Kind, x.Fields)
def okFact (x : FactD) : Prop := x.Kind.size ≤ maxLen
theorem rd_Fact {B : Nat} {w : World} {vs : List Value} {x : FactD} (h : rd B w vs x) : ∃ v0, vs = [.string x.Kind, v0] ∧ okFact x ∧ RdS B w x.Fields v0 := by
  obtain ⟨a0, b0, rfl, ⟨rfl, i0⟩, ⟨u1, rfl, s1⟩⟩ := h
  exact ⟨u1, rfl, i0, s1⟩
theorem Sl.atFact {w : World} {l : List FactD} {a : Option Addr} {n c : Nat} (h : Sl w l (.slice a n c)) (i : Nat) (hi : i < l.length) :
    ∃ b o v0, a = some ⟨b, o, none⟩ ∧ b < w.heap.size ∧ okFact l[i] ∧ (w.cell? ⟨b, o + i * 2, none⟩ = some (.string l[i].Kind) ∧ w.cell? ⟨b, o + i * 2 + 1, none⟩ = some (v0)) ∧ Sl w l[i].Fields v0 := by
  obtain ⟨b, o, vs, h1, h2, h4, h3⟩ := h.at i hi
  obtain ⟨v0, rfl, ho, s0⟩ := rd_Fact h4
  have hk : Cel.k FactD = 2 := rfl
  rw [hk] at h3
  exact ⟨b, o, v0, h1, h2, ho, ⟨h3 0 (by decide), h3 1 (by decide)⟩, s0⟩
theorem opnFact : Opn Tryz.prog 363 FactD :=
  opn_iso (fun x : FactD => (x.Kind, x.Fields)) (fun x => ⟨x.1, x.2⟩) (fun _ => rfl) (opn_struct Tryz.underlying363 (by kernel_rfl) (opnF_cons rfl (by kernel_rfl) opnStr (opnF_one rfl (by kernel_rfl) opnSVal)))
def sznFact (x : FactD) : Nat := x.Kind.size + sznSVal x.Fields
def sznSFact (l : List FactD) : Nat := l.length + (l.map sznFact).sum
structure ItemD where
  Id : Int
  F : FactD
instance : Cel ItemD := Cel.iso fun x => (x.Id, x.F)
def okItem (x : ItemD) : Prop := In64 x.Id ∧ okFact x.F
theorem rd_Item {B : Nat} {w : World} {vs : List Value} {x : ItemD} (h : rd B w vs x) : ∃ v0, vs = [.int .i64 x.Id, .string x.F.Kind, v0] ∧ okItem x ∧ RdS B w x.F.Fields v0 := by
  obtain ⟨a0, b0, rfl, ⟨rfl, i0⟩, h1⟩ := h
  obtain ⟨w1_0, rfl, o1, t1_0⟩ := rd_Fact h1
  exact ⟨w1_0, rfl, ⟨i0, o1⟩, t1_0⟩
theorem Sl.atItem {w : World} {l : List ItemD} {a : Option Addr} {n c : Nat} (h : Sl w l (.slice a n c)) (i : Nat) (hi : i < l.length) :
    ∃ b o v0, a = some ⟨b, o, none⟩ ∧ b < w.heap.size ∧ okItem l[i] ∧ (w.cell? ⟨b, o + i * 3, none⟩ = some (.int .i64 l[i].Id) ∧ w.cell? ⟨b, o + i * 3 + 1, none⟩ = some (.string l[i].F.Kind) ∧ w.cell? ⟨b, o + i * 3 + 2, none⟩ = some (v0)) ∧ Sl w l[i].F.Fields v0 := by
  obtain ⟨b, o, vs, h1, h2, h4, h3⟩ := h.at i hi
  obtain ⟨v0, rfl, ho, s0⟩ := rd_Item h4
  have hk : Cel.k ItemD = 3 := rfl
  rw [hk] at h3
  exact ⟨b, o, v0, h1, h2, ho, ⟨h3 0 (by decide), h3 1 (by decide), h3 2 (by decide)⟩, s0⟩
theorem opnItem : Opn Tryz.prog 430 ItemD :=
  opn_iso (fun x : ItemD => (x.Id, x.F)) (fun x => ⟨x.1, x.2⟩) (fun _ => rfl) (opn_struct Tryz.underlying430 (by kernel_rfl) (opnF_cons rfl (by kernel_rfl) opnInt (opnF_one rfl (by kernel_rfl) opnFact)))
theorem opnSItem : Opn Tryz.prog 136 (List ItemD) := opn_slice Tryz.underlying136 (by kernel_rfl) opnItem
def sznItem (x : ItemD) : Nat := sznFact x.F
def sznSItem (l : List ItemD) : Nat := l.length + (l.map sznItem).sum
structure StoreD where
  Items : List ItemD
  Next : Int
instance : Cel StoreD := Cel.iso fun x => (x.Items, x.Next)
def okStore (x : StoreD) : Prop := In64 x.Next
theorem rd_Store {B : Nat} {w : World} {vs : List Value} {x : StoreD} (h : rd B w vs x) : ∃ v0, vs = [v0, .int .i64 x.Next] ∧ okStore x ∧ RdS B w x.Items v0 := by
  obtain ⟨a0, b0, rfl, ⟨u0, rfl, s0⟩, ⟨rfl, i1⟩⟩ := h
  exact ⟨u0, rfl, i1, s0⟩
theorem Sl.atStore {w : World} {l : List StoreD} {a : Option Addr} {n c : Nat} (h : Sl w l (.slice a n c)) (i : Nat) (hi : i < l.length) :
    ∃ b o v0, a = some ⟨b, o, none⟩ ∧ b < w.heap.size ∧ okStore l[i] ∧ (w.cell? ⟨b, o + i * 2, none⟩ = some (v0) ∧ w.cell? ⟨b, o + i * 2 + 1, none⟩ = some (.int .i64 l[i].Next)) ∧ Sl w l[i].Items v0 := by
  obtain ⟨b, o, vs, h1, h2, h4, h3⟩ := h.at i hi
  obtain ⟨v0, rfl, ho, s0⟩ := rd_Store h4
  have hk : Cel.k StoreD = 2 := rfl
  rw [hk] at h3
  exact ⟨b, o, v0, h1, h2, ho, ⟨h3 0 (by decide), h3 1 (by decide)⟩, s0⟩
theorem opnStore : Opn Tryz.prog 138 StoreD :=
  opn_iso (fun x : StoreD => (x.Items, x.Next)) (fun x => ⟨x.1, x.2⟩) (fun _ => rfl) (opn_struct Tryz.underlying138 (by kernel_rfl) (opnF_cons rfl (by kernel_rfl) opnSItem (opnF_one rfl (by kernel_rfl) opnInt)))
def sznStore (x : StoreD) : Nat := sznSItem x.Items
def sznSStore (l : List StoreD) : Nat := l.length + (l.map sznStore).sum
structure ArgD where
  K : Int
  S : ByteArray
  V : ValD
instance : Flat ArgD := Flat.iso fun x => (x.K, x.S, x.V)
def okArg (x : ArgD) : Prop := In64 x.K ∧ x.S.size ≤ maxLen ∧ okVal x.V
theorem rd_Arg {B : Nat} {w : World} {vs : List Value} {x : ArgD} (h : rd B w vs x) : vs = [.int .i64 x.K, .string x.S, .int .i64 x.V.K, .int .i64 x.V.N, .string x.V.S] ∧ okArg x := by
  obtain ⟨a0, b0, rfl, ⟨rfl, i0⟩, ⟨a1, b1, rfl, ⟨rfl, i1⟩, h2⟩⟩ := h
  obtain ⟨rfl, o2⟩ := rd_Val h2
  exact ⟨rfl, ⟨i0, i1, o2⟩⟩
theorem Sl.atArg {w : World} {l : List ArgD} {a : Option Addr} {n c : Nat} (h : Sl w l (.slice a n c)) (i : Nat) (hi : i < l.length) :
    ∃ b o , a = some ⟨b, o, none⟩ ∧ b < w.heap.size ∧ okArg l[i] ∧ (w.cell? ⟨b, o + i * 5, none⟩ = some (.int .i64 l[i].K) ∧ w.cell? ⟨b, o + i * 5 + 1, none⟩ = some (.string l[i].S) ∧ w.cell? ⟨b, o + i * 5 + 2, none⟩ = some (.int .i64 l[i].V.K) ∧ w.cell? ⟨b, o + i * 5 + 3, none⟩ = some (.int .i64 l[i].V.N) ∧ w.cell? ⟨b, o + i * 5 + 4, none⟩ = some (.string l[i].V.S)) := by
  obtain ⟨b, o, vs, h1, h2, h4, h3⟩ := h.at i hi
  obtain ⟨rfl, ho⟩ := rd_Arg h4
  have hk : Cel.k ArgD = 5 := rfl
  rw [hk] at h3
  exact ⟨b, o, h1, h2, ho, ⟨h3 0 (by decide), h3 1 (by decide), h3 2 (by decide), h3 3 (by decide), h3 4 (by decide)⟩⟩
theorem opnArg : Opn Tryz.prog 421 ArgD :=
  opn_iso (fun x : ArgD => (x.K, x.S, x.V)) (fun x => ⟨x.1, x.2.1, x.2.2⟩) (fun _ => rfl) (opn_struct Tryz.underlying421 (by kernel_rfl) (opnF_cons rfl (by kernel_rfl) opnInt (opnF_cons rfl (by kernel_rfl) opnStr (opnF_one rfl (by kernel_rfl) opnVal))))
theorem opnSArg : Opn Tryz.prog 416 (List ArgD) := opn_slice Tryz.underlying416 (by kernel_rfl) opnArg
def sznArg (x : ArgD) : Nat := x.S.size + sznVal x.V
def sznSArg (l : List ArgD) : Nat := l.length + (l.map sznArg).sum
structure PatD where
  Kind : ByteArray
  Args : List ArgD
  Not : Bool
instance : Cel PatD := Cel.iso fun x => (x.Kind, x.Args, x.Not)
def okPat (x : PatD) : Prop := x.Kind.size ≤ maxLen
theorem rd_Pat {B : Nat} {w : World} {vs : List Value} {x : PatD} (h : rd B w vs x) : ∃ v0, vs = [.string x.Kind, v0, .bool x.Not] ∧ okPat x ∧ RdS B w x.Args v0 := by
  obtain ⟨a0, b0, rfl, ⟨rfl, i0⟩, ⟨a1, b1, rfl, ⟨u1, rfl, s1⟩, rfl⟩⟩ := h
  exact ⟨u1, rfl, i0, s1⟩
theorem Sl.atPat {w : World} {l : List PatD} {a : Option Addr} {n c : Nat} (h : Sl w l (.slice a n c)) (i : Nat) (hi : i < l.length) :
    ∃ b o v0, a = some ⟨b, o, none⟩ ∧ b < w.heap.size ∧ okPat l[i] ∧ (w.cell? ⟨b, o + i * 3, none⟩ = some (.string l[i].Kind) ∧ w.cell? ⟨b, o + i * 3 + 1, none⟩ = some (v0) ∧ w.cell? ⟨b, o + i * 3 + 2, none⟩ = some (.bool l[i].Not)) ∧ Sl w l[i].Args v0 := by
  obtain ⟨b, o, vs, h1, h2, h4, h3⟩ := h.at i hi
  obtain ⟨v0, rfl, ho, s0⟩ := rd_Pat h4
  have hk : Cel.k PatD = 3 := rfl
  rw [hk] at h3
  exact ⟨b, o, v0, h1, h2, ho, ⟨h3 0 (by decide), h3 1 (by decide), h3 2 (by decide)⟩, s0⟩
theorem opnPat : Opn Tryz.prog 418 PatD :=
  opn_iso (fun x : PatD => (x.Kind, x.Args, x.Not)) (fun x => ⟨x.1, x.2.1, x.2.2⟩) (fun _ => rfl) (opn_struct Tryz.underlying418 (by kernel_rfl) (opnF_cons rfl (by kernel_rfl) opnStr (opnF_cons rfl (by kernel_rfl) opnSArg (opnF_one rfl (by kernel_rfl) opnBool))))
theorem opnSPat : Opn Tryz.prog 278 (List PatD) := opn_slice Tryz.underlying278 (by kernel_rfl) opnPat
def sznPat (x : PatD) : Nat := x.Kind.size + sznSArg x.Args
def sznSPat (l : List PatD) : Nat := l.length + (l.map sznPat).sum
structure BindD where
  Name : ByteArray
  V : ValD
instance : Flat BindD := Flat.iso fun x => (x.Name, x.V)
def okBind (x : BindD) : Prop := x.Name.size ≤ maxLen ∧ okVal x.V
theorem rd_Bind {B : Nat} {w : World} {vs : List Value} {x : BindD} (h : rd B w vs x) : vs = [.string x.Name, .int .i64 x.V.K, .int .i64 x.V.N, .string x.V.S] ∧ okBind x := by
  obtain ⟨a0, b0, rfl, ⟨rfl, i0⟩, h1⟩ := h
  obtain ⟨rfl, o1⟩ := rd_Val h1
  exact ⟨rfl, ⟨i0, o1⟩⟩
theorem Sl.atBind {w : World} {l : List BindD} {a : Option Addr} {n c : Nat} (h : Sl w l (.slice a n c)) (i : Nat) (hi : i < l.length) :
    ∃ b o , a = some ⟨b, o, none⟩ ∧ b < w.heap.size ∧ okBind l[i] ∧ (w.cell? ⟨b, o + i * 4, none⟩ = some (.string l[i].Name) ∧ w.cell? ⟨b, o + i * 4 + 1, none⟩ = some (.int .i64 l[i].V.K) ∧ w.cell? ⟨b, o + i * 4 + 2, none⟩ = some (.int .i64 l[i].V.N) ∧ w.cell? ⟨b, o + i * 4 + 3, none⟩ = some (.string l[i].V.S)) := by
  obtain ⟨b, o, vs, h1, h2, h4, h3⟩ := h.at i hi
  obtain ⟨rfl, ho⟩ := rd_Bind h4
  have hk : Cel.k BindD = 4 := rfl
  rw [hk] at h3
  exact ⟨b, o, h1, h2, ho, ⟨h3 0 (by decide), h3 1 (by decide), h3 2 (by decide), h3 3 (by decide)⟩⟩
theorem opnBind : Opn Tryz.prog 466 BindD :=
  opn_iso (fun x : BindD => (x.Name, x.V)) (fun x => ⟨x.1, x.2⟩) (fun _ => rfl) (opn_struct Tryz.underlying466 (by kernel_rfl) (opnF_cons rfl (by kernel_rfl) opnStr (opnF_one rfl (by kernel_rfl) opnVal)))
theorem opnSBind : Opn Tryz.prog 357 (List BindD) := opn_slice Tryz.underlying357 (by kernel_rfl) opnBind
def sznBind (x : BindD) : Nat := x.Name.size + sznVal x.V
def sznSBind (l : List BindD) : Nat := l.length + (l.map sznBind).sum
structure CondD where
  Op : Int
  L : ArgD
  R : ArgD
instance : Flat CondD := Flat.iso fun x => (x.Op, x.L, x.R)
def okCond (x : CondD) : Prop := In64 x.Op ∧ okArg x.L ∧ okArg x.R
theorem rd_Cond {B : Nat} {w : World} {vs : List Value} {x : CondD} (h : rd B w vs x) : vs = [.int .i64 x.Op, .int .i64 x.L.K, .string x.L.S, .int .i64 x.L.V.K, .int .i64 x.L.V.N, .string x.L.V.S, .int .i64 x.R.K, .string x.R.S, .int .i64 x.R.V.K, .int .i64 x.R.V.N, .string x.R.V.S] ∧ okCond x := by
  obtain ⟨a0, b0, rfl, ⟨rfl, i0⟩, ⟨a1, b1, rfl, h1, h2⟩⟩ := h
  obtain ⟨rfl, o1⟩ := rd_Arg h1
  obtain ⟨rfl, o2⟩ := rd_Arg h2
  exact ⟨rfl, ⟨i0, o1, o2⟩⟩
theorem Sl.atCond {w : World} {l : List CondD} {a : Option Addr} {n c : Nat} (h : Sl w l (.slice a n c)) (i : Nat) (hi : i < l.length) :
    ∃ b o , a = some ⟨b, o, none⟩ ∧ b < w.heap.size ∧ okCond l[i] ∧ (w.cell? ⟨b, o + i * 11, none⟩ = some (.int .i64 l[i].Op) ∧ w.cell? ⟨b, o + i * 11 + 1, none⟩ = some (.int .i64 l[i].L.K) ∧ w.cell? ⟨b, o + i * 11 + 2, none⟩ = some (.string l[i].L.S) ∧ w.cell? ⟨b, o + i * 11 + 3, none⟩ = some (.int .i64 l[i].L.V.K) ∧ w.cell? ⟨b, o + i * 11 + 4, none⟩ = some (.int .i64 l[i].L.V.N) ∧ w.cell? ⟨b, o + i * 11 + 5, none⟩ = some (.string l[i].L.V.S) ∧ w.cell? ⟨b, o + i * 11 + 6, none⟩ = some (.int .i64 l[i].R.K) ∧ w.cell? ⟨b, o + i * 11 + 7, none⟩ = some (.string l[i].R.S) ∧ w.cell? ⟨b, o + i * 11 + 8, none⟩ = some (.int .i64 l[i].R.V.K) ∧ w.cell? ⟨b, o + i * 11 + 9, none⟩ = some (.int .i64 l[i].R.V.N) ∧ w.cell? ⟨b, o + i * 11 + 10, none⟩ = some (.string l[i].R.V.S)) := by
  obtain ⟨b, o, vs, h1, h2, h4, h3⟩ := h.at i hi
  obtain ⟨rfl, ho⟩ := rd_Cond h4
  have hk : Cel.k CondD = 11 := rfl
  rw [hk] at h3
  exact ⟨b, o, h1, h2, ho, ⟨h3 0 (by decide), h3 1 (by decide), h3 2 (by decide), h3 3 (by decide), h3 4 (by decide), h3 5 (by decide), h3 6 (by decide), h3 7 (by decide), h3 8 (by decide), h3 9 (by decide), h3 10 (by decide)⟩⟩
theorem opnCond : Opn Tryz.prog 423 CondD :=
  opn_iso (fun x : CondD => (x.Op, x.L, x.R)) (fun x => ⟨x.1, x.2.1, x.2.2⟩) (fun _ => rfl) (opn_struct Tryz.underlying423 (by kernel_rfl) (opnF_cons rfl (by kernel_rfl) opnInt (opnF_cons rfl (by kernel_rfl) opnArg (opnF_one rfl (by kernel_rfl) opnArg))))
theorem opnSCond : Opn Tryz.prog 279 (List CondD) := opn_slice Tryz.underlying279 (by kernel_rfl) opnCond
def sznCond (x : CondD) : Nat := sznArg x.L + sznArg x.R
def sznSCond (l : List CondD) : Nat := l.length + (l.map sznCond).sum
structure ExprD where
  Op : ByteArray
  L : ArgD
  R : ArgD
instance : Flat ExprD := Flat.iso fun x => (x.Op, x.L, x.R)
def okExpr (x : ExprD) : Prop := x.Op.size ≤ maxLen ∧ okArg x.L ∧ okArg x.R
theorem rd_Expr {B : Nat} {w : World} {vs : List Value} {x : ExprD} (h : rd B w vs x) : vs = [.string x.Op, .int .i64 x.L.K, .string x.L.S, .int .i64 x.L.V.K, .int .i64 x.L.V.N, .string x.L.V.S, .int .i64 x.R.K, .string x.R.S, .int .i64 x.R.V.K, .int .i64 x.R.V.N, .string x.R.V.S] ∧ okExpr x := by
  obtain ⟨a0, b0, rfl, ⟨rfl, i0⟩, ⟨a1, b1, rfl, h1, h2⟩⟩ := h
  obtain ⟨rfl, o1⟩ := rd_Arg h1
  obtain ⟨rfl, o2⟩ := rd_Arg h2
  exact ⟨rfl, ⟨i0, o1, o2⟩⟩
theorem Sl.atExpr {w : World} {l : List ExprD} {a : Option Addr} {n c : Nat} (h : Sl w l (.slice a n c)) (i : Nat) (hi : i < l.length) :
    ∃ b o , a = some ⟨b, o, none⟩ ∧ b < w.heap.size ∧ okExpr l[i] ∧ (w.cell? ⟨b, o + i * 11, none⟩ = some (.string l[i].Op) ∧ w.cell? ⟨b, o + i * 11 + 1, none⟩ = some (.int .i64 l[i].L.K) ∧ w.cell? ⟨b, o + i * 11 + 2, none⟩ = some (.string l[i].L.S) ∧ w.cell? ⟨b, o + i * 11 + 3, none⟩ = some (.int .i64 l[i].L.V.K) ∧ w.cell? ⟨b, o + i * 11 + 4, none⟩ = some (.int .i64 l[i].L.V.N) ∧ w.cell? ⟨b, o + i * 11 + 5, none⟩ = some (.string l[i].L.V.S) ∧ w.cell? ⟨b, o + i * 11 + 6, none⟩ = some (.int .i64 l[i].R.K) ∧ w.cell? ⟨b, o + i * 11 + 7, none⟩ = some (.string l[i].R.S) ∧ w.cell? ⟨b, o + i * 11 + 8, none⟩ = some (.int .i64 l[i].R.V.K) ∧ w.cell? ⟨b, o + i * 11 + 9, none⟩ = some (.int .i64 l[i].R.V.N) ∧ w.cell? ⟨b, o + i * 11 + 10, none⟩ = some (.string l[i].R.V.S)) := by
  obtain ⟨b, o, vs, h1, h2, h4, h3⟩ := h.at i hi
  obtain ⟨rfl, ho⟩ := rd_Expr h4
  have hk : Cel.k ExprD = 11 := rfl
  rw [hk] at h3
  exact ⟨b, o, h1, h2, ho, ⟨h3 0 (by decide), h3 1 (by decide), h3 2 (by decide), h3 3 (by decide), h3 4 (by decide), h3 5 (by decide), h3 6 (by decide), h3 7 (by decide), h3 8 (by decide), h3 9 (by decide), h3 10 (by decide)⟩⟩
theorem opnExpr : Opn Tryz.prog 492 ExprD :=
  opn_iso (fun x : ExprD => (x.Op, x.L, x.R)) (fun x => ⟨x.1, x.2.1, x.2.2⟩) (fun _ => rfl) (opn_struct Tryz.underlying492 (by kernel_rfl) (opnF_cons rfl (by kernel_rfl) opnStr (opnF_cons rfl (by kernel_rfl) opnArg (opnF_one rfl (by kernel_rfl) opnArg))))
theorem opnSExpr : Opn Tryz.prog 425 (List ExprD) := opn_slice Tryz.underlying425 (by kernel_rfl) opnExpr
def sznExpr (x : ExprD) : Nat := x.Op.size + sznArg x.L + sznArg x.R
def sznSExpr (l : List ExprD) : Nat := l.length + (l.map sznExpr).sum
structure ActD where
  Kind : Int
  Name : ByteArray
  Args : List ExprD
  N : Int
  Undo : ByteArray
instance : Cel ActD := Cel.iso fun x => (x.Kind, x.Name, x.Args, x.N, x.Undo)
def okAct (x : ActD) : Prop := In64 x.Kind ∧ x.Name.size ≤ maxLen ∧ In64 x.N ∧ x.Undo.size ≤ maxLen
theorem rd_Act {B : Nat} {w : World} {vs : List Value} {x : ActD} (h : rd B w vs x) : ∃ v0, vs = [.int .i64 x.Kind, .string x.Name, v0, .int .i64 x.N, .string x.Undo] ∧ okAct x ∧ RdS B w x.Args v0 := by
  obtain ⟨a0, b0, rfl, ⟨rfl, i0⟩, ⟨a1, b1, rfl, ⟨rfl, i1⟩, ⟨a2, b2, rfl, ⟨u2, rfl, s2⟩, ⟨a3, b3, rfl, ⟨rfl, i3⟩, ⟨rfl, i4⟩⟩⟩⟩⟩ := h
  exact ⟨u2, rfl, ⟨i0, i1, i3, i4⟩, s2⟩
theorem Sl.atAct {w : World} {l : List ActD} {a : Option Addr} {n c : Nat} (h : Sl w l (.slice a n c)) (i : Nat) (hi : i < l.length) :
    ∃ b o v0, a = some ⟨b, o, none⟩ ∧ b < w.heap.size ∧ okAct l[i] ∧ (w.cell? ⟨b, o + i * 5, none⟩ = some (.int .i64 l[i].Kind) ∧ w.cell? ⟨b, o + i * 5 + 1, none⟩ = some (.string l[i].Name) ∧ w.cell? ⟨b, o + i * 5 + 2, none⟩ = some (v0) ∧ w.cell? ⟨b, o + i * 5 + 3, none⟩ = some (.int .i64 l[i].N) ∧ w.cell? ⟨b, o + i * 5 + 4, none⟩ = some (.string l[i].Undo)) ∧ Sl w l[i].Args v0 := by
  obtain ⟨b, o, vs, h1, h2, h4, h3⟩ := h.at i hi
  obtain ⟨v0, rfl, ho, s0⟩ := rd_Act h4
  have hk : Cel.k ActD = 5 := rfl
  rw [hk] at h3
  exact ⟨b, o, v0, h1, h2, ho, ⟨h3 0 (by decide), h3 1 (by decide), h3 2 (by decide), h3 3 (by decide), h3 4 (by decide)⟩, s0⟩
theorem opnAct : Opn Tryz.prog 427 ActD :=
  opn_iso (fun x : ActD => (x.Kind, x.Name, x.Args, x.N, x.Undo)) (fun x => ⟨x.1, x.2.1, x.2.2.1, x.2.2.2.1, x.2.2.2.2⟩) (fun _ => rfl) (opn_struct Tryz.underlying427 (by kernel_rfl) (opnF_cons rfl (by kernel_rfl) opnInt (opnF_cons rfl (by kernel_rfl) opnStr (opnF_cons rfl (by kernel_rfl) opnSExpr (opnF_cons rfl (by kernel_rfl) opnInt (opnF_one rfl (by kernel_rfl) opnStr))))))
theorem opnSAct : Opn Tryz.prog 280 (List ActD) := opn_slice Tryz.underlying280 (by kernel_rfl) opnAct
def sznAct (x : ActD) : Nat := x.Name.size + sznSExpr x.Args + x.Undo.size
def sznSAct (l : List ActD) : Nat := l.length + (l.map sznAct).sum
structure RuleD where
  Name : ByteArray
  Sal : Int
  Pats : List PatD
  Conds : List CondD
  Acts : List ActD
instance : Cel RuleD := Cel.iso fun x => (x.Name, x.Sal, x.Pats, x.Conds, x.Acts)
def okRule (x : RuleD) : Prop := x.Name.size ≤ maxLen ∧ In64 x.Sal
theorem rd_Rule {B : Nat} {w : World} {vs : List Value} {x : RuleD} (h : rd B w vs x) : ∃ v0 v1 v2, vs = [.string x.Name, .int .i64 x.Sal, v0, v1, v2] ∧ okRule x ∧ RdS B w x.Pats v0 ∧ RdS B w x.Conds v1 ∧ RdS B w x.Acts v2 := by
  obtain ⟨a0, b0, rfl, ⟨rfl, i0⟩, ⟨a1, b1, rfl, ⟨rfl, i1⟩, ⟨a2, b2, rfl, ⟨u2, rfl, s2⟩, ⟨a3, b3, rfl, ⟨u3, rfl, s3⟩, ⟨u4, rfl, s4⟩⟩⟩⟩⟩ := h
  exact ⟨u2, u3, u4, rfl, ⟨i0, i1⟩, s2, s3, s4⟩
theorem Sl.atRule {w : World} {l : List RuleD} {a : Option Addr} {n c : Nat} (h : Sl w l (.slice a n c)) (i : Nat) (hi : i < l.length) :
    ∃ b o v0 v1 v2, a = some ⟨b, o, none⟩ ∧ b < w.heap.size ∧ okRule l[i] ∧ (w.cell? ⟨b, o + i * 5, none⟩ = some (.string l[i].Name) ∧ w.cell? ⟨b, o + i * 5 + 1, none⟩ = some (.int .i64 l[i].Sal) ∧ w.cell? ⟨b, o + i * 5 + 2, none⟩ = some (v0) ∧ w.cell? ⟨b, o + i * 5 + 3, none⟩ = some (v1) ∧ w.cell? ⟨b, o + i * 5 + 4, none⟩ = some (v2)) ∧ Sl w l[i].Pats v0 ∧ Sl w l[i].Conds v1 ∧ Sl w l[i].Acts v2 := by
  obtain ⟨b, o, vs, h1, h2, h4, h3⟩ := h.at i hi
  obtain ⟨v0, v1, v2, rfl, ho, s0, s1, s2⟩ := rd_Rule h4
  have hk : Cel.k RuleD = 5 := rfl
  rw [hk] at h3
  exact ⟨b, o, v0, v1, v2, h1, h2, ho, ⟨h3 0 (by decide), h3 1 (by decide), h3 2 (by decide), h3 3 (by decide), h3 4 (by decide)⟩, s0, s1, s2⟩
theorem opnRule : Opn Tryz.prog 282 RuleD :=
  opn_iso (fun x : RuleD => (x.Name, x.Sal, x.Pats, x.Conds, x.Acts)) (fun x => ⟨x.1, x.2.1, x.2.2.1, x.2.2.2.1, x.2.2.2.2⟩) (fun _ => rfl) (opn_struct Tryz.underlying282 (by kernel_rfl) (opnF_cons rfl (by kernel_rfl) opnStr (opnF_cons rfl (by kernel_rfl) opnInt (opnF_cons rfl (by kernel_rfl) opnSPat (opnF_cons rfl (by kernel_rfl) opnSCond (opnF_one rfl (by kernel_rfl) opnSAct))))))
theorem opnSRule : Opn Tryz.prog 132 (List RuleD) := opn_slice Tryz.underlying132 (by kernel_rfl) opnRule
def sznRule (x : RuleD) : Nat := x.Name.size + sznSPat x.Pats + sznSCond x.Conds + sznSAct x.Acts
def sznSRule (l : List RuleD) : Nat := l.length + (l.map sznRule).sum
structure DefD where
  Name : ByteArray
  Rules : List RuleD
instance : Cel DefD := Cel.iso fun x => (x.Name, x.Rules)
def okDef (x : DefD) : Prop := x.Name.size ≤ maxLen
theorem rd_Def {B : Nat} {w : World} {vs : List Value} {x : DefD} (h : rd B w vs x) : ∃ v0, vs = [.string x.Name, v0] ∧ okDef x ∧ RdS B w x.Rules v0 := by
  obtain ⟨a0, b0, rfl, ⟨rfl, i0⟩, ⟨u1, rfl, s1⟩⟩ := h
  exact ⟨u1, rfl, i0, s1⟩
theorem Sl.atDef {w : World} {l : List DefD} {a : Option Addr} {n c : Nat} (h : Sl w l (.slice a n c)) (i : Nat) (hi : i < l.length) :
    ∃ b o v0, a = some ⟨b, o, none⟩ ∧ b < w.heap.size ∧ okDef l[i] ∧ (w.cell? ⟨b, o + i * 2, none⟩ = some (.string l[i].Name) ∧ w.cell? ⟨b, o + i * 2 + 1, none⟩ = some (v0)) ∧ Sl w l[i].Rules v0 := by
  obtain ⟨b, o, vs, h1, h2, h4, h3⟩ := h.at i hi
  obtain ⟨v0, rfl, ho, s0⟩ := rd_Def h4
  have hk : Cel.k DefD = 2 := rfl
  rw [hk] at h3
  exact ⟨b, o, v0, h1, h2, ho, ⟨h3 0 (by decide), h3 1 (by decide)⟩, s0⟩
theorem opnDef : Opn Tryz.prog 134 DefD :=
  opn_iso (fun x : DefD => (x.Name, x.Rules)) (fun x => ⟨x.1, x.2⟩) (fun _ => rfl) (opn_struct Tryz.underlying134 (by kernel_rfl) (opnF_cons rfl (by kernel_rfl) opnStr (opnF_one rfl (by kernel_rfl) opnSRule)))
theorem opnSDef : Opn Tryz.prog 22 (List DefD) := opn_slice Tryz.underlying22 (by kernel_rfl) opnDef
def sznDef (x : DefD) : Nat := x.Name.size + sznSRule x.Rules
def sznSDef (l : List DefD) : Nat := l.length + (l.map sznDef).sum
structure MatchD where
  Rule : Int
  Ids : List Int
  Binds : List BindD
instance : Cel MatchD := Cel.iso fun x => (x.Rule, x.Ids, x.Binds)
def okMatch (x : MatchD) : Prop := In64 x.Rule
theorem rd_Match {B : Nat} {w : World} {vs : List Value} {x : MatchD} (h : rd B w vs x) : ∃ v0 v1, vs = [.int .i64 x.Rule, v0, v1] ∧ okMatch x ∧ RdS B w x.Ids v0 ∧ RdS B w x.Binds v1 := by
  obtain ⟨a0, b0, rfl, ⟨rfl, i0⟩, ⟨a1, b1, rfl, ⟨u1, rfl, s1⟩, ⟨u2, rfl, s2⟩⟩⟩ := h
  exact ⟨u1, u2, rfl, i0, s1, s2⟩
theorem Sl.atMatch {w : World} {l : List MatchD} {a : Option Addr} {n c : Nat} (h : Sl w l (.slice a n c)) (i : Nat) (hi : i < l.length) :
    ∃ b o v0 v1, a = some ⟨b, o, none⟩ ∧ b < w.heap.size ∧ okMatch l[i] ∧ (w.cell? ⟨b, o + i * 3, none⟩ = some (.int .i64 l[i].Rule) ∧ w.cell? ⟨b, o + i * 3 + 1, none⟩ = some (v0) ∧ w.cell? ⟨b, o + i * 3 + 2, none⟩ = some (v1)) ∧ Sl w l[i].Ids v0 ∧ Sl w l[i].Binds v1 := by
  obtain ⟨b, o, vs, h1, h2, h4, h3⟩ := h.at i hi
  obtain ⟨v0, v1, rfl, ho, s0, s1⟩ := rd_Match h4
  have hk : Cel.k MatchD = 3 := rfl
  rw [hk] at h3
  exact ⟨b, o, v0, v1, h1, h2, ho, ⟨h3 0 (by decide), h3 1 (by decide), h3 2 (by decide)⟩, s0, s1⟩
theorem opnMatch : Opn Tryz.prog 359 MatchD :=
  opn_iso (fun x : MatchD => (x.Rule, x.Ids, x.Binds)) (fun x => ⟨x.1, x.2.1, x.2.2⟩) (fun _ => rfl) (opn_struct Tryz.underlying359 (by kernel_rfl) (opnF_cons rfl (by kernel_rfl) opnInt (opnF_cons rfl (by kernel_rfl) opnSInt (opnF_one rfl (by kernel_rfl) opnSBind))))
theorem opnSMatch : Opn Tryz.prog 139 (List MatchD) := opn_slice Tryz.underlying139 (by kernel_rfl) opnMatch
def sznMatch (x : MatchD) : Nat := sznSInt x.Ids + sznSBind x.Binds
def sznSMatch (l : List MatchD) : Nat := l.length + (l.map sznMatch).sum
structure TimerD where
  At : Int
  F : FactD
instance : Cel TimerD := Cel.iso fun x => (x.At, x.F)
def okTimer (x : TimerD) : Prop := In64 x.At ∧ okFact x.F
theorem rd_Timer {B : Nat} {w : World} {vs : List Value} {x : TimerD} (h : rd B w vs x) : ∃ v0, vs = [.int .i64 x.At, .string x.F.Kind, v0] ∧ okTimer x ∧ RdS B w x.F.Fields v0 := by
  obtain ⟨a0, b0, rfl, ⟨rfl, i0⟩, h1⟩ := h
  obtain ⟨w1_0, rfl, o1, t1_0⟩ := rd_Fact h1
  exact ⟨w1_0, rfl, ⟨i0, o1⟩, t1_0⟩
theorem Sl.atTimer {w : World} {l : List TimerD} {a : Option Addr} {n c : Nat} (h : Sl w l (.slice a n c)) (i : Nat) (hi : i < l.length) :
    ∃ b o v0, a = some ⟨b, o, none⟩ ∧ b < w.heap.size ∧ okTimer l[i] ∧ (w.cell? ⟨b, o + i * 3, none⟩ = some (.int .i64 l[i].At) ∧ w.cell? ⟨b, o + i * 3 + 1, none⟩ = some (.string l[i].F.Kind) ∧ w.cell? ⟨b, o + i * 3 + 2, none⟩ = some (v0)) ∧ Sl w l[i].F.Fields v0 := by
  obtain ⟨b, o, vs, h1, h2, h4, h3⟩ := h.at i hi
  obtain ⟨v0, rfl, ho, s0⟩ := rd_Timer h4
  have hk : Cel.k TimerD = 3 := rfl
  rw [hk] at h3
  exact ⟨b, o, v0, h1, h2, ho, ⟨h3 0 (by decide), h3 1 (by decide), h3 2 (by decide)⟩, s0⟩
theorem opnTimer : Opn Tryz.prog 369 TimerD :=
  opn_iso (fun x : TimerD => (x.At, x.F)) (fun x => ⟨x.1, x.2⟩) (fun _ => rfl) (opn_struct Tryz.underlying369 (by kernel_rfl) (opnF_cons rfl (by kernel_rfl) opnInt (opnF_one rfl (by kernel_rfl) opnFact)))
theorem opnSTimer : Opn Tryz.prog 141 (List TimerD) := opn_slice Tryz.underlying141 (by kernel_rfl) opnTimer
def sznTimer (x : TimerD) : Nat := sznFact x.F
def sznSTimer (l : List TimerD) : Nat := l.length + (l.map sznTimer).sum
structure TaskD where
  F : FactD
  Undo : ByteArray
  State : Int
  Tries : Int
  Due : Int
  V : ValD
instance : Cel TaskD := Cel.iso fun x => (x.F, x.Undo, x.State, x.Tries, x.Due, x.V)
def okTask (x : TaskD) : Prop := okFact x.F ∧ x.Undo.size ≤ maxLen ∧ In64 x.State ∧ In64 x.Tries ∧ In64 x.Due ∧ okVal x.V
theorem rd_Task {B : Nat} {w : World} {vs : List Value} {x : TaskD} (h : rd B w vs x) : ∃ v0, vs = [.string x.F.Kind, v0, .string x.Undo, .int .i64 x.State, .int .i64 x.Tries, .int .i64 x.Due, .int .i64 x.V.K, .int .i64 x.V.N, .string x.V.S] ∧ okTask x ∧ RdS B w x.F.Fields v0 := by
  obtain ⟨a0, b0, rfl, h0, ⟨a1, b1, rfl, ⟨rfl, i1⟩, ⟨a2, b2, rfl, ⟨rfl, i2⟩, ⟨a3, b3, rfl, ⟨rfl, i3⟩, ⟨a4, b4, rfl, ⟨rfl, i4⟩, h5⟩⟩⟩⟩⟩ := h
  obtain ⟨w0_0, rfl, o0, t0_0⟩ := rd_Fact h0
  obtain ⟨rfl, o5⟩ := rd_Val h5
  exact ⟨w0_0, rfl, ⟨o0, i1, i2, i3, i4, o5⟩, t0_0⟩
theorem Sl.atTask {w : World} {l : List TaskD} {a : Option Addr} {n c : Nat} (h : Sl w l (.slice a n c)) (i : Nat) (hi : i < l.length) :
    ∃ b o v0, a = some ⟨b, o, none⟩ ∧ b < w.heap.size ∧ okTask l[i] ∧ (w.cell? ⟨b, o + i * 9, none⟩ = some (.string l[i].F.Kind) ∧ w.cell? ⟨b, o + i * 9 + 1, none⟩ = some (v0) ∧ w.cell? ⟨b, o + i * 9 + 2, none⟩ = some (.string l[i].Undo) ∧ w.cell? ⟨b, o + i * 9 + 3, none⟩ = some (.int .i64 l[i].State) ∧ w.cell? ⟨b, o + i * 9 + 4, none⟩ = some (.int .i64 l[i].Tries) ∧ w.cell? ⟨b, o + i * 9 + 5, none⟩ = some (.int .i64 l[i].Due) ∧ w.cell? ⟨b, o + i * 9 + 6, none⟩ = some (.int .i64 l[i].V.K) ∧ w.cell? ⟨b, o + i * 9 + 7, none⟩ = some (.int .i64 l[i].V.N) ∧ w.cell? ⟨b, o + i * 9 + 8, none⟩ = some (.string l[i].V.S)) ∧ Sl w l[i].F.Fields v0 := by
  obtain ⟨b, o, vs, h1, h2, h4, h3⟩ := h.at i hi
  obtain ⟨v0, rfl, ho, s0⟩ := rd_Task h4
  have hk : Cel.k TaskD = 9 := rfl
  rw [hk] at h3
  exact ⟨b, o, v0, h1, h2, ho, ⟨h3 0 (by decide), h3 1 (by decide), h3 2 (by decide), h3 3 (by decide), h3 4 (by decide), h3 5 (by decide), h3 6 (by decide), h3 7 (by decide), h3 8 (by decide)⟩, s0⟩
theorem opnTask : Opn Tryz.prog 366 TaskD :=
  opn_iso (fun x : TaskD => (x.F, x.Undo, x.State, x.Tries, x.Due, x.V)) (fun x => ⟨x.1, x.2.1, x.2.2.1, x.2.2.2.1, x.2.2.2.2.1, x.2.2.2.2.2⟩) (fun _ => rfl) (opn_struct Tryz.underlying366 (by kernel_rfl) (opnF_cons rfl (by kernel_rfl) opnFact (opnF_cons rfl (by kernel_rfl) opnStr (opnF_cons rfl (by kernel_rfl) opnInt (opnF_cons rfl (by kernel_rfl) opnInt (opnF_cons rfl (by kernel_rfl) opnInt (opnF_one rfl (by kernel_rfl) opnVal)))))))
theorem opnSTask : Opn Tryz.prog 140 (List TaskD) := opn_slice Tryz.underlying140 (by kernel_rfl) opnTask
def sznTask (x : TaskD) : Nat := sznFact x.F + x.Undo.size + sznVal x.V
def sznSTask (l : List TaskD) : Nat := l.length + (l.map sznTask).sum
structure UndoD where
  Key : ByteArray
  F : FactD
instance : Cel UndoD := Cel.iso fun x => (x.Key, x.F)
def okUndo (x : UndoD) : Prop := x.Key.size ≤ maxLen ∧ okFact x.F
theorem rd_Undo {B : Nat} {w : World} {vs : List Value} {x : UndoD} (h : rd B w vs x) : ∃ v0, vs = [.string x.Key, .string x.F.Kind, v0] ∧ okUndo x ∧ RdS B w x.F.Fields v0 := by
  obtain ⟨a0, b0, rfl, ⟨rfl, i0⟩, h1⟩ := h
  obtain ⟨w1_0, rfl, o1, t1_0⟩ := rd_Fact h1
  exact ⟨w1_0, rfl, ⟨i0, o1⟩, t1_0⟩
theorem Sl.atUndo {w : World} {l : List UndoD} {a : Option Addr} {n c : Nat} (h : Sl w l (.slice a n c)) (i : Nat) (hi : i < l.length) :
    ∃ b o v0, a = some ⟨b, o, none⟩ ∧ b < w.heap.size ∧ okUndo l[i] ∧ (w.cell? ⟨b, o + i * 3, none⟩ = some (.string l[i].Key) ∧ w.cell? ⟨b, o + i * 3 + 1, none⟩ = some (.string l[i].F.Kind) ∧ w.cell? ⟨b, o + i * 3 + 2, none⟩ = some (v0)) ∧ Sl w l[i].F.Fields v0 := by
  obtain ⟨b, o, vs, h1, h2, h4, h3⟩ := h.at i hi
  obtain ⟨v0, rfl, ho, s0⟩ := rd_Undo h4
  have hk : Cel.k UndoD = 3 := rfl
  rw [hk] at h3
  exact ⟨b, o, v0, h1, h2, ho, ⟨h3 0 (by decide), h3 1 (by decide), h3 2 (by decide)⟩, s0⟩
theorem opnUndo : Opn Tryz.prog 372 UndoD :=
  opn_iso (fun x : UndoD => (x.Key, x.F)) (fun x => ⟨x.1, x.2⟩) (fun _ => rfl) (opn_struct Tryz.underlying372 (by kernel_rfl) (opnF_cons rfl (by kernel_rfl) opnStr (opnF_one rfl (by kernel_rfl) opnFact)))
theorem opnSUndo : Opn Tryz.prog 142 (List UndoD) := opn_slice Tryz.underlying142 (by kernel_rfl) opnUndo
def sznUndo (x : UndoD) : Nat := x.Key.size + sznFact x.F
def sznSUndo (l : List UndoD) : Nat := l.length + (l.map sznUndo).sum
structure InstD where
  S : StoreD
  Fired : List MatchD
  Tasks : List TaskD
  Timers : List TimerD
  Undos : List UndoD
  State : Int
  Now : Int
instance : Cel InstD := Cel.iso fun x => (x.S, x.Fired, x.Tasks, x.Timers, x.Undos, x.State, x.Now)
def okInst (x : InstD) : Prop := okStore x.S ∧ In64 x.State ∧ In64 x.Now
theorem rd_Inst {B : Nat} {w : World} {vs : List Value} {x : InstD} (h : rd B w vs x) : ∃ v0 v1 v2 v3 v4, vs = [v0, .int .i64 x.S.Next, v1, v2, v3, v4, .int .i64 x.State, .int .i64 x.Now] ∧ okInst x ∧ RdS B w x.S.Items v0 ∧ RdS B w x.Fired v1 ∧ RdS B w x.Tasks v2 ∧ RdS B w x.Timers v3 ∧ RdS B w x.Undos v4 := by
  obtain ⟨a0, b0, rfl, h0, ⟨a1, b1, rfl, ⟨u1, rfl, s1⟩, ⟨a2, b2, rfl, ⟨u2, rfl, s2⟩, ⟨a3, b3, rfl, ⟨u3, rfl, s3⟩, ⟨a4, b4, rfl, ⟨u4, rfl, s4⟩, ⟨a5, b5, rfl, ⟨rfl, i5⟩, ⟨rfl, i6⟩⟩⟩⟩⟩⟩⟩ := h
  obtain ⟨w0_0, rfl, o0, t0_0⟩ := rd_Store h0
  exact ⟨w0_0, u1, u2, u3, u4, rfl, ⟨o0, i5, i6⟩, t0_0, s1, s2, s3, s4⟩
theorem Sl.atInst {w : World} {l : List InstD} {a : Option Addr} {n c : Nat} (h : Sl w l (.slice a n c)) (i : Nat) (hi : i < l.length) :
    ∃ b o v0 v1 v2 v3 v4, a = some ⟨b, o, none⟩ ∧ b < w.heap.size ∧ okInst l[i] ∧ (w.cell? ⟨b, o + i * 8, none⟩ = some (v0) ∧ w.cell? ⟨b, o + i * 8 + 1, none⟩ = some (.int .i64 l[i].S.Next) ∧ w.cell? ⟨b, o + i * 8 + 2, none⟩ = some (v1) ∧ w.cell? ⟨b, o + i * 8 + 3, none⟩ = some (v2) ∧ w.cell? ⟨b, o + i * 8 + 4, none⟩ = some (v3) ∧ w.cell? ⟨b, o + i * 8 + 5, none⟩ = some (v4) ∧ w.cell? ⟨b, o + i * 8 + 6, none⟩ = some (.int .i64 l[i].State) ∧ w.cell? ⟨b, o + i * 8 + 7, none⟩ = some (.int .i64 l[i].Now)) ∧ Sl w l[i].S.Items v0 ∧ Sl w l[i].Fired v1 ∧ Sl w l[i].Tasks v2 ∧ Sl w l[i].Timers v3 ∧ Sl w l[i].Undos v4 := by
  obtain ⟨b, o, vs, h1, h2, h4, h3⟩ := h.at i hi
  obtain ⟨v0, v1, v2, v3, v4, rfl, ho, s0, s1, s2, s3, s4⟩ := rd_Inst h4
  have hk : Cel.k InstD = 8 := rfl
  rw [hk] at h3
  exact ⟨b, o, v0, v1, v2, v3, v4, h1, h2, ho, ⟨h3 0 (by decide), h3 1 (by decide), h3 2 (by decide), h3 3 (by decide), h3 4 (by decide), h3 5 (by decide), h3 6 (by decide), h3 7 (by decide)⟩, s0, s1, s2, s3, s4⟩
theorem opnInst : Opn Tryz.prog 144 InstD :=
  opn_iso (fun x : InstD => (x.S, x.Fired, x.Tasks, x.Timers, x.Undos, x.State, x.Now)) (fun x => ⟨x.1, x.2.1, x.2.2.1, x.2.2.2.1, x.2.2.2.2.1, x.2.2.2.2.2.1, x.2.2.2.2.2.2⟩) (fun _ => rfl) (opn_struct Tryz.underlying144 (by kernel_rfl) (opnF_cons rfl (by kernel_rfl) opnStore (opnF_cons rfl (by kernel_rfl) opnSMatch (opnF_cons rfl (by kernel_rfl) opnSTask (opnF_cons rfl (by kernel_rfl) opnSTimer (opnF_cons rfl (by kernel_rfl) opnSUndo (opnF_cons rfl (by kernel_rfl) opnInt (opnF_one rfl (by kernel_rfl) opnInt))))))))
def sznInst (x : InstD) : Nat := sznStore x.S + sznSMatch x.Fired + sznSTask x.Tasks + sznSTimer x.Timers + sznSUndo x.Undos
def sznSInst (l : List InstD) : Nat := l.length + (l.map sznInst).sum
structure WorkD where
  Name : ByteArray
  Def : ByteArray
  X : InstD
instance : Cel WorkD := Cel.iso fun x => (x.Name, x.Def, x.X)
def okWork (x : WorkD) : Prop := x.Name.size ≤ maxLen ∧ x.Def.size ≤ maxLen ∧ okInst x.X
theorem rd_Work {B : Nat} {w : World} {vs : List Value} {x : WorkD} (h : rd B w vs x) : ∃ v0 v1 v2 v3 v4, vs = [.string x.Name, .string x.Def, v0, .int .i64 x.X.S.Next, v1, v2, v3, v4, .int .i64 x.X.State, .int .i64 x.X.Now] ∧ okWork x ∧ RdS B w x.X.S.Items v0 ∧ RdS B w x.X.Fired v1 ∧ RdS B w x.X.Tasks v2 ∧ RdS B w x.X.Timers v3 ∧ RdS B w x.X.Undos v4 := by
  obtain ⟨a0, b0, rfl, ⟨rfl, i0⟩, ⟨a1, b1, rfl, ⟨rfl, i1⟩, h2⟩⟩ := h
  obtain ⟨w2_0, w2_1, w2_2, w2_3, w2_4, rfl, o2, t2_0, t2_1, t2_2, t2_3, t2_4⟩ := rd_Inst h2
  exact ⟨w2_0, w2_1, w2_2, w2_3, w2_4, rfl, ⟨i0, i1, o2⟩, t2_0, t2_1, t2_2, t2_3, t2_4⟩
theorem Sl.atWork {w : World} {l : List WorkD} {a : Option Addr} {n c : Nat} (h : Sl w l (.slice a n c)) (i : Nat) (hi : i < l.length) :
    ∃ b o v0 v1 v2 v3 v4, a = some ⟨b, o, none⟩ ∧ b < w.heap.size ∧ okWork l[i] ∧ (w.cell? ⟨b, o + i * 10, none⟩ = some (.string l[i].Name) ∧ w.cell? ⟨b, o + i * 10 + 1, none⟩ = some (.string l[i].Def) ∧ w.cell? ⟨b, o + i * 10 + 2, none⟩ = some (v0) ∧ w.cell? ⟨b, o + i * 10 + 3, none⟩ = some (.int .i64 l[i].X.S.Next) ∧ w.cell? ⟨b, o + i * 10 + 4, none⟩ = some (v1) ∧ w.cell? ⟨b, o + i * 10 + 5, none⟩ = some (v2) ∧ w.cell? ⟨b, o + i * 10 + 6, none⟩ = some (v3) ∧ w.cell? ⟨b, o + i * 10 + 7, none⟩ = some (v4) ∧ w.cell? ⟨b, o + i * 10 + 8, none⟩ = some (.int .i64 l[i].X.State) ∧ w.cell? ⟨b, o + i * 10 + 9, none⟩ = some (.int .i64 l[i].X.Now)) ∧ Sl w l[i].X.S.Items v0 ∧ Sl w l[i].X.Fired v1 ∧ Sl w l[i].X.Tasks v2 ∧ Sl w l[i].X.Timers v3 ∧ Sl w l[i].X.Undos v4 := by
  obtain ⟨b, o, vs, h1, h2, h4, h3⟩ := h.at i hi
  obtain ⟨v0, v1, v2, v3, v4, rfl, ho, s0, s1, s2, s3, s4⟩ := rd_Work h4
  have hk : Cel.k WorkD = 10 := rfl
  rw [hk] at h3
  exact ⟨b, o, v0, v1, v2, v3, v4, h1, h2, ho, ⟨h3 0 (by decide), h3 1 (by decide), h3 2 (by decide), h3 3 (by decide), h3 4 (by decide), h3 5 (by decide), h3 6 (by decide), h3 7 (by decide), h3 8 (by decide), h3 9 (by decide)⟩, s0, s1, s2, s3, s4⟩
theorem opnWork : Opn Tryz.prog 146 WorkD :=
  opn_iso (fun x : WorkD => (x.Name, x.Def, x.X)) (fun x => ⟨x.1, x.2.1, x.2.2⟩) (fun _ => rfl) (opn_struct Tryz.underlying146 (by kernel_rfl) (opnF_cons rfl (by kernel_rfl) opnStr (opnF_cons rfl (by kernel_rfl) opnStr (opnF_one rfl (by kernel_rfl) opnInst))))
theorem opnSWork : Opn Tryz.prog 23 (List WorkD) := opn_slice Tryz.underlying23 (by kernel_rfl) opnWork
def sznWork (x : WorkD) : Nat := x.Name.size + x.Def.size + sznInst x.X
def sznSWork (l : List WorkD) : Nat := l.length + (l.map sznWork).sum
structure BookD where
  Defs : List DefD
  Works : List WorkD
  Now : Int
  Ring : Int
instance : Cel BookD := Cel.iso fun x => (x.Defs, x.Works, x.Now, x.Ring)
def okBook (x : BookD) : Prop := In64 x.Now ∧ In64 x.Ring
theorem rd_Book {B : Nat} {w : World} {vs : List Value} {x : BookD} (h : rd B w vs x) : ∃ v0 v1, vs = [v0, v1, .int .i64 x.Now, .int .i64 x.Ring] ∧ okBook x ∧ RdS B w x.Defs v0 ∧ RdS B w x.Works v1 := by
  obtain ⟨a0, b0, rfl, ⟨u0, rfl, s0⟩, ⟨a1, b1, rfl, ⟨u1, rfl, s1⟩, ⟨a2, b2, rfl, ⟨rfl, i2⟩, ⟨rfl, i3⟩⟩⟩⟩ := h
  exact ⟨u0, u1, rfl, ⟨i2, i3⟩, s0, s1⟩
theorem Sl.atBook {w : World} {l : List BookD} {a : Option Addr} {n c : Nat} (h : Sl w l (.slice a n c)) (i : Nat) (hi : i < l.length) :
    ∃ b o v0 v1, a = some ⟨b, o, none⟩ ∧ b < w.heap.size ∧ okBook l[i] ∧ (w.cell? ⟨b, o + i * 4, none⟩ = some (v0) ∧ w.cell? ⟨b, o + i * 4 + 1, none⟩ = some (v1) ∧ w.cell? ⟨b, o + i * 4 + 2, none⟩ = some (.int .i64 l[i].Now) ∧ w.cell? ⟨b, o + i * 4 + 3, none⟩ = some (.int .i64 l[i].Ring)) ∧ Sl w l[i].Defs v0 ∧ Sl w l[i].Works v1 := by
  obtain ⟨b, o, vs, h1, h2, h4, h3⟩ := h.at i hi
  obtain ⟨v0, v1, rfl, ho, s0, s1⟩ := rd_Book h4
  have hk : Cel.k BookD = 4 := rfl
  rw [hk] at h3
  exact ⟨b, o, v0, v1, h1, h2, ho, ⟨h3 0 (by decide), h3 1 (by decide), h3 2 (by decide), h3 3 (by decide)⟩, s0, s1⟩
theorem opnBook : Opn Tryz.prog 25 BookD :=
  opn_iso (fun x : BookD => (x.Defs, x.Works, x.Now, x.Ring)) (fun x => ⟨x.1, x.2.1, x.2.2.1, x.2.2.2⟩) (fun _ => rfl) (opn_struct Tryz.underlying25 (by kernel_rfl) (opnF_cons rfl (by kernel_rfl) opnSDef (opnF_cons rfl (by kernel_rfl) opnSWork (opnF_cons rfl (by kernel_rfl) opnInt (opnF_one rfl (by kernel_rfl) opnInt)))))
def sznBook (x : BookD) : Nat := sznSDef x.Defs + sznSWork x.Works
def sznSBook (l : List BookD) : Nat := l.length + (l.map sznBook).sum
end Go.Proofs.YthnilnggpbploaaGreat
