/- Structs as data, printed by a program: how they lie in cells; their sizes. -/
import Derived.Test.YthnilnggpbploaaOpen0
import Derived.Test.YthnilnggpbploaaHarn
namespace Go.Proofs.Ythnilnggpbploaa
open Go.RowKit
open Cel (rd own rd_len rd_one own_rd own_lt rd_below rd_mono own_keep)

theorem opnBool : Opn Try.prog 4 Bool := opn_bool Try.underlying4

def sznSInt (l : List Int) : Nat := l.length
theorem opnStr : Opn Try.prog 9 ByteArray := opn_string Try.underlying9
def szR (n : Nat) (left : Int) : Int := if (n : Int) ≤ left then left - n else -1
theorem szR_pos {n : Nat} {left : Int} (h : (n : Int) ≤ left) : szR n left = left - n := if_pos h
theorem szR_neg {n : Nat} {left : Int} (h : ¬ (n : Int) ≤ left) : szR n left = -1 := if_neg h
theorem sum_step {α : Type} (f : α → Nat) (l : List α) (k : Nat) (h : k < l.length) : ((l.take (k + 1)).map f).sum = ((l.take k).map f).sum + f l[k] := by rw [List.take_succ_eq_append_getElem h, List.map_append, List.sum_append]; simp
theorem sum_le {α : Type} (f : α → Nat) (l : List α) (k : Nat) : ((l.take k).map f).sum ≤ (l.map f).sum := by
  have e : (l.map f).sum = ((l.take k).map f).sum + ((l.drop k).map f).sum := by rw [← List.sum_append, ← List.map_append, List.take_append_drop]
  omega
structure ValD where
  K : Int
  N : Int
  S : ByteArray
instance : Flat ValD := Flat.iso fun x => (x.K, x.N, x.S)
def okVal (x : ValD) : Prop := In64 x.K ∧ In64 x.N ∧ x.S.size ≤ maxLen
theorem rd_Val {B : Nat} {w : World} {vs : List Value} {x : ValD} (h : rd B w vs x) : vs = [.int .i64 x.K, .int .i64 x.N, .string x.S] ∧ okVal x := by
  obtain ⟨a0, b0, rfl, ⟨rfl, i0⟩, ⟨a1, b1, rfl, ⟨rfl, i1⟩, ⟨rfl, i2⟩⟩⟩ := h
  exact ⟨rfl, ⟨i0, i1, i2⟩⟩
theorem Sl.atVal {w : World} {l : List ValD} {a : Option Addr} {n c : Nat} (h : Sl w l (.slice a n c)) (i : Nat) (hi : i < l.length) :
    ∃ b o , a = some ⟨b, o, none⟩ ∧ b < w.heap.size ∧ okVal l[i] ∧ (w.cell? ⟨b, o + i * 3, none⟩ = some (.int .i64 l[i].K) ∧ w.cell? ⟨b, o + i * 3 + 1, none⟩ = some (.int .i64 l[i].N) ∧ w.cell? ⟨b, o + i * 3 + 2, none⟩ = some (.string l[i].S)) := by
  obtain ⟨b, o, vs, h1, h2, h4, h3⟩ := h.at i hi
  obtain ⟨rfl, ho⟩ := rd_Val h4
  have hk : Cel.k ValD = 3 := rfl
  rw [hk] at h3
  exact ⟨b, o, h1, h2, ho, ⟨h3 0 (by decide), h3 1 (by decide), h3 2 (by decide)⟩⟩
theorem opnVal : Opn Try.prog 65 ValD :=
  opn_iso (fun x : ValD => (x.K, x.N, x.S)) (fun x => ⟨x.1, x.2.1, x.2.2⟩) (fun _ => rfl) (opn_struct Try.underlying65 (by kernel_rfl) (opnF_cons rfl (by kernel_rfl) opnInt (opnF_cons rfl (by kernel_rfl) opnInt (opnF_one rfl (by kernel_rfl) opnStr))))
theorem opnSVal : Opn Try.prog 34 (List ValD) := opn_slice Try.underlying34 (by kernel_rfl) opnVal
def sznVal (x : ValD) : Nat := x.S.size
def sznSVal (l : List ValD) : Nat := l.length + (l.map sznVal).sum
structure FactD where
  Kind : ByteArray
  Fields : List ValD
instance : Cel FactD := Cel.iso fun x => (x.Kind, x.Fields)
def okFact (x : FactD) : Prop := x.Kind.size ≤ maxLen
theorem rd_Fact {B : Nat} {w : World} {vs : List Value} {x : FactD} (h : rd B w vs x) : ∃ v0, vs = [.string x.Kind, v0] ∧ okFact x ∧ RdS B w x.Fields v0 := by
  obtain ⟨a0, b0, rfl, ⟨rfl, i0⟩, ⟨u1, rfl, s1⟩⟩ := h
  exact ⟨u1, rfl, i0, s1⟩
theorem Sl.atFact {w : World} {l : List FactD} {a : Option Addr} {n c : Nat} (h : Sl w l (.slice a n c)) (i : Nat) (hi : i < l.length) :
    ∃ b o v0, a = some ⟨b, o, none⟩ ∧ b < w.heap.size ∧ okFact l[i] ∧ (w.cell? ⟨b, o + i * 2, none⟩ = some (.string l[i].Kind) ∧ w.cell? ⟨b, o + i * 2 + 1, none⟩ = some (v0)) ∧ Sl w l[i].Fields v0 := by
  obtain ⟨b, o, vs, h1, h2, h4, h3⟩ := h.at i hi
  obtain ⟨v0, rfl, ho, s0⟩ := rd_Fact h4
  have hk : Cel.k FactD = 2 := rfl
  rw [hk] at h3
  exact ⟨b, o, v0, h1, h2, ho, ⟨h3 0 (by decide), h3 1 (by decide)⟩, s0⟩
theorem opnFact : Opn Try.prog 36 FactD :=
  opn_iso (fun x : FactD => (x.Kind, x.Fields)) (fun x => ⟨x.1, x.2⟩) (fun _ => rfl) (opn_struct Try.underlying36 (by kernel_rfl) (opnF_cons rfl (by kernel_rfl) opnStr (opnF_one rfl (by kernel_rfl) opnSVal)))
def sznFact (x : FactD) : Nat := x.Kind.size + sznSVal x.Fields
def sznSFact (l : List FactD) : Nat := l.length + (l.map sznFact).sum
structure CallD where
  Key : ByteArray
  F : FactD
  Try : Int
instance : Cel CallD := Cel.iso fun x => (x.Key, x.F, x.Try)
def okCall (x : CallD) : Prop := x.Key.size ≤ maxLen ∧ okFact x.F ∧ In64 x.Try
theorem rd_Call {B : Nat} {w : World} {vs : List Value} {x : CallD} (h : rd B w vs x) : ∃ v0, vs = [.string x.Key, .string x.F.Kind, v0, .int .i64 x.Try] ∧ okCall x ∧ RdS B w x.F.Fields v0 := by
  obtain ⟨a0, b0, rfl, ⟨rfl, i0⟩, ⟨a1, b1, rfl, h1, ⟨rfl, i2⟩⟩⟩ := h
  obtain ⟨w1_0, rfl, o1, t1_0⟩ := rd_Fact h1
  exact ⟨w1_0, rfl, ⟨i0, o1, i2⟩, t1_0⟩
theorem Sl.atCall {w : World} {l : List CallD} {a : Option Addr} {n c : Nat} (h : Sl w l (.slice a n c)) (i : Nat) (hi : i < l.length) :
    ∃ b o v0, a = some ⟨b, o, none⟩ ∧ b < w.heap.size ∧ okCall l[i] ∧ (w.cell? ⟨b, o + i * 4, none⟩ = some (.string l[i].Key) ∧ w.cell? ⟨b, o + i * 4 + 1, none⟩ = some (.string l[i].F.Kind) ∧ w.cell? ⟨b, o + i * 4 + 2, none⟩ = some (v0) ∧ w.cell? ⟨b, o + i * 4 + 3, none⟩ = some (.int .i64 l[i].Try)) ∧ Sl w l[i].F.Fields v0 := by
  obtain ⟨b, o, vs, h1, h2, h4, h3⟩ := h.at i hi
  obtain ⟨v0, rfl, ho, s0⟩ := rd_Call h4
  have hk : Cel.k CallD = 4 := rfl
  rw [hk] at h3
  exact ⟨b, o, v0, h1, h2, ho, ⟨h3 0 (by decide), h3 1 (by decide), h3 2 (by decide), h3 3 (by decide)⟩, s0⟩
theorem opnCall : Opn Try.prog 38 CallD :=
  opn_iso (fun x : CallD => (x.Key, x.F, x.Try)) (fun x => ⟨x.1, x.2.1, x.2.2⟩) (fun _ => rfl) (opn_struct Try.underlying38 (by kernel_rfl) (opnF_cons rfl (by kernel_rfl) opnStr (opnF_cons rfl (by kernel_rfl) opnFact (opnF_one rfl (by kernel_rfl) opnInt))))
def sznCall (x : CallD) : Nat := x.Key.size + sznFact x.F
def sznSCall (l : List CallD) : Nat := l.length + (l.map sznCall).sum
structure SentD where
  Name : ByteArray
  C : CallD
instance : Cel SentD := Cel.iso fun x => (x.Name, x.C)
def okSent (x : SentD) : Prop := x.Name.size ≤ maxLen ∧ okCall x.C
theorem rd_Sent {B : Nat} {w : World} {vs : List Value} {x : SentD} (h : rd B w vs x) : ∃ v0, vs = [.string x.Name, .string x.C.Key, .string x.C.F.Kind, v0, .int .i64 x.C.Try] ∧ okSent x ∧ RdS B w x.C.F.Fields v0 := by
  obtain ⟨a0, b0, rfl, ⟨rfl, i0⟩, h1⟩ := h
  obtain ⟨w1_0, rfl, o1, t1_0⟩ := rd_Call h1
  exact ⟨w1_0, rfl, ⟨i0, o1⟩, t1_0⟩
theorem Sl.atSent {w : World} {l : List SentD} {a : Option Addr} {n c : Nat} (h : Sl w l (.slice a n c)) (i : Nat) (hi : i < l.length) :
    ∃ b o v0, a = some ⟨b, o, none⟩ ∧ b < w.heap.size ∧ okSent l[i] ∧ (w.cell? ⟨b, o + i * 5, none⟩ = some (.string l[i].Name) ∧ w.cell? ⟨b, o + i * 5 + 1, none⟩ = some (.string l[i].C.Key) ∧ w.cell? ⟨b, o + i * 5 + 2, none⟩ = some (.string l[i].C.F.Kind) ∧ w.cell? ⟨b, o + i * 5 + 3, none⟩ = some (v0) ∧ w.cell? ⟨b, o + i * 5 + 4, none⟩ = some (.int .i64 l[i].C.Try)) ∧ Sl w l[i].C.F.Fields v0 := by
  obtain ⟨b, o, vs, h1, h2, h4, h3⟩ := h.at i hi
  obtain ⟨v0, rfl, ho, s0⟩ := rd_Sent h4
  have hk : Cel.k SentD = 5 := rfl
  rw [hk] at h3
  exact ⟨b, o, v0, h1, h2, ho, ⟨h3 0 (by decide), h3 1 (by decide), h3 2 (by decide), h3 3 (by decide), h3 4 (by decide)⟩, s0⟩
theorem opnSent : Opn Try.prog 40 SentD :=
  opn_iso (fun x : SentD => (x.Name, x.C)) (fun x => ⟨x.1, x.2⟩) (fun _ => rfl) (opn_struct Try.underlying40 (by kernel_rfl) (opnF_cons rfl (by kernel_rfl) opnStr (opnF_one rfl (by kernel_rfl) opnCall)))
theorem opnSSent : Opn Try.prog 22 (List SentD) := opn_slice Try.underlying22 (by kernel_rfl) opnSent
def sznSent (x : SentD) : Nat := x.Name.size + sznCall x.C
def sznSSent (l : List SentD) : Nat := l.length + (l.map sznSent).sum
end Go.Proofs.Ythnilnggpbploaa
