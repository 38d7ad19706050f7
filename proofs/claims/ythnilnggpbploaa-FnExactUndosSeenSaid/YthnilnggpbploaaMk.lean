/- Rows of structs, marked: every cell that is no slice gets a number of its own. Printed by a program. -/
import Derived.Test.YthnilnggpbploaaMk0
namespace Go.Proofs.Ythnilnggpbploaa
open Go.RowKit
open Cel (rd own rd_len rd_one own_rd own_lt rd_below rd_mono own_keep)

theorem nodup_two {a b : List Nat} (h : (a ++ b).Nodup) : a.Nodup ∧ b.Nodup ∧ (∀ x ∈ a, x ∉ b) ∧ ∀ x ∈ b, x ∉ a := by
  obtain ⟨h1, h2, h3⟩ := List.nodup_append.1 h
  exact ⟨h1, h2, fun x hx hy => h3 x hx x hy rfl, fun x hx hy => h3 x hy x hx rfl⟩
theorem markText_z (k : Nat) (z : Int) (hz : z = k) (hk : k ≤ 1099511627776) (w : World) : Calls Try.prog 16 #[.int .i64 z] w fun e w' => e = .returned (.string (markT k)) ∧ Below w.heap.size w w' := by
  subst hz; exact markText_w k hk w
theorem OwnS.as {α : Type} [Cel α] {w : World} {l : List α} {i : Nat} {x y : α} {v : Value} {fp : List Nat} (h : OwnS w (l.set i x) v fp) (e : x = y) : OwnS w (l.set i y) v fp := e ▸ h
theorem cell_kept {w : World} {g p q : Nat} {u v : Value} (h : w.cell? ⟨g, q, none⟩ = some v) (hn : p ≠ q) : (w.setCell ⟨g, p, none⟩ u).cell? ⟨g, q, none⟩ = some v := by
  have h2 : (⟨g, p, none⟩ : Addr) ≠ ⟨g, q, none⟩ := fun e => hn (by cases e; rfl)
  rw [← h]; exact World.cell?_setCell_other _ _ _ _ h2
theorem Chg.put1 {fp : List Nat} {w w' : World} (h : Chg fp w w') {p : Addr} (hg : p.block ∈ fp) (hp : p.spot = none) (v : Value) : Chg fp w (w'.setCell p v) := by
  obtain ⟨b, o, s⟩ := p
  cases hp
  exact h.setCells hg o [v]
theorem oinv_Val {w : World} {vs : List Value} {x : ValD} {f : List Nat} (h : own w vs x f) : vs = [.int .i64 x.K, .int .i64 x.N, .string x.S] ∧ f = [] ∧ okVal x := by
  obtain ⟨a0, b0, p0, q0, rfl, rfl, ⟨rfl, i0, rfl⟩, ⟨a1, b1, p1, q1, rfl, rfl, ⟨rfl, i1, rfl⟩, ⟨rfl, i2, rfl⟩⟩⟩ := h
  exact ⟨rfl, by simp, ⟨i0, i1, i2⟩⟩
theorem oinv_Fact {w : World} {vs : List Value} {x : FactD} {f : List Nat} (h : own w vs x f) : ∃ v0 f0 , vs = [.string x.Kind, v0] ∧ f = f0 ∧ okFact x ∧ OwnS w x.Fields v0 f0 := by
  obtain ⟨a0, b0, p0, q0, rfl, rfl, ⟨rfl, i0, rfl⟩, ⟨u1, rfl, s1⟩⟩ := h
  exact ⟨u1, q0, rfl, by simp, i0, s1⟩
theorem oinv_Call {w : World} {vs : List Value} {x : CallD} {f : List Nat} (h : own w vs x f) : ∃ v0 f0 , vs = [.string x.Key, .string x.F.Kind, v0, .int .i64 x.Try] ∧ f = f0 ∧ okCall x ∧ OwnS w x.F.Fields v0 f0 := by
  obtain ⟨a0, b0, p0, q0, rfl, rfl, ⟨rfl, i0, rfl⟩, ⟨a1, b1, p1, q1, rfl, rfl, h1, ⟨rfl, i2, rfl⟩⟩⟩ := h
  obtain ⟨w1_0, g1_0, rfl, hg1, o1, t1_0⟩ := oinv_Fact h1
  exact ⟨w1_0, g1_0, rfl, by simp [hg1], ⟨i0, o1, i2⟩, t1_0⟩
theorem oinv_Sent {w : World} {vs : List Value} {x : SentD} {f : List Nat} (h : own w vs x f) : ∃ v0 f0 , vs = [.string x.Name, .string x.C.Key, .string x.C.F.Kind, v0, .int .i64 x.C.Try] ∧ f = f0 ∧ okSent x ∧ OwnS w x.C.F.Fields v0 f0 := by
  obtain ⟨a0, b0, p0, q0, rfl, rfl, ⟨rfl, i0, rfl⟩, h1⟩ := h
  obtain ⟨w1_0, g1_0, rfl, hg1, o1, t1_0⟩ := oinv_Call h1
  exact ⟨w1_0, g1_0, rfl, by simp [hg1], ⟨i0, o1⟩, t1_0⟩
def cntVal (_ : ValD) : Nat := 3
def mkVal (k : Nat) (_ : ValD) : ValD := ⟨((k : Nat) : Int), ((k + 1 : Nat) : Int), markT (k + 2)⟩
theorem cntVal_le (x : ValD) : cntVal x ≤ 12 + 12 * sznVal x := by
  simp only [cntVal, sznVal] at *
  omega
def cntSent (x : SentD) : Nat := 4 + cntL cntVal x.C.F.Fields
def mkSent (k : Nat) (x : SentD) : SentD := ⟨markT (k), ⟨markT (k + 1), ⟨markT (k + 2), mkL mkVal cntVal (k + 3) x.C.F.Fields⟩, ((k + 3 + cntL cntVal x.C.F.Fields : Nat) : Int)⟩⟩
theorem cntSent_le (x : SentD) : cntSent x ≤ 12 + 12 * sznSent x := by
  have h0 := cntL_bound cntVal_le x.C.F.Fields
  simp only [cntSent, sznCall, sznFact, sznSVal, sznSent] at *
  omega
theorem OwnS.setVal0 {w : World} {l : List ValD} {g n c i : Nat} {fp : List Nat} {x : ValD} (h : OwnS w (l.set i x) (.slice (some ⟨g, 0, none⟩) n c) fp) (hn : fp.Nodup) (hi : i < l.length) (y : Int) (hy : In64 y) : OwnS (w.setCell ⟨g, i * 3, none⟩ (.int .i64 y)) (l.set i { x with K := y }) (.slice (some ⟨g, 0, none⟩) n c) fp ∧ g ∈ fp := by
  obtain ⟨vs, f, h1, -, -, -, -, hg, h7, -⟩ := h.el hn i (by simpa using hi)
  rw [List.getElem_set_self] at h1
  obtain ⟨rfl, hfe, ho⟩ := oinv_Val h1
  rw [hfe] at h7
  have h9 := h7 0 (.int .i64 y) { x with K := y } (by decide) (own_Val (x := { x with K := y }) ⟨hy, ho.2.1, ho.2.2⟩)
  rw [List.set_set] at h9
  exact ⟨h9, hg⟩
theorem OwnS.setVal1 {w : World} {l : List ValD} {g n c i : Nat} {fp : List Nat} {x : ValD} (h : OwnS w (l.set i x) (.slice (some ⟨g, 0, none⟩) n c) fp) (hn : fp.Nodup) (hi : i < l.length) (y : Int) (hy : In64 y) : OwnS (w.setCell ⟨g, i * 3 + 1, none⟩ (.int .i64 y)) (l.set i { x with N := y }) (.slice (some ⟨g, 0, none⟩) n c) fp ∧ g ∈ fp := by
  obtain ⟨vs, f, h1, -, -, -, -, hg, h7, -⟩ := h.el hn i (by simpa using hi)
  rw [List.getElem_set_self] at h1
  obtain ⟨rfl, hfe, ho⟩ := oinv_Val h1
  rw [hfe] at h7
  have h9 := h7 1 (.int .i64 y) { x with N := y } (by decide) (own_Val (x := { x with N := y }) ⟨ho.1, hy, ho.2.2⟩)
  rw [List.set_set] at h9
  exact ⟨h9, hg⟩
theorem OwnS.setVal2 {w : World} {l : List ValD} {g n c i : Nat} {fp : List Nat} {x : ValD} (h : OwnS w (l.set i x) (.slice (some ⟨g, 0, none⟩) n c) fp) (hn : fp.Nodup) (hi : i < l.length) (y : ByteArray) (hy : y.size ≤ maxLen) : OwnS (w.setCell ⟨g, i * 3 + 2, none⟩ (.string y)) (l.set i { x with S := y }) (.slice (some ⟨g, 0, none⟩) n c) fp ∧ g ∈ fp := by
  obtain ⟨vs, f, h1, -, -, -, -, hg, h7, -⟩ := h.el hn i (by simpa using hi)
  rw [List.getElem_set_self] at h1
  obtain ⟨rfl, hfe, ho⟩ := oinv_Val h1
  rw [hfe] at h7
  have h9 := h7 2 (.string y) { x with S := y } (by decide) (own_Val (x := { x with S := y }) ⟨ho.1, ho.2.1, hy⟩)
  rw [List.set_set] at h9
  exact ⟨h9, hg⟩
theorem OwnS.setSent0 {w : World} {l : List SentD} {g n c i : Nat} {fp : List Nat} {x : SentD} (h : OwnS w (l.set i x) (.slice (some ⟨g, 0, none⟩) n c) fp) (hn : fp.Nodup) (hi : i < l.length) (y : ByteArray) (hy : y.size ≤ maxLen) : OwnS (w.setCell ⟨g, i * 5, none⟩ (.string y)) (l.set i { x with Name := y }) (.slice (some ⟨g, 0, none⟩) n c) fp ∧ g ∈ fp := by
  obtain ⟨vs, f, h1, -, -, -, -, hg, h7, -⟩ := h.el hn i (by simpa using hi)
  rw [List.getElem_set_self] at h1
  obtain ⟨v0, f0, rfl, hfe, ho, s0⟩ := oinv_Sent h1
  rw [hfe] at h7
  have h9 := h7 0 (.string y) { x with Name := y } (by decide) (own_Sent (x := { x with Name := y }) ⟨hy, ho.2⟩ s0)
  rw [List.set_set] at h9
  exact ⟨h9, hg⟩
theorem OwnS.setSent1 {w : World} {l : List SentD} {g n c i : Nat} {fp : List Nat} {x : SentD} (h : OwnS w (l.set i x) (.slice (some ⟨g, 0, none⟩) n c) fp) (hn : fp.Nodup) (hi : i < l.length) (y : ByteArray) (hy : y.size ≤ maxLen) : OwnS (w.setCell ⟨g, i * 5 + 1, none⟩ (.string y)) (l.set i { x with C.Key := y }) (.slice (some ⟨g, 0, none⟩) n c) fp ∧ g ∈ fp := by
  obtain ⟨vs, f, h1, -, -, -, -, hg, h7, -⟩ := h.el hn i (by simpa using hi)
  rw [List.getElem_set_self] at h1
  obtain ⟨v0, f0, rfl, hfe, ho, s0⟩ := oinv_Sent h1
  rw [hfe] at h7
  have h9 := h7 1 (.string y) { x with C.Key := y } (by decide) (own_Sent (x := { x with C.Key := y }) ⟨ho.1, ⟨hy, ho.2.2.1, ho.2.2.2⟩⟩ s0)
  rw [List.set_set] at h9
  exact ⟨h9, hg⟩
theorem OwnS.setSent2 {w : World} {l : List SentD} {g n c i : Nat} {fp : List Nat} {x : SentD} (h : OwnS w (l.set i x) (.slice (some ⟨g, 0, none⟩) n c) fp) (hn : fp.Nodup) (hi : i < l.length) (y : ByteArray) (hy : y.size ≤ maxLen) : OwnS (w.setCell ⟨g, i * 5 + 2, none⟩ (.string y)) (l.set i { x with C.F.Kind := y }) (.slice (some ⟨g, 0, none⟩) n c) fp ∧ g ∈ fp := by
  obtain ⟨vs, f, h1, -, -, -, -, hg, h7, -⟩ := h.el hn i (by simpa using hi)
  rw [List.getElem_set_self] at h1
  obtain ⟨v0, f0, rfl, hfe, ho, s0⟩ := oinv_Sent h1
  rw [hfe] at h7
  have h9 := h7 2 (.string y) { x with C.F.Kind := y } (by decide) (own_Sent (x := { x with C.F.Kind := y }) ⟨ho.1, ⟨ho.2.1, hy, ho.2.2.2⟩⟩ s0)
  rw [List.set_set] at h9
  exact ⟨h9, hg⟩
theorem OwnS.inSent3 {w : World} {l : List SentD} {g n c i : Nat} {fp : List Nat} {x : SentD} (h : OwnS w (l.set i x) (.slice (some ⟨g, 0, none⟩) n c) fp) (hn : fp.Nodup) (hi : i < l.length) (v : Value) (hv : w.cell? ⟨g, i * 5 + 3, none⟩ = some v) : ∃ f, OwnS w x.C.F.Fields v f ∧ f.Nodup ∧ (∀ b ∈ f, b ∈ fp) ∧ ∀ w' (y : List ValD), OwnS w' y v f → Chg f w w' → OwnS w' (l.set i { x with C.F.Fields := y }) (.slice (some ⟨g, 0, none⟩) n c) fp := by
  obtain ⟨vs, f, h1, h2, h3, h4, -, -, -, h8⟩ := h.el hn i (by simpa using hi)
  rw [List.getElem_set_self] at h1
  obtain ⟨v0, f0, rfl, hfe, ho, s0⟩ := oinv_Sent h1
  rw [hfe] at h3 h4 h8
  have h2 := h2 3 (by decide)
  obtain rfl : v0 = v := Option.some.inj (h2.symm.trans hv)
  refine ⟨f0, s0, h4, fun b hb => h3 b (by simp [hb]), fun w' y hy hc => ?_⟩
  have h9 := h8 w' { x with C.F.Fields := y } (own_Sent (x := { x with C.F.Fields := y }) ⟨ho.1, ⟨ho.2.1, ho.2.2.1, ho.2.2.2⟩⟩ hy) (hc.mono fun b hb => by simp [hb])
  rw [List.set_set] at h9
  exact h9
theorem OwnS.setSent4 {w : World} {l : List SentD} {g n c i : Nat} {fp : List Nat} {x : SentD} (h : OwnS w (l.set i x) (.slice (some ⟨g, 0, none⟩) n c) fp) (hn : fp.Nodup) (hi : i < l.length) (y : Int) (hy : In64 y) : OwnS (w.setCell ⟨g, i * 5 + 4, none⟩ (.int .i64 y)) (l.set i { x with C.Try := y }) (.slice (some ⟨g, 0, none⟩) n c) fp ∧ g ∈ fp := by
  obtain ⟨vs, f, h1, -, -, -, -, hg, h7, -⟩ := h.el hn i (by simpa using hi)
  rw [List.getElem_set_self] at h1
  obtain ⟨v0, f0, rfl, hfe, ho, s0⟩ := oinv_Sent h1
  rw [hfe] at h7
  have h9 := h7 4 (.int .i64 y) { x with C.Try := y } (by decide) (own_Sent (x := { x with C.Try := y }) ⟨ho.1, ⟨ho.2.1, ho.2.2.1, hy⟩⟩ s0)
  rw [List.set_set] at h9
  exact ⟨h9, hg⟩
end Go.Proofs.Ythnilnggpbploaa
