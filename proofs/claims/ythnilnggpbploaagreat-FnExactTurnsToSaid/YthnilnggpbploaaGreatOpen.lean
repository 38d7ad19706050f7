/- What is read as data before the call reads as a list, a structure .. of this proof's own types. No program in sight. -/
import Derived.Test.YthnilnggpbploaaGreatOwn
import Derived.ProofKit
import Derived.OpenShut
import Derived.Deep.Slices
namespace Go.Proofs.YthnilnggpbploaaGreat
open Go.RowKit
open Cel (rd own rd_len rd_one own_rd own_lt rd_below rd_mono own_keep)

/-- A type of Go's that reads as α. -/
def Opn (P : Program) (t : TypeId) (α : Type) [Cel α] : Prop :=
  ∀ (H : Type) (enc : TypeId × Value → H) (w : World) (sp : Nat → Bool) (fuel : Nat) (cs : List Value) (y : DataW H × List MemPlace), DataW.trod enc P w 0 sp true fuel t cs = some y → ∃ x : α, rd w.heap.size w cs x

theorem opn_i64 {P : Program} {t : TypeId} (hu : P.underlying t = some (.int .i64)) : Opn P t Int := by
  intro H enc w sp fuel cs y h
  cases fuel with
  | zero => simp [DataW.trod] at h
  | succ fuel =>
    obtain ⟨n, e0, rfl, wa⟩ := DataW.trod_int hu h
    subst e0
    refine ⟨n, rfl, ?_⟩
    simp [Lit.wf, IntKind.min, IntKind.max, IntKind.signed, IntKind.bits] at wa
    unfold In64; omega

theorem opn_u8 {P : Program} {t : TypeId} (hu : P.underlying t = some (.int .u8)) : Opn P t UInt8 := by
  intro H enc w sp fuel cs y h
  cases fuel with
  | zero => simp [DataW.trod] at h
  | succ fuel =>
    obtain ⟨n, e0, rfl, wa⟩ := DataW.trod_int hu h
    subst e0
    simp [Lit.wf, IntKind.min, IntKind.max, IntKind.signed, IntKind.bits] at wa
    refine ⟨UInt8.ofNat n.toNat, ?_⟩
    show _ = _
    rw [UInt8.toNat_ofNat']
    congr 2; omega

theorem opn_bool {P : Program} {t : TypeId} (hu : P.underlying t = some .bool) : Opn P t Bool := by
  intro H enc w sp fuel cs y h
  obtain ⟨b, rfl, rfl⟩ := DataW.trod_bool hu h
  exact ⟨b, rfl⟩

theorem opn_string {P : Program} {t : TypeId} (hu : P.underlying t = some .string) : Opn P t ByteArray := by
  intro H enc w sp fuel cs y h
  obtain ⟨s, rfl, rfl, hs⟩ := DataW.trod_string hu h
  exact ⟨s, rfl, hs⟩

theorem add_add (a : Addr) (i j : Nat) (v : Value) (w : World) (h : w.cell? ((a.add i).add j) = some v) : a.spot = none ∨ 0 < i + j := by
  by_cases h0 : i + j = 0
  · left
    have : i = 0 := by omega
    have : j = 0 := by omega
    subst i; subst j
    simpa [Addr.add] using World.cell?_spot h
  · right; omega

theorem add_add_eq (b o i j : Nat) : ((⟨b, o, none⟩ : Addr).add i).add j = ⟨b, o + i + j, none⟩ := by
  unfold Addr.add
  split <;> split <;> simp_all

theorem opn_slice {P : Program} {t e : TypeId} {α : Type} [Cel α] (hu : P.underlying t = some (.slice e)) (hc : P.cellsOf e = Cel.k α) (he : Opn P e α) : Opn P t (List α) := by
  intro H enc w sp fuel cs y h
  rcases Go.Deep.open_slice hu h with ⟨rfl, rfl⟩ | ⟨a, len, cap, m, n, D, Pl, rfl, hb, hl, hm, hmm, rfl, hx⟩
  · exact ⟨[], _, rfl, RdS.nil _ _⟩
  · rw [hc] at hx
    have hkp := Cel.kpos (α := α)
    have hlm : len ≤ m := by rw [hmm]; split <;> omega
    have hel : ∀ i, i < len → ∃ x : α, ∃ vs, rd w.heap.size w vs x ∧ ∀ j, j < Cel.k α → w.cell? ((a.add (i * Cel.k α)).add j) = vs[j]? := by
      intro i hi
      obtain ⟨vs, h1, h2⟩ := hx i (by omega)
      obtain ⟨x, hr⟩ := he H enc w sp n vs _ h2
      obtain ⟨_, h3, h4⟩ := World.cells?_some h1
      exact ⟨x, vs, hr, h4⟩
    by_cases h0 : len = 0
    · subst h0
      exact ⟨[], _, rfl, some a, cap, rfl, hl, hm, by simp, .inl rfl⟩
    · obtain ⟨x0, vs0, hr0, hc0⟩ := hel 0 (by omega)
      have hl0 := rd_len hr0
      have e0 := hc0 0 hkp
      rw [List.getElem?_eq_getElem (by omega)] at e0
      obtain ⟨b, o, sp'⟩ := a
      have hspot : sp' = none := by
        have e1 := World.cell?_spot e0
        simpa [Addr.add] using e1
      subst hspot
      have hblt : b < w.heap.size := by
        have := World.block_lt_of_cell? w _ e0
        rw [add_add_eq] at this; exact this
      suffices ∀ len, (∀ i, i < len → ∃ x : α, ∃ vs, rd w.heap.size w vs x ∧ ∀ j, j < Cel.k α → w.cell? (((⟨b, o, none⟩ : Addr).add (i * Cel.k α)).add j) = vs[j]?) → ∃ l : List α, l.length = len ∧ RdL w.heap.size w b o l by
        obtain ⟨l, rfl, hrl⟩ := this len hel
        exact ⟨l, _, rfl, _, cap, rfl, hl, hm, by simp, .inr ⟨b, o, rfl, hblt, hrl⟩⟩
      clear hel hx h hl hlm hmm h0
      intro len
      induction len with
      | zero => intro _; exact ⟨[], rfl, by intro i x hx; simp at hx⟩
      | succ len ih =>
        intro hel
        obtain ⟨l, hll, hrl⟩ := ih (fun i hi => hel i (by omega))
        obtain ⟨x, vs, hr, hcx⟩ := hel len (by omega)
        refine ⟨l ++ [x], by simp [hll], ?_⟩
        intro i y hy
        by_cases hi : i < len
        · rw [List.getElem?_append_left (by omega)] at hy
          exact hrl i y hy
        · have hi' : i = len := by
            have := (List.getElem?_eq_some_iff.1 hy).1
            simp [hll] at this; omega
          subst hi'
          rw [← hll, List.getElem?_append_right (Nat.le_refl _)] at hy
          simp at hy; subst hy
          refine ⟨vs, hr, fun j hj => ?_⟩
          rw [← hcx j hj, add_add_eq]

/-- The fields of a structure from a place on. -/
def OpnF (P : Program) (fs : List Field) (o : Nat) (α : Type) [Cel α] : Prop :=
  ∀ (H : Type) (enc : TypeId × Value → H) (w : World) (sp : Nat → Bool) (fuel : Nat) (cs : List Value) (ys : List (DataW H × List MemPlace)), cs.length = o + Cel.k α →
    fs.mapM (fun f => DataW.trod enc P w 0 sp true fuel f.type ((cs.drop f.offset).take (P.cellsOf f.type))) = some ys → ∃ x : α, rd w.heap.size w (cs.drop o) x

theorem opnF_one {P : Program} {f : Field} {o : Nat} {α : Type} [Cel α] (ho : f.offset = o) (hc : P.cellsOf f.type = Cel.k α) (h : Opn P f.type α) : OpnF P [f] o α := by
  intro H enc w sp fuel cs ys hl hm
  simp only [List.mapM_cons, List.mapM_nil, ho, hc] at hm
  cases h1 : DataW.trod enc P w 0 sp true fuel f.type ((cs.drop o).take (Cel.k α)) with
  | none => simp [h1] at hm
  | some y =>
    obtain ⟨x, hx⟩ := h H enc w sp fuel _ y h1
    refine ⟨x, ?_⟩
    rwa [List.take_of_length_le (by rw [List.length_drop]; omega)] at hx

theorem opnF_cons {P : Program} {f : Field} {fs : List Field} {o : Nat} {α β : Type} [Cel α] [Cel β] (ho : f.offset = o) (hc : P.cellsOf f.type = Cel.k α) (h : Opn P f.type α) (hs : OpnF P fs (o + Cel.k α) β) : OpnF P (f :: fs) o (α × β) := by
  intro H enc w sp fuel cs ys hl hm
  have hl' : cs.length = o + (Cel.k α + Cel.k β) := hl
  simp only [List.mapM_cons, ho, hc] at hm
  cases h1 : DataW.trod enc P w 0 sp true fuel f.type ((cs.drop o).take (Cel.k α)) with
  | none => simp [h1] at hm
  | some y =>
    obtain ⟨x, hx⟩ := h H enc w sp fuel _ y h1
    cases h2 : fs.mapM (fun f => DataW.trod enc P w 0 sp true fuel f.type ((cs.drop f.offset).take (P.cellsOf f.type))) with
    | none => simp [h1, h2] at hm
    | some ys' =>
      obtain ⟨z, hz⟩ := hs H enc w sp fuel cs ys' (by omega) h2
      refine ⟨(x, z), (cs.drop o).take (Cel.k α), cs.drop (o + Cel.k α), ?_, hx, hz⟩
      rw [← List.drop_drop, List.take_append_drop]

theorem opn_struct {P : Program} {t : TypeId} {fs : Array Field} {α : Type} [Cel α] (hu : P.underlying t = some (.struct fs)) (hc : P.cellsOf t = Cel.k α) (h : OpnF P fs.toList 0 α) : Opn P t α := by
  intro H enc w sp fuel cs y hy
  cases fuel with
  | zero => simp [DataW.trod] at hy
  | succ fuel =>
    unfold DataW.trod at hy
    rw [hu] at hy
    simp only at hy
    split at hy
    · rename_i hl
      cases h2 : fs.toList.mapM (fun f => DataW.trod enc P w 0 sp true fuel f.type ((cs.drop f.offset).take (P.cellsOf f.type))) with
      | none => rw [h2] at hy; simp at hy
      | some ys =>
        obtain ⟨x, hx⟩ := h H enc w sp fuel cs ys (by omega) h2
        exact ⟨x, by simpa using hx⟩
    · simp at hy

/-- A structure that is as a tuple is. -/
theorem opn_iso {P : Program} {t : TypeId} {α β : Type} [Cel α] (f : β → α) (g : α → β) (hfg : ∀ x, f (g x) = x) (h : Opn P t α) : @Opn P t β (Cel.iso f) := by
  intro H enc w sp fuel cs y hy
  obtain ⟨x, hx⟩ := h H enc w sp fuel cs y hy
  exact ⟨g x, by show rd _ _ _ (f (g x)); rw [hfg]; exact hx⟩

/-- An argument of a call. -/
theorem opn_arg {P : Program} {t : TypeId} {α : Type} [Cel α] (h : Opn P t α) {H : Type} {enc : TypeId × Value → H} {w : World} {v : Value} {d : DataW H} {p : List MemPlace} (hd : DataW.Trod enc P w 0 (fun _ => true) true t v d p) :
    ∃ x : α, rd w.heap.size w v.cells.toList x := by
  obtain ⟨fuel, hf⟩ := hd
  exact h H enc w _ fuel _ _ hf

end Go.Proofs.YthnilnggpbploaaGreat
