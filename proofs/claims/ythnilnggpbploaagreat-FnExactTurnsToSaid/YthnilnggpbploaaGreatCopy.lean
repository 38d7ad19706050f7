/- Copies of facts. -/
import Derived.Test.YthnilnggpbploaaGreatRd
import Derived.Test.YthnilnggpbploaaGreatOwn2
namespace Go.Proofs.YthnilnggpbploaaGreat
open Go.RowKit
open Cel (rd own rd_len rd_one own_rd own_lt rd_below rd_mono own_keep)

theorem keep_set {w : World} {b o g p : Nat} {v u : Value} (h : w.cell? ⟨b, o, none⟩ = some v) (hn : ¬ b = g) : (w.setCell ⟨g, p, none⟩ u).cell? ⟨b, o, none⟩ = some v := by
  have h2 : (⟨g, p, none⟩ : Addr) ≠ ⟨b, o, none⟩ := fun e => hn (by cases e; rfl)
  rw [← h]; exact World.cell?_setCell_other _ _ _ _ h2
theorem slValI : SlT Tryz.prog 41 3 32 := SlT.mk (z := .agg #[.int .i64 0, .int .i64 0, .string ⟨#[]⟩]) Tryz.underlying41 (by kernel_rfl) rfl
def copyFactP (f : FactD) : FactD := f
theorem fact_len (f : FactD) (h : sznFact f ≤ 1048576) : f.Fields.length ≤ 1048576 := by unfold sznFact sznSVal at h; omega

theorem cloneVal_s (l : List ValD) (v : Value) (w : World) (h : Sl w l v) (hlen : l.length ≤ 1048576) :
    Calls Tryz.prog 300 #[v] w (RetS l w) := by
  obtain ⟨a, c, rfl, hl, _, hlc, hc⟩ := h.open
  have e1 := fun w => Lib.run_eql_slice_nil (P := Tryz.prog) w 41 125 a l.length c 0 0 Tryz.underlying41
  cases a with
  | none =>
    obtain rfl : c = 0 := hc rfl
    obtain rfl : l = [] := List.eq_nil_of_length_eq_zero (by omega)
    clear hc h hl hlc hlen
    simp only [Option.isNone_none, List.length_nil] at e1 ⊢
    go_enter Tryz.func300, Tryz.ntmps300
    go_wp2
    go_ret
    exact ⟨none, 0, [], rfl, OwnS.nil w, Fr.nil _, Below.refl _ _⟩
  | some ad =>
    have h' := h.to ((Below.refl w.heap.size w).alloc (Nat.le_refl _) (.cells #[] 125))
    have hfr : Fr w.heap.size [w.heap.size] := ⟨by simp, by simp⟩
    have hby : (([] : List ValD).length + l.length) * 32 ≤ 140737488355328 := by simp; omega
    have hml : ([] : List ValD).length + l.length ≤ maxLen := by simp [maxLen]; omega
    go_enter Tryz.func300, Tryz.ntmps300
    go_wp2_with (at_builtin; go_loud (refine wpList_appendF (α := ValD) (l := []) (B := w.heap.size) rfl _ _ _ rfl slValI rfl (OwnS.made w _ _ 0 (by decide) (by simp)) rfl h' hfr (by simp) hby hml ?_); intro a' c' w' fp' h1 h2 h3 h4 _)
    go_ret
    refine ⟨a', c', fp', ?_, ?_, h2, ?_⟩
    · simp
    · simpa using h1
    · exact ((Below.refl _ _).alloc (Nat.le_refl _) _).trans h4

/-- What a copy of a fact hands back. -/
def RetFact (f : FactD) (w : World) (e : Ending) (w' : World) : Prop :=
  ∃ a c fp, e = .returned (.agg #[.string f.Kind, .slice a f.Fields.length c]) ∧ OwnS w' f.Fields (.slice a f.Fields.length c) fp ∧ Fr w.heap.size fp ∧ Below w.heap.size w w'

theorem icopyFact_s (f : FactD) (v : Value) (w : World) (h : Sl w f.Fields v) (hlen : f.Fields.length ≤ 1048576) :
    Calls Tryz.prog 194 #[.agg #[.string f.Kind, v]] w (RetFact f w) := by
  obtain ⟨a, c, rfl, hl, _⟩ := h.open
  generalize hn : f.Kind = n at *
  generalize hfl : f.Fields = l at *
  go_enter Tryz.func194, Tryz.ntmps194
  go_wp2
  go_region_held3 (fun w' => w'.cell? ⟨w.heap.size, 0, none⟩ = some (.string n) ∧ w'.cell? ⟨w.heap.size, 1, none⟩ = some (.slice a l.length c)) (go_keep)
    (first | (go_at_call 300; refine (cloneVal_s l _ _ (h.to ?_) hlen).mono ?_; exact (((Below.refl _ _).alloc (Nat.le_refl _) _).alloc (by simp) _).drew; rintro e w1 ⟨a', c', fp', rfl, ho, hf, hb⟩; obtain ⟨hc, hfz⟩ := bcell (B := w.heap.size + 2) (hb.mono (by simp))))
  go_wp2
  have h3 := via (w0 := w) (by simp (maxDischargeDepth := 9)) hb
  refine ret_mk (.agg #[.string n, .slice a' l.length c']) (by simp [results, Tryz.results194, go_sem, hc]) rfl ⟨a', c', fp', by simp [hn, hfl], by simpa [hfl] using (ho.low hf (by simp) _).low hf (by simp) _, hf.mono (by simp; omega), ?_⟩
  simp (maxDischargeDepth := 9) [bl_le, h3]
theorem sl3Copy_s (f : FactD) (v : Value) (w : World) (h : Sl w f.Fields v) (hlen : f.Fields.length ≤ 1048576) :
    Calls Tryz.prog 203 #[.agg #[.string f.Kind, v]] w (RetFact f w) := by
  obtain ⟨a, c, rfl, hl, _⟩ := h.open
  generalize hn : f.Kind = n at *
  generalize hfl : f.Fields = l at *
  have hby : (([] : List ValD).length + l.length) * 32 ≤ 140737488355328 := by simp; omega
  have hml : ([] : List ValD).length + l.length ≤ maxLen := by simp [maxLen]; omega
  have hfr : Fr (w.heap.size + 2) [w.heap.size + 2] := ⟨by simp, by simp⟩
  have h2' := h.to (w' := ((w.alloc (.cells #[.string n, .slice a l.length c] 43)).alloc (.cells #[.string ⟨#[]⟩, .slice none 0 0] 43)).alloc (.cells #[] 125)) (by simp (maxDischargeDepth := 9))
  have ho2 : OwnS (((w.alloc (.cells #[.string n, .slice a l.length c] 43)).alloc (.cells #[.string ⟨#[]⟩, .slice none 0 0] 43)).alloc (.cells #[] 125)) ([] : List ValD) (.slice (some ⟨w.heap.size + 2, 0, none⟩) 0 0) [w.heap.size + 2] := OwnS.madeAt _ _ _ _ _ (by simp) (by simp [maxLen]) (by simp)
  go_enter Tryz.func203, Tryz.ntmps203
  go_wp2_with (at_builtin; go_loud (refine wpList_appendF (α := ValD) (l := []) (B := w.heap.size + 2) rfl _ _ _ rfl slValI rfl ho2 rfl h2' hfr (by simp) hby hml ?_); intro a' c' w1 fp' h1 h2 h3 h4 h5; obtain ⟨hc, hfz⟩ := bcell h4)
  simp only [List.length_nil, Nat.zero_add, List.nil_append] at h1
  have h6 : Below w.heap.size w w1 := Below.trans (by simp (maxDischargeDepth := 9)) (h4.mono (by omega))
  refine ret_mk (.agg #[.string n, .slice a' l.length c']) (by simp [results, Tryz.results203, go_sem, hc]) rfl ⟨a', c', fp', by simp [hn, hfl], by simpa [hfl] using ((h1.low h2 (by simp) _).low h2 (by simp) _).low h2 (by simp) _, h2.mono (by omega), ?_⟩
  simp (maxDischargeDepth := 9) [bl_le, h6]

theorem icopyFact_w (a0 : FactD) (v0_1 : Value) (w : World) (s0_1 : Sl w a0.Fields v0_1) (hz_a0 : sznFact a0 ≤ 1048576) :
    Calls Tryz.prog 194 #[.agg #[.string a0.Kind, v0_1]] w (fun e w' => ∃ u0 f0, e = .returned (.agg #[.string (copyFactP a0).Kind, u0]) ∧ OwnS w' (copyFactP a0).Fields u0 f0 ∧ Fr w.heap.size f0 ∧ Below w.heap.size w w') :=
  (icopyFact_s a0 v0_1 w s0_1 (fact_len _ hz_a0)).mono fun _ _ ⟨_, _, _, he, ho, hf, hb⟩ => ⟨_, _, he, ho, hf, hb⟩
theorem sl3Copy_w (a0 : FactD) (v0_1 : Value) (w : World) (s0_1 : Sl w a0.Fields v0_1) (hz_a0 : sznFact a0 ≤ 1048576) :
    Calls Tryz.prog 203 #[.agg #[.string a0.Kind, v0_1]] w (fun e w' => ∃ u0 f0, e = .returned (.agg #[.string (copyFactP a0).Kind, u0]) ∧ OwnS w' (copyFactP a0).Fields u0 f0 ∧ Fr w.heap.size f0 ∧ Below w.heap.size w w') :=
  (sl3Copy_s a0 v0_1 w s0_1 (fact_len _ hz_a0)).mono fun _ _ ⟨_, _, _, he, ho, hf, hb⟩ => ⟨_, _, he, ho, hf, hb⟩
end Go.Proofs.YthnilnggpbploaaGreat
