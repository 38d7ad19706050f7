/- Rules and definitions: the program's and the reference's ask the same. -/
import Derived.Test.YthnilnggpbploaaGreatCmC1
import Derived.Test.YthnilnggpbploaaGreatCmT1
import Derived.Test.YthnilnggpbploaaGreatOk1
namespace Go.Proofs.YthnilnggpbploaaGreat
open Go.RowKit

theorem allN_mem {α : Type} [Inhabited α] {l : List α} {p : α → Bool} : allN (fun k => p (gt l k)) l.length = true ↔ ∀ x, x ∈ l → p x = true := by
  rw [allN_iff]
  constructor
  · intro h x hx
    obtain ⟨k, hk, rfl⟩ := List.getElem_of_mem hx
    rw [gt_get hk]; exact h k hk
  · intro h k hk
    exact h _ (by rw [← gt_get hk]; exact List.getElem_mem hk)
/-- How many below n are not so. -/
def cntN (p : Nat → Bool) : Nat → Nat
  | 0 => 0
  | j + 1 => cntN p j + (bif p j then 0 else 1)
theorem n_count (r : RuleD) : iPosCount_p r = ((cntN (fun k => (gt r.Pats k).Not) r.Pats.length : Nat) : Int) := by
  have h : ∀ j, rounds (iPosCount_p_b1 r) j (0 : Int) = .go ((cntN (fun k => (gt r.Pats k).Not) j : Nat) : Int) := by
    intro j
    induction j with
    | zero => rfl
    | succ j ih =>
      rw [rounds, ih]
      show iPosCount_p_b1 r j _ = _
      unfold iPosCount_p_b1
      rw [cntN]
      cases (gt r.Pats j).Not
      · show St.go _ = St.go _; congr 1
      · rfl
  unfold iPosCount_p
  rw [h]
theorem e_count (r : RuleD) : sPosCount_p r = iPosCount_p r := by
  unfold sPosCount_p iPosCount_p
  have h : sPosCount_p_b1 r = iPosCount_p_b1 r := rfl
  rw [h]
  cases rounds (iPosCount_p_b1 r) r.Pats.length (0 : Int) <;> rfl
theorem cnt_mono {p : Nat → Bool} {n : Nat} (h : ∀ k, k < n → 0 < k → p (k - 1) = true → p k = true) : ∀ j, j ≤ n →
    (cntN p j = j ∧ ∀ i, i < j → p i = false) ∨ ∃ m, m < j ∧ cntN p j = m ∧ (∀ i, i < m → p i = false) ∧ ∀ i, m ≤ i → i < j → p i = true := by
  intro j
  induction j with
  | zero => intro _; exact .inl ⟨rfl, fun i hi => by omega⟩
  | succ j ih =>
    intro hj
    rcases ih (by omega) with ⟨h1, h2⟩ | ⟨m, h1, h2, h3, h4⟩
    · cases e : p j with
      | true =>
        refine .inr ⟨j, by omega, by rw [cntN, h1, e]; rfl, h2, fun i h5 h6 => ?_⟩
        have : i = j := by omega
        rw [this]; exact e
      | false =>
        refine .inl ⟨by rw [cntN, h1, e]; rfl, fun i hi => ?_⟩
        by_cases hij : i = j
        · rw [hij]; exact e
        · exact h2 i (by omega)
    · have e : p j = true := h j (by omega) (by omega) (h4 (j - 1) (by omega) (by omega))
      refine .inr ⟨m, by omega, by rw [cntN, h2, e]; rfl, h3, fun i h5 h6 => ?_⟩
      by_cases hij : i = j
      · rw [hij]; exact e
      · exact h4 i h5 (by omega)
theorem n_spats (l : List PatD) : sl9Pats_p l = true ↔ (∀ k, k < l.length → sPatOk_p (gt l k) = true ∧ (2 < k → (gt l k).Not = true) ∧ (k = 0 → (gt l k).Not = false) ∧ (0 < k → (gt l (k - 1)).Not = true → (gt l k).Not = true)) ∧ 1 ≤ l.length ∧ l.length ≤ 6 := by
  unfold sl9Pats_p
  rw [rounds_all (p := fun k => sPatOk_p (gt l k) && ((!decide (2 < k) || (gt l k).Not) && ((!((k : Int) == 0) || !(gt l k).Not) && (!decide (0 < k) || (!(gt l (k - 1)).Not || (gt l k).Not))))) (fun k => by
    unfold sl9Pats_p_b1
    have hz : ((k : Int) == 0) = !decide (0 < k) := by
      rw [← decide_not, Bool.eq_iff_iff]; simp
    rw [hz]
    cases sPatOk_p (gt l k) <;> cases decide (2 < k) <;> cases (gt l k).Not <;> cases decide (0 < k) <;> cases (gt l (k - 1)).Not <;> rfl)]
  have h : (match (bif allN (fun k => sPatOk_p (gt l k) && ((!decide (2 < k) || (gt l k).Not) && ((!((k : Int) == 0) || !(gt l k).Not) && (!decide (0 < k) || (!(gt l (k - 1)).Not || (gt l k).Not))))) l.length then (St.go () : St Bool Unit) else .ret false) with | .ret r => r | .brk _ => default | .go _ => inR (l.length : Int) 1 6) = true ↔ allN (fun k => sPatOk_p (gt l k) && ((!decide (2 < k) || (gt l k).Not) && ((!((k : Int) == 0) || !(gt l k).Not) && (!decide (0 < k) || (!(gt l (k - 1)).Not || (gt l k).Not))))) l.length = true ∧ inR (l.length : Int) 1 6 = true := by
    cases allN _ l.length <;> simp
  refine Iff.trans ?_ (h.trans ?_)
  · exact Iff.rfl
  rw [allN_iff]
  refine and_congr (forall_congr' fun k => imp_congr_right fun hk => ?_) ?_
  · simp only [Bool.and_eq_true, Bool.or_eq_true, Bool.not_eq_true', decide_eq_false_iff_not, beq_eq_false_iff_ne]
    refine and_congr_right fun _ => and_congr ?_ (and_congr ?_ ?_)
    · by_cases h2 : 2 < k <;> simp [h2]
    · by_cases h2 : k = 0 <;> simp [h2]
    · by_cases h2 : 0 < k
      · cases (gt l (k - 1)).Not <;> simp [h2]
      · simp [h2]
  · constructor
    · intro h; have := inR_true h; omega
    · intro h; unfold inR; simp; omega
theorem n_ipats (r : RuleD) : ipatsOk_p r = true ↔ (1 ≤ r.Pats.length ∧ r.Pats.length ≤ 6) ∧ (1 ≤ cntN (fun k => (gt r.Pats k).Not) r.Pats.length ∧ cntN (fun k => (gt r.Pats k).Not) r.Pats.length ≤ 3) ∧
    ∀ k, k < r.Pats.length → sPatOk_p (gt r.Pats k) = true ∧ ((gt r.Pats k).Not = true ↔ cntN (fun k => (gt r.Pats k).Not) r.Pats.length ≤ k) := by
  unfold ipatsOk_p
  rw [rounds_all (p := fun k => sPatOk_p (gt r.Pats k) && ((gt r.Pats k).Not == decide (iPosCount_p r ≤ (k : Int)))) (fun k => by
    unfold ipatsOk_p_b1
    rw [e_pat]
    cases sPatOk_p (gt r.Pats k) <;> cases decide (iPosCount_p r ≤ (k : Int)) <;> cases (gt r.Pats k).Not <;> rfl), n_count]
  generalize hC : cntN (fun k => (gt r.Pats k).Not) r.Pats.length = C
  have h1 : inR (r.Pats.length : Int) 1 6 = true ↔ (1 ≤ r.Pats.length ∧ r.Pats.length ≤ 6) := by unfold inR; simp; omega
  have h2 : inR (C : Int) 1 3 = true ↔ (1 ≤ C ∧ C ≤ 3) := by unfold inR; simp; omega
  have h3 : allN (fun k => sPatOk_p (gt r.Pats k) && ((gt r.Pats k).Not == decide ((C : Int) ≤ (k : Int)))) r.Pats.length = true ↔ ∀ k, k < r.Pats.length → sPatOk_p (gt r.Pats k) = true ∧ ((gt r.Pats k).Not = true ↔ C ≤ k) := by
    rw [allN_iff]
    refine forall_congr' fun k => imp_congr_right fun _ => ?_
    rw [Bool.and_eq_true]
    refine and_congr_right fun _ => ?_
    cases (gt r.Pats k).Not <;> simp
  rw [← h1, ← h2, ← h3]
  cases inR (r.Pats.length : Int) 1 6 <;> cases inR (C : Int) 1 3 <;> cases allN _ r.Pats.length <;> simp
theorem e_pats (r : RuleD) : ipatsOk_p r = sl9Pats_p r.Pats := by
  rw [Bool.eq_iff_iff, n_ipats, n_spats]
  constructor
  · rintro ⟨h1, h2, h3⟩
    refine ⟨fun k hk => ?_, h1⟩
    obtain ⟨h4, h5⟩ := h3 k hk
    refine ⟨h4, fun h => h5.2 (by omega), fun h => ?_, fun h h6 => h5.2 ?_⟩
    · cases e : (gt r.Pats k).Not with
      | false => rfl
      | true => have := h5.1 e; omega
    · have := (h3 (k - 1) (by omega)).2.1 h6; omega
  · rintro ⟨h1, h2⟩
    have hm := cnt_mono (p := fun k => (gt r.Pats k).Not) (n := r.Pats.length) (fun k hk h0 hp => (h1 k hk).2.2.2 h0 hp) r.Pats.length (Nat.le_refl _)
    refine ⟨h2, ?_⟩
    rcases hm with ⟨h3, h4⟩ | ⟨m, h3, h4, h5, h6⟩
    · rw [h3]
      refine ⟨⟨h2.1, ?_⟩, fun k hk => ⟨(h1 k hk).1, fun h => ?_, fun h => by omega⟩⟩
      · by_cases h7 : r.Pats.length ≤ 3
        · exact h7
        · have h8 := (h1 3 (by omega)).2.1 (by omega); have h9 := h4 3 (by omega); simp only [h8] at h9; cases h9
      · have h9 := h4 k hk; simp only [h] at h9; cases h9
    · rw [h4]
      refine ⟨⟨?_, ?_⟩, fun k hk => ⟨(h1 k hk).1, fun h => ?_, fun h => h6 k h hk⟩⟩
      · rcases Nat.eq_zero_or_pos m with h7 | h7
        · have h8 := h6 0 (by omega) (by omega); have h9 := (h1 0 (by omega)).2.2.1 rfl; simp only [h9] at h8; cases h8
        · exact h7
      · by_cases h7 : m ≤ 3
        · exact h7
        · have h8 := (h1 3 (by omega)).2.1 (by omega); have h9 := h5 3 (by omega); simp only [h8] at h9; cases h9
      · by_cases h7 : m ≤ k
        · exact h7
        · have h9 := h5 k (by omega); simp only [h] at h9; cases h9
end Go.Proofs.YthnilnggpbploaaGreat
