/- Stores, tasks, timers, undoings: the program's and the reference's ask the same. -/
import Derived.Test.YthnilnggpbploaaGreatOk4
namespace Go.Proofs.YthnilnggpbploaaGreat
open Go.RowKit

theorem incr {id : Nat → Int} {n : Nat} (h : ∀ k, k < n → 0 < k → ¬ id k ≤ id (k - 1)) : ∀ k, k < n → ∀ j, j < k → id j < id k := by
  intro k
  induction k with
  | zero => intro _ j hj; omega
  | succ k ih =>
    intro hk j hj
    have h1 := h (k + 1) hk (by omega)
    rw [Nat.add_sub_cancel] at h1
    by_cases hjk : j = k
    · rw [hjk]; omega
    · have := ih (by omega) j (by omega); omega
theorem n_istore (s : StoreD) : iStoreOk_p s = true ↔ (s.Items.length ≤ 40 ∧ inR s.Next 1 1000000 = true) ∧ ∀ k, k < s.Items.length → sFactOk_p (gt s.Items k).F = true ∧ inR (gt s.Items k).Id 1 (s.Next - 1) = true ∧ (0 < k → ¬ (gt s.Items k).Id ≤ (gt s.Items (k - 1)).Id) ∧ ∀ j, j < k → sSameFact_p (gt s.Items k).F (gt s.Items j).F = false := by
  unfold iStoreOk_p
  have hb : ∀ k, iStoreOk_p_b1 s k () = bif sFactOk_p (gt s.Items k).F && (inR (gt s.Items k).Id 1 (s.Next - 1) && ((!decide (0 < k) || !decide ((gt s.Items k).Id ≤ (gt s.Items (k - 1)).Id)) && allN (fun j => !sSameFact_p (gt s.Items k).F (gt s.Items j).F) k)) then .go () else .ret false := by
    intro k
    unfold iStoreOk_p_b1
    rw [e_fact, rounds_all (p := fun j => !sSameFact_p (gt s.Items k).F (gt s.Items j).F) (fun j => by
        unfold iStoreOk_p_b2; rw [e_same]; cases sSameFact_p (gt s.Items k).F (gt s.Items j).F <;> rfl)]
    by_cases h0 : 0 < k
    · rw [decide_eq_true h0]
      generalize allN _ _ = A
      cases sFactOk_p (gt s.Items k).F <;> cases inR (gt s.Items k).Id 1 (s.Next - 1) <;> cases decide ((gt s.Items k).Id ≤ (gt s.Items (k - 1)).Id) <;> cases A <;> rfl
    · rw [decide_eq_false h0]
      obtain rfl : k = 0 := by omega
      cases sFactOk_p (gt s.Items 0).F <;> cases inR (gt s.Items 0).Id 1 (s.Next - 1) <;> rfl
  rw [rounds_all hb]
  have h1 : allN (fun k => sFactOk_p (gt s.Items k).F && (inR (gt s.Items k).Id 1 (s.Next - 1) && ((!decide (0 < k) || !decide ((gt s.Items k).Id ≤ (gt s.Items (k - 1)).Id)) && allN (fun j => !sSameFact_p (gt s.Items k).F (gt s.Items j).F) k))) s.Items.length = true ↔ ∀ k, k < s.Items.length → sFactOk_p (gt s.Items k).F = true ∧ inR (gt s.Items k).Id 1 (s.Next - 1) = true ∧ (0 < k → ¬ (gt s.Items k).Id ≤ (gt s.Items (k - 1)).Id) ∧ ∀ j, j < k → sSameFact_p (gt s.Items k).F (gt s.Items j).F = false := by
    rw [allN_iff]
    refine forall_congr' fun k => imp_congr_right fun _ => ?_
    rw [Bool.and_eq_true, Bool.and_eq_true, Bool.and_eq_true, allN_iff]
    refine and_congr_right fun _ => and_congr_right fun _ => and_congr ?_ ?_
    · by_cases h : 0 < k <;> simp [h]
    · simp
  rw [← h1]
  by_cases h2 : 40 < s.Items.length
  · rw [decide_eq_true h2]; simp; omega
  · rw [decide_eq_false h2]
    have : s.Items.length ≤ 40 := by omega
    cases inR s.Next 1 1000000 <;> cases allN _ s.Items.length <;> simp [this]
theorem n_sstore (s : StoreD) : sStoreOk_p s = true ↔ (s.Items.length ≤ 40 ∧ inR s.Next 1 1000000 = true) ∧ ∀ k, k < s.Items.length → sFactOk_p (gt s.Items k).F = true ∧ inR (gt s.Items k).Id 1 (s.Next - 1) = true ∧ (0 < k → ¬ (gt s.Items k).Id ≤ (gt s.Items (k - 1)).Id) ∧ sIdOf_p s (gt s.Items k).F = (gt s.Items k).Id := by
  unfold sStoreOk_p
  have hr : ∀ k, inR (gt s.Items k).Id 1 (s.Next - 1) = (!decide ((gt s.Items k).Id < 1) && !decide (s.Next ≤ (gt s.Items k).Id)) := by
    intro k; unfold inR; rw [← decide_not, ← decide_not]; congr 1 <;> (apply decide_eq_decide.2; omega)
  have hb : ∀ k, sStoreOk_p_b1 s k () = bif sFactOk_p (gt s.Items k).F && (inR (gt s.Items k).Id 1 (s.Next - 1) && ((!decide (0 < k) || !decide ((gt s.Items k).Id ≤ (gt s.Items (k - 1)).Id)) && (sIdOf_p s (gt s.Items k).F == (gt s.Items k).Id))) then .go () else .ret false := by
    intro k
    unfold sStoreOk_p_b1
    rw [hr]
    cases decide (0 < k) <;> cases sFactOk_p (gt s.Items k).F <;> cases decide ((gt s.Items k).Id < 1) <;> cases decide (s.Next ≤ (gt s.Items k).Id) <;> cases decide ((gt s.Items k).Id ≤ (gt s.Items (k - 1)).Id) <;> cases (sIdOf_p s (gt s.Items k).F == (gt s.Items k).Id) <;> rfl
  rw [rounds_all hb]
  have h1 : allN (fun k => sFactOk_p (gt s.Items k).F && (inR (gt s.Items k).Id 1 (s.Next - 1) && ((!decide (0 < k) || !decide ((gt s.Items k).Id ≤ (gt s.Items (k - 1)).Id)) && (sIdOf_p s (gt s.Items k).F == (gt s.Items k).Id)))) s.Items.length = true ↔ ∀ k, k < s.Items.length → sFactOk_p (gt s.Items k).F = true ∧ inR (gt s.Items k).Id 1 (s.Next - 1) = true ∧ (0 < k → ¬ (gt s.Items k).Id ≤ (gt s.Items (k - 1)).Id) ∧ sIdOf_p s (gt s.Items k).F = (gt s.Items k).Id := by
    rw [allN_iff]
    refine forall_congr' fun k => imp_congr_right fun _ => ?_
    rw [Bool.and_eq_true, Bool.and_eq_true, Bool.and_eq_true]
    refine and_congr_right fun _ => and_congr_right fun _ => and_congr ?_ ?_
    · by_cases h : 0 < k <;> simp [h]
    · simp
  rw [← h1]
  by_cases h2 : 40 < s.Items.length
  · rw [decide_eq_true h2]
    have : ¬ s.Items.length ≤ 40 := by omega
    cases inR s.Next 1 1000000 <;> simp [this]
  · rw [decide_eq_false h2]
    have : s.Items.length ≤ 40 := by omega
    cases inR s.Next 1 1000000 <;> cases allN _ s.Items.length <;> simp [this]
theorem n_idOf (s : StoreD) (f : FactD) : sIdOf_p s f = match firstB (fun k => sSameFact_p (gt s.Items k).F f) s.Items.length with | some k => (gt s.Items k).Id | none => 0 := by
  unfold sIdOf_p
  rw [rounds_find (c := fun k => sSameFact_p (gt s.Items k).F f) (g := fun k => (gt s.Items k).Id) (fun k => rfl)]
  cases firstB (fun k => sSameFact_p (gt s.Items k).F f) s.Items.length <;> rfl
theorem same_symm {a b : FactD} : sSameFact_p a b = sSameFact_p b a := by
  rw [Bool.eq_iff_iff, s_same, s_same]; exact ⟨sameP_symm, sameP_symm⟩
theorem same_refl (a : FactD) : sSameFact_p a a = true := (s_same a a).2 (sameP_refl a)
theorem e_store (s : StoreD) : iStoreOk_p s = sStoreOk_p s := by
  rw [Bool.eq_iff_iff, n_istore, n_sstore]
  refine and_congr_right fun _ => ?_
  constructor
  · intro h k hk
    obtain ⟨h1, h2, h3, h4⟩ := h k hk
    refine ⟨h1, h2, h3, ?_⟩
    rw [n_idOf, firstB_is hk (same_refl _) (fun j hj => by rw [same_symm]; exact h4 j hj)]
  · intro h k hk
    have hi := incr (id := fun k => (gt s.Items k).Id) (n := s.Items.length) (fun k hk h0 => (h k hk).2.2.1 h0)
    obtain ⟨h1, h2, h3, h4⟩ := h k hk
    refine ⟨h1, h2, h3, fun j hj => ?_⟩
    rw [n_idOf] at h4
    cases e : firstB (fun j => sSameFact_p (gt s.Items j).F (gt s.Items k).F) s.Items.length with
    | none => have := firstB_none e k hk; simp only [same_refl] at this; cases this
    | some m =>
      rw [e] at h4
      obtain ⟨h5, h6, h7⟩ := firstB_some e
      have hm : m = k := by
        rcases Nat.lt_trichotomy m k with h8 | h8 | h8
        · have := hi k hk m h8; simp only at h4 this; omega
        · exact h8
        · have := h7 k h8; simp only [same_refl] at this; cases this
      subst hm
      rw [same_symm]; exact h7 j hj
theorem e_task (t : TaskD) : itaskOk_p t = sl18Task_p t := by
  unfold itaskOk_p sl18Task_p
  rw [e_fact, e_val, e_undo, show sl18Undo_p t.Undo = (bif t.Undo.toList.isEmpty then true else sNameOk_p t.Undo) from rfl]
  generalize (bif t.Undo.toList.isEmpty then true else sNameOk_p t.Undo) = U
  have hne : ¬ ((t.State == 1) = true ∧ (t.State == 2) = true) := by simp only [beq_iff_eq]; omega
  generalize (t.State == 1) = s1 at *
  generalize (t.State == 2) = s2 at *
  generalize (t.Tries == 0) = tr at *
  generalize (t.V.K == 0) = v1 at *
  generalize (t.V.N == 0) = v2 at *
  generalize t.V.S.toList.isEmpty = v3 at *
  generalize sValOk_p t.V = v4 at *
  generalize inR t.Due (0 : Int) (1000001000 : Int) = d at *
  generalize inR t.State (1 : Int) (4 : Int) = i1 at *
  generalize inR t.Tries (0 : Int) (4 : Int) = i2 at *
  generalize sFactOk_p t.F = f at *
  cases f
  · cases v1 <;> cases v2 <;> cases v3 <;> rfl
  cases U
  · cases v1 <;> cases v2 <;> cases v3 <;> rfl
  cases i1
  · cases v1 <;> cases v2 <;> cases v3 <;> rfl
  cases i2
  · cases v1 <;> cases v2 <;> cases v3 <;> rfl
  cases s1 <;> cases s2 <;> cases tr <;> cases d <;> cases v1 <;> cases v2 <;> cases v3 <;> cases v4 <;> first | rfl | (exact absurd ⟨rfl, rfl⟩ hne)
theorem n_place (l : List TaskD) (f : FactD) : iplaceOfTask_p l f = idxN (fun k => sSameFact_p (gt l k).F f) l.length := by
  unfold iplaceOfTask_p slices_IndexFunc_iTask_iplaceOfTask_1_p
  exact idx_of fun k => by unfold slices_IndexFunc_iTask_iplaceOfTask_1_p_b1 iplaceOfTask_1_p; rw [e_same]
theorem idx_self {c : Nat → Bool} {n k : Nat} (hk : k < n) (hc : c k = true) : (idxN c n = (k : Int)) ↔ ∀ j, j < k → c j = false := by
  unfold idxN
  constructor
  · intro h
    cases e : firstB c n with
    | none => rw [e] at h; simp only at h; omega
    | some m =>
      rw [e] at h; simp only at h
      have : m = k := by omega
      subst this; exact (firstB_some e).2.2
  · intro h; rw [firstB_is hk hc h]
theorem e_tasks (l : List TaskD) : iTasksOk_p l = sTasksOk_p l := by
  unfold iTasksOk_p sTasksOk_p
  have hb : ∀ k, sTasksOk_p_b1 l k () = bif sl18Task_p (gt l k) && allN (fun j => !sSameFact_p (gt l k).F (gt l j).F) k then .go () else .ret false := by
    intro k
    unfold sTasksOk_p_b1
    rw [rounds_all (p := fun j => !sSameFact_p (gt l k).F (gt l j).F) (fun j => by unfold sTasksOk_p_b2; cases sSameFact_p (gt l k).F (gt l j).F <;> rfl)]
    generalize allN _ _ = A
    cases sl18Task_p (gt l k) <;> cases A <;> rfl
  have ha : ∀ k, iTasksOk_p_b1 l k () = bif sl18Task_p (gt l k) && (idxN (fun j => sSameFact_p (gt l j).F (gt l k).F) l.length == (k : Int)) then .go () else .ret false := by
    intro k
    unfold iTasksOk_p_b1
    rw [e_task, n_place]
    cases sl18Task_p (gt l k) <;> cases (idxN (fun j => sSameFact_p (gt l j).F (gt l k).F) l.length == (k : Int)) <;> rfl
  rw [rounds_all hb, rounds_all ha]
  have hc : allN (fun k => sl18Task_p (gt l k) && (idxN (fun j => sSameFact_p (gt l j).F (gt l k).F) l.length == (k : Int))) l.length = allN (fun k => sl18Task_p (gt l k) && allN (fun j => !sSameFact_p (gt l k).F (gt l j).F) k) l.length := by
    refine allN_congr fun k hk => ?_
    congr 1
    rw [Bool.eq_iff_iff, beq_iff_eq, idx_self (c := fun j => sSameFact_p (gt l j).F (gt l k).F) hk (same_refl _), allN_iff]
    refine forall_congr' fun j => imp_congr_right fun _ => ?_
    rw [same_symm]; simp
  rw [hc]
  have h2 : decide (l.length ≤ 30) = !decide (30 < l.length) := by rw [← decide_not]; apply decide_eq_decide.2; omega
  rw [h2]
  generalize allN _ _ = A
  cases decide (30 < l.length) <;> cases A <;> rfl
theorem e_timer (t : TimerD) : itimerOk_p t = sl17Timer_p t := by unfold itimerOk_p sl17Timer_p iisTime_p; rw [e_fact]
theorem e_timers (l : List TimerD) : iTimersOk_p l = sTimersOk_p l := by
  unfold iTimersOk_p sTimersOk_p
  have h : ∀ k, iTimersOk_p_b1 l k () = bif sl17Timer_p (gt l k) && (!decide (0 < k) || !decide ((gt l k).At < (gt l (k - 1)).At)) then .go () else .ret false := by
    intro k
    unfold iTimersOk_p_b1
    rw [e_timer]
    cases decide (0 < k) <;> cases sl17Timer_p (gt l k) <;> cases decide ((gt l k).At < (gt l (k - 1)).At) <;> rfl
  have h2 : ∀ k, sTimersOk_p_b1 l k () = bif sl17Timer_p (gt l k) && (!decide (0 < k) || !decide ((gt l k).At < (gt l (k - 1)).At)) then .go () else .ret false := by
    intro k
    unfold sTimersOk_p_b1
    cases decide (0 < k) <;> cases sl17Timer_p (gt l k) <;> cases decide ((gt l k).At < (gt l (k - 1)).At) <;> rfl
  rw [rounds_all h, rounds_all h2]
  have h3 : decide (l.length ≤ 30) = !decide (30 < l.length) := by rw [← decide_not]; apply decide_eq_decide.2; omega
  rw [h3]
  generalize allN _ _ = A
  cases decide (30 < l.length) <;> cases A <;> rfl
theorem n_hasKey (l : List UndoD) (s : ByteArray) : ihasKey_p l s = true ↔ ∃ k, k < l.length ∧ (gt l k).Key.toList = s.toList := by
  unfold ihasKey_p slices_ContainsFunc_iUndo_ihasKey_1_p slices_IndexFunc_iUndo_ihasKey_1_p
  rw [rounds_find (c := fun k => (gt l k).Key.toList == s.toList) (g := fun k => (k : Int)) (fun k => by
    unfold slices_IndexFunc_iUndo_ihasKey_1_p_b1 ihasKey_1_p; cases ((gt l k).Key.toList == s.toList) <;> rfl)]
  cases e : firstB (fun k => (gt l k).Key.toList == s.toList) l.length with
  | none =>
    constructor
    · intro h; simp at h
    · rintro ⟨k, hk, h⟩
      have := firstB_none e k hk
      simp [h] at this
  | some k =>
    obtain ⟨h1, h2, -⟩ := firstB_some e
    constructor
    · intro _; exact ⟨k, h1, by simpa using h2⟩
    · intro _; simp
theorem gt_take {α : Type} [Inhabited α] {l : List α} {j k : Nat} (h : j < k) (hk : k ≤ l.length) : gt (l.take k) j = gt l j := by
  rw [← gt_get (l := l.take k) (k := j) (by rw [List.length_take]; omega), ← gt_get (l := l) (k := j) (by omega), List.getElem_take]
theorem e_undos (l : List UndoD) : iUndosOk_p l = sUndosOk_p l := by
  unfold iUndosOk_p sUndosOk_p
  have ha : ∀ k, iUndosOk_p_b1 l k () = bif inR ((gt l k).Key.size : Int) 1 200 && (sFactOk_p (gt l k).F && !ihasKey_p (l.take k) (gt l k).Key) then .go () else .ret false := by
    intro k
    unfold iUndosOk_p_b1 iisKey_p
    rw [e_fact]
    cases inR ((gt l k).Key.size : Int) 1 200 <;> cases sFactOk_p (gt l k).F <;> cases ihasKey_p (l.take k) (gt l k).Key <;> rfl
  have hb : ∀ k, sUndosOk_p_b1 l k () = bif inR ((gt l k).Key.size : Int) 1 200 && (sFactOk_p (gt l k).F && allN (fun j => !((gt l k).Key.toList == (gt l j).Key.toList)) k) then .go () else .ret false := by
    intro k
    unfold sUndosOk_p_b1
    rw [rounds_all (p := fun j => !((gt l k).Key.toList == (gt l j).Key.toList)) (fun j => by unfold sUndosOk_p_b2; cases ((gt l k).Key.toList == (gt l j).Key.toList) <;> rfl)]
    generalize allN _ _ = A
    cases inR ((gt l k).Key.size : Int) 1 200 <;> cases sFactOk_p (gt l k).F <;> cases A <;> rfl
  rw [rounds_all ha, rounds_all hb]
  have hc : allN (fun k => inR ((gt l k).Key.size : Int) 1 200 && (sFactOk_p (gt l k).F && !ihasKey_p (l.take k) (gt l k).Key)) l.length = allN (fun k => inR ((gt l k).Key.size : Int) 1 200 && (sFactOk_p (gt l k).F && allN (fun j => !((gt l k).Key.toList == (gt l j).Key.toList)) k)) l.length := by
    refine allN_congr fun k hk => ?_
    congr 2
    rw [Bool.eq_iff_iff, allN_iff, Bool.not_eq_true', ← Bool.not_eq_true, n_hasKey, List.length_take, Nat.min_eq_left (by omega)]
    constructor
    · intro h j hj
      have : ¬ (gt l k).Key.toList = (gt l j).Key.toList := fun e => h ⟨j, hj, by rw [gt_take hj (by omega)]; exact e.symm⟩
      simpa using this
    · rintro h ⟨j, hj, e⟩
      have := h j hj
      rw [gt_take hj (by omega)] at e
      simp [e] at this
  rw [hc]
  have h2 : decide (l.length ≤ 30) = !decide (30 < l.length) := by rw [← decide_not]; apply decide_eq_decide.2; omega
  rw [h2]
  generalize allN _ _ = A
  cases decide (30 < l.length) <;> cases A <;> rfl
end Go.Proofs.YthnilnggpbploaaGreat
