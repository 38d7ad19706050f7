/- Rules and definitions: the variables; RuleOk, DefOk. -/
import Derived.Test.YthnilnggpbploaaGreatOk2
namespace Go.Proofs.YthnilnggpbploaaGreat
open Go.RowKit

def hasL (l : List ByteArray) (t : ByteArray) : Prop := ∃ x, x ∈ l ∧ x.toList = t.toList
theorem hasL_nil (t : ByteArray) : hasL [] t ↔ False := ⟨fun ⟨_, h, _⟩ => (by cases h), fun h => False.elim h⟩
theorem hasL_app (l : List ByteArray) (s t : ByteArray) : hasL (l ++ [s]) t ↔ hasL l t ∨ s.toList = t.toList := by
  unfold hasL
  constructor
  · rintro ⟨x, hx, e⟩
    rcases List.mem_append.1 hx with h | h
    · exact .inl ⟨x, h, e⟩
    · rw [List.mem_singleton] at h; subst h; exact .inr e
  · rintro (⟨x, h, e⟩ | e)
    · exact ⟨x, List.mem_append_left _ h, e⟩
    · exact ⟨s, by simp, e⟩
theorem find_has {l : List ByteArray} {t : ByteArray} : (∃ k, firstB (fun k => (gt l k).toList == t.toList) l.length = some k) ↔ hasL l t := by
  constructor
  · rintro ⟨k, hk⟩
    obtain ⟨h1, h2, -⟩ := firstB_some hk
    exact ⟨gt l k, by rw [← gt_get h1]; exact List.getElem_mem h1, by simpa using h2⟩
  · rintro ⟨x, hx, e⟩
    obtain ⟨k, hk, rfl⟩ := List.getElem_of_mem hx
    cases h : firstB (fun k => (gt l k).toList == t.toList) l.length with
    | some m => exact ⟨m, rfl⟩
    | none =>
      have := firstB_none h k hk
      rw [gt_get hk] at e
      simp [e] at this
theorem i_has (l : List ByteArray) (t : ByteArray) : slices_Contains_string_p l t = true ↔ hasL l t := by
  rw [← find_has]
  unfold slices_Contains_string_p slices_Index_string_p
  rw [rounds_find (c := fun k => (gt l k).toList == t.toList) (g := fun k => (k : Int)) (fun k => by
    unfold slices_Index_string_p_b1
    rw [show (t.toList == (gt l k).toList) = ((gt l k).toList == t.toList) from by rw [Bool.eq_iff_iff]; simp only [beq_iff_eq]; exact eq_comm])]
  cases firstB (fun k => (gt l k).toList == t.toList) l.length with
  | none => simp
  | some k => simp
theorem s_has (l : List ByteArray) (t : ByteArray) : sl6Has_p l t = true ↔ hasL l t := by
  rw [← find_has]
  unfold sl6Has_p
  rw [rounds_find (c := fun k => (gt l k).toList == t.toList) (g := fun _ => true) (fun k => rfl)]
  cases firstB (fun k => (gt l k).toList == t.toList) l.length with
  | none => simp
  | some k => simp
theorem once_has (l : List ByteArray) (s t : ByteArray) : hasL (addOnceL l s) t ↔ hasL l t ∨ s.toList = t.toList := by
  unfold addOnceL
  cases h : slices_Contains_string_p l s with
  | true =>
    have h1 := (i_has l s).1 h
    show hasL l t ↔ _
    refine ⟨.inl, fun h2 => ?_⟩
    rcases h2 with h2 | h2
    · exact h2
    · obtain ⟨x, hx, e⟩ := h1; exact ⟨x, hx, e.trans h2⟩
  | false => exact hasL_app l s t
theorem onceS_has (l : List ByteArray) (s t : ByteArray) : hasL (onceS l s) t ↔ hasL l t ∨ s.toList = t.toList := by
  unfold onceS
  cases h : sl6Has_p l s with
  | true =>
    have h1 := (s_has l s).1 h
    show hasL l t ↔ _
    refine ⟨.inl, fun h2 => ?_⟩
    rcases h2 with h2 | h2
    · exact h2
    · obtain ⟨x, hx, e⟩ := h1; exact ⟨x, hx, e.trans h2⟩
  | false => exact hasL_app l s t
def uses (a : ArgD) (t : ByteArray) : Prop := a.K = 1 ∧ a.S.toList = t.toList
theorem addVars_has (args : List ArgD) (t : ByteArray) : ∀ l, hasL (addVarsL l args) t ↔ hasL l t ∨ ∃ a, a ∈ args ∧ uses a t := by
  induction args with
  | nil => intro l; simp [addVarsL]
  | cons a args ih =>
    intro l
    have h := ih (bif a.K == 1 then addOnceL l a.S else l)
    show hasL (addVarsL (bif a.K == 1 then addOnceL l a.S else l) args) t ↔ _
    rw [h]
    have h2 : hasL (bif a.K == 1 then addOnceL l a.S else l) t ↔ hasL l t ∨ uses a t := by
      by_cases hK : a.K = 1
      · have : (a.K == 1) = true := by simpa using hK
        rw [this, cond_true, once_has]; simp [uses, hK]
      · have : (a.K == 1) = false := by simpa using hK
        rw [this, cond_false]; simp [uses, hK]
    rw [h2]
    simp only [List.mem_cons, exists_eq_or_imp, or_assoc]
theorem vars_has (args : List ArgD) (t : ByteArray) : ∀ l, hasL (args.foldl (fun l a => bif a.K == 1 then onceS l a.S else l) l) t ↔ hasL l t ∨ ∃ a, a ∈ args ∧ uses a t := by
  induction args with
  | nil => intro l; simp
  | cons a args ih =>
    intro l
    rw [List.foldl_cons, ih]
    have h2 : hasL (bif a.K == 1 then onceS l a.S else l) t ↔ hasL l t ∨ uses a t := by
      by_cases hK : a.K = 1
      · have : (a.K == 1) = true := by simpa using hK
        rw [this, cond_true, onceS_has]; simp [uses, hK]
      · have : (a.K == 1) = false := by simpa using hK
        rw [this, cond_false]; simp [uses, hK]
    rw [h2]
    simp only [List.mem_cons, exists_eq_or_imp, or_assoc]
theorem merge_has (l : List ByteArray) (t : ByteArray) : ∀ o, hasL (mergeL o l) t ↔ hasL o t ∨ hasL l t := by
  unfold mergeL
  induction l with
  | nil => intro o; simp [hasL_nil]
  | cons x xs ih =>
    intro o
    rw [List.foldl_cons, ih, onceS_has]
    have : hasL (x :: xs) t ↔ x.toList = t.toList ∨ hasL xs t := by unfold hasL; simp
    rw [this, or_assoc]
def posUses (pats : List PatD) (t : ByteArray) : Prop := ∃ p, p ∈ pats ∧ p.Not = false ∧ ∃ a, a ∈ p.Args ∧ uses a t
theorem ipos_has (pats : List PatD) (t : ByteArray) : ∀ l, hasL (pats.foldl (fun l p => bif p.Not then l else addVarsL l p.Args) l) t ↔ hasL l t ∨ posUses pats t := by
  unfold posUses
  induction pats with
  | nil => intro l; simp
  | cons p ps ih =>
    intro l
    rw [List.foldl_cons, ih]
    have h2 : hasL (bif p.Not then l else addVarsL l p.Args) t ↔ hasL l t ∨ (p.Not = false ∧ ∃ a, a ∈ p.Args ∧ uses a t) := by
      cases p.Not
      · rw [cond_false, addVars_has]; simp
      · simp
    rw [h2]
    simp only [List.mem_cons, exists_eq_or_imp, or_assoc]
theorem spos_has (pats : List PatD) (t : ByteArray) : ∀ l, hasL (pats.foldl (fun o p => bif p.Not then o else mergeL o (varsL p.Args)) l) t ↔ hasL l t ∨ posUses pats t := by
  unfold posUses
  induction pats with
  | nil => intro l; simp
  | cons p ps ih =>
    intro l
    rw [List.foldl_cons, ih]
    have h2 : hasL (bif p.Not then l else mergeL l (varsL p.Args)) t ↔ hasL l t ∨ (p.Not = false ∧ ∃ a, a ∈ p.Args ∧ uses a t) := by
      cases p.Not
      · rw [cond_false, merge_has]; unfold varsL; rw [vars_has]; simp [hasL_nil]
      · simp
    rw [h2]
    simp only [List.mem_cons, exists_eq_or_imp, or_assoc]
theorem i_pos (r : RuleD) (t : ByteArray) : hasL (iPosVars_p r) t ↔ posUses r.Pats t := by unfold iPosVars_p posVarsL; rw [ipos_has]; simp [hasL_nil]
theorem s_pos (r : RuleD) (t : ByteArray) : hasL (sPosVars_p r) t ↔ posUses r.Pats t := by unfold sPosVars_p posVarsS; rw [spos_has]; simp [hasL_nil]
theorem cond_has (l : List CondD) (t : ByteArray) : ∀ o, hasL (l.foldl (fun l c => addVarsL l [c.L, c.R]) o) t ↔ hasL o t ∨ ∃ c, c ∈ l ∧ (uses c.L t ∨ uses c.R t) := by
  induction l with
  | nil => intro o; simp
  | cons c cs ih =>
    intro o
    have h2 : (∃ a, a ∈ [c.L, c.R] ∧ uses a t) ↔ uses c.L t ∨ uses c.R t := by simp
    rw [List.foldl_cons, ih, addVars_has, h2]
    simp only [List.mem_cons, exists_eq_or_imp, or_assoc]
theorem expr_has (l : List ExprD) (t : ByteArray) : ∀ o, hasL (exprVarsL o l) t ↔ hasL o t ∨ ∃ c, c ∈ l ∧ (uses c.L t ∨ uses c.R t) := by
  unfold exprVarsL
  induction l with
  | nil => intro o; simp
  | cons c cs ih =>
    intro o
    have h2 : (∃ a, a ∈ [c.L, c.R] ∧ uses a t) ↔ uses c.L t ∨ uses c.R t := by simp
    rw [List.foldl_cons, ih, addVars_has, h2]
    simp only [List.mem_cons, exists_eq_or_imp, or_assoc]
theorem act_has (l : List ActD) (t : ByteArray) : ∀ o, hasL (actVarsL o l) t ↔ hasL o t ∨ ∃ a, a ∈ l ∧ ∃ c, c ∈ a.Args ∧ (uses c.L t ∨ uses c.R t) := by
  unfold actVarsL
  induction l with
  | nil => intro o; simp
  | cons a rest ih =>
    intro o
    rw [List.foldl_cons, ih, expr_has]
    simp only [List.mem_cons, exists_eq_or_imp, or_assoc]
theorem used_has (r : RuleD) (t : ByteArray) : hasL (iusedVars_p r) t ↔ (∃ c, c ∈ r.Conds ∧ (uses c.L t ∨ uses c.R t)) ∨ ∃ a, a ∈ r.Acts ∧ ∃ c, c ∈ a.Args ∧ (uses c.L t ∨ uses c.R t) := by
  unfold iusedVars_p condVarsL
  rw [act_has, cond_has]; simp [hasL_nil]
/-- Is an argument known? -/
def knows (r : RuleD) (a : ArgD) : Prop := a.K = 1 → posUses r.Pats a.S
theorem posUses_eq {pats : List PatD} {s t : ByteArray} (e : s.toList = t.toList) (h : posUses pats s) : posUses pats t := by
  obtain ⟨p, h1, h2, a, h3, h4, h5⟩ := h
  exact ⟨p, h1, h2, a, h3, h4, h5.trans e⟩
theorem uses_knows (r : RuleD) (a : ArgD) : (∀ t, uses a t → posUses r.Pats t) ↔ knows r a :=
  ⟨fun h hK => h a.S ⟨hK, rfl⟩, fun h t ht => posUses_eq ht.2 (h ht.1)⟩
theorem s_knows (r : RuleD) (a : ArgD) : sl9Known_p a (sPosVars_p r) = true ↔ knows r a := by
  unfold sl9Known_p knows
  by_cases hK : a.K = 1
  · have : (a.K == 1) = true := by simpa using hK
    rw [this, cond_true, s_has, s_pos]; simp [hK]
  · have : (a.K == 1) = false := by simpa using hK
    rw [this, cond_false]; simp [hK]
theorem used_all (r : RuleD) : (∀ x, x ∈ iusedVars_p r → hasL (iPosVars_p r) x) ↔ (∀ c, c ∈ r.Conds → knows r c.L ∧ knows r c.R) ∧ ∀ a, a ∈ r.Acts → ∀ c, c ∈ a.Args → knows r c.L ∧ knows r c.R := by
  have h0 : (∀ x, x ∈ iusedVars_p r → hasL (iPosVars_p r) x) ↔ ∀ t, hasL (iusedVars_p r) t → posUses r.Pats t := by
    constructor
    · rintro h t ⟨x, hx, e⟩
      exact posUses_eq e ((i_pos r x).1 (h x hx))
    · intro h x hx
      exact (i_pos r x).2 (h x ⟨x, hx, rfl⟩)
  rw [h0]
  constructor
  · intro h
    refine ⟨fun c hc => ⟨(uses_knows r _).1 fun t ht => h t ((used_has r t).2 (.inl ⟨c, hc, .inl ht⟩)), (uses_knows r _).1 fun t ht => h t ((used_has r t).2 (.inl ⟨c, hc, .inr ht⟩))⟩, fun a ha c hc => ⟨(uses_knows r _).1 fun t ht => h t ((used_has r t).2 (.inr ⟨a, ha, c, hc, .inl ht⟩)), (uses_knows r _).1 fun t ht => h t ((used_has r t).2 (.inr ⟨a, ha, c, hc, .inr ht⟩))⟩⟩
  · rintro ⟨h1, h2⟩ t ht
    rcases (used_has r t).1 ht with ⟨c, hc, h | h⟩ | ⟨a, ha, c, hc, h | h⟩
    · exact (uses_knows r _).2 (h1 c hc).1 t h
    · exact (uses_knows r _).2 (h1 c hc).2 t h
    · exact (uses_knows r _).2 (h2 a ha c hc).1 t h
    · exact (uses_knows r _).2 (h2 a ha c hc).2 t h
/-- What is asked of a rule. -/
def ruleP (r : RuleD) : Prop := sNameOk_p r.Name = true ∧ inR r.Sal (-100) 100 = true ∧ sl9Pats_p r.Pats = true ∧
  ((∀ c, c ∈ r.Conds → sCondOk_p c = true ∧ knows r c.L ∧ knows r c.R) ∧ r.Conds.length ≤ 6) ∧
  (∀ a, a ∈ r.Acts → sActOk_p a = true ∧ (a.Kind = 2 → ¬ iPosCount_p r ≤ a.N) ∧ ∀ c, c ∈ a.Args → knows r c.L ∧ knows r c.R) ∧ inR (r.Acts.length : Int) 1 6 = true
theorem i_rule (r : RuleD) : iRuleOk_p r = true ↔ ruleP r := by
  unfold iRuleOk_p ruleP
  rw [rounds_all (p := fun k => sCondOk_p (gt r.Conds k)) (fun k => by unfold iRuleOk_p_b1; rw [e_cond]),
    rounds_all (p := fun k => sActOk_p (gt r.Acts k) && (!((gt r.Acts k).Kind == 2) || !decide (iPosCount_p r ≤ (gt r.Acts k).N))) (fun k => by
      unfold iRuleOk_p_b2; rw [e_act]
      cases sActOk_p (gt r.Acts k) <;> cases ((gt r.Acts k).Kind == 2) <;> cases decide (iPosCount_p r ≤ (gt r.Acts k).N) <;> rfl),
    rounds_all (p := fun k => slices_Contains_string_p (iPosVars_p r) (gt (iusedVars_p r) k)) (fun k => rfl), e_name, e_pats]
  have h1 : allN (fun k => sCondOk_p (gt r.Conds k)) r.Conds.length = true ↔ ∀ c, c ∈ r.Conds → sCondOk_p c = true := allN_mem (p := fun c => sCondOk_p c)
  have h2 : allN (fun k => sActOk_p (gt r.Acts k) && (!((gt r.Acts k).Kind == 2) || !decide (iPosCount_p r ≤ (gt r.Acts k).N))) r.Acts.length = true ↔ ∀ a, a ∈ r.Acts → sActOk_p a = true ∧ (a.Kind = 2 → ¬ iPosCount_p r ≤ a.N) := by
    refine (allN_mem (p := fun a : ActD => sActOk_p a && (!(a.Kind == 2) || !decide (iPosCount_p r ≤ a.N)))).trans (forall_congr' fun a => imp_congr_right fun _ => ?_)
    rw [Bool.and_eq_true]
    refine and_congr_right fun _ => ?_
    by_cases h : a.Kind = 2
    · simp [h]
    · simp [h]
  have h3 : allN (fun k => slices_Contains_string_p (iPosVars_p r) (gt (iusedVars_p r) k)) (iusedVars_p r).length = true ↔ (∀ c, c ∈ r.Conds → knows r c.L ∧ knows r c.R) ∧ ∀ a, a ∈ r.Acts → ∀ c, c ∈ a.Args → knows r c.L ∧ knows r c.R := by
    rw [← used_all]
    exact (allN_mem (p := fun x => slices_Contains_string_p (iPosVars_p r) x)).trans (forall_congr' fun x => imp_congr_right fun _ => i_has _ _)
  have h4 : ∀ A B : ActD → Prop, (∀ a, a ∈ r.Acts → A a ∧ B a) ↔ (∀ a, a ∈ r.Acts → A a) ∧ ∀ a, a ∈ r.Acts → B a := fun A B => ⟨fun h => ⟨fun a ha => (h a ha).1, fun a ha => (h a ha).2⟩, fun h a ha => ⟨h.1 a ha, h.2 a ha⟩⟩
  constructor
  · intro h
    cases e1 : sNameOk_p r.Name with
    | false => rw [e1] at h; cases h
    | true =>
      cases e2 : inR r.Sal (-100) 100 with
      | false => rw [e1, e2] at h; cases h
      | true =>
        cases e3 : sl9Pats_p r.Pats with
        | false => rw [e1, e2, e3] at h; cases h
        | true =>
          by_cases e4 : 6 < r.Conds.length
          · rw [e1, e2, e3, decide_eq_true e4] at h; cases h
          · cases e5 : inR (r.Acts.length : Int) 1 6 with
            | false => rw [e1, e2, e3, decide_eq_false e4, e5] at h; cases h
            | true =>
              cases e6 : allN (fun k => sCondOk_p (gt r.Conds k)) r.Conds.length with
              | false => rw [e1, e2, e3, decide_eq_false e4, e5, e6] at h; cases h
              | true =>
                cases e7 : allN (fun k => sActOk_p (gt r.Acts k) && (!((gt r.Acts k).Kind == 2) || !decide (iPosCount_p r ≤ (gt r.Acts k).N))) r.Acts.length with
                | false => rw [e1, e2, e3, decide_eq_false e4, e5, e6, e7] at h; cases h
                | true =>
                  cases e8 : allN (fun k => slices_Contains_string_p (iPosVars_p r) (gt (iusedVars_p r) k)) (iusedVars_p r).length with
                  | false => rw [e1, e2, e3, decide_eq_false e4, e5, e6, e7, e8] at h; cases h
                  | true =>
                    obtain ⟨q1, q2⟩ := h3.1 e8
                    have q3 := h2.1 e7
                    exact ⟨rfl, rfl, rfl, ⟨fun c hc => ⟨h1.1 e6 c hc, q1 c hc⟩, by omega⟩, fun a ha => ⟨(q3 a ha).1, (q3 a ha).2, q2 a ha⟩, rfl⟩
  · rintro ⟨e1, e2, e3, ⟨e4, e5⟩, e6, e7⟩
    rw [e1, e2, e3, decide_eq_false (by omega), e7, h1.2 fun c hc => (e4 c hc).1, h2.2 fun a ha => ⟨(e6 a ha).1, (e6 a ha).2.1⟩, h3.2 ⟨fun c hc => (e4 c hc).2, fun a ha => (e6 a ha).2.2⟩]
    rfl
end Go.Proofs.YthnilnggpbploaaGreat
