/- Rules, definitions, facts: the program's and the reference's ask the same. -/
import Derived.Test.YthnilnggpbploaaGreatCmC2
import Derived.Test.YthnilnggpbploaaGreatCmT2
import Derived.Test.YthnilnggpbploaaGreatOk3
import Derived.Test.YthnilnggpbploaaGreatAt
namespace Go.Proofs.YthnilnggpbploaaGreat
open Go.RowKit

theorem n_conds (r : RuleD) : sl9Conds_p r.Conds (sPosVars_p r) = true ↔ (∀ c, c ∈ r.Conds → sCondOk_p c = true ∧ knows r c.L ∧ knows r c.R) ∧ r.Conds.length ≤ 6 := by
  unfold sl9Conds_p
  rw [rounds_all (p := fun k => sCondOk_p (gt r.Conds k) && (sl9Known_p (gt r.Conds k).L (sPosVars_p r) && sl9Known_p (gt r.Conds k).R (sPosVars_p r))) (fun k => by
    unfold sl9Conds_p_b1
    cases sCondOk_p (gt r.Conds k) <;> cases sl9Known_p (gt r.Conds k).L (sPosVars_p r) <;> cases sl9Known_p (gt r.Conds k).R (sPosVars_p r) <;> rfl)]
  have h1 : allN (fun k => sCondOk_p (gt r.Conds k) && (sl9Known_p (gt r.Conds k).L (sPosVars_p r) && sl9Known_p (gt r.Conds k).R (sPosVars_p r))) r.Conds.length = true ↔ ∀ c, c ∈ r.Conds → sCondOk_p c = true ∧ knows r c.L ∧ knows r c.R := by
    refine (allN_mem (p := fun c : CondD => sCondOk_p c && (sl9Known_p c.L (sPosVars_p r) && sl9Known_p c.R (sPosVars_p r)))).trans (forall_congr' fun c => imp_congr_right fun _ => ?_)
    rw [Bool.and_eq_true, Bool.and_eq_true, s_knows, s_knows]
  rw [← h1]
  cases allN _ r.Conds.length <;> simp
theorem n_acts (r : RuleD) : sl9Acts_p r.Acts (sPosVars_p r) (sPosCount_p r) = true ↔ (∀ a, a ∈ r.Acts → sActOk_p a = true ∧ (a.Kind = 2 → ¬ iPosCount_p r ≤ a.N) ∧ ∀ c, c ∈ a.Args → knows r c.L ∧ knows r c.R) ∧ inR (r.Acts.length : Int) 1 6 = true := by
  rw [e_count]
  unfold sl9Acts_p
  have hb : ∀ k, sl9Acts_p_b1 r.Acts (sPosVars_p r) (iPosCount_p r) k () = bif sActOk_p (gt r.Acts k) && ((!((gt r.Acts k).Kind == 2) || !decide (iPosCount_p r ≤ (gt r.Acts k).N)) && allN (fun j => sl9Known_p (gt (gt r.Acts k).Args j).L (sPosVars_p r) && sl9Known_p (gt (gt r.Acts k).Args j).R (sPosVars_p r)) (gt r.Acts k).Args.length) then .go () else .ret false := by
    intro k
    unfold sl9Acts_p_b1
    rw [rounds_all (p := fun j => sl9Known_p (gt (gt r.Acts k).Args j).L (sPosVars_p r) && sl9Known_p (gt (gt r.Acts k).Args j).R (sPosVars_p r)) (fun j => by
        unfold sl9Acts_p_b2
        cases sl9Known_p (gt (gt r.Acts k).Args j).L (sPosVars_p r) <;> cases sl9Known_p (gt (gt r.Acts k).Args j).R (sPosVars_p r) <;> rfl),
      rounds_all (p := fun j => sl9Known_p (gt (gt r.Acts k).Args j).L (sPosVars_p r) && sl9Known_p (gt (gt r.Acts k).Args j).R (sPosVars_p r)) (fun j => by
        unfold sl9Acts_p_b3
        cases sl9Known_p (gt (gt r.Acts k).Args j).L (sPosVars_p r) <;> cases sl9Known_p (gt (gt r.Acts k).Args j).R (sPosVars_p r) <;> rfl)]
    generalize allN _ _ = A
    cases sActOk_p (gt r.Acts k) <;> cases ((gt r.Acts k).Kind == 2) <;> cases decide (iPosCount_p r ≤ (gt r.Acts k).N) <;> cases A <;> rfl
  rw [rounds_all hb]
  have h1 : allN (fun k => sActOk_p (gt r.Acts k) && ((!((gt r.Acts k).Kind == 2) || !decide (iPosCount_p r ≤ (gt r.Acts k).N)) && allN (fun j => sl9Known_p (gt (gt r.Acts k).Args j).L (sPosVars_p r) && sl9Known_p (gt (gt r.Acts k).Args j).R (sPosVars_p r)) (gt r.Acts k).Args.length)) r.Acts.length = true ↔ ∀ a, a ∈ r.Acts → sActOk_p a = true ∧ (a.Kind = 2 → ¬ iPosCount_p r ≤ a.N) ∧ ∀ c, c ∈ a.Args → knows r c.L ∧ knows r c.R := by
    refine (allN_mem (p := fun a : ActD => sActOk_p a && ((!(a.Kind == 2) || !decide (iPosCount_p r ≤ a.N)) && allN (fun j => sl9Known_p (gt a.Args j).L (sPosVars_p r) && sl9Known_p (gt a.Args j).R (sPosVars_p r)) a.Args.length))).trans (forall_congr' fun a => imp_congr_right fun _ => ?_)
    rw [Bool.and_eq_true, Bool.and_eq_true]
    refine and_congr_right fun _ => and_congr ?_ ?_
    · by_cases h : a.Kind = 2
      · simp [h]
      · simp [h]
    · refine (allN_mem (p := fun e : ExprD => sl9Known_p e.L (sPosVars_p r) && sl9Known_p e.R (sPosVars_p r))).trans (forall_congr' fun c => imp_congr_right fun _ => ?_)
      rw [Bool.and_eq_true, s_knows, s_knows]
  rw [← h1]
  cases allN _ r.Acts.length <;> simp
theorem s_rule (r : RuleD) : sRuleOk_p r = true ↔ ruleP r := by
  unfold sRuleOk_p ruleP
  rw [← n_acts, ← n_conds]
  cases sNameOk_p r.Name <;> cases inR r.Sal (-100) 100 <;> cases sl9Pats_p r.Pats <;> cases sl9Conds_p r.Conds (sPosVars_p r) <;> cases sl9Acts_p r.Acts (sPosVars_p r) (sPosCount_p r) <;> simp
theorem e_rule (r : RuleD) : iRuleOk_p r = sRuleOk_p r := by rw [Bool.eq_iff_iff, i_rule, s_rule]
theorem e_ruleAt (d : DefD) (s : ByteArray) : iRuleAt_p d s = sRuleAt_p d s := by
  have h1 : iRuleAt_p d s = idxN (fun k => (gt d.Rules k).Name.toList == s.toList) d.Rules.length := by
    unfold iRuleAt_p slices_IndexFunc_iRule_iRuleAt_1_p
    exact idx_of fun k => by unfold slices_IndexFunc_iRule_iRuleAt_1_p_b1 iRuleAt_1_p; cases (gt d.Rules k).Name.toList == s.toList <;> rfl
  have h2 : sRuleAt_p d s = idxN (fun k => (gt d.Rules k).Name.toList == s.toList) d.Rules.length := by
    unfold sRuleAt_p
    exact idx_of fun k => by unfold sRuleAt_p_b1; cases (gt d.Rules k).Name.toList == s.toList <;> rfl
  rw [h1, h2]
theorem e_def (d : DefD) : iDefOk_p d = sDefOk_p d := by
  unfold iDefOk_p sDefOk_p
  rw [rounds_all (p := fun k => sRuleOk_p (gt d.Rules k) && (sRuleAt_p d (gt d.Rules k).Name == (k : Int))) (fun k => by
      unfold iDefOk_p_b1; rw [e_rule, e_ruleAt]
      cases sRuleOk_p (gt d.Rules k) <;> cases (sRuleAt_p d (gt d.Rules k).Name == (k : Int)) <;> rfl),
    rounds_all (p := fun k => sRuleOk_p (gt d.Rules k) && (sRuleAt_p d (gt d.Rules k).Name == (k : Int))) (fun k => by
      unfold sDefOk_p_b1
      cases sRuleOk_p (gt d.Rules k) <;> cases (sRuleAt_p d (gt d.Rules k).Name == (k : Int)) <;> rfl), e_name]
  generalize allN _ _ = A
  cases sNameOk_p d.Name <;> cases inR (d.Rules.length : Int) 1 12 <;> cases A <;> rfl
theorem e_fact (f : FactD) : iFactOk_p f = sFactOk_p f := by
  unfold iFactOk_p sFactOk_p sl3Vals_p
  rw [rounds_all (p := fun k => sValOk_p (gt f.Fields k)) (fun k => by unfold iFactOk_p_b1; rw [e_val]), rounds_all (p := fun k => sValOk_p (gt f.Fields k)) (fun k => rfl), e_name]
  have h2 : decide (f.Fields.length ≤ 5) = !decide (5 < f.Fields.length) := by rw [← decide_not]; apply decide_eq_decide.2; omega
  rw [h2]
  generalize allN _ _ = A
  cases sNameOk_p f.Kind <;> cases decide (5 < f.Fields.length) <;> cases A <;> rfl
/-- Two facts that are the same. -/
def sameP (a b : FactD) : Prop := a.Kind.toList = b.Kind.toList ∧ a.Fields.length = b.Fields.length ∧ ∀ k, k < a.Fields.length → (gt a.Fields k).K = (gt b.Fields k).K ∧ (gt a.Fields k).N = (gt b.Fields k).N ∧ (gt a.Fields k).S.toList = (gt b.Fields k).S.toList
theorem sameP_refl (a : FactD) : sameP a a := ⟨rfl, rfl, fun _ _ => ⟨rfl, rfl, rfl⟩⟩
theorem sameP_symm {a b : FactD} (h : sameP a b) : sameP b a := ⟨h.1.symm, h.2.1.symm, fun k hk => by have := h.2.2 k (by rw [h.2.1]; exact hk); exact ⟨this.1.symm, this.2.1.symm, this.2.2.symm⟩⟩
theorem s_same (a b : FactD) : sSameFact_p a b = true ↔ sameP a b := by
  unfold sSameFact_p sl3SameVals_p sameP
  rw [rounds_all (p := fun k => ((gt a.Fields k).K == (gt b.Fields k).K) && (((gt a.Fields k).N == (gt b.Fields k).N) && ((gt a.Fields k).S.toList == (gt b.Fields k).S.toList))) (fun k => by
    unfold sl3SameVals_p_b1
    cases ((gt a.Fields k).K == (gt b.Fields k).K) <;> cases ((gt a.Fields k).N == (gt b.Fields k).N) <;> cases ((gt a.Fields k).S.toList == (gt b.Fields k).S.toList) <;> rfl)]
  have h1 : allN (fun k => ((gt a.Fields k).K == (gt b.Fields k).K) && (((gt a.Fields k).N == (gt b.Fields k).N) && ((gt a.Fields k).S.toList == (gt b.Fields k).S.toList))) a.Fields.length = true ↔ ∀ k, k < a.Fields.length → (gt a.Fields k).K = (gt b.Fields k).K ∧ (gt a.Fields k).N = (gt b.Fields k).N ∧ (gt a.Fields k).S.toList = (gt b.Fields k).S.toList := by
    rw [allN_iff]
    refine forall_congr' fun k => imp_congr_right fun _ => ?_
    simp only [Bool.and_eq_true, beq_iff_eq]
  rw [← h1]
  have h2 : (a.Kind.toList == b.Kind.toList) = true ↔ a.Kind.toList = b.Kind.toList := by simp
  have h3 : (((a.Fields.length : Nat) : Int) == ((b.Fields.length : Nat) : Int)) = true ↔ a.Fields.length = b.Fields.length := by simp only [beq_iff_eq]; omega
  rw [← h2, ← h3]
  cases (a.Kind.toList == b.Kind.toList) <;> cases (((a.Fields.length : Nat) : Int) == ((b.Fields.length : Nat) : Int)) <;> cases allN _ a.Fields.length <;> simp
theorem e_same (a b : FactD) : iSameFact_p a b = sSameFact_p a b := by
  unfold iSameFact_p sSameFact_p slices_Equal_iVal_p sl3SameVals_p
  have h : slices_Equal_iVal_p_b1 a.Fields b.Fields = sl3SameVals_p_b1 a.Fields b.Fields := rfl
  rw [h]
  cases rounds (sl3SameVals_p_b1 a.Fields b.Fields) a.Fields.length () <;> rfl
end Go.Proofs.YthnilnggpbploaaGreat
