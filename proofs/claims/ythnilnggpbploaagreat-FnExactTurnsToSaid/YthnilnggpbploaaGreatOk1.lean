/- Names, values, arguments: the program's and the reference's ask the same. -/
import Derived.Test.YthnilnggpbploaaGreatCmA1
import Derived.Test.YthnilnggpbploaaGreatCmA2
import Derived.Test.YthnilnggpbploaaGreatCmS1
import Derived.Test.YthnilnggpbploaaGreatCmS2
import Derived.Test.YthnilnggpbploaaGreatCmS3
import Derived.Test.YthnilnggpbploaaGreatFind
namespace Go.Proofs.YthnilnggpbploaaGreat
open Go.RowKit

theorem e_word (c : UInt8) : iisWordByte_p c = sl1Letter_p c := by
  unfold iisWordByte_p sl1Letter_p iisSmall_p iisDigit_p
  have h1 : inR (c.toNat : Int) 97 122 = (decide (97 ≤ c.toNat) && decide (c.toNat ≤ 122)) := by unfold inR; congr 1 <;> (apply decide_eq_decide.2; omega)
  have h2 : inR (c.toNat : Int) 48 57 = (decide (48 ≤ c.toNat) && decide (c.toNat ≤ 57)) := by unfold inR; congr 1 <;> (apply decide_eq_decide.2; omega)
  rw [h1, h2]
  cases decide (97 ≤ c.toNat) <;> cases decide (c.toNat ≤ 122) <;> cases decide (48 ≤ c.toNat) <;> cases decide (c.toNat ≤ 57) <;> rfl
theorem n_word (s : ByteArray) (n : Int) : iisWord_p s n = (!decide (n < (s.size : Int)) && allN (fun k => sl1Letter_p (bt s k)) s.size) := by
  unfold iisWord_p
  rw [rounds_all (p := fun k => sl1Letter_p (bt s k)) (fun k => by unfold iisWord_p_b1; rw [e_word])]
  generalize allN _ _ = A
  cases decide (n < (s.size : Int)) <;> cases A <;> rfl
theorem n_plain (s : ByteArray) : sl2Plain_p s = (allN (fun k => sl1Letter_p (bt s k)) s.size && decide (s.size ≤ 20)) := by
  unfold sl2Plain_p
  rw [rounds_all (p := fun k => sl1Letter_p (bt s k)) (fun k => rfl)]
  generalize allN _ _ = A
  cases decide (s.size ≤ 20) <;> cases A <;> rfl
theorem e_plain (s : ByteArray) : iisWord_p s 20 = sl2Plain_p s := by
  rw [n_word, n_plain, Bool.and_comm]
  congr 1
  rw [← decide_not]; apply decide_eq_decide.2; omega
theorem n_name (s : ByteArray) : sNameOk_p s = (allN (fun k => sl1Letter_p (bt s k) && (!((k : Int) == 0) || inR ((bt s k).toNat : Int) 97 122)) s.size && inR (s.size : Int) 1 12) := by
  unfold sNameOk_p
  rw [rounds_all (p := fun k => sl1Letter_p (bt s k) && (!((k : Int) == 0) || inR ((bt s k).toNat : Int) 97 122)) (fun k => by
    unfold sNameOk_p_b1
    cases sl1Letter_p (bt s k) <;> cases ((k : Int) == 0) <;> cases inR ((bt s k).toNat : Int) (97 : Int) (122 : Int) <;> rfl)]
  generalize allN _ _ = A
  cases A <;> rfl
theorem small_in (c : UInt8) : iisSmall_p c = inR (c.toNat : Int) 97 122 := by
  have h1 : inR (c.toNat : Int) 97 122 = (decide (97 ≤ c.toNat) && decide (c.toNat ≤ 122)) := by unfold inR; congr 1 <;> (apply decide_eq_decide.2; omega)
  rw [h1]
  unfold iisSmall_p
  cases decide (97 ≤ c.toNat) <;> cases decide (c.toNat ≤ 122) <;> rfl
theorem e_name (s : ByteArray) : iNameOk_p s = sNameOk_p s := by
  rw [n_name]
  unfold iNameOk_p
  rw [n_word, small_in, Bool.eq_iff_iff]
  by_cases h0 : 0 < s.size
  · rw [decide_eq_true h0, cond_true]
    constructor
    · intro h
      cases e : inR ((bt s 0).toNat : Int) 97 122 with
      | false => rw [e] at h; cases h
      | true =>
        rw [e, cond_true, Bool.and_eq_true] at h
        have h2 : ¬ (12 : Int) < s.size := by simpa using h.1
        rw [Bool.and_eq_true]
        refine ⟨allN_iff.2 fun k hk => ?_, ?_⟩
        · rw [allN_iff.1 h.2 k hk]
          by_cases hk0 : k = 0
          · subst hk0; rw [e]; simp
          · have : ((k : Int) == 0) = false := by simpa using hk0
            rw [this]; rfl
        · unfold inR; simp; omega
    · intro h
      rw [Bool.and_eq_true] at h
      have h1 := allN_iff.1 h.1
      have h2 := h1 0 h0
      have h3 := inR_true h.2
      have h4 : inR ((bt s 0).toNat : Int) 97 122 = true := by
        rw [Bool.and_eq_true] at h2; simpa using h2.2
      rw [h4, cond_true, Bool.and_eq_true]
      refine ⟨by simp; omega, allN_iff.2 fun k hk => ?_⟩
      have := h1 k hk
      rw [Bool.and_eq_true] at this; exact this.1
  · rw [decide_eq_false h0, cond_false]
    constructor
    · intro h; cases h
    · intro h
      rw [Bool.and_eq_true] at h
      have h3 := inR_true h.2
      omega
theorem e_undo (s : ByteArray) : iisUndo_p s = (bif s.toList.isEmpty then true else sNameOk_p s) := by unfold iisUndo_p; rw [e_name]
theorem e_val (v : ValD) : iValOk_p v = sValOk_p v := by
  unfold iValOk_p sValOk_p
  rw [e_plain]
  cases (v.K == 1) <;> cases (v.K == 2) <;> cases (v.N == 0) <;> cases sl2Plain_p v.S <;> rfl
theorem large_in (c : UInt8) : iisLarge_p c = sl5Large_p c := by
  have h1 : inR (c.toNat : Int) 65 90 = (decide (65 ≤ c.toNat) && decide (c.toNat ≤ 90)) := by unfold inR; congr 1 <;> (apply decide_eq_decide.2; omega)
  unfold iisLarge_p sl5Large_p
  rw [h1]
  cases decide (65 ≤ c.toNat) <;> cases decide (c.toNat ≤ 90) <;> rfl
theorem n_var (s : ByteArray) : sl5VarOk_p s = (allN (fun k => sl5Large_p (bt s k) || (!((k : Int) == 0) && sl1Letter_p (bt s k))) s.size && inR (s.size : Int) 1 12) := by
  unfold sl5VarOk_p
  rw [rounds_all (p := fun k => sl5Large_p (bt s k) || (!((k : Int) == 0) && sl1Letter_p (bt s k))) (fun k => by
    unfold sl5VarOk_p_b1
    cases sl1Letter_p (bt s k) <;> cases ((k : Int) == 0) <;> cases sl5Large_p (bt s k) <;> rfl)]
  generalize allN _ _ = A
  cases A <;> rfl
theorem n_isvar (s : ByteArray) : iisVar_p s = (decide (1 ≤ s.size) && (decide (s.size ≤ 12) && (sl5Large_p (bt s 0) && allN (fun k => sl1Letter_p (bt s k) || sl5Large_p (bt s k)) s.size))) := by
  unfold iisVar_p
  rw [rounds_all (p := fun k => sl1Letter_p (bt s k) || sl5Large_p (bt s k)) (fun k => by
    unfold iisVar_p_b1; rw [e_word, large_in]
    cases sl1Letter_p (bt s k) <;> cases sl5Large_p (bt s k) <;> rfl), large_in]
  have h1 : decide (1 ≤ s.size) = !decide (s.size < 1) := by rw [← decide_not]; apply decide_eq_decide.2; omega
  have h2 : decide (s.size ≤ 12) = !decide (12 < s.size) := by rw [← decide_not]; apply decide_eq_decide.2; omega
  rw [h1, h2]
  generalize allN _ _ = A
  cases decide (s.size < 1) <;> cases decide (12 < s.size) <;> cases sl5Large_p (bt s 0) <;> cases A <;> rfl
theorem e_var (s : ByteArray) : iisVar_p s = sl5VarOk_p s := by
  rw [n_var, n_isvar, Bool.eq_iff_iff]
  simp only [Bool.and_eq_true, allN_iff, decide_eq_true_eq, Bool.or_eq_true, Bool.not_eq_true']
  constructor
  · rintro ⟨h1, h2, h3, h4⟩
    refine ⟨fun k hk => ?_, by unfold inR; simp; omega⟩
    by_cases hk0 : k = 0
    · subst hk0; exact .inl h3
    · rcases h4 k hk with h | h
      · exact .inr ⟨by simpa using hk0, h⟩
      · exact .inl h
  · rintro ⟨h1, h2⟩
    have h3 := inR_true h2
    refine ⟨by omega, by omega, ?_, fun k hk => ?_⟩
    · rcases h1 0 (by omega) with h | h
      · exact h
      · exact absurd h.1 (by simp)
    · rcases h1 k hk with h | h
      · exact .inr h
      · exact .inl h.2
theorem e_arg (a : ArgD) : iArgOk_p a = sArgOk_p a := by
  unfold iArgOk_p sArgOk_p
  rw [e_var, e_val]
  cases (a.V.K == 0) <;> cases (a.V.N == 0) <;> cases a.V.S.toList.isEmpty <;> cases (a.K == 1) <;> cases (a.K == 2) <;> cases (a.K == 3) <;> cases a.S.toList.isEmpty <;> cases sValOk_p a.V <;> cases sl5VarOk_p a.S <;> rfl
theorem n_ipat (p : PatD) : iPatOk_p p = (sNameOk_p p.Kind && (decide (p.Args.length ≤ 5) && allN (fun k => sArgOk_p (gt p.Args k)) p.Args.length)) := by
  unfold iPatOk_p
  rw [rounds_all (p := fun k => sArgOk_p (gt p.Args k)) (fun k => by unfold iPatOk_p_b1; rw [e_arg]), e_name]
  have h2 : decide (p.Args.length ≤ 5) = !decide (5 < p.Args.length) := by rw [← decide_not]; apply decide_eq_decide.2; omega
  rw [h2]
  generalize allN _ _ = A
  cases sNameOk_p p.Kind <;> cases decide (5 < p.Args.length) <;> cases A <;> rfl
theorem e_pat (p : PatD) : iPatOk_p p = sPatOk_p p := by
  rw [n_ipat]
  unfold sPatOk_p
  rw [rounds_all (p := fun k => sArgOk_p (gt p.Args k)) (fun k => rfl)]
  generalize allN _ _ = A
  cases sNameOk_p p.Kind <;> cases decide (p.Args.length ≤ 5) <;> cases A <;> rfl
theorem e_given (a : ArgD) : iisTerm_p a = sl8Given_p a := by
  unfold iisTerm_p sl8Given_p
  rw [e_arg]
  cases (a.K == 3) <;> cases sArgOk_p a <;> rfl
theorem e_cond (c : CondD) : iCondOk_p c = sCondOk_p c := by
  unfold iCondOk_p sCondOk_p
  rw [e_given, e_given]
  unfold sl8Given_p
  cases inR c.Op 1 3 <;> cases (c.L.K == 3) <;> cases sArgOk_p c.L <;> cases (c.R.K == 3) <;> cases sArgOk_p c.R <;> rfl
theorem e_expr (e : ExprD) : iExprOk_p e = sExprOk_p e := by
  unfold iExprOk_p sExprOk_p
  rw [e_given, e_given]
theorem n_args (a : ActD) : iargsOk_p a = (sNameOk_p a.Name && sl8Args_p a.Args) := by
  unfold iargsOk_p sl8Args_p
  rw [rounds_all (p := fun k => sExprOk_p (gt a.Args k)) (fun k => by unfold iargsOk_p_b1; rw [e_expr]), rounds_all (p := fun k => sExprOk_p (gt a.Args k)) (fun k => rfl), e_name]
  have h2 : decide (a.Args.length ≤ 5) = !decide (5 < a.Args.length) := by rw [← decide_not]; apply decide_eq_decide.2; omega
  rw [h2]
  generalize allN _ _ = A
  cases sNameOk_p a.Name <;> cases decide (5 < a.Args.length) <;> cases A <;> rfl
theorem e_act (a : ActD) : iActOk_p a = sActOk_p a := by
  unfold iActOk_p sActOk_p
  rw [n_args, e_undo]
  have hl : (((a.Args.length : Nat) : Int) == 0) = decide (a.Args.length = 0) := by
    rw [Bool.eq_iff_iff]; simp
  by_cases h1 : a.Kind = 1
  · simp [h1]; cases a.Name.toList.isEmpty <;> cases sNameOk_p a.Name <;> cases sl8Args_p a.Args <;> simp
  by_cases h2 : a.Kind = 2
  · simp [h2]; cases a.Name.toList.isEmpty <;> cases decide (a.Args.length = 0) <;> cases a.Undo.toList.isEmpty <;> cases inR a.N 0 7 <;> simp_all
  by_cases h3 : a.Kind = 3
  · simp [h3]; cases a.Name.toList.isEmpty <;> cases sNameOk_p a.Name <;> cases sl8Args_p a.Args <;> simp
  by_cases h4 : a.Kind = 4
  · simp [h4]; cases a.Name.toList.isEmpty <;> cases sNameOk_p a.Name <;> cases sl8Args_p a.Args <;> simp
  by_cases h5 : a.Kind = 5
  · simp [h5]; cases a.Name.toList.isEmpty <;> cases decide (a.Args.length = 0) <;> cases a.Undo.toList.isEmpty <;> cases (a.N == 0) <;> simp_all
  by_cases h6 : a.Kind = 6
  · simp [h6]; cases a.Name.toList.isEmpty <;> cases decide (a.Args.length = 0) <;> cases a.Undo.toList.isEmpty <;> cases (a.N == 0) <;> simp_all
  have b1 : (a.Kind == 1) = false := by simpa using h1
  have b2 : (a.Kind == 2) = false := by simpa using h2
  have b3 : (a.Kind == 3) = false := by simpa using h3
  have b4 : (a.Kind == 4) = false := by simpa using h4
  have b5 : (a.Kind == 5) = false := by simpa using h5
  have b6 : (a.Kind == 6) = false := by simpa using h6
  simp only [b1, b2, b3, b4, b5, b6, cond_false]
  cases a.Name.toList.isEmpty <;> cases (((a.Args.length : Nat) : Int) == 0) <;> rfl
end Go.Proofs.YthnilnggpbploaaGreat
