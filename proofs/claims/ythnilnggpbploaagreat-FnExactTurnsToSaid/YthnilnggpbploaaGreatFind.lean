/- Loops that look for something, and loops that ask something of all. -/
import Derived.Test.YthnilnggpbploaaGreatRd
namespace Go.Proofs.YthnilnggpbploaaGreat
open Go.RowKit

/-- The first place below n where c holds. -/
def firstB (c : Nat → Bool) : Nat → Option Nat
  | 0 => none
  | n + 1 => match firstB c n with
    | some k => some k
    | none => bif c n then some n else none
theorem rounds_find {R : Type} {b : Nat → Unit → St R Unit} {c : Nat → Bool} {g : Nat → R} (h : ∀ k, b k () = bif c k then .ret (g k) else .go ()) : ∀ n, rounds b n () = match firstB c n with | some k => .ret (g k) | none => .go () := by
  intro n
  induction n with
  | zero => rfl
  | succ n ih =>
    rw [rounds, ih, firstB]
    cases firstB c n with
    | some k => rfl
    | none => simp only [h]; cases c n <;> rfl
theorem firstB_none {c : Nat → Bool} : ∀ {n : Nat}, firstB c n = none → ∀ i, i < n → c i = false := by
  intro m
  induction m with
  | zero => intro _ i hi; omega
  | succ m ih3 =>
    intro hm i hi
    rw [firstB] at hm
    cases e6 : firstB c m with
    | some q => rw [e6] at hm; cases hm
    | none =>
      rw [e6] at hm
      cases e7 : c m with
      | true => rw [e7] at hm; cases hm
      | false =>
        by_cases him : i = m
        · rw [him]; exact e7
        · exact ih3 e6 i (by omega)
theorem firstB_some {c : Nat → Bool} : ∀ {n k : Nat}, firstB c n = some k → k < n ∧ c k = true ∧ ∀ j, j < k → c j = false := by
  intro n
  induction n with
  | zero => intro k h; cases h
  | succ n ih =>
    intro k h
    rw [firstB] at h
    cases e : firstB c n with
    | some m =>
      rw [e] at h; injection h with h; subst h
      obtain ⟨h1, h2, h3⟩ := ih e
      exact ⟨by omega, h2, h3⟩
    | none =>
      rw [e] at h
      cases e2 : c n with
      | false => rw [e2] at h; cases h
      | true =>
        rw [e2] at h; injection h with h; subst h
        exact ⟨by omega, e2, firstB_none e⟩
theorem firstB_is {c : Nat → Bool} {n k : Nat} (hk : k < n) (hc : c k = true) (hj : ∀ j, j < k → c j = false) : firstB c n = some k := by
  cases e : firstB c n with
  | none => rw [firstB_none e k hk] at hc; cases hc
  | some m =>
    obtain ⟨h1, h2, h3⟩ := firstB_some e
    rcases Nat.lt_trichotomy m k with h | h | h
    · rw [hj m h] at h2; cases h2
    · rw [h]
    · rw [h3 k h] at hc; cases hc
theorem firstB_nil {c : Nat → Bool} {n : Nat} (h : ∀ i, i < n → c i = false) : firstB c n = none := by
  cases e : firstB c n with
  | none => rfl
  | some m => obtain ⟨h1, h2, -⟩ := firstB_some e; rw [h m h1] at h2; cases h2
theorem firstB_congr {c d : Nat → Bool} : ∀ {n : Nat}, (∀ k, k < n → c k = d k) → firstB c n = firstB d n := by
  intro n
  induction n with
  | zero => intro _; rfl
  | succ n ih => intro h; rw [firstB, firstB, ih (fun k hk => h k (by omega)), h n (by omega)]
/-- Its number; -1: there is none. -/
def idxN (c : Nat → Bool) (n : Nat) : Int := match firstB c n with | some k => (k : Int) | none => -1
theorem idx_of {b : Nat → Unit → St Int Unit} {c : Nat → Bool} {n : Nat} (h : ∀ k, b k () = bif c k then .ret (k : Int) else .go ()) :
    (match rounds b n () with | .ret r => r | .brk _ => default | .go _ => (-1 : Int)) = idxN c n := by
  rw [rounds_find h n]; unfold idxN; cases firstB c n <;> rfl
theorem idxN_in (c : Nat → Bool) (n : Nat) : -1 ≤ idxN c n ∧ idxN c n < (n : Int) := by
  unfold idxN
  cases e : firstB c n with
  | none => exact ⟨by decide, by show (-1 : Int) < n; omega⟩
  | some k => have := (firstB_some e).1; exact ⟨by show (-1 : Int) ≤ k; omega, by show (k : Int) < n; omega⟩
/-- Does it hold of all below n? -/
def allN (p : Nat → Bool) : Nat → Bool
  | 0 => true
  | n + 1 => allN p n && p n
theorem allN_iff {p : Nat → Bool} : ∀ {n : Nat}, allN p n = true ↔ ∀ k, k < n → p k = true := by
  intro n
  induction n with
  | zero => exact ⟨fun _ k hk => by omega, fun _ => rfl⟩
  | succ n ih =>
    rw [allN, Bool.and_eq_true, ih]
    constructor
    · rintro ⟨h1, h2⟩ k hk
      by_cases hkn : k = n
      · rw [hkn]; exact h2
      · exact h1 k (by omega)
    · intro h; exact ⟨fun k hk => h k (by omega), h n (by omega)⟩
theorem allN_congr {p q : Nat → Bool} : ∀ {n : Nat}, (∀ k, k < n → p k = q k) → allN p n = allN q n := by
  intro n
  induction n with
  | zero => intro _; rfl
  | succ n ih => intro h; rw [allN, allN, ih (fun k hk => h k (by omega)), h n (by omega)]
theorem rounds_all {b : Nat → Unit → St Bool Unit} {p : Nat → Bool} (h : ∀ k, b k () = bif p k then .go () else .ret false) : ∀ n, rounds b n () = bif allN p n then .go () else .ret false := by
  intro n
  induction n with
  | zero => rfl
  | succ n ih =>
    rw [rounds, ih, allN]
    cases allN p n with
    | false => rfl
    | true => simp only [cond_true, h, Bool.true_and]
theorem all_of {b : Nat → Unit → St Bool Unit} {p : Nat → Bool} {n : Nat} {X : Bool} (h : ∀ k, b k () = bif p k then .go () else .ret false) :
    (match rounds b n () with | .ret r => r | .brk _ => default | .go _ => X) = (allN p n && X) := by
  rw [rounds_all h n]; cases allN p n <;> rfl
theorem all_in {b : Nat → Unit → St Bool Unit} {p : Nat → Bool} {n : Nat} (h : ∀ k, b k () = bif p k then .go () else .ret false) :
    (match rounds b n () with | .ret r => St.ret r | .brk _ => .brk default | .go _ => .go ()) = (bif allN p n then .go () else .ret false : St Bool Unit) := by
  rw [rounds_all h n]; cases allN p n <;> rfl
theorem any_of {b : Nat → Unit → St Bool Unit} {c : Nat → Bool} {n : Nat} (h : ∀ k, b k () = bif c k then .ret true else .go ()) :
    (match rounds b n () with | .ret r => r | .brk _ => default | .go _ => false) = (firstB c n).isSome := by
  rw [rounds_find (g := fun _ => true) h n]; cases firstB c n <;> rfl
end Go.Proofs.YthnilnggpbploaaGreat
