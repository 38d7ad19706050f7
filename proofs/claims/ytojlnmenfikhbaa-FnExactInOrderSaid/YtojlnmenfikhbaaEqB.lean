/- slices.Equal at bytes; a part of a slice of bytes. -/
import Derived.Test.YtojlnmenfikhbaaHarnB
namespace Go.Proofs.Ytojlnmenfikhbaa
open Go.RowKit
open Cel (rd own rd_len rd_one own_rd own_lt rd_below rd_mono own_keep)

/-- A part of a list, from i, m long. -/
def part (l : List UInt8) (i m : Nat) : List UInt8 := (l.drop i).take m
theorem part_len (l : List UInt8) (i m : Nat) (h : i + m ≤ l.length) : (part l i m).length = m := by
  unfold part; rw [List.length_take, List.length_drop]; omega

theorem Sl.part {w : World} {l : List UInt8} {b o n c : Nat} (h : Sl w l (.slice (some ⟨b, o, none⟩) n c)) (i m : Nat) (hi : i + m ≤ l.length) :
    Sl w (part l i m) (.slice (some ⟨b, o + i, none⟩) m (c - i)) := by
  obtain ⟨a, c', e, h1, h2, h3, h4⟩ := h
  cases e
  refine ⟨_, _, by rw [part_len l i m hi], by rw [part_len l i m hi]; omega, by omega, by simp, ?_⟩
  rcases h4 with rfl | ⟨b', o', e, h5, h6⟩
  · left; unfold Proofs.Ytojlnmenfikhbaa.part; simp
  · cases e
    refine .inr ⟨b, o + i, rfl, h5, fun j x hx => ?_⟩
    have hj : l[i + j]? = some x := by
      unfold Proofs.Ytojlnmenfikhbaa.part at hx
      rw [List.getElem?_take] at hx
      split at hx
      · rwa [List.getElem?_drop] at hx
      · cases hx
    obtain ⟨vs, k1, k2⟩ := h6 (i + j) x hj
    refine ⟨vs, k1, fun t ht => ?_⟩
    have := k2 t ht
    rwa [Nat.add_mul, ← Nat.add_assoc, show i * Cel.k UInt8 = i from Nat.mul_one i] at this

theorem eqB_w (l1 l2 : List UInt8) (v1 v2 : Value) (w : World) (h1 : Sl w l1 v1) (h2 : Sl w l2 v2) :
    Calls Try.prog 72 #[v1, v2] w (RetB (decide (l1 = l2)) w) := by
  obtain ⟨a1, c1, rfl, hl1, -⟩ := h1.open
  obtain ⟨a2, c2, rfl, hl2, -⟩ := h2.open
  by_cases hlen : l1.length = l2.length
  · have h1' : Sl w l1 (.slice a1 l2.length c1) := by rw [← hlen]; exact h1
    rw [hlen]
    clear h1
    have hL := Lib.hid hlen
    clear hlen
    go_enter Try.func72, Try.ntmps72
    go_wp2
    go_loopw [5, 13] (fun _ i wr => Below w.heap.size w wr ∧ ∃ k : Nat, i = .int .i64 k ∧ k ≤ l2.length ∧ Hid (l1.take k = l2.take k)) (fun _ i _ => l2.length - (intOf i).toNat)
    case atStart => exact ⟨Below.refl _ _, 0, rfl, by omega, rfl⟩
    case round =>
      obtain ⟨hB, k, rfl, hk, ht⟩ := hrel
      by_cases hlt : k < l2.length
      · have hlt1 : k < l1.length := by have := hL.out; omega
        obtain ⟨b, o, rfl, e1⟩ := (h1'.to hB).byte k hlt1
        obtain ⟨b', o', rfl, e2⟩ := (h2.to hB).byte k hlt
        clear h1' h2
        by_cases he : l1[k] = l2[k]
        · have ht2 : Hid (l1.take (k + 1) = l2.take (k + 1)) := by
            show _ = _
            rw [List.take_succ_eq_append_getElem hlt1, List.take_succ_eq_append_getElem hlt, ht.out, he]
          rw [he] at e1
          clear he
          generalize (l2[k]).toNat = x at *
          clear ht hlt1
          go_wp2
          go_quiet (fail)
          go_wp2
          all_goals go_roundw
          case rel => exact ⟨below_drewN hB _, k + 1, by go_num, by omega, ht2⟩
          case measure => simp [intOf]; omega
        · have hne : ¬ (l1[k]).toNat = (l2[k]).toNat := fun e => he (UInt8.toNat_inj.mp e)
          have hd : decide (l1 = l2) = false := by
            refine decide_eq_false fun e => he ?_
            subst e; rfl
          rw [hd]
          clear he hd
          generalize (l1[k]).toNat = x at *
          generalize (l2[k]).toNat = y at *
          have hxy : x < y ∨ y < x := by omega
          clear ht hlt1 hne
          rcases hxy with hxy | hxy
          all_goals
            go_wp2
            go_quiet (fail)
            go_wp2
            go_ret
            exact ⟨rfl, below_drewN hB _⟩
      · obtain rfl : l1 = l2 := by
          have := ht.out
          have hL' := hL.out
          rwa [List.take_of_length_le (by omega), List.take_of_length_le (by omega)] at this
        go_wp2
        go_ret
        exact ⟨by simp, hB⟩
  · have hd : decide (l1 = l2) = false := decide_eq_false fun e => hlen (by rw [e])
    rw [hd]
    clear hd h1 h2
    have hxy : l1.length < l2.length ∨ l2.length < l1.length := by omega
    clear hlen
    rcases hxy with hxy | hxy
    all_goals
      go_enter Try.func72, Try.ntmps72
      go_wp2
      go_ret
      exact ⟨rfl, by simp⟩
theorem eqB_b (l1 l2 : List UInt8) (q : Bool) (hq : decide (l1 = l2) = q) (v1 v2 : Value) (w : World) (h1 : Sl w l1 v1) (h2 : Sl w l2 v2) :
    Calls Try.prog 72 #[v1, v2] w (RetB q w) := by
  subst hq; exact eqB_w l1 l2 v1 v2 w h1 h2
end Go.Proofs.Ytojlnmenfikhbaa
