/- Small functions of the laws: sameBytes, big. -/
import Derived.Test.YtojlnmenfikhbaaEqB
namespace Go.Proofs.Ytojlnmenfikhbaa
open Go.RowKit
open Cel (rd own rd_len rd_one own_rd own_lt rd_below rd_mono own_keep)

theorem drewN_more (w : World) (a b : Nat) : (w.drewN a).drewN b = w.drewN (a + b) := by simp
/-- A call that only reads, and may draw. -/
def RetQ (b : Bool) (w : World) (e : Ending) (w' : World) : Prop := e = .returned (.bool b) ∧ ∃ m, w' = w.drewN m
theorem sameQ_w (l1 l2 : List UInt8) (v1 v2 : Value) (w : World) (h1 : Sl w l1 v1) (h2 : Sl w l2 v2) :
    Calls Try.prog 37 #[v1, v2] w (RetQ (decide (l1 = l2)) w) := by
  obtain ⟨a1, c1, rfl, hl1, -⟩ := h1.open
  obtain ⟨a2, c2, rfl, hl2, -⟩ := h2.open
  by_cases hlen : l1.length = l2.length
  · have h1' : Sl w l1 (.slice a1 l2.length c1) := by rw [← hlen]; exact h1
    rw [hlen]
    clear h1
    have hL := Lib.hid hlen
    clear hlen
    go_enter Try.func37, Try.ntmps37
    go_wp2
    go_loopw [5] (fun i wr => Hid (∃ m, wr = w.drewN m) ∧ ∃ k : Nat, i = .int .i64 k ∧ k ≤ l2.length ∧ Hid (l1.take k = l2.take k)) (fun i _ => l2.length - (intOf i).toNat)
    case atStart => exact ⟨⟨0, rfl⟩, 0, rfl, by omega, rfl⟩
    case round =>
      obtain ⟨hW, k, rfl, hk, ht⟩ := hrel
      have hB : Below w.heap.size w wr := by obtain ⟨m, rfl⟩ := hW.out; exact below_drewN (Below.refl _ _) _
      by_cases hlt : k < l2.length
      · have hlt1 : k < l1.length := by have := hL.out; omega
        obtain ⟨b, o, rfl, e1⟩ := (h1'.to hB).byte k hlt1
        obtain ⟨b', o', rfl, e2⟩ := (h2.to hB).byte k hlt
        clear h1' h2
        by_cases he : l1[k] = l2[k]
        · have ht2 : Hid (l1.take (k + 1) = l2.take (k + 1)) := by
            show _ = _
            rw [List.take_succ_eq_append_getElem hlt1, List.take_succ_eq_append_getElem hlt, ht.out, he]
          rw [he] at e1
          clear he
          generalize (l2[k]).toNat = x at *
          clear ht hlt1
          go_wp2
          go_quiet (fail)
          go_wp2
          all_goals go_roundw
          case rel => exact ⟨by obtain ⟨m, rfl⟩ := hW.out; exact ⟨_, drewN_more _ _ _⟩, k + 1, by go_num, by omega, ht2⟩
          case measure => simp [intOf]; omega
        · have hne : ¬ (l1[k]).toNat = (l2[k]).toNat := fun e => he (UInt8.toNat_inj.mp e)
          have hd : decide (l1 = l2) = false := by
            refine decide_eq_false fun e => he ?_
            subst e; rfl
          rw [hd]
          clear he hd
          generalize (l1[k]).toNat = x at *
          generalize (l2[k]).toNat = y at *
          have hxy : x < y ∨ y < x := by omega
          clear ht hlt1 hne
          rcases hxy with hxy | hxy
          all_goals
            go_wp2
            go_quiet (fail)
            go_wp2
            go_ret
            exact ⟨rfl, by obtain ⟨m, rfl⟩ := hW.out; exact ⟨_, drewN_more _ _ _⟩⟩
      · obtain rfl : l1 = l2 := by
          have := ht.out
          have hL' := hL.out
          rwa [List.take_of_length_le (by omega), List.take_of_length_le (by omega)] at this
        go_wp2
        go_ret
        exact ⟨by simp, hW.out⟩
  · have hd : decide (l1 = l2) = false := decide_eq_false fun e => hlen (by rw [e])
    rw [hd]
    clear hd h1 h2
    have hxy : l1.length < l2.length ∨ l2.length < l1.length := by omega
    clear hlen
    rcases hxy with hxy | hxy
    all_goals
      go_enter Try.func37, Try.ntmps37
      go_wp2
      go_ret
      exact ⟨rfl, 0, rfl⟩
theorem sameB_w (l1 l2 : List UInt8) (v1 v2 : Value) (w : World) (h1 : Sl w l1 v1) (h2 : Sl w l2 v2) :
    Calls Try.prog 37 #[v1, v2] w (RetB (decide (l1 = l2)) w) :=
  (sameQ_w l1 l2 v1 v2 w h1 h2).mono fun _ _ ⟨he, _, hw⟩ => ⟨he, hw ▸ below_drewN (Below.refl _ _) _⟩
theorem big_w (l : List UInt8) (v : Value) (w : World) (h : Sl w l v) : Calls Try.prog 34 #[v] w (RetB (decide (1048576 < l.length)) w) := by
  obtain ⟨a, c, rfl, hl, -⟩ := h.open
  by_cases hb : 1048576 < l.length
  · rw [decide_eq_true hb]
    go_enter Try.func34, Try.ntmps34
    go_wp2
    go_ret
    exact ⟨by simp; omega, by simp⟩
  · rw [decide_eq_false hb]
    go_enter Try.func34, Try.ntmps34
    go_wp2
    go_ret
    exact ⟨by simp; omega, by simp⟩
end Go.Proofs.Ytojlnmenfikhbaa
