/- Undone, the program's and the reference's. Printed by a program. -/
import Derived.Test.YthljmpkehldccaaGreatTyTo
import Derived.Test.YthljmpkehldccaaGreatTyEq
namespace Go.Proofs.YthljmpkehldccaaGreat
open Go.RowKit
open Cel (rd own rd_len rd_one own_rd own_lt rd_below rd_mono own_keep)

def openB (t : TaskD) : Bool := decide (t.State = 1) || decide (t.State = 2)
def liveB (l : List TaskD) : Bool := l.any openB
def badB (x : InstD) : Bool := (decide (x.State = 4) || decide (x.State = 6)) && decide (0 < x.Undos.length) || decide (x.State = 2) && liveB x.Tasks
def undoneB (l : List WorkD) : Bool := l.all fun x => !badB x.X
theorem any_step {α : Type} (f : α → Bool) (l : List α) (k : Nat) (h : k < l.length) : (l.take (k + 1)).any f = ((l.take k).any f || f l[k]) := by
  rw [List.take_succ_eq_append_getElem h, List.any_append]; simp
theorem any_hit {α : Type} (f : α → Bool) (l : List α) (k : Nat) (h : k < l.length) (hf : f l[k] = true) : l.any f = true := List.any_eq_true.2 ⟨l[k], List.getElem_mem h, hf⟩
theorem all_step {α : Type} (f : α → Bool) (l : List α) (k : Nat) (h : k < l.length) : (l.take (k + 1)).all f = ((l.take k).all f && f l[k]) := by
  rw [List.take_succ_eq_append_getElem h, List.all_append]; simp
theorem all_miss {α : Type} (f : α → Bool) (l : List α) (k : Nat) (h : k < l.length) (hf : f l[k] = false) : l.all f = false := by
  cases e : l.all f with
  | false => rfl
  | true => have := List.all_eq_true.1 e _ (List.getElem_mem h); rw [hf] at this; cases this

set_option maxRecDepth 20000 in
theorem isOpen_w (x : TaskD) (v0 : Value) (w : World) : Calls Tryz.prog 28 #[.agg #[.string x.F.Kind, v0, .string x.Undo, .int .i64 x.State, .int .i64 x.Tries, .int .i64 x.Due, .int .i64 x.V.K, .int .i64 x.V.N, .string x.V.S]] w (RetB (openB x) w) := by
  unfold openB
  by_cases h1 : x.State = 1
  · rw [h1]
    go_enter Tryz.func28, Tryz.ntmps28
    go_wp2
    go_ret
    exact ⟨rfl, by simp⟩
  have b1 : (x.State == 1) = false := by simpa using h1
  rw [decide_eq_false h1]
  by_cases h2 : x.State = 2
  · rw [h2]
    go_enter Tryz.func28, Tryz.ntmps28
    go_wp2
    go_ret
    exact ⟨rfl, by simp⟩
  have b2 : (x.State == 2) = false := by simpa using h2
  rw [decide_eq_false h2]
  go_enter Tryz.func28, Tryz.ntmps28
  go_wp2
  go_ret
  exact ⟨rfl, by simp⟩

set_option maxRecDepth 20000 in
theorem live_w (l : List TaskD) (v : Value) (w : World) (h : Sl w l v) : Calls Tryz.prog 26 #[v] w (RetB (liveB l) w) := by
  obtain ⟨a, c, rfl, hl, -⟩ := h.open
  obtain ⟨r, hr⟩ : ∃ r, liveB l = r := ⟨_, rfl⟩
  rw [hr]
  replace hr := Lib.hid hr
  go_enter Tryz.func26, Tryz.ntmps26
  go_wp2
  go_loopw [3] (fun i wr => Below w.heap.size w wr ∧ ∃ k : Nat, i = .int .i64 k ∧ k ≤ l.length ∧ Hid ((l.take k).any openB = false)) (fun i _ => l.length - (intOf i).toNat)
  case atStart => exact ⟨by simp, 0, rfl, by omega, rfl⟩
  case round =>
    obtain ⟨hB, k, rfl, hk, hy⟩ := hrel
    by_cases hlt : k < l.length
    · obtain ⟨p, o, u0, rfl, hbl, hok, ⟨d0, d1, d2, d3, d4, d5, d6, d7, d8⟩, t0⟩ := (h.to hB).atTask k hlt
      have hst := Lib.hid (any_step openB l k hlt)
      have hhit := Lib.hid (any_hit openB l k hlt)
      generalize l[k] = x at *
      clear t0 hok d0 d1 d2 d4 d5 d6 d7 d8
      by_cases h1 : x.State = 1
      · have ho : openB x = true := by unfold openB; rw [decide_eq_true h1]; rfl
        obtain rfl : true = r := by rw [← hr.out]; exact (hhit.out ho).symm
        rw [h1] at d3
        go_wp2
        go_ret
        exact ⟨rfl, hB⟩
      by_cases h2 : x.State = 2
      · have ho : openB x = true := by unfold openB; rw [decide_eq_true h2, Bool.or_true]
        obtain rfl : true = r := by rw [← hr.out]; exact (hhit.out ho).symm
        rw [h2] at d3
        go_wp2
        go_ret
        exact ⟨rfl, hB⟩
      have ho : openB x = false := by unfold openB; rw [decide_eq_false h1, decide_eq_false h2]; rfl
      replace ho := Lib.hid ho
      have b1 : (x.State == 1) = false := by simpa using h1
      have b2 : (x.State == 2) = false := by simpa using h2
      go_wp2
      go_roundw
      case rel => exact ⟨hB, k + 1, by go_num, by omega, by show _ = _; rw [hst.out, hy.out, ho.out]; rfl⟩
      case measure => simp [intOf]; omega
    · obtain rfl : k = l.length := by omega
      rw [List.take_length] at hy
      obtain rfl : false = r := by rw [← hr.out]; exact hy.out.symm
      go_wp2
      go_ret
      exact ⟨rfl, hB⟩

set_option maxRecDepth 20000 in
theorem idxOpen_w (l : List TaskD) (v : Value) (w : World) (h : Sl w l v) : Calls Tryz.prog 40 #[v, .func (.func 28) #[] #[]] w fun e w' => ∃ n : Int, e = .returned (.int .i64 n) ∧ decide (0 ≤ n) = liveB l ∧ Below w.heap.size w w' := by
  obtain ⟨a, c, rfl, hl, -⟩ := h.open
  go_enter Tryz.func40, Tryz.ntmps40
  go_wp2
  go_loopw [5, 8] (fun _ i wr => Below w.heap.size w wr ∧ ∃ k : Nat, i = .int .i64 k ∧ k ≤ l.length ∧ Hid ((l.take k).any openB = false)) (fun _ i _ => l.length - (intOf i).toNat)
  case atStart => exact ⟨by simp, 0, rfl, by omega, rfl⟩
  case round =>
    obtain ⟨hB, k, rfl, hk, hy⟩ := hrel
    by_cases hlt : k < l.length
    · obtain ⟨p, o, u0, rfl, hbl, hok, ⟨d0, d1, d2, d3, d4, d5, d6, d7, d8⟩, t0⟩ := (h.to hB).atTask k hlt
      obtain ⟨e0, q0, rfl, -⟩ := t0.open
      have hst := Lib.hid (any_step openB l k hlt)
      have hhit := Lib.hid (any_hit openB l k hlt)
      generalize l[k] = x at *
      clear t0 hok
      go_wp2_with fail
      refine (isOpen_w x _ _).mono ?_
      rintro e w1 ⟨rfl, hb1⟩
      have B1 := via hB hb1
      cases ho : openB x with
      | true =>
        have hr := hhit.out ho
        replace hr := Lib.hid hr
        go_wp2
        go_ret
        exact ⟨k, rfl, by unfold liveB; rw [hr.out]; simp, B1⟩
      | false =>
        replace ho := Lib.hid ho
        go_wp2
        go_roundw
        case rel => exact ⟨B1, k + 1, by go_num, by omega, by show _ = _; rw [hst.out, hy.out, ho.out]; rfl⟩
        case measure => simp [intOf]; omega
    · obtain rfl : k = l.length := by omega
      rw [List.take_length] at hy
      go_wp2
      go_ret
      exact ⟨-1, rfl, by unfold liveB; rw [hy.out]; rfl, hB⟩

theorem contOpen_w (l : List TaskD) (v : Value) (w : World) (h : Sl w l v) : Calls Tryz.prog 27 #[v, .func (.func 28) #[] #[]] w (RetB (liveB l) w) := by
  obtain ⟨a, c, rfl, hl, -⟩ := h.open
  go_enter Tryz.func27, Tryz.ntmps27
  go_wp2_with fail
  refine (idxOpen_w l _ _ h).mono ?_
  rintro e w1 ⟨n, rfl, hn, hb1⟩
  rw [← hn]
  go_wp2
  go_ret
  exact ⟨rfl, hb1⟩
end Go.Proofs.YthljmpkehldccaaGreat
