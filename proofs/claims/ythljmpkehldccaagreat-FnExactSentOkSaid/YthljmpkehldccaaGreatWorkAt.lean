/- WorkAt, the program's and the reference's. Printed by a program. -/
import Derived.Test.YthljmpkehldccaaGreatTyTo
import Derived.Test.YthljmpkehldccaaGreatTyEq
namespace Go.Proofs.YthljmpkehldccaaGreat
open Go.RowKit
open Cel (rd own rd_len rd_one own_rd own_lt rd_below rd_mono own_keep)

/-- Where the first element is that is so; -1: there is none. -/
def idxF {α : Type} (p : α → Bool) : List α → Nat → Int
  | [], _ => -1
  | x :: xs, i => if p x then i else idxF p xs (i + 1)
def idxOf {α : Type} (p : α → Bool) (l : List α) : Int := idxF p l 0
theorem idxF_hit {α : Type} (p : α → Bool) : ∀ (l : List α) (i k : Nat) (h : k < l.length), (l.take k).any p = false → p l[k] = true → idxF p l i = (i + k : Nat) := by
  intro l
  induction l with
  | nil => intro i k h; cases h
  | cons x xs ih =>
    intro i k h h1 h2
    cases k with
    | zero => rw [idxF, if_pos (by simpa using h2)]; simp
    | succ k =>
      rw [List.take_succ_cons, List.any_cons, Bool.or_eq_false_iff] at h1
      rw [idxF, if_neg (by simp [h1.1]), ih (i + 1) k (by simpa using h) h1.2 (by simpa using h2)]
      congr 1; omega
theorem idxF_none {α : Type} (p : α → Bool) : ∀ (l : List α) (i : Nat), l.any p = false → idxF p l i = -1 := by
  intro l
  induction l with
  | nil => intro i _; rfl
  | cons x xs ih =>
    intro i h
    rw [List.any_cons, Bool.or_eq_false_iff] at h
    rw [idxF, if_neg (by simp [h.1]), ih _ h.2]
theorem idx_hit {α : Type} (p : α → Bool) (l : List α) (k : Nat) (h : k < l.length) (h1 : (l.take k).any p = false) (h2 : p l[k] = true) : idxOf p l = k := by
  unfold idxOf; rw [idxF_hit p l 0 k h h1 h2]; simp
theorem idx_none {α : Type} (p : α → Bool) (l : List α) (h : l.any p = false) : idxOf p l = -1 := idxF_none p l 0 h
theorem any_next {α : Type} (f : α → Bool) (l : List α) (k : Nat) (h : k < l.length) : (l.take (k + 1)).any f = ((l.take k).any f || f l[k]) := by
  rw [List.take_succ_eq_append_getElem h, List.any_append]; simp
def named (name : ByteArray) (x : WorkD) : Bool := decide (x.Name.toList = name.toList)

set_option maxRecDepth 20000 in
theorem specWorkAt_w (b : BookD) (v0 v1 : Value) (name : ByteArray) (w : World) (s0 : Sl w b.Defs v0) (s1 : Sl w b.Works v1) :
    Calls Tryz.prog 30 #[.agg #[v0, v1, .int .i64 b.Now, .int .i64 b.Ring], .string name] w (RetI (idxOf (named name) b.Works) w) := by
  obtain ⟨a0, c0, rfl, hl0, -⟩ := s0.open
  obtain ⟨a1, c1, rfl, hl1, -⟩ := s1.open
  generalize hbw : b.Works = l at *
  go_enter Tryz.func30, Tryz.ntmps30
  go_wp2
  go_loop [5] (fun i => ∃ k : Nat, i = .int .i64 k ∧ k ≤ l.length ∧ Hid ((l.take k).any (named name) = false)) (fun i => l.length - (intOf i).toNat)
  case atStart => exact ⟨0, rfl, by omega, rfl⟩
  case round =>
    obtain ⟨k, rfl, hk, hy⟩ := hrel
    by_cases hlt : k < l.length
    · obtain ⟨p, o, u0, u1, u2, u3, u4, rfl, hbl, hok, ⟨d0, d1, d2, d3, d4, d5, d6, d7, d8, d9⟩, t0, t1, t2, t3, t4⟩ := (s1.to (by simp : Below w.heap.size w (w.alloc (.cells #[.slice a0 b.Defs.length c0, .slice a1 l.length c1, .int .i64 b.Now, .int .i64 b.Ring] 31)))).atWork k hlt
      have hst := Lib.hid (any_next (named name) l k hlt)
      have hhit := Lib.hid (fun h => idx_hit (named name) l k hlt hy.out h)
      generalize l[k] = x at *
      clear t0 t1 t2 t3 t4 hok d1 d2 d3 d4 d5 d6 d7 d8 d9
      by_cases h1 : x.Name.toList = name.toList
      · have hn := hhit.out (decide_eq_true h1)
        have h1b : (x.Name.toList == name.toList) = true := by simp [h1]
        replace hn := Lib.hid hn
        go_wp2
        go_ret
        exact ⟨ret_int (by rw [hn.out]), by simp⟩
      · have h1b : (x.Name.toList == name.toList) = false := by simpa using h1
        have hn : named name x = false := decide_eq_false h1
        replace hn := Lib.hid hn
        go_wp2
        go_round
        case rel => exact ⟨k + 1, by go_num, by omega, by show _ = _; rw [hst.out, hy.out, hn.out]; rfl⟩
        case measure => simp [intOf]; omega
    · obtain rfl : k = l.length := by omega
      rw [List.take_length] at hy
      go_wp2
      go_ret
      exact ⟨ret_int (by rw [idx_none _ _ hy.out]), by simp⟩

theorem isNamed_w (x : WorkD) (v0 v1 v2 v3 v4 : Value) (name : ByteArray) (g : Nat) (w : World) (hg : Bx w g [.string name]) :
    Calls Tryz.prog 44 #[.agg #[.string x.Name, .string x.Def, v0, .int .i64 x.X.S.Next, v1, v2, v3, v4, .int .i64 x.X.State, .int .i64 x.X.Now], .pointer (some ⟨g, 0, none⟩)] w (RetB (named name x) w) := by
  have g0 := hg.c 0 _ rfl
  unfold named
  by_cases h1 : x.Name.toList = name.toList
  · rw [decide_eq_true h1]
    have h1b : (x.Name.toList == name.toList) = true := by simp [h1]
    go_enter Tryz.func44, Tryz.ntmps44
    go_wp2
    go_ret
    exact ⟨by simp, by simp⟩
  · rw [decide_eq_false h1]
    have h1b : (x.Name.toList == name.toList) = false := by simpa using h1
    go_enter Tryz.func44, Tryz.ntmps44
    go_wp2
    go_ret
    exact ⟨by simp, by simp⟩

set_option maxRecDepth 20000 in
theorem idxNamed_w (l : List WorkD) (v : Value) (name : ByteArray) (g : Nat) (w : World) (h : Sl w l v) (hg : Bx w g [.string name]) :
    Calls Tryz.prog 43 #[v, .func (.func 44) #[] #[.pointer (some ⟨g, 0, none⟩)]] w (RetI (idxOf (named name) l) w) := by
  obtain ⟨a, c, rfl, hl, -⟩ := h.open
  go_enter Tryz.func43, Tryz.ntmps43
  go_wp2
  go_loopw [5, 8] (fun _ i wr => Below w.heap.size w wr ∧ ∃ k : Nat, i = .int .i64 k ∧ k ≤ l.length ∧ Hid ((l.take k).any (named name) = false)) (fun _ i _ => l.length - (intOf i).toNat)
  case atStart => exact ⟨by simp, 0, rfl, by omega, rfl⟩
  case round =>
    obtain ⟨hB, k, rfl, hk, hy⟩ := hrel
    by_cases hlt : k < l.length
    · obtain ⟨p, o, u0, u1, u2, u3, u4, rfl, hbl, hok, ⟨d0, d1, d2, d3, d4, d5, d6, d7, d8, d9⟩, t0, t1, t2, t3, t4⟩ := (h.to hB).atWork k hlt
      obtain ⟨e0, q0, rfl, -⟩ := t0.open
      obtain ⟨e1, q1, rfl, -⟩ := t1.open
      obtain ⟨e2, q2, rfl, -⟩ := t2.open
      obtain ⟨e3, q3, rfl, -⟩ := t3.open
      obtain ⟨e4, q4, rfl, -⟩ := t4.open
      have hst := Lib.hid (any_next (named name) l k hlt)
      have hhit := Lib.hid (fun h => idx_hit (named name) l k hlt hy.out h)
      generalize l[k] = x at *
      clear t0 t1 t2 t3 t4 hok
      go_wp2_with fail
      refine (isNamed_w x _ _ _ _ _ name g _ (hg.via hB)).mono ?_
      rintro e w1 ⟨rfl, hb1⟩
      have B1 := via hB hb1
      cases ho : named name x with
      | true =>
        have hr := Lib.hid (hhit.out ho)
        go_wp2
        go_ret
        exact ⟨ret_int (by rw [hr.out]), B1⟩
      | false =>
        replace ho := Lib.hid ho
        go_wp2
        go_roundw
        case rel => exact ⟨B1, k + 1, by go_num, by omega, by show _ = _; rw [hst.out, hy.out, ho.out]; rfl⟩
        case measure => simp [intOf]; omega
    · obtain rfl : k = l.length := by omega
      rw [List.take_length] at hy
      go_wp2
      go_ret
      exact ⟨ret_int (by rw [idx_none _ _ hy.out]), hB⟩

theorem implWorkAt_w (b : BookD) (v0 v1 : Value) (name : ByteArray) (w : World) (s0 : Sl w b.Defs v0) (s1 : Sl w b.Works v1) :
    Calls Tryz.prog 32 #[.agg #[v0, v1, .int .i64 b.Now, .int .i64 b.Ring], .string name] w (RetI (idxOf (named name) b.Works) w) := by
  obtain ⟨a0, c0, rfl, hl0, -⟩ := s0.open
  obtain ⟨a1, c1, rfl, hl1, -⟩ := s1.open
  go_enter Tryz.func32, Tryz.ntmps32
  go_wp2_with fail
  refine (idxNamed_w b.Works _ name _ _ (s1.to (by simp)) (bx_new _ [.string name] 9 (by simp))).mono ?_
  rintro e w1 ⟨rfl, hb1⟩
  have B1 := via (w0 := w) (by simp) hb1
  go_wp2
  go_ret
  exact ⟨rfl, B1⟩
end Go.Proofs.YthljmpkehldccaaGreat
