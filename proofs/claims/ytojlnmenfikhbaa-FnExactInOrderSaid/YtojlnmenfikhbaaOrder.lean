/- InOrder, the program's and the reference's. -/
import Derived.Test.YtojlnmenfikhbaaSent
import Derived.Test.YtojlnmenfikhbaaSmall
namespace Go.Proofs.Ytojlnmenfikhbaa
open Go.RowKit
open Cel (rd own rd_len rd_one own_rd own_lt rd_below rd_mono own_keep)

def same (x y : SentD) : Prop := y.Name.toList = x.Name.toList ∧ y.C.Key.toList = x.C.Key.toList
instance (x y : SentD) : Decidable (same x y) := by unfold same; infer_instance
/-- The Try of the last call ahead of n that is of x's work and key. -/
def lastR (l : List SentD) (x : SentD) : Nat → Option Int
  | 0 => none
  | n + 1 => match l[n]? with
    | some y => if same x y then some y.C.Try else lastR l x n
    | none => lastR l x n
theorem lastR_hit (l : List SentD) (x : SentD) (n : Nat) (h : n < l.length) (hs : same x l[n]) : lastR l x (n + 1) = some (l[n]).C.Try := by
  rw [lastR, List.getElem?_eq_getElem h]; exact if_pos hs
theorem lastR_miss (l : List SentD) (x : SentD) (n : Nat) (h : n < l.length) (hs : ¬ same x l[n]) : lastR l x (n + 1) = lastR l x n := by
  rw [lastR, List.getElem?_eq_getElem h]; exact if_neg hs

set_option maxRecDepth 20000 in
theorem specLast_w (l : List SentD) (k : Nat) (hk : k < l.length) (v : Value) (w : World) (h : Sl w l v) :
    Calls Try.prog 77 #[v, .int .i64 k] w (RetI ((lastR l l[k] k).getD 0) w) := by
  obtain ⟨a, c, rfl, hl, -⟩ := h.open
  obtain ⟨x, hx⟩ : ∃ x, l[k] = x := ⟨_, rfl⟩
  rw [hx]
  replace hx := Lib.hid hx
  go_enter Try.func77, Try.ntmps77
  go_wp2
  go_loopw [5] (fun i wr => Below w.heap.size w wr ∧ ∃ j : Nat, i = .int .i64 ((j : Int) - 1) ∧ j ≤ k ∧ Hid (lastR l x k = lastR l x j)) (fun i _ => (intOf i + 1).toNat)
  case atStart => exact ⟨Below.refl _ _, k, rfl, by omega, rfl⟩
  case round =>
    obtain ⟨hB, j, rfl, hj, hr⟩ := hrel
    by_cases h0 : 0 < j
    · obtain ⟨m, rfl⟩ : ∃ m, j = m + 1 := ⟨j - 1, by omega⟩
      have hm : m < l.length := by omega
      obtain ⟨b, o, v0, rfl, hbl, hok, ⟨c0, c1, c2, c3, c4⟩, s0⟩ := (h.to hB).atSent m hm
      obtain ⟨b', o', v1, e1, -, hok', ⟨d0, d1, d2, d3, d4⟩, s1⟩ := (h.to hB).atSent k hk
      cases e1
      have hh := Lib.hid (lastR_hit l x m hm)
      have hmi := Lib.hid (lastR_miss l x m hm)
      rw [hx.out] at d0 d1
      have hjm : ((m + 1 : Nat) : Int) - 1 = (m : Int) := by omega
      rw [hjm]
      have hml : (m : Int) < l.length := by omega
      have hkl : (k : Int) < l.length := by omega
      generalize l[m] = y at *
      clear d2 d3 d4 c2 c3 s0 s1
      by_cases h1 : y.Name.toList = x.Name.toList
      · have h1b : (y.Name.toList == x.Name.toList) = true := by simp [h1]
        by_cases h2 : y.C.Key.toList = x.C.Key.toList
        · have h2b : (y.C.Key.toList == x.C.Key.toList) = true := by simp [h2]
          have he := Lib.hid (hh.out ⟨h1, h2⟩)
          go_wp2
          go_quiet (fail)
          go_wp2
          go_ret
          exact ⟨ret_int (by rw [hr.out, he.out]; rfl), below_drewN hB _⟩
        · have h2b : (y.C.Key.toList == x.C.Key.toList) = false := by simpa using h2
          have he := Lib.hid (hmi.out (fun hs => h2 hs.2))
          go_wp2
          go_quiet (fail)
          go_wp2
          go_roundw
          case rel => exact ⟨below_drewN hB _, m, rfl, by omega, by show _ = _; rw [hr.out, he.out]⟩
          case measure => simp [intOf]
      · have h1b : (y.Name.toList == x.Name.toList) = false := by simpa using h1
        have he := Lib.hid (hmi.out (fun hs => h1 hs.1))
        go_wp2
        go_quiet (fail)
        go_wp2
        go_roundw
        case rel => exact ⟨below_drewN hB _, m, rfl, by omega, by show _ = _; rw [hr.out, he.out]⟩
        case measure => simp [intOf]
    · obtain rfl : j = 0 := by omega
      go_wp2
      go_ret
      exact ⟨ret_int (by rw [hr.out]; rfl), hB⟩

def RetL (o : Option Int) (w : World) (e : Ending) (w' : World) : Prop := e = .returned (.tuple #[.int .i64 (o.getD 0), .bool o.isSome]) ∧ Below w.heap.size w w'
set_option maxRecDepth 20000 in
theorem implLast_w (l : List SentD) (x : SentD) (v : Value) (w : World) (h : Sl w l v) :
    Calls Try.prog 78 #[v, .string x.Name, .string x.C.Key] w (RetL (lastR l x l.length) w) := by
  obtain ⟨a, c, rfl, hl, -⟩ := h.open
  go_enter Try.func78, Try.ntmps78
  go_wp2
  go_loopw [8] (fun i wr => Below w.heap.size w wr ∧ ∃ j : Nat, i = .int .i64 ((j : Int) - 1) ∧ j ≤ l.length ∧ Hid (lastR l x l.length = lastR l x j)) (fun i _ => (intOf i + 1).toNat)
  case atStart => exact ⟨Below.refl _ _, l.length, rfl, by omega, rfl⟩
  case round =>
    obtain ⟨hB, j, rfl, hj, hr⟩ := hrel
    by_cases h0 : 0 < j
    · obtain ⟨m, rfl⟩ : ∃ m, j = m + 1 := ⟨j - 1, by omega⟩
      have hm : m < l.length := by omega
      obtain ⟨b, o, v0, rfl, hbl, hok, ⟨c0, c1, c2, c3, c4⟩, s0⟩ := (h.to hB).atSent m hm
      have hh := Lib.hid (lastR_hit l x m hm)
      have hmi := Lib.hid (lastR_miss l x m hm)
      have hjm : ((m + 1 : Nat) : Int) - 1 = (m : Int) := by omega
      rw [hjm]
      have hml : (m : Int) < l.length := by omega
      generalize l[m] = y at *
      clear c2 c3 s0
      by_cases h1 : y.Name.toList = x.Name.toList
      · have h1b : (y.Name.toList == x.Name.toList) = true := by simp [h1]
        by_cases h2 : y.C.Key.toList = x.C.Key.toList
        · have h2b : (y.C.Key.toList == x.C.Key.toList) = true := by simp [h2]
          have he := Lib.hid (hh.out ⟨h1, h2⟩)
          go_wp2
          refine ret_mk (.tuple #[.int .i64 y.C.Try, .bool true]) (by simp [results, Try.results78, go_sem, *]) rfl ⟨by rw [hr.out, he.out]; rfl, hB⟩
        · have h2b : (y.C.Key.toList == x.C.Key.toList) = false := by simpa using h2
          have he := Lib.hid (hmi.out (fun hs => h2 hs.2))
          go_wp2
          go_roundw
          case rel => exact ⟨hB, m, rfl, by omega, by show _ = _; rw [hr.out, he.out]⟩
          case measure => simp [intOf]
      · have h1b : (y.Name.toList == x.Name.toList) = false := by simpa using h1
        have he := Lib.hid (hmi.out (fun hs => h1 hs.1))
        go_wp2
        go_roundw
        case rel => exact ⟨hB, m, rfl, by omega, by show _ = _; rw [hr.out, he.out]⟩
        case measure => simp [intOf]
    · obtain rfl : j = 0 := by omega
      go_wp2
      refine ret_mk (.tuple #[.int .i64 0, .bool false]) (by simp [results, Try.results78, go_sem, *]) rfl ⟨by rw [hr.out]; rfl, hB⟩

/-- An element is in order. -/
def okAt (l : List SentD) (i : Nat) : Prop := ∀ x, l[i]? = some x → x.C.Try = 1 ∨ ∃ t, lastR l x i = some t ∧ t < x.C.Try
theorem okAt_iff (l : List SentD) (i : Nat) (h : i < l.length) : okAt l i ↔ (l[i].C.Try = 1 ∨ ∃ t, lastR l l[i] i = some t ∧ t < l[i].C.Try) := by
  unfold okAt; rw [List.getElem?_eq_getElem h]
  exact ⟨fun k => k _ rfl, fun k x hx => by cases hx; exact k⟩
theorem lastR_mem (l : List SentD) (x : SentD) : ∀ n t, lastR l x n = some t → ∃ j y, j < n ∧ l[j]? = some y ∧ y.C.Try = t := by
  intro n
  induction n with
  | zero => intro t h; cases h
  | succ n ih =>
    intro t h
    rw [lastR] at h
    split at h
    · rename_i y hy
      split at h
      · exact ⟨n, y, by omega, hy, Option.some.inj h⟩
      · obtain ⟨j, y, h1, h2⟩ := ih t h; exact ⟨j, y, by omega, h2⟩
    · obtain ⟨j, y, h1, h2⟩ := ih t h; exact ⟨j, y, by omega, h2⟩
theorem ok_pos (l : List SentD) : ∀ n, (∀ i, i < n → okAt l i) → ∀ i y, i < n → l[i]? = some y → 1 ≤ y.C.Try := by
  intro n
  induction n with
  | zero => intro _ i y h; omega
  | succ n ih =>
    intro hall i y hi hy
    have ih' := ih (fun i h => hall i (by omega))
    by_cases h : i < n
    · exact ih' i y h hy
    · obtain rfl : i = n := by omega
      rcases hall i (by omega) y hy with h1 | ⟨t, h1, h2⟩
      · omega
      · obtain ⟨j, z, h3, h4, h5⟩ := lastR_mem l y i t h1
        have := ih' j z h3 h4
        omega
theorem last_pos (l : List SentD) (x : SentD) (n : Nat) (hall : ∀ i, i < n → okAt l i) (t : Int) (h : lastR l x n = some t) : 1 ≤ t := by
  obtain ⟨j, y, h1, h2, h3⟩ := lastR_mem l x n t h
  rw [← h3]; exact ok_pos l n hall j y h1 h2
theorem lastR_take (l : List SentD) (x : SentD) (k : Nat) : ∀ n, n ≤ k → lastR (l.take k) x n = lastR l x n := by
  intro n
  induction n with
  | zero => intro _; rfl
  | succ n ih =>
    intro h
    rw [lastR, lastR, List.getElem?_take_of_lt (by omega), ih (by omega)]
end Go.Proofs.Ytojlnmenfikhbaa
