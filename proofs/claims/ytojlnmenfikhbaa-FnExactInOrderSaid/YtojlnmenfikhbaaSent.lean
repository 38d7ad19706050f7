/- TriesOf, InOrder, the program's and the reference's. -/
import Derived.Test.YtojlnmenfikhbaaTyTo
import Derived.Test.YtojlnmenfikhbaaTyEq
namespace Go.Proofs.Ytojlnmenfikhbaa
open Go.RowKit
open Cel (rd own rd_len rd_one own_rd own_lt rd_below rd_mono own_keep)

def hit (name key : ByteArray) (x : SentD) : Bool := decide (x.Name.toList = name.toList) && decide (x.C.Key.toList = key.toList)
def triesN (name key : ByteArray) (l : List SentD) : Nat := (l.filter (hit name key)).length
theorem tries_step (name key : ByteArray) (l : List SentD) (k : Nat) (h : k < l.length) : triesN name key (l.take (k + 1)) = triesN name key (l.take k) + if hit name key l[k] then 1 else 0 := by
  unfold triesN; rw [List.take_succ_eq_append_getElem h, List.filter_append, List.length_append]
  congr 1; rw [List.filter_cons]; split <;> simp_all
theorem tries_le (name key : ByteArray) (l : List SentD) : triesN name key l ≤ l.length := List.length_filter_le _ _

set_option maxRecDepth 20000 in
theorem specTries_w (l : List SentD) (name key : ByteArray) (v : Value) (w : World) (h : Sl w l v) :
    Calls Try.prog 44 #[v, .string name, .string key] w (RetI (triesN name key l) w) := by
  obtain ⟨a, c, rfl, hl, -⟩ := h.open
  go_enter Try.func44, Try.ntmps44
  go_wp2
  go_loopw [7, 8] (fun n i wr => Below w.heap.size w wr ∧ ∃ (k y : Nat), i = .int .i64 k ∧ n = .int .i64 y ∧ k ≤ l.length ∧ y ≤ k ∧ Hid (triesN name key (l.take k) = y)) (fun _ i _ => l.length - (intOf i).toNat)
  case atStart => exact ⟨Below.refl _ _, 0, 0, rfl, rfl, by omega, by omega, rfl⟩
  case round =>
    obtain ⟨hB, k, y, rfl, rfl, hk, hyk, hy⟩ := hrel
    by_cases hlt : k < l.length
    · obtain ⟨b, o, v0, rfl, hbl, hok, ⟨c0, c1, c2, c3, c4⟩, s0⟩ := (h.to hB).atSent k hlt
      have hst := Lib.hid (tries_step name key l k hlt)
      generalize l[k] = x at *
      by_cases h1 : x.Name.toList = name.toList
      · by_cases h2 : x.C.Key.toList = key.toList
        · have hh : hit name key x = true := by unfold hit; rw [decide_eq_true h1, decide_eq_true h2]; rfl
          replace hh := Lib.hid hh
          go_wp2
          go_roundw
          case rel => exact ⟨hB, k + 1, y + 1, by go_num, by go_num, by omega, by omega, by show _ = _; rw [hst.out, hh.out, hy.out]; rfl⟩
          case measure => simp [intOf]; omega
        · have hh : hit name key x = false := by unfold hit; rw [decide_eq_false h2, Bool.and_false]
          have h3 : (x.C.Key.toList == key.toList) = false := by simpa using h2
          replace hh := Lib.hid hh
          go_wp2
          go_roundw
          case rel => exact ⟨hB, k + 1, y, by go_num, rfl, by omega, by omega, by show _ = _; rw [hst.out, hh.out, hy.out]; rfl⟩
          case measure => simp [intOf]; omega
      · have hh : hit name key x = false := by unfold hit; rw [decide_eq_false h1]; rfl
        replace hh := Lib.hid hh
        go_wp2
        go_roundw
        case rel => exact ⟨hB, k + 1, y, by go_num, rfl, by omega, by omega, by show _ = _; rw [hst.out, hh.out, hy.out]; rfl⟩
        case measure => simp [intOf]; omega
    · obtain rfl : k = l.length := by omega
      rw [List.take_length] at hy
      go_wp2
      go_ret
      exact ⟨ret_int (by rw [hy.out]), hB⟩

set_option maxRecDepth 20000 in
theorem implTries_w (l : List SentD) (name key : ByteArray) (v : Value) (w : World) (h : Sl w l v) :
    Calls Try.prog 46 #[v, .string name, .string key] w (RetI (triesN name key l) w) := by
  obtain ⟨a, c, rfl, hl, -⟩ := h.open
  go_enter Try.func46, Try.ntmps46
  go_wp2
  go_loopw [7, 12] (fun n i wr => Below w.heap.size w wr ∧ ∃ (k y : Nat), i = .int .i64 k ∧ n = .int .i64 y ∧ k ≤ l.length ∧ y ≤ k ∧ Hid (triesN name key (l.take k) = y)) (fun _ i _ => l.length - (intOf i).toNat)
  case atStart => exact ⟨Below.refl _ _, 0, 0, rfl, rfl, by omega, by omega, rfl⟩
  case round =>
    obtain ⟨hB, k, y, rfl, rfl, hk, hyk, hy⟩ := hrel
    by_cases hlt : k < l.length
    · obtain ⟨b, o, v0, rfl, hbl, hok, ⟨c0, c1, c2, c3, c4⟩, s0⟩ := (h.to hB).atSent k hlt
      obtain ⟨a0, q0, rfl, hl0, -⟩ := s0.open
      have hst := Lib.hid (tries_step name key l k hlt)
      generalize l[k] = x at *
      by_cases h1 : x.Name.toList = name.toList
      · by_cases h2 : x.C.Key.toList = key.toList
        · have hh : hit name key x = true := by unfold hit; rw [decide_eq_true h1, decide_eq_true h2]; rfl
          replace hh := Lib.hid hh
          go_wp2
          go_roundw
          case rel => exact ⟨by simp [hB], k + 1, y + 1, by go_num, by go_num, by omega, by omega, by show _ = _; rw [hst.out, hh.out, hy.out]; rfl⟩
          case measure => simp [intOf]; omega
        · have hh : hit name key x = false := by unfold hit; rw [decide_eq_false h2, Bool.and_false]
          have h3 : (x.C.Key.toList == key.toList) = false := by simpa using h2
          replace hh := Lib.hid hh
          go_wp2
          go_roundw
          case rel => exact ⟨by simp [hB], k + 1, y, by go_num, rfl, by omega, by omega, by show _ = _; rw [hst.out, hh.out, hy.out]; rfl⟩
          case measure => simp [intOf]; omega
      · have hh : hit name key x = false := by unfold hit; rw [decide_eq_false h1]; rfl
        replace hh := Lib.hid hh
        go_wp2
        go_roundw
        case rel => exact ⟨by simp [hB], k + 1, y, by go_num, rfl, by omega, by omega, by show _ = _; rw [hst.out, hh.out, hy.out]; rfl⟩
        case measure => simp [intOf]; omega
    · obtain rfl : k = l.length := by omega
      rw [List.take_length] at hy
      go_wp2
      go_ret
      exact ⟨ret_int (by rw [hy.out]), hB⟩
end Go.Proofs.Ytojlnmenfikhbaa
