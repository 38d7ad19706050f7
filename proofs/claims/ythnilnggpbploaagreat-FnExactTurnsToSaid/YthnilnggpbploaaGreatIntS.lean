/- The laws' helpers on []int. -/
import Derived.Test.YthnilnggpbploaaGreatTy
import Derived.Test.YthnilnggpbploaaGreatOwn2
namespace Go.Proofs.YthnilnggpbploaaGreat
open Go.RowKit
open Cel (rd own rd_len rd_one own_rd own_lt rd_below rd_mono own_keep)

theorem Sl.int {w : World} {l : List Int} {a : Option Addr} {n c : Nat} (h : Sl w l (.slice a n c)) (i : Nat) (hi : i < l.length) :
    ∃ b o, a = some ⟨b, o, none⟩ ∧ b < w.heap.size ∧ In64 l[i] ∧ w.cell? ⟨b, o + i, none⟩ = some (.int .i64 l[i]) := by
  obtain ⟨b, o, vs, h1, h2, ⟨rfl, h4⟩, h3⟩ := h.at i hi
  exact ⟨b, o, h1, h2, h4, by simpa [Cel.k] using h3 0 (by decide)⟩

theorem szSInt_w (l : List Int) (v : Value) (left : Int) (w : World) (h : Sl w l v) (h0 : 0 ≤ left) (h1 : left ≤ 1048576) :
    Calls Tryz.prog 395 #[v, .int .i64 left] w (RetI (szR (sznSInt l) left) w) := by
  obtain ⟨a, c, rfl, hl, -⟩ := h.open
  have hsz : Hid (sznSInt l = l.length) := rfl
  by_cases q0 : left < l.length
  all_goals
    go_enter Tryz.func395, Tryz.ntmps395
    go_wp2
    go_ret
    exact ⟨ret_int (by rw [hsz.out]; unfold szR; split <;> omega), by simp⟩

theorem eqSInt_w (l : List Int) (v1 v2 : Value) (w : World) (h1 : Sl w l v1) (h2 : Sl w l v2) :
    Calls Tryz.prog 414 #[v1, v2] w (RetB true w) := by
  obtain ⟨a1, c1, rfl, hl, -⟩ := h1.open
  obtain ⟨a2, c2, rfl, -⟩ := h2.open
  go_enter Tryz.func414, Tryz.ntmps414
  go_wp2
  go_loopw [5] (fun i wr => Below w.heap.size w wr ∧ ∃ k : Nat, i = .int .i64 k ∧ k ≤ l.length) (fun i _ => l.length - (intOf i).toNat)
  case atStart => exact ⟨Below.refl _ _, 0, rfl, by omega⟩
  case round =>
    obtain ⟨hB, k, rfl, hk⟩ := hrel
    by_cases hlt : k < l.length
    · obtain ⟨b, o, rfl, -, -, e1⟩ := (h1.to hB).int k hlt
      obtain ⟨b', o', rfl, -, -, e2⟩ := (h2.to hB).int k hlt
      generalize l[k] = x at *
      clear h1 h2
      go_wp2
      go_quiet (fail)
      go_wp2
      all_goals go_roundw
      case rel => exact ⟨below_drewN hB _, k + 1, by go_num, by omega⟩
      case measure => simp [intOf]; omega
    · go_wp2
      go_ret
      exact ⟨rfl, hB⟩

set_option maxRecDepth 20000 in
theorem toSInt_w (l : List Int) (v : Value) (w : World) (h : Sl w l v) (hs : sznSInt l ≤ 1048576) :
    Calls Tryz.prog 406 #[v] w (RetS l w) := by
  obtain ⟨a, c, rfl, hl, -⟩ := h.open
  have hlen : l.length ≤ 1048576 := hs
  have hmk : ∀ w, (Instr.makeSlice 72 (.int .i64 l.length) (.int .i64 l.length)).run Tryz.prog w = .ok (.slice (some ⟨w.heap.size, 0, none⟩) l.length l.length) (w.alloc (.cells (madeCells #[.int .i64 0] l.length) 3)) := by
    intro w
    have := make_row (P := Tryz.prog) 72 3 (.int .i64 0) 1 8 Tryz.underlying72 (by kernel_rfl) rfl l.length l.length rfl (by omega) (by decide) w
    simpa [Value.cells] using this
  have hZ : OwnS (w.alloc (.cells (madeCells #[.int .i64 0] l.length) 3)) (List.replicate l.length (0 : Int)) (.slice (some ⟨w.heap.size, 0, none⟩) l.length l.length) [w.heap.size] := by
    have := OwnS.zeroed w #[.int .i64 0] 3 (0 : Int) l.length (by simp [maxLen]; omega) rfl (fun w => ⟨rfl, ⟨by decide, by decide⟩, rfl⟩)
    simpa using this
  go_enter Tryz.func406, Tryz.ntmps406
  go_wp2
  go_loopw [4] (fun i wr => ∃ (k : Nat) (fp : List Nat), i = .int .i64 k ∧ k ≤ l.length ∧ OwnS wr (l.take k ++ List.replicate (l.length - k) (0 : Int)) (.slice (some ⟨w.heap.size, 0, none⟩) l.length l.length) fp ∧ Fr w.heap.size fp ∧ Below w.heap.size w wr) (fun i _ => l.length - (intOf i).toNat)
  case atStart => exact ⟨0, [w.heap.size], rfl, by omega, by simpa using hZ, by simp [Fr], by simp⟩
  case round =>
    clear hmk hZ
    obtain ⟨k, fp, rfl, hk, ho, hf, hB⟩ := hrel
    by_cases hlt : k < l.length
    · obtain ⟨b, o, rfl, hbl, hok, c0⟩ := (h.to hB).int k hlt
      have hput := Lib.hid (set_fill l (0 : Int) k hlt)
      generalize l[k] = x at *
      have hx : own wr [.int .i64 x] x [] := ⟨rfl, hok, rfl⟩
      obtain ⟨fp', p1, p2, p3⟩ := ho.put hf.1 k (by simp; omega) hx (by simp) (by simp)
      obtain ⟨-, hg, hz, hsp⟩ := ho.spare
      obtain ⟨z0, e0⟩ := hsp k hlt 0 (by decide)
      replace e0 : wr.cell? ⟨w.heap.size, k, none⟩ = some z0 := by simpa [Cel.k] using e0
      have hk1 : k * Cel.k Int = k := by simp [Cel.k]
      rw [hput.out, hk1] at p1
      clear hsp hx
      go_wp2
      go_roundw
      case rel => exact ⟨k + 1, fp', by go_num, by omega, p1, ⟨p2, fun b hb => by rcases p3 b hb with h | h; exact hf.2 b h; cases h⟩, below_setCells hB (Nat.le_refl _) _ [.int .i64 x]⟩
      case measure => simp [intOf]; omega
    · obtain rfl : k = l.length := by omega
      rw [List.take_length, Nat.sub_self, List.replicate_zero, List.append_nil] at ho
      go_wp2
      go_ret
      exact ⟨_, _, fp, rfl, ho, hf, hB⟩
end Go.Proofs.YthnilnggpbploaaGreat
