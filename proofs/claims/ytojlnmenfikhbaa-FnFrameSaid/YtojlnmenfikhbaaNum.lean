/- Numbers as bytes, the program's and the reference's. -/
import Derived.Test.YtojlnmenfikhbaaExt
namespace Go.Proofs.Ytojlnmenfikhbaa
open Go.RowKit
open Cel (rd own rd_len rd_one own_rd own_lt rd_below rd_mono own_keep)

def clampN (n : Int) : Int := max (-1000000000) (min 1000000000 n)
def zig (n : Int) : Nat := (if clampN n < 0 then -2 * clampN n - 1 else 2 * clampN n).toNat
def varB : Nat → Nat → List UInt8
  | 0, u => [UInt8.ofNat u]
  | f + 1, u => if 127 < u then UInt8.ofNat (128 + u % 128) :: varB f (u / 128) else [UInt8.ofNat u]
def numB (n : Int) : List UInt8 := varB 5 (zig n)

theorem varB_len : ∀ f u, (varB f u).length ≤ f + 1 := by
  intro f
  induction f with
  | zero => intro u; simp [varB]
  | succ f ih => intro u; unfold varB; split <;> simp; exact ih _
theorem numB_len (n : Int) : (numB n).length ≤ 6 := varB_len 5 _
theorem zig_lt (n : Int) : zig n < 2000000001 := by unfold zig clampN; split <;> omega

theorem implPutNum_w (l : List UInt8) (v : Value) (fp : List Nat) (n : Int) (w : World) (h : OwnS w l v fp) (hn : fp.Nodup) (hlen : l.length ≤ 1099511627776) (hi : In64 n) :
    Calls Try.prog 64 #[v, .int .i64 n] w (RetE fp (l ++ numB n) w) := by
  have hX := Ext.start h hn
  obtain ⟨a, c, rfl, hl⟩ := hX.open
  clear h
  unfold In64 at hi
  have hz := zig_lt n
  have hc : n ≤ -1000000000 ∨ (-1000000000 < n ∧ n < 0) ∨ (0 ≤ n ∧ n < 1000000000) ∨ 1000000000 ≤ n := by omega
  rcases hc with h1 | ⟨h1, h2⟩ | ⟨h1, h2⟩ | h1
  all_goals
    go_enter Try.func64, Try.ntmps64
    go_wp2
    go_loopw [0, 5] (fun b u wr => ∃ (L : List UInt8) (f y : Nat) (a' : Option Addr) (c' : Nat), u = .int .i64 y ∧ b = .slice a' L.length c' ∧ Ext fp w L (.slice a' L.length c') wr ∧
      Hid (L ++ varB f y = l ++ numB n) ∧ y < 128 ^ (f + 1) ∧ y < 2000000001 ∧ Hid (L.length + f = l.length + 5)) (fun _ u _ => (intOf u).toNat)
    case atStart =>
      refine ⟨l, 5, zig n, a, c, ?_, rfl, hX, rfl, by omega, hz, rfl⟩
      congr 1; unfold zig clampN; split <;> omega
    case round =>
      obtain ⟨L, f, y, a', c', rfl, rfl, hE, hd, hy, hy2, hf⟩ := hrel
      have hf' := hf.out
      by_cases hlt : 127 < y
      · have hf0 : 0 < f := by cases f with | zero => simp at hy; omega | succ f => omega
        obtain ⟨f, rfl⟩ : ∃ g, f = g + 1 := ⟨f - 1, by omega⟩
        have hv : own wr [.int .u8 (128 + (y : Int) % 128)] (UInt8.ofNat (128 + y % 128)) [] := ⟨by rw [UInt8.toNat_ofNat']; congr 2; omega, rfl⟩
        have hb1 : (L.length + 1) * 1 ≤ 140737488355328 := by omega
        have hb2 : L.length + 1 ≤ maxLen := by simp [maxLen]; omega
        have hdd : Hid ((L ++ [UInt8.ofNat (128 + y % 128)]) ++ varB f (y / 128) = l ++ numB n) := by
          show _ = _
          rw [← hd.out, varB, if_pos hlt]; simp
        have hyy : y / 128 < 128 ^ (f + 1) := by rw [Nat.pow_succ] at hy; omega
        have hll : (L ++ [UInt8.ofNat (128 + y % 128)]).length = L.length + 1 := by simp
        clear hX
        go_wp2_with (at_builtin; go_loud (refine wpList_ext1 rfl _ _ _ rfl sl22 rfl hE rfl rfl hv hb1 hb2 ?_); intro a2 c2 w2 hE2)
        go_roundw
        case rel => exact ⟨L ++ [UInt8.ofNat (128 + y % 128)], f, y / 128, a2, c2, by go_num, by rw [hll], by rw [hll]; exact hE2, hdd, hyy, by omega, by show _ = _; omega⟩
        case measure => simp [intOf]; omega
      · have hv : own wr [.int .u8 (y : Int)] (UInt8.ofNat y) [] := ⟨by rw [UInt8.toNat_ofNat']; congr 2; omega, rfl⟩
        have hb1 : (L.length + 1) * 1 ≤ 140737488355328 := by omega
        have hb2 : L.length + 1 ≤ maxLen := by simp [maxLen]; omega
        have hdd : Hid (L ++ [UInt8.ofNat y] = l ++ numB n) := by
          show _ = _
          rw [← hd.out]
          cases f with
          | zero => rfl
          | succ f => rw [varB, if_neg hlt]
        have hll : (L ++ [UInt8.ofNat y]).length = L.length + 1 := by simp
        clear hX
        go_wp2_with (at_builtin; go_loud (refine wpList_ext1 rfl _ _ _ rfl sl22 rfl hE rfl rfl hv hb1 hb2 ?_); intro a2 c2 w2 hE2)
        go_ret
        refine ⟨a2, c2, ?_, ?_⟩
        · rw [← hdd.out, hll]; rfl
        · rw [← hdd.out, hll]; exact hE2

theorem or64_128 (y : Nat) : bits .or .i64 ((y : Int) % 128) 128 = 128 + (y : Int) % 128 := by
  have h1 : y % 128 < 128 := Nat.mod_lt _ (by decide)
  have h2 : (y % 128) ||| 128 = 128 + y % 128 := by rw [Nat.or_comm]; exact nat_join 7 128 (y % 128) (by decide) h1
  have e : ((y : Int) % 128) = ((y % 128 : Nat) : Int) := by omega
  rw [e]
  generalize y % 128 = z at *
  show IntKind.i64.wrap ((BitVec.ofInt 64 (z : Int) ||| BitVec.ofInt 64 ((128 : Nat) : Int)).toNat : Int) = _
  have o1 : (BitVec.ofInt 64 (z : Int)).toNat = z := by rw [BitVec.ofInt_natCast, BitVec.toNat_ofNat]; exact Nat.mod_eq_of_lt (by omega)
  have o2 : (BitVec.ofInt 64 ((128 : Nat) : Int)).toNat = 128 := by rw [BitVec.ofInt_natCast, BitVec.toNat_ofNat]
  rw [BitVec.toNat_or, o1, o2, h2, IntKind.wrap_i64]
  omega

set_option maxHeartbeats 1000000 in
theorem specPutNum_w (l : List UInt8) (v : Value) (n : Int) (w : World) (h : Sl w l v) (hlen : l.length ≤ 1099511627776) (hi : In64 n) :
    Calls Try.prog 62 #[v, .int .i64 n] w (RetS (l ++ numB n) w) := by
  suffices Calls Try.prog 62 #[v, .int .i64 n] w (RetE [] (l ++ numB n) w) from this.mono fun _ _ => RetE.retS
  obtain ⟨a, c, rfl, hl, -⟩ := h.open
  unfold In64 at hi
  have hz := zig_lt n
  have hby : (([] : List UInt8).length + l.length) * 1 ≤ 140737488355328 := by simp; omega
  have hml : ([] : List UInt8).length + l.length ≤ maxLen := by simp [maxLen]; omega
  have hN := Ext.new (α := UInt8) w #[] 5 w.heap.size 0 rfl (by decide) (by simp)
  have h' := h.to (w' := w.alloc (.cells #[] 5)) (by simp)
  have hc : n < -1000000000 ∨ (-1000000000 ≤ n ∧ n < 0) ∨ (0 ≤ n ∧ n ≤ 1000000000) ∨ 1000000000 < n := by omega
  rcases hc with h1 | ⟨h1, h2⟩ | ⟨h1, h2⟩ | h1
  all_goals
    go_enter Try.func62, Try.ntmps62
    go_wp2_with (at_builtin; go_loud (refine wpList_extF (α := UInt8) (l := []) rfl _ _ _ rfl sl22 rfl hN rfl h' hby hml ?_); intro a0 c0 w0 hE0)
    simp only [List.length_nil, Nat.zero_add, List.nil_append] at hE0
    clear hN h' hby hml
    go_loopw [5, 6] (fun b u wr => ∃ (L : List UInt8) (f y : Nat) (a' : Option Addr) (c' : Nat), u = .int .i64 y ∧ b = .slice a' L.length c' ∧ Ext [] w L (.slice a' L.length c') wr ∧
      Hid (L ++ varB f y = l ++ numB n) ∧ y < 128 ^ (f + 1) ∧ y < 2000000001 ∧ Hid (L.length + f = l.length + 5)) (fun _ u _ => (intOf u).toNat)
    case atStart =>
      refine ⟨l, 5, zig n, a0, c0, ?_, rfl, hE0, rfl, by omega, hz, rfl⟩
      congr 1; unfold zig clampN; split <;> omega
    case round =>
      obtain ⟨L, f, y, a', c', rfl, rfl, hE, hd, hy, hy2, hf⟩ := hrel
      have hf' := hf.out
      have ho : bits .or .i64 (bits .and .i64 (y : Int) 127) 128 = 128 + (y : Int) % 128 := by rw [i64_and127, or64_128]
      clear hE0
      by_cases hlt : 127 < y
      · have hf0 : 0 < f := by cases f with | zero => simp at hy; omega | succ f => omega
        obtain ⟨f, rfl⟩ : ∃ g, f = g + 1 := ⟨f - 1, by omega⟩
        have hv : own wr [.int .u8 (128 + (y : Int) % 128)] (UInt8.ofNat (128 + y % 128)) [] := ⟨by rw [UInt8.toNat_ofNat']; congr 2; omega, rfl⟩
        have hb1 : (L.length + 1) * 1 ≤ 140737488355328 := by omega
        have hb2 : L.length + 1 ≤ maxLen := by simp [maxLen]; omega
        have hdd : Hid ((L ++ [UInt8.ofNat (128 + y % 128)]) ++ varB f (y / 128) = l ++ numB n) := by
          show _ = _
          rw [← hd.out, varB, if_pos hlt]; simp
        have hyy : y / 128 < 128 ^ (f + 1) := by rw [Nat.pow_succ] at hy; omega
        have hll : (L ++ [UInt8.ofNat (128 + y % 128)]).length = L.length + 1 := by simp
        go_wp2_with (at_builtin; go_loud (refine wpList_ext1 rfl _ _ _ rfl sl22 rfl hE rfl rfl hv hb1 hb2 ?_); intro a2 c2 w2 hE2)
        go_roundw
        case rel => exact ⟨L ++ [UInt8.ofNat (128 + y % 128)], f, y / 128, a2, c2, by go_num, by rw [hll], by rw [hll]; exact hE2, hdd, hyy, by omega, by show _ = _; omega⟩
        case measure => simp [intOf]; omega
      · have hv : own wr [.int .u8 (y : Int)] (UInt8.ofNat y) [] := ⟨by rw [UInt8.toNat_ofNat']; congr 2; omega, rfl⟩
        have hb1 : (L.length + 1) * 1 ≤ 140737488355328 := by omega
        have hb2 : L.length + 1 ≤ maxLen := by simp [maxLen]; omega
        have hdd : Hid (L ++ [UInt8.ofNat y] = l ++ numB n) := by
          show _ = _
          rw [← hd.out]
          cases f with
          | zero => rfl
          | succ f => rw [varB, if_neg hlt]
        have hll : (L ++ [UInt8.ofNat y]).length = L.length + 1 := by simp
        go_wp2_with (at_builtin; go_loud (refine wpList_ext1 rfl _ _ _ rfl sl22 rfl hE rfl rfl hv hb1 hb2 ?_); intro a2 c2 w2 hE2)
        go_ret
        refine ⟨a2, c2, ?_, ?_⟩
        · rw [← hdd.out, hll]; rfl
        · rw [← hdd.out, hll]; exact hE2
end Go.Proofs.Ytojlnmenfikhbaa
