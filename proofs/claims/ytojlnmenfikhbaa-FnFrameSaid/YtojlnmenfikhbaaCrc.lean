/- The sum over bytes, the program's and the reference's. -/
import Derived.Test.YtojlnmenfikhbaaHarnB
namespace Go.Proofs.Ytojlnmenfikhbaa
open Go.RowKit
open Cel (rd own rd_len rd_one own_rd own_lt rd_below rd_mono own_keep)

def crcBit (x : Nat) : Nat := if x % 2 = 1 then (x / 2) ^^^ 2197175160 else x / 2
def crcBits : Nat → Nat → Nat
  | 0, x => x
  | n + 1, x => crcBit (crcBits n x)
theorem crcBits_succ (n x : Nat) : crcBits (n + 1) x = crcBit (crcBits n x) := rfl
def crcByte (x : Nat) (c : UInt8) : Nat := crcBits 8 (x ^^^ c.toNat)
def crcFold (l : List UInt8) : Nat := l.foldl crcByte 4294967295
def crcN (l : List UInt8) : Nat := crcFold l ^^^ 4294967295

theorem crcBit_lt (x : Nat) (h : x < 4294967296) : crcBit x < 4294967296 := by
  unfold crcBit; split
  · exact Nat.xor_lt_two_pow (n := 32) (by omega) (by decide)
  · omega
theorem crcBits_lt (x : Nat) (h : x < 4294967296) : ∀ n, crcBits n x < 4294967296 := by
  intro n; induction n with
  | zero => exact h
  | succ n ih => exact crcBit_lt _ ih
theorem crcFold_lt (l : List UInt8) : crcFold l < 4294967296 := by
  unfold crcFold
  suffices ∀ (l : List UInt8) x, x < 4294967296 → l.foldl crcByte x < 4294967296 from this l _ (by decide)
  intro l
  induction l with
  | nil => intro x h; exact h
  | cons c l ih => intro x h; exact ih _ (crcBits_lt _ (Nat.xor_lt_two_pow (n := 32) h (by have := c.toNat_lt; omega)) 8)
theorem crcN_lt (l : List UInt8) : crcN l < 4294967296 := Nat.xor_lt_two_pow (n := 32) (crcFold_lt l) (by decide)
theorem crcFold_snoc (l : List UInt8) (k : Nat) (h : k < l.length) : crcFold (l.take (k + 1)) = crcByte (crcFold (l.take k)) l[k] := by
  unfold crcFold; rw [← List.take_append_getElem h, List.foldl_append]; rfl

theorem ofInt64 (a : Nat) (ha : a < 9223372036854775808) : (BitVec.ofInt 64 (a : Int)).toNat = a := by
  rw [BitVec.ofInt_natCast, BitVec.toNat_ofNat]; exact Nat.mod_eq_of_lt (by omega)
theorem xor64 (a b : Nat) (ha : a < 4294967296) (hb : b < 4294967296) : bits .xor .i64 (a : Int) (b : Int) = ((a ^^^ b : Nat) : Int) := by
  have hx : a ^^^ b < 2 ^ 32 := Nat.xor_lt_two_pow (by omega) (by omega)
  show IntKind.i64.wrap ((BitVec.ofInt 64 (a : Int) ^^^ BitVec.ofInt 64 (b : Int)).toNat : Int) = _
  rw [BitVec.toNat_xor, ofInt64 a (by omega), ofInt64 b (by omega), IntKind.wrap_i64]
  omega
theorem and64 (a b : Nat) (ha : a < 4294967296) (hb : b < 4294967296) : bits .and .i64 (a : Int) (b : Int) = ((a &&& b : Nat) : Int) := by
  have hx : a &&& b ≤ a := Nat.and_le_left
  show IntKind.i64.wrap ((BitVec.ofInt 64 (a : Int) &&& BitVec.ofInt 64 (b : Int)).toNat : Int) = _
  rw [BitVec.toNat_and, ofInt64 a (by omega), ofInt64 b (by omega), IntKind.wrap_i64]
  omega
theorem and64_1 (a : Nat) (ha : a < 4294967296) : bits .and .i64 (a : Int) 1 = ((a % 2 : Nat) : Int) := by
  have := and64 a 1 ha (by decide)
  rw [Nat.and_one_is_mod] at this; exact this

theorem specCrc_w (l : List UInt8) (v : Value) (w : World) (h : Sl w l v) :
    Calls Try.prog 61 #[v] w (RetI (crcN l) w) := by
  obtain ⟨a, c, rfl, hl, _⟩ := h.open
  go_enter Try.func61, Try.ntmps61
  go_wp2
  go_loop [3, 4, 5, 6] (fun x i _ _ => ∃ k : Nat, k ≤ l.length ∧ i = .int .i64 k ∧ x = .int .i64 (crcFold (l.take k))) (fun _ i _ _ => l.length - (intOf i).toNat)
  case atStart => exact ⟨0, Nat.zero_le _, rfl, rfl⟩
  case round =>
    obtain ⟨k, hk, rfl, rfl⟩ := hrel
    by_cases hlt : k < l.length
    · obtain ⟨b, o, rfl, e1⟩ := h.byte k hlt
      have h1 := crcFold_lt (l.take k)
      have HS : Hid (_ = _) := crcFold_snoc l k hlt
      generalize crcFold (l.take k) = x at *
      generalize l[k] = c at *
      have hc := c.toNat_lt
      have e2 := xor64 x c.toNat h1 (by omega)
      have h2 : x ^^^ c.toNat < 4294967296 := Nat.xor_lt_two_pow (n := 32) h1 (by omega)
      go_wp2
      clear e2 h1 hc e1 h
      have H3 : Hid (x ^^^ c.toNat = x ^^^ c.toNat) := rfl
      go_loop [3, 5, 6] (fun y j _ => ∃ m : Nat, m ≤ 8 ∧ j = .int .i64 m ∧ y = .int .i64 (crcBits m (x ^^^ c.toNat))) (fun _ j _ => 8 - (intOf j).toNat)
      case atStart => exact ⟨0, Nat.zero_le _, rfl, rfl⟩
      case round =>
        obtain ⟨m, hm, rfl, rfl⟩ := hrel
        by_cases hlm : m < 8
        · have h4 := crcBits_lt _ h2 m
          have HB := Lib.hid (crcBits_succ m (x ^^^ c.toNat))
          generalize crcBits m (x ^^^ c.toNat) = y at *
          have e3 := and64_1 y h4
          by_cases hy : y % 2 = 1
          · have e5 : ((y % 2 : Nat) == 1) = true := by simp [hy]
            have HB2 : Hid (bits .xor .i64 ((y : Int) / 2) 2197175160 = ((crcBits (m + 1) (x ^^^ c.toNat) : Nat) : Int)) := by
              show _ = _
              rw [HB.out, show crcBit y = (y / 2) ^^^ 2197175160 from if_pos hy, ← xor64 (y / 2) 2197175160 (by omega) (by decide)]; rfl
            go_wp2
            go_round
            case rel => exact ⟨m + 1, by omega, by go_num, by rw [HB2.out]⟩
            case measure => simp [intOf]; omega
          · have HB2 : Hid (((y : Int) / 2) = ((crcBits (m + 1) (x ^^^ c.toNat) : Nat) : Int)) := by
              show _ = _
              rw [HB.out, show crcBit y = y / 2 from if_neg hy]; rfl
            go_wp2
            go_round
            case rel => exact ⟨m + 1, by omega, by go_num, by rw [HB2.out]⟩
            case measure => simp [intOf]; omega
        · obtain rfl : m = 8 := by omega
          go_wp2
          go_round
          case rel => exact ⟨k + 1, by omega, by go_num, by rw [HS.out]; rfl⟩
          case measure => simp [intOf]; omega
    · obtain rfl : k = l.length := by omega
      have HE : Hid (bits .xor .i64 (crcFold l : Int) 4294967295 = ((crcN l : Nat) : Int)) := xor64 (crcFold l) 4294967295 (crcFold_lt _) (by decide)
      go_wp2
      go_ret
      exact ⟨ret_int HE.out, Below.refl _ _⟩

theorem not32 (x : Nat) (h : x < 4294967296) : wrap64 (bits .xor .u32 IntKind.u32.max (x : Int)) = ((x ^^^ 4294967295 : Nat) : Int) := by
  have hm : IntKind.u32.max = ((4294967295 : Nat) : Int) := by kernel_rfl
  have hlt : x ^^^ 4294967295 < 2 ^ 32 := Nat.xor_lt_two_pow (n := 32) h (by omega)
  rw [hm, u32_xor_nat 4294967295 x (by omega) h, Nat.xor_comm]
  generalize x ^^^ 4294967295 = y at *
  unfold wrap64; omega

theorem implCrc_w (l : List UInt8) (v : Value) (w : World) (h : Sl w l v) :
    Calls Try.prog 82 #[v] w (RetI (crcN l) w) := by
  obtain ⟨a, c, rfl, hl, _⟩ := h.open
  go_enter Try.func82, Try.ntmps82
  go_wp2
  go_loop [3, 9, 5, 6, 17] (fun x i _ _ _ => ∃ k : Nat, k ≤ l.length ∧ i = .int .i64 k ∧ x = .int .u32 (crcFold (l.take k))) (fun _ i _ _ _ => l.length - (intOf i).toNat)
  case atStart => exact ⟨0, Nat.zero_le _, rfl, rfl⟩
  case round =>
    obtain ⟨k, hk, rfl, rfl⟩ := hrel
    by_cases hlt : k < l.length
    · obtain ⟨b, o, rfl, e1⟩ := h.byte k hlt
      have h1 := crcFold_lt (l.take k)
      have HS : Hid (_ = _) := crcFold_snoc l k hlt
      generalize crcFold (l.take k) = x at *
      generalize l[k] = c at *
      have hc := c.toNat_lt
      have e2 := u32_xor_nat x c.toNat h1 (by omega)
      have h2 : x ^^^ c.toNat < 4294967296 := Nat.xor_lt_two_pow (n := 32) h1 (by omega)
      go_wp2
      clear e2 h1 hc e1 h
      have H3 : Hid (x ^^^ c.toNat = x ^^^ c.toNat) := rfl
      go_loop [3, 17, 6] (fun y j _ => ∃ m : Nat, m ≤ 8 ∧ j = .int .i64 m ∧ y = .int .u32 (crcBits m (x ^^^ c.toNat))) (fun _ j _ => 8 - (intOf j).toNat)
      case atStart => exact ⟨0, Nat.zero_le _, rfl, rfl⟩
      case round =>
        obtain ⟨m, hm, rfl, rfl⟩ := hrel
        by_cases hlm : m < 8
        · have h4 := crcBits_lt _ h2 m
          have HB := Lib.hid (crcBits_succ m (x ^^^ c.toNat))
          generalize crcBits m (x ^^^ c.toNat) = y at *
          have e3 : bits .and .u32 (y : Int) 1 = ((y % 2 : Nat) : Int) := by
            have := u32_and_nat y 1 h4 (by decide)
            rw [Nat.and_one_is_mod] at this; exact this
          by_cases hy : y % 2 = 1
          · have e5 : ((y % 2 : Nat) == 1) = true := by simp [hy]
            have HB2 : Hid (bits .xor .u32 ((y : Int) / 2) 2197175160 = ((crcBits (m + 1) (x ^^^ c.toNat) : Nat) : Int)) := by
              show _ = _
              rw [HB.out, show crcBit y = (y / 2) ^^^ 2197175160 from if_pos hy, ← u32_xor_nat (y / 2) 2197175160 (by omega) (by decide)]; rfl
            go_wp2
            go_round
            case rel => exact ⟨m + 1, by omega, by go_num, by rw [HB2.out]⟩
            case measure => simp [intOf]; omega
          · have HB2 : Hid (((y : Int) / 2) = ((crcBits (m + 1) (x ^^^ c.toNat) : Nat) : Int)) := by
              show _ = _
              rw [HB.out, show crcBit y = y / 2 from if_neg hy]; rfl
            go_wp2
            go_round
            case rel => exact ⟨m + 1, by omega, by go_num, by rw [HB2.out]⟩
            case measure => simp [intOf]; omega
        · obtain rfl : m = 8 := by omega
          go_wp2
          go_round
          case rel => exact ⟨k + 1, by omega, by go_num, by rw [HS.out]; rfl⟩
          case measure => simp [intOf]; omega
    · obtain rfl : k = l.length := by omega
      have HE : Hid (wrap64 (bits .xor .u32 IntKind.u32.max (crcFold l : Int)) = ((crcN l : Nat) : Int)) := by
        show _ = _
        exact not32 _ (crcFold_lt _)
      go_wp2
      go_ret
      exact ⟨ret_int HE.out, Below.refl _ _⟩
end Go.Proofs.Ytojlnmenfikhbaa
