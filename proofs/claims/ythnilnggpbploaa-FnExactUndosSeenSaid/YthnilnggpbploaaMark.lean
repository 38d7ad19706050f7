/- The laws' marks. -/
import Derived.Test.YthnilnggpbploaaTyTo
import Derived.Test.YthnilnggpbploaaTyEq
import Derived.Laws.IdiomStrings
namespace Go.Proofs.Ythnilnggpbploaa
open Go.RowKit
open Cel (rd own rd_len rd_one own_rd own_lt rd_below rd_mono own_keep)

/-- The last digit, as a letter. -/
def dig (y : Nat) : UInt8 := UInt8.ofNat (48 + y % 10)
theorem dig_nat (y : Nat) : (48 + (y : Int) % 10) = ((dig y).toNat : Int) := by unfold dig; rw [UInt8.toNat_ofNat']; omega
/-- The digits of a number, ahead of what is there. -/
def digs : Nat → Nat → List UInt8 → List UInt8
  | 0, _, out => out
  | f + 1, k, out => if 0 < k then digs f (k / 10) (dig k :: out) else out
def markT (k : Nat) : ByteArray := if k = 0 then ⟨#[109, 48]⟩ else ⟨(109 :: digs k k []).toArray⟩

set_option maxRecDepth 20000 in
theorem markText_w (k : Nat) (hk : k ≤ 1099511627776) (w : World) : Calls Try.prog 16 #[.int .i64 k] w fun e w' => e = .returned (.string (markT k)) ∧ Below w.heap.size w w' := by
  by_cases h0 : k = 0
  · subst h0
    go_enter Try.func16, Try.ntmps16
    go_wp2
    go_ret
    exact ⟨rfl, by simp⟩
  go_enter Try.func16, Try.ntmps16
  go_wp2
  go_loopw [0, 3] (fun kv out wr => Below w.heap.size w wr ∧ ∃ (f y : Nat) (L : List UInt8), kv = .int .i64 y ∧ out = .string ⟨L.toArray⟩ ∧ y ≤ f ∧ y ≤ k ∧ L.length + f ≤ k ∧ Hid (digs k k [] = digs f y L)) (fun kv _ _ => (intOf kv).toNat)
  case atStart => exact ⟨by simp, k, k, [], rfl, rfl, by omega, by omega, by simp, rfl⟩
  case round =>
    obtain ⟨hB, f, y, L, rfl, rfl, hf, hy, hL, hd⟩ := hrel
    by_cases hlt : 0 < y
    · have hc : (convert 55 9 (.slice (some ⟨wr.heap.size, 0, none⟩) 1 1)).run Try.prog (wr.alloc (.cells #[.int .u8 (48 + (y : Int) % 10)] 5)) = .ok (.string ⟨[dig y].toArray⟩) (wr.alloc (.cells #[.int .u8 (48 + (y : Int) % 10)] 5)) := by
        refine run_convert_bytes_back _ 55 9 5 ⟨wr.heap.size, 0, none⟩ 1 [dig y] Try.underlying55 Try.underlying5 Try.underlying9 ?_
        intro j hj
        obtain rfl : j = 0 := by simpa using hj
        have hadd : (⟨wr.heap.size, 0, none⟩ : Addr).add 0 = ⟨wr.heap.size, 0, none⟩ := by unfold Addr.add; split <;> simp_all
        rw [hadd]
        show _ = some (Value.int .u8 ((dig y).toNat : Int))
        rw [← dig_nat y]
        exact (bx_new wr [.int .u8 (48 + (y : Int) % 10)] 5 rfl).c 0 _ rfl
      obtain ⟨f, rfl⟩ : ∃ g, f = g + 1 := ⟨f - 1, by omega⟩
      have hd2 : Hid (digs k k [] = digs f (y / 10) (dig y :: L)) := by show _ = _; rw [hd.out, digs, if_pos hlt]
      have hsum : (⟨[dig y].toArray⟩ : ByteArray) ++ ⟨L.toArray⟩ = ⟨(dig y :: L).toArray⟩ := by
        apply ByteArray.ext; simp
      have hlen : L.length ≤ k := by omega
      go_wp2
      go_roundw
      case rel => exact ⟨by simp [hB], f, y / 10, dig y :: L, by go_num, by first | rw [← hsum] | rw [hsum], by omega, by omega, by simp; omega, hd2⟩
      case measure => simp [intOf]; omega
    · obtain rfl : y = 0 := by omega
      have hL0 : digs f 0 L = L := by cases f with
        | zero => rfl
        | succ f => rw [digs, if_neg (by omega)]
      have hm : markT k = (⟨#[109]⟩ : ByteArray) ++ ⟨L.toArray⟩ := by
        unfold markT
        rw [if_neg h0, hd.out, hL0]
        apply ByteArray.ext; simp
      replace hm := Lib.hid hm
      clear hL0
      go_wp2
      go_ret
      exact ⟨by rw [hm.out]; rfl, hB⟩
end Go.Proofs.Ythnilnggpbploaa
