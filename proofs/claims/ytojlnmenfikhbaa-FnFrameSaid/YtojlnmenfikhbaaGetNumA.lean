/- GetNum, the program's and the reference's. -/
import Derived.Test.YtojlnmenfikhbaaNum
import Derived.Test.YtojlnmenfikhbaaFile
import Derived.Test.YtojlnmenfikhbaaCrc
import Derived.Lib.EndianBits
namespace Go.Proofs.Ytojlnmenfikhbaa
open Go.RowKit
open Cel (rd own rd_len rd_one own_rd own_lt rd_below rd_mono own_keep)

def unzig (m : Nat) : Int := if m % 2 = 1 then -((m / 2 : Nat) : Int) - 1 else ((m / 2 : Nat) : Int)
def getR (l : List UInt8) (p : Nat) : Nat → Nat → Nat → Option (Int × Int)
  | 0, _, _ => none
  | f + 1, k, m => if p + k < l.length then
      (if 127 < (l.getD (p + k) 0).toNat then getR l p f (k + 1) (m + (l.getD (p + k) 0).toNat % 128 * 128 ^ k)
       else if ((l.getD (p + k) 0).toNat = 0 ∧ 0 < k) ∨ unzig (m + (l.getD (p + k) 0).toNat % 128 * 128 ^ k) < -1000000000 ∨ 1000000000 < unzig (m + (l.getD (p + k) 0).toNat % 128 * 128 ^ k) then none
       else some (unzig (m + (l.getD (p + k) 0).toNat % 128 * 128 ^ k), (p : Int) + k + 1)) else none
def getN (l : List UInt8) (at_ : Int) : Option (Int × Int) := if at_ < 0 then none else getR l at_.toNat 5 0 0

theorem getR_step (l : List UInt8) (p f k m m' c : Nat) (h : p + k < l.length) (hc : l[p + k].toNat = c) (hm : m' = m + c % 128 * 128 ^ k) :
    getR l p (f + 1) k m = if 127 < c then getR l p f (k + 1) m' else if (c = 0 ∧ 0 < k) ∨ unzig m' < -1000000000 ∨ 1000000000 < unzig m' then none else some (unzig m', (p : Int) + k + 1) := by
  have hd : (l.getD (p + k) 0) = l[p + k] := by simp [List.getD, h]
  rw [getR, if_pos h, hd, hc, ← hm]
theorem getR_stop (l : List UInt8) (p f k m : Nat) (h : ¬ p + k < l.length) : getR l p (f + 1) k m = none := by rw [getR, if_neg h]

def numV : Option (Int × Int) → Value
  | none => .tuple #[.int .i64 0, .int .i64 0, .bool false]
  | some x => .tuple #[.int .i64 x.1, .int .i64 x.2, .bool true]
def RetN (o : Option (Int × Int)) (w : World) (e : Ending) (w' : World) : Prop := e = .returned (numV o) ∧ Below w.heap.size w w'

theorem or_join (m x : Nat) (i : Nat) (h1 : m < 2 ^ i) (h2 : x % 2 ^ i = 0) (h3 : x < 9223372036854775808) (h4 : m < 9223372036854775808) : bits .or .i64 (m : Int) (x : Int) = (m : Int) + x := by
  refine bits_join_low .i64 63 (by decide) (fun n h h' => ?_) i _ _ (by omega) (by exact_mod_cast h1) (by omega) (by omega) (by exact_mod_cast h2) (by omega)
  rw [IntKind.wrap_i64]; omega
theorem and63_1 (a : Nat) (ha : a < 9223372036854775808) : bits .and .i64 (a : Int) 1 = ((a % 2 : Nat) : Int) := by
  show IntKind.i64.wrap ((BitVec.ofInt 64 (a : Int) &&& BitVec.ofInt 64 ((1 : Nat) : Int)).toNat : Int) = _
  have o1 : (BitVec.ofInt 64 (a : Int)).toNat = a := by rw [BitVec.ofInt_natCast, BitVec.toNat_ofNat]; exact Nat.mod_eq_of_lt (by omega)
  have o2 : (BitVec.ofInt 64 ((1 : Nat) : Int)).toNat = 1 := by rw [BitVec.ofInt_natCast, BitVec.toNat_ofNat]
  rw [BitVec.toNat_and, o1, o2, Nat.and_one_is_mod, IntKind.wrap_i64]
  omega
end Go.Proofs.Ytojlnmenfikhbaa
