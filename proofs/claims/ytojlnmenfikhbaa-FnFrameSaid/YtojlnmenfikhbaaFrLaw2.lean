/- Frames: what is read is what would be written; one bit turned. -/
import Derived.Test.YtojlnmenfikhbaaFrLaw
import Derived.Test.YtojlnmenfikhbaaDrawG
namespace Go.Proofs.Ytojlnmenfikhbaa
open Go.RowKit

theorem part_succ (l : List UInt8) (i m : Nat) (h : i < l.length) : part l i (m + 1) = l[i] :: part l (i + 1) m := by
  unfold part; rw [List.drop_eq_getElem_cons h, List.take_succ_cons]
theorem part_add (l : List UInt8) (i m n : Nat) : part l i (m + n) = part l i m ++ part l (i + m) n := by
  unfold part; rw [← List.drop_drop, ← List.take_add]

theorem getR_part (l : List UInt8) (p : Nat) : ∀ F k m n q, getR l p F k m = some (n, q) → ∃ u len : Nat, n = unzig (m + u * 128 ^ k) ∧ q = (p : Int) + k + len ∧ p + k + len ≤ l.length ∧ (0 < k → 0 < u) ∧ ∀ f, F ≤ f → part l (p + k) len = varB f u := by
  intro F
  induction F with
  | zero => intro k m n q h; cases h
  | succ F ih =>
    intro k m n q h
    by_cases hlt : p + k < l.length
    · have hstep := getR_step l p F k m _ (l[p + k]).toNat hlt rfl rfl
      rw [hstep] at h
      have hb := (l[p + k]).toNat_lt
      split at h
      · rename_i hc
        obtain ⟨u, len, h1, h2, h3, h4, h5⟩ := ih _ _ _ _ h
        have hu := h4 (by omega)
        refine ⟨(l[p + k]).toNat % 128 + 128 * u, len + 1, ?_, ?_, by omega, by omega, ?_⟩
        · rw [h1]; congr 1
          rw [Nat.pow_succ, Nat.add_mul, Nat.mul_comm (128 ^ k) 128, ← Nat.mul_assoc, Nat.mul_comm u 128, Nat.add_assoc]
        · rw [h2]; simp; omega
        · intro f hf
          obtain ⟨f, rfl⟩ : ∃ g, f = g + 1 := ⟨f - 1, by omega⟩
          rw [part_succ l _ _ hlt, varB, if_pos (by omega)]
          have e1 : ((l[p + k]).toNat % 128 + 128 * u) % 128 = (l[p + k]).toNat % 128 := by omega
          have e2 : ((l[p + k]).toNat % 128 + 128 * u) / 128 = u := by omega
          rw [e1, e2, ← h5 f (by omega), Nat.add_assoc]
          congr 1
          apply UInt8.toNat_inj.mp
          rw [UInt8.toNat_ofNat']; omega
      · rename_i hc
        split at h
        · cases h
        · rename_i hz
          obtain ⟨rfl, rfl⟩ := Prod.mk.inj (Option.some.inj h)
          refine ⟨(l[p + k]).toNat, 1, by rw [Nat.mod_eq_of_lt (by omega : (l[p + k]).toNat < 128)], by simp, by omega, by intro hk; omega, ?_⟩
          intro f hf
          obtain ⟨f, rfl⟩ : ∃ g, f = g + 1 := ⟨f - 1, by omega⟩
          rw [part_succ l _ _ hlt, varB, if_neg hc]
          simp [part]
    · rw [getR_stop _ _ _ _ _ hlt] at h; cases h

/-- What GetFrame reads is what PutFrame writes. -/
theorem getF_part (l : List UInt8) (p : Int) (y : List UInt8) (q : Int) (h : getF l p = some (y, q)) : ∃ i m : Nat, p = i ∧ q = ((i + m : Nat) : Int) ∧ i + m ≤ l.length ∧ 0 < m ∧ y.length ≤ 4000 ∧ part l i m = frameB [] y := by
  unfold getF at h
  split at h
  · cases h
  · rename_i n r hN
    split at h
    · cases h
    · rename_i hbad
      split at h
      · rename_i hcrc
        obtain ⟨rfl, rfl⟩ := Prod.mk.inj (Option.some.inj h)
        unfold getN at hN
        split at hN
        · cases hN
        · rename_i hp
          obtain ⟨u, len, h1, h2, h3, h4, h5⟩ := getR_part _ _ _ _ _ _ _ hN
          obtain ⟨i, rfl⟩ : ∃ i : Nat, p = i := ⟨p.toNat, by omega⟩
          obtain ⟨n, rfl⟩ : ∃ k : Nat, n = k := ⟨n.toNat, by omega⟩
          simp only [Int.toNat_natCast, Nat.pow_zero, Nat.mul_one, Nat.zero_add, Nat.add_zero] at h1 h2 h3 h5
          obtain rfl : r = ((i + len : Nat) : Int) := by rw [h2]; simp
          simp only [Int.toNat_natCast] at hcrc ⊢
          have hy : (part l (i + len) n).length = n := part_len _ _ _ (by omega)
          have hz : zig (n : Int) = u := by rw [h1]; exact zig_unzig u (by rw [← h1]; omega) (by rw [← h1]; omega)
          refine ⟨i, len + n + 4, rfl, by omega, by omega, by omega, by omega, ?_⟩
          rw [frameB_one _ _ (by omega), List.nil_append, frB1, hy, part_add, part_add, h5 5 (by omega), ← hz]
          have e : i + (len + n) = i + len + n := by omega
          rw [e, hcrc]; rfl
      · cases h

theorem getF_none {l : List UInt8} {p : Int} (h : getF l p = none) : frB l p = [] ∧ frN l p = p ∧ (getF l p).isSome = false := by unfold frB frN; rw [h]; exact ⟨rfl, rfl, rfl⟩
theorem getF_some {l : List UInt8} {p q : Int} {y : List UInt8} (h : getF l p = some (y, q)) : frB l p = y ∧ frN l p = q ∧ (getF l p).isSome = true := by unfold frB frN; rw [h]; exact ⟨rfl, rfl, rfl⟩

/-- One bit of a byte turned is another byte. -/
theorem turned (c : UInt8) (s : Nat) (hs : s < 8) : ∃ u : UInt8, bits .xor .u8 (c.toNat : Int) (IntKind.u8.wrap (2 ^ min (IntKind.u64.wrap (s : Int)).toNat 8)) = (u.toNat : Int) ∧ c ≠ u := by
  have hc := c.toNat_lt
  have e : IntKind.u8.wrap (2 ^ min (IntKind.u64.wrap (s : Int)).toNat 8) = ((2 ^ s : Nat) : Int) := by
    rcases (by omega : s = 0 ∨ s = 1 ∨ s = 2 ∨ s = 3 ∨ s = 4 ∨ s = 5 ∨ s = 6 ∨ s = 7) with rfl | rfl | rfl | rfl | rfl | rfl | rfl | rfl <;> rfl
  have h2 : 2 ^ s < 256 := Nat.pow_lt_pow_right (by decide) hs
  have h3 : 0 < 2 ^ s := Nat.two_pow_pos s
  rw [e]
  generalize 2 ^ s = t at *
  have hx : c.toNat ^^^ t < 2 ^ 8 := Nat.xor_lt_two_pow hc h2
  have e2 : bits .xor .u8 (c.toNat : Int) (t : Int) = ((c.toNat ^^^ t : Nat) : Int) := by
    show IntKind.u8.wrap ((BitVec.ofInt 8 (c.toNat : Int) ^^^ BitVec.ofInt 8 (t : Int)).toNat : Int) = _
    rw [BitVec.toNat_xor, BitVec.ofInt_natCast, BitVec.ofInt_natCast, BitVec.toNat_ofNat, BitVec.toNat_ofNat, Nat.mod_eq_of_lt (by omega), Nat.mod_eq_of_lt (by omega), IntKind.wrap_u8]
    omega
  refine ⟨UInt8.ofNat (c.toNat ^^^ t), by rw [e2, UInt8.toNat_ofNat']; congr 1; omega, fun h => ?_⟩
  have h4 := congrArg UInt8.toNat h
  rw [UInt8.toNat_ofNat', Nat.mod_eq_of_lt (by omega)] at h4
  have h5 : c.toNat ^^^ 0 = c.toNat ^^^ t := by rw [Nat.xor_zero]; exact h4
  have := xor_cancel_left _ _ _ h5
  omega

/-- One byte of the body turned. -/
theorem frame_turned (b f : List UInt8) (hf : f.length ≤ 4000) (t : Nat) (ht : t < f.length) (u : UInt8) (hj : (frameB b f).length - 5 - t < (frameB b f).length) (hu : (frameB b f)[(frameB b f).length - 5 - t] ≠ u) :
    getF ((frameB b f).set ((frameB b f).length - 5 - t) u) b.length = none := by
  have hc4 : (crc4 f).length = 4 := rfl
  have hi : f.length - 1 - t < f.length := by omega
  have hs : f = f.take (f.length - 1 - t) ++ f[f.length - 1 - t] :: f.drop (f.length - 1 - t + 1) := by
    rw [← List.drop_eq_getElem_cons hi, List.take_append_drop]
  have hl : (frameB b f).length - 5 - t = (b ++ numB f.length).length + (f.length - 1 - t) := by
    rw [frameB_one _ _ hf]; simp [frB1, hc4]; omega
  have e1 : frameB b f = (b ++ numB f.length) ++ f ++ crc4 f := by rw [frameB_one _ _ hf]; simp [frB1]
  have hg : (frameB b f)[(frameB b f).length - 5 - t]? = some f[f.length - 1 - t] := by
    rw [hl, e1, List.append_assoc, List.getElem?_append_right (by omega), Nat.add_sub_cancel_left, List.getElem?_append_left hi, List.getElem?_eq_getElem hi]
  have hne : f[f.length - 1 - t] ≠ u := by
    rw [List.getElem?_eq_getElem hj] at hg
    rw [← Option.some.inj hg]; exact hu
  have hset : f.set (f.length - 1 - t) u = f.take (f.length - 1 - t) ++ u :: f.drop (f.length - 1 - t + 1) := by
    rw [List.set_eq_take_append_cons_drop, if_pos hi]
  rw [hl]
  have e2 : (frameB b f).set ((b ++ numB f.length).length + (f.length - 1 - t)) u = b ++ (numB f.length ++ f.set (f.length - 1 - t) u ++ crc4 f) ++ [] := by
    rw [e1, List.append_assoc, List.set_append_right _ _ (by omega), Nat.add_sub_cancel_left, List.set_append_left _ _ hi]; simp
  rw [e2, hset]
  have := getF_turned b (f.take (f.length - 1 - t)) (f.drop (f.length - 1 - t + 1)) [] f[f.length - 1 - t] u hne (by rw [← hs]; exact hf)
  rw [← hs] at this
  exact this
end Go.Proofs.Ytojlnmenfikhbaa
