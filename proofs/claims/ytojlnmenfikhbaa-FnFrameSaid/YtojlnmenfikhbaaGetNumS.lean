/- GetNum, the program's and the reference's. -/
import Derived.Test.YtojlnmenfikhbaaNum
import Derived.Test.YtojlnmenfikhbaaFile
import Derived.Test.YtojlnmenfikhbaaCrc
import Derived.Test.YtojlnmenfikhbaaGetNumA
namespace Go.Proofs.Ytojlnmenfikhbaa
open Go.RowKit
open Cel (rd own rd_len rd_one own_rd own_lt rd_below rd_mono own_keep)

set_option maxRecDepth 20000 in
set_option maxHeartbeats 4000000 in
theorem specGetNum_w (l : List UInt8) (v : Value) (p : Int) (w : World) (h : Sl w l v) (hi : In64 p) (hlen : l.length ≤ 1099511627776) :
    Calls Try.prog 70 #[v, .int .i64 p] w (RetN (getN l p) w) := by
  obtain ⟨a, c, rfl, hl, -⟩ := h.open
  unfold In64 at hi
  unfold getN
  by_cases hp : p < 0
  · rw [if_pos hp]
    go_enter Try.func70, Try.ntmps70
    go_wp2
    go_loop [7, 8, 9, 10] (fun u i _ _ => ∃ m k : Nat, u = .int .i64 m ∧ i = .int .i64 k ∧ k = 0 ∧ m = 0) (fun _ i _ _ => 5 - (intOf i).toNat)
    case atStart => exact ⟨0, 0, rfl, rfl, rfl, rfl⟩
    case round =>
      obtain ⟨m, k, rfl, rfl, rfl, rfl⟩ := hrel
      go_wp2
      refine ret_mk (numV none) (by simp [results, Try.results70, go_sem, numV, *]) rfl ⟨rfl, by simp⟩
  · rw [if_neg hp]
    obtain ⟨p, rfl⟩ := Int.eq_ofNat_of_zero_le (Int.not_lt.mp hp)
    rw [Int.toNat_natCast]
    generalize hG0 : getR l p 5 0 0 = R
    have hG := Lib.hid hG0
    clear hG0
    go_enter Try.func70, Try.ntmps70
    go_wp2
    go_loop [7, 8, 9, 10] (fun u i _ _ => ∃ m k : Nat, u = .int .i64 m ∧ i = .int .i64 k ∧ k ≤ 5 ∧ m < 128 ^ k ∧ Hid (getR l p (5 - k) k m = R)) (fun _ i _ _ => 5 - (intOf i).toNat)
    case atStart => exact ⟨0, 0, rfl, rfl, by omega, by omega, hG⟩
    case round =>
      clear hG
      obtain ⟨m, k, rfl, rfl, hk, hm, hG⟩ := hrel
      have hk' : k = 5 ∨ k = 1 ∨ k = 2 ∨ k = 3 ∨ k = 4 ∨ k = 0 := by omega
      rcases hk' with rfl | rfl | rfl | rfl | rfl | rfl
      · go_wp2
        refine ret_mk (numV none) (by simp [results, Try.results70, go_sem, numV, *]) rfl ⟨by rw [← hG.out]; rfl, by simp⟩
      · by_cases hlt : p + 1 < l.length
        · obtain ⟨b, o, rfl, e1⟩ := h.byte (p + 1) hlt
          obtain ⟨x, hx⟩ : ∃ x, l[p + 1].toNat = x := ⟨_, rfl⟩
          have hx2 : x < 256 := by have := l[p + 1].toNat_lt; omega
          rw [hx] at e1
          obtain ⟨m', hm'⟩ : ∃ m', m' = m + x % 128 * 128 ^ 1 := ⟨_, rfl⟩
          have HG := Lib.hid (hG.out.symm.trans (getR_step l p 3 1 m m' x hlt hx hm'))
          have a1 : bits .and .i64 (x : Int) 127 = (x : Int) % 128 := by exact i64_and127 x
          have a2 : bits .or .i64 (m : Int) ((x : Int) % 128 * 128) = (m' : Int) := by rw [show ((x : Int) % 128 * 128) = ((x % 128 * 128 : Nat) : Int) by omega, or_join m (x % 128 * 128) 7 (by omega) (by omega) (by omega) (by omega)]; omega
          have hmm : m' < 16384 := by omega
          have hlt2 : p < l.length := by omega
          have a3 : bits .and .i64 (m' : Int) 1 = ((m' % 2 : Nat) : Int) := and63_1 m' (by omega)
          clear hG hm' hx
          have hcc : 127 < x ∨ (x ≤ 127 ∧ m' % 2 = 1) ∨ (x ≤ 127 ∧ m' % 2 = 0) := by omega
          rcases hcc with hc | ⟨hc, hpar⟩ | ⟨hc, hpar⟩
          · go_wp2
            go_round
            case rel => exact ⟨m', 2, rfl, rfl, by omega, by omega, Lib.hid (((HG.out).trans (if_pos hc)).symm)⟩
            case measure => simp [intOf]
          · have hu : unzig m' = (-((m' / 2 : Nat) : Int) - 1) := by unfold unzig; rw [if_pos hpar]
            have HG := Lib.hid ((HG.out).trans (if_neg (by omega)))
            rw [hu] at HG
            clear hu
            have hdd : (x = 0) ∨ (0 < x ∧ 999999999 < m' / 2) ∨ (0 < x ∧ m' / 2 ≤ 999999999) := by omega
            rcases hdd with hd | ⟨hd, hd2⟩ | ⟨hd, hd2⟩
            · have a1z : bits .and .i64 0 127 = 0 := by decide
              have a2z : bits .or .i64 (m : Int) 0 = (m' : Int) := by have h2 := a2; rw [hd] at h2; simpa using h2
              clear a1 a2
              go_wp2
              refine ret_mk (numV none) (by simp [results, Try.results70, go_sem, numV, *]) rfl ⟨by rw [HG.out, if_pos (by omega)], by simp⟩
            · omega
            · have b0 : ((x : Int) == 0) = false := by simp; omega
              have b1 : decide (-((m' : Int) / 2) - 1 ≤ 1000000000) = true := by simp; omega
              have b2 : decide (-1000000000 ≤ -((m' : Int) / 2) - 1) = true := by simp; omega
              go_wp2
              refine ret_mk (numV (some ((-((m' / 2 : Nat) : Int) - 1), (p : Int) + 1 + 1))) (by simp [results, Try.results70, go_sem, numV, *]) rfl ⟨by rw [HG.out, if_neg (by omega)]; rfl, by simp⟩
          · have hu : unzig m' = ((m' / 2 : Nat) : Int) := by unfold unzig; rw [if_neg (by omega)]
            have HG := Lib.hid ((HG.out).trans (if_neg (by omega)))
            rw [hu] at HG
            clear hu
            have hdd : (x = 0) ∨ (0 < x ∧ 1000000000 < m' / 2) ∨ (0 < x ∧ m' / 2 ≤ 1000000000) := by omega
            rcases hdd with hd | ⟨hd, hd2⟩ | ⟨hd, hd2⟩
            · have a1z : bits .and .i64 0 127 = 0 := by decide
              have a2z : bits .or .i64 (m : Int) 0 = (m' : Int) := by have h2 := a2; rw [hd] at h2; simpa using h2
              clear a1 a2
              go_wp2
              refine ret_mk (numV none) (by simp [results, Try.results70, go_sem, numV, *]) rfl ⟨by rw [HG.out, if_pos (by omega)], by simp⟩
            · omega
            · have b0 : ((x : Int) == 0) = false := by simp; omega
              have b1 : decide ((m' : Int) / 2 ≤ 1000000000) = true := by simp; omega
              have b2 : decide (-1000000000 ≤ (m' : Int) / 2) = true := by simp; omega
              go_wp2
              refine ret_mk (numV (some (((m' / 2 : Nat) : Int), (p : Int) + 1 + 1))) (by simp [results, Try.results70, go_sem, numV, *]) rfl ⟨by rw [HG.out, if_neg (by omega)]; rfl, by simp⟩
        · have HG := Lib.hid (hG.out.symm.trans (getR_stop l p 3 1 m hlt))
          clear hG
          have hlt2 : l.length ≤ p ∨ (p < l.length ∧ l.length ≤ p + 1) := by omega
          rcases hlt2 with hlt2 | ⟨hlt2, hlt3⟩
          · go_wp2
            refine ret_mk (numV none) (by simp [results, Try.results70, go_sem, numV, *]) rfl ⟨by rw [HG.out], by simp⟩
          · go_wp2
            refine ret_mk (numV none) (by simp [results, Try.results70, go_sem, numV, *]) rfl ⟨by rw [HG.out], by simp⟩
      · by_cases hlt : p + 2 < l.length
        · obtain ⟨b, o, rfl, e1⟩ := h.byte (p + 2) hlt
          obtain ⟨x, hx⟩ : ∃ x, l[p + 2].toNat = x := ⟨_, rfl⟩
          have hx2 : x < 256 := by have := l[p + 2].toNat_lt; omega
          rw [hx] at e1
          obtain ⟨m', hm'⟩ : ∃ m', m' = m + x % 128 * 128 ^ 2 := ⟨_, rfl⟩
          have HG := Lib.hid (hG.out.symm.trans (getR_step l p 2 2 m m' x hlt hx hm'))
          have a1 : bits .and .i64 (x : Int) 127 = (x : Int) % 128 := by exact i64_and127 x
          have a2 : bits .or .i64 (m : Int) ((x : Int) % 128 * 16384) = (m' : Int) := by rw [show ((x : Int) % 128 * 16384) = ((x % 128 * 16384 : Nat) : Int) by omega, or_join m (x % 128 * 16384) 14 (by omega) (by omega) (by omega) (by omega)]; omega
          have hmm : m' < 2097152 := by omega
          have hlt2 : p < l.length := by omega
          have a3 : bits .and .i64 (m' : Int) 1 = ((m' % 2 : Nat) : Int) := and63_1 m' (by omega)
          clear hG hm' hx
          have hcc : 127 < x ∨ (x ≤ 127 ∧ m' % 2 = 1) ∨ (x ≤ 127 ∧ m' % 2 = 0) := by omega
          rcases hcc with hc | ⟨hc, hpar⟩ | ⟨hc, hpar⟩
          · go_wp2
            go_round
            case rel => exact ⟨m', 3, rfl, rfl, by omega, by omega, Lib.hid (((HG.out).trans (if_pos hc)).symm)⟩
            case measure => simp [intOf]
          · have hu : unzig m' = (-((m' / 2 : Nat) : Int) - 1) := by unfold unzig; rw [if_pos hpar]
            have HG := Lib.hid ((HG.out).trans (if_neg (by omega)))
            rw [hu] at HG
            clear hu
            have hdd : (x = 0) ∨ (0 < x ∧ 999999999 < m' / 2) ∨ (0 < x ∧ m' / 2 ≤ 999999999) := by omega
            rcases hdd with hd | ⟨hd, hd2⟩ | ⟨hd, hd2⟩
            · have a1z : bits .and .i64 0 127 = 0 := by decide
              have a2z : bits .or .i64 (m : Int) 0 = (m' : Int) := by have h2 := a2; rw [hd] at h2; simpa using h2
              clear a1 a2
              go_wp2
              refine ret_mk (numV none) (by simp [results, Try.results70, go_sem, numV, *]) rfl ⟨by rw [HG.out, if_pos (by omega)], by simp⟩
            · omega
            · have b0 : ((x : Int) == 0) = false := by simp; omega
              have b1 : decide (-((m' : Int) / 2) - 1 ≤ 1000000000) = true := by simp; omega
              have b2 : decide (-1000000000 ≤ -((m' : Int) / 2) - 1) = true := by simp; omega
              go_wp2
              refine ret_mk (numV (some ((-((m' / 2 : Nat) : Int) - 1), (p : Int) + 2 + 1))) (by simp [results, Try.results70, go_sem, numV, *]) rfl ⟨by rw [HG.out, if_neg (by omega)]; rfl, by simp⟩
          · have hu : unzig m' = ((m' / 2 : Nat) : Int) := by unfold unzig; rw [if_neg (by omega)]
            have HG := Lib.hid ((HG.out).trans (if_neg (by omega)))
            rw [hu] at HG
            clear hu
            have hdd : (x = 0) ∨ (0 < x ∧ 1000000000 < m' / 2) ∨ (0 < x ∧ m' / 2 ≤ 1000000000) := by omega
            rcases hdd with hd | ⟨hd, hd2⟩ | ⟨hd, hd2⟩
            · have a1z : bits .and .i64 0 127 = 0 := by decide
              have a2z : bits .or .i64 (m : Int) 0 = (m' : Int) := by have h2 := a2; rw [hd] at h2; simpa using h2
              clear a1 a2
              go_wp2
              refine ret_mk (numV none) (by simp [results, Try.results70, go_sem, numV, *]) rfl ⟨by rw [HG.out, if_pos (by omega)], by simp⟩
            · omega
            · have b0 : ((x : Int) == 0) = false := by simp; omega
              have b1 : decide ((m' : Int) / 2 ≤ 1000000000) = true := by simp; omega
              have b2 : decide (-1000000000 ≤ (m' : Int) / 2) = true := by simp; omega
              go_wp2
              refine ret_mk (numV (some (((m' / 2 : Nat) : Int), (p : Int) + 2 + 1))) (by simp [results, Try.results70, go_sem, numV, *]) rfl ⟨by rw [HG.out, if_neg (by omega)]; rfl, by simp⟩
        · have HG := Lib.hid (hG.out.symm.trans (getR_stop l p 2 2 m hlt))
          clear hG
          have hlt2 : l.length ≤ p ∨ (p < l.length ∧ l.length ≤ p + 2) := by omega
          rcases hlt2 with hlt2 | ⟨hlt2, hlt3⟩
          · go_wp2
            refine ret_mk (numV none) (by simp [results, Try.results70, go_sem, numV, *]) rfl ⟨by rw [HG.out], by simp⟩
          · go_wp2
            refine ret_mk (numV none) (by simp [results, Try.results70, go_sem, numV, *]) rfl ⟨by rw [HG.out], by simp⟩
      · by_cases hlt : p + 3 < l.length
        · obtain ⟨b, o, rfl, e1⟩ := h.byte (p + 3) hlt
          obtain ⟨x, hx⟩ : ∃ x, l[p + 3].toNat = x := ⟨_, rfl⟩
          have hx2 : x < 256 := by have := l[p + 3].toNat_lt; omega
          rw [hx] at e1
          obtain ⟨m', hm'⟩ : ∃ m', m' = m + x % 128 * 128 ^ 3 := ⟨_, rfl⟩
          have HG := Lib.hid (hG.out.symm.trans (getR_step l p 1 3 m m' x hlt hx hm'))
          have a1 : bits .and .i64 (x : Int) 127 = (x : Int) % 128 := by exact i64_and127 x
          have a2 : bits .or .i64 (m : Int) ((x : Int) % 128 * 2097152) = (m' : Int) := by rw [show ((x : Int) % 128 * 2097152) = ((x % 128 * 2097152 : Nat) : Int) by omega, or_join m (x % 128 * 2097152) 21 (by omega) (by omega) (by omega) (by omega)]; omega
          have hmm : m' < 268435456 := by omega
          have hlt2 : p < l.length := by omega
          have a3 : bits .and .i64 (m' : Int) 1 = ((m' % 2 : Nat) : Int) := and63_1 m' (by omega)
          clear hG hm' hx
          have hcc : 127 < x ∨ (x ≤ 127 ∧ m' % 2 = 1) ∨ (x ≤ 127 ∧ m' % 2 = 0) := by omega
          rcases hcc with hc | ⟨hc, hpar⟩ | ⟨hc, hpar⟩
          · go_wp2
            go_round
            case rel => exact ⟨m', 4, rfl, rfl, by omega, by omega, Lib.hid (((HG.out).trans (if_pos hc)).symm)⟩
            case measure => simp [intOf]
          · have hu : unzig m' = (-((m' / 2 : Nat) : Int) - 1) := by unfold unzig; rw [if_pos hpar]
            have HG := Lib.hid ((HG.out).trans (if_neg (by omega)))
            rw [hu] at HG
            clear hu
            have hdd : (x = 0) ∨ (0 < x ∧ 999999999 < m' / 2) ∨ (0 < x ∧ m' / 2 ≤ 999999999) := by omega
            rcases hdd with hd | ⟨hd, hd2⟩ | ⟨hd, hd2⟩
            · have a1z : bits .and .i64 0 127 = 0 := by decide
              have a2z : bits .or .i64 (m : Int) 0 = (m' : Int) := by have h2 := a2; rw [hd] at h2; simpa using h2
              clear a1 a2
              go_wp2
              refine ret_mk (numV none) (by simp [results, Try.results70, go_sem, numV, *]) rfl ⟨by rw [HG.out, if_pos (by omega)], by simp⟩
            · omega
            · have b0 : ((x : Int) == 0) = false := by simp; omega
              have b1 : decide (-((m' : Int) / 2) - 1 ≤ 1000000000) = true := by simp; omega
              have b2 : decide (-1000000000 ≤ -((m' : Int) / 2) - 1) = true := by simp; omega
              go_wp2
              refine ret_mk (numV (some ((-((m' / 2 : Nat) : Int) - 1), (p : Int) + 3 + 1))) (by simp [results, Try.results70, go_sem, numV, *]) rfl ⟨by rw [HG.out, if_neg (by omega)]; rfl, by simp⟩
          · have hu : unzig m' = ((m' / 2 : Nat) : Int) := by unfold unzig; rw [if_neg (by omega)]
            have HG := Lib.hid ((HG.out).trans (if_neg (by omega)))
            rw [hu] at HG
            clear hu
            have hdd : (x = 0) ∨ (0 < x ∧ 1000000000 < m' / 2) ∨ (0 < x ∧ m' / 2 ≤ 1000000000) := by omega
            rcases hdd with hd | ⟨hd, hd2⟩ | ⟨hd, hd2⟩
            · have a1z : bits .and .i64 0 127 = 0 := by decide
              have a2z : bits .or .i64 (m : Int) 0 = (m' : Int) := by have h2 := a2; rw [hd] at h2; simpa using h2
              clear a1 a2
              go_wp2
              refine ret_mk (numV none) (by simp [results, Try.results70, go_sem, numV, *]) rfl ⟨by rw [HG.out, if_pos (by omega)], by simp⟩
            · omega
            · have b0 : ((x : Int) == 0) = false := by simp; omega
              have b1 : decide ((m' : Int) / 2 ≤ 1000000000) = true := by simp; omega
              have b2 : decide (-1000000000 ≤ (m' : Int) / 2) = true := by simp; omega
              go_wp2
              refine ret_mk (numV (some (((m' / 2 : Nat) : Int), (p : Int) + 3 + 1))) (by simp [results, Try.results70, go_sem, numV, *]) rfl ⟨by rw [HG.out, if_neg (by omega)]; rfl, by simp⟩
        · have HG := Lib.hid (hG.out.symm.trans (getR_stop l p 1 3 m hlt))
          clear hG
          have hlt2 : l.length ≤ p ∨ (p < l.length ∧ l.length ≤ p + 3) := by omega
          rcases hlt2 with hlt2 | ⟨hlt2, hlt3⟩
          · go_wp2
            refine ret_mk (numV none) (by simp [results, Try.results70, go_sem, numV, *]) rfl ⟨by rw [HG.out], by simp⟩
          · go_wp2
            refine ret_mk (numV none) (by simp [results, Try.results70, go_sem, numV, *]) rfl ⟨by rw [HG.out], by simp⟩
      · by_cases hlt : p + 4 < l.length
        · obtain ⟨b, o, rfl, e1⟩ := h.byte (p + 4) hlt
          obtain ⟨x, hx⟩ : ∃ x, l[p + 4].toNat = x := ⟨_, rfl⟩
          have hx2 : x < 256 := by have := l[p + 4].toNat_lt; omega
          rw [hx] at e1
          obtain ⟨m', hm'⟩ : ∃ m', m' = m + x % 128 * 128 ^ 4 := ⟨_, rfl⟩
          have HG := Lib.hid (hG.out.symm.trans (getR_step l p 0 4 m m' x hlt hx hm'))
          have a1 : bits .and .i64 (x : Int) 127 = (x : Int) % 128 := by exact i64_and127 x
          have a2 : bits .or .i64 (m : Int) ((x : Int) % 128 * 268435456) = (m' : Int) := by rw [show ((x : Int) % 128 * 268435456) = ((x % 128 * 268435456 : Nat) : Int) by omega, or_join m (x % 128 * 268435456) 28 (by omega) (by omega) (by omega) (by omega)]; omega
          have hmm : m' < 34359738368 := by omega
          have hlt2 : p < l.length := by omega
          have a3 : bits .and .i64 (m' : Int) 1 = ((m' % 2 : Nat) : Int) := and63_1 m' (by omega)
          clear hG hm' hx
          have hcc : 127 < x ∨ (x ≤ 127 ∧ m' % 2 = 1) ∨ (x ≤ 127 ∧ m' % 2 = 0) := by omega
          rcases hcc with hc | ⟨hc, hpar⟩ | ⟨hc, hpar⟩
          · go_wp2
            go_round
            case rel => exact ⟨m', 5, rfl, rfl, by omega, by omega, Lib.hid (((HG.out).trans (if_pos hc)).symm)⟩
            case measure => simp [intOf]
          · have hu : unzig m' = (-((m' / 2 : Nat) : Int) - 1) := by unfold unzig; rw [if_pos hpar]
            have HG := Lib.hid ((HG.out).trans (if_neg (by omega)))
            rw [hu] at HG
            clear hu
            have hdd : (x = 0) ∨ (0 < x ∧ 999999999 < m' / 2) ∨ (0 < x ∧ m' / 2 ≤ 999999999) := by omega
            rcases hdd with hd | ⟨hd, hd2⟩ | ⟨hd, hd2⟩
            · have a1z : bits .and .i64 0 127 = 0 := by decide
              have a2z : bits .or .i64 (m : Int) 0 = (m' : Int) := by have h2 := a2; rw [hd] at h2; simpa using h2
              clear a1 a2
              go_wp2
              refine ret_mk (numV none) (by simp [results, Try.results70, go_sem, numV, *]) rfl ⟨by rw [HG.out, if_pos (by omega)], by simp⟩
            · have b0 : ((x : Int) == 0) = false := by simp; omega
              have b1 : decide (-((m' : Int) / 2) - 1 ≤ 1000000000) = true := by simp; omega
              have b2 : decide (-1000000000 ≤ -((m' : Int) / 2) - 1) = false := by simp; omega
              go_wp2
              refine ret_mk (numV none) (by simp [results, Try.results70, go_sem, numV, *]) rfl ⟨by rw [HG.out, if_pos (by omega)], by simp⟩
            · have b0 : ((x : Int) == 0) = false := by simp; omega
              have b1 : decide (-((m' : Int) / 2) - 1 ≤ 1000000000) = true := by simp; omega
              have b2 : decide (-1000000000 ≤ -((m' : Int) / 2) - 1) = true := by simp; omega
              go_wp2
              refine ret_mk (numV (some ((-((m' / 2 : Nat) : Int) - 1), (p : Int) + 4 + 1))) (by simp [results, Try.results70, go_sem, numV, *]) rfl ⟨by rw [HG.out, if_neg (by omega)]; rfl, by simp⟩
          · have hu : unzig m' = ((m' / 2 : Nat) : Int) := by unfold unzig; rw [if_neg (by omega)]
            have HG := Lib.hid ((HG.out).trans (if_neg (by omega)))
            rw [hu] at HG
            clear hu
            have hdd : (x = 0) ∨ (0 < x ∧ 1000000000 < m' / 2) ∨ (0 < x ∧ m' / 2 ≤ 1000000000) := by omega
            rcases hdd with hd | ⟨hd, hd2⟩ | ⟨hd, hd2⟩
            · have a1z : bits .and .i64 0 127 = 0 := by decide
              have a2z : bits .or .i64 (m : Int) 0 = (m' : Int) := by have h2 := a2; rw [hd] at h2; simpa using h2
              clear a1 a2
              go_wp2
              refine ret_mk (numV none) (by simp [results, Try.results70, go_sem, numV, *]) rfl ⟨by rw [HG.out, if_pos (by omega)], by simp⟩
            · have b0 : ((x : Int) == 0) = false := by simp; omega
              have b1 : decide ((m' : Int) / 2 ≤ 1000000000) = false := by simp; omega
              have b2 : decide (-1000000000 ≤ (m' : Int) / 2) = true := by simp; omega
              go_wp2
              refine ret_mk (numV none) (by simp [results, Try.results70, go_sem, numV, *]) rfl ⟨by rw [HG.out, if_pos (by omega)], by simp⟩
            · have b0 : ((x : Int) == 0) = false := by simp; omega
              have b1 : decide ((m' : Int) / 2 ≤ 1000000000) = true := by simp; omega
              have b2 : decide (-1000000000 ≤ (m' : Int) / 2) = true := by simp; omega
              go_wp2
              refine ret_mk (numV (some (((m' / 2 : Nat) : Int), (p : Int) + 4 + 1))) (by simp [results, Try.results70, go_sem, numV, *]) rfl ⟨by rw [HG.out, if_neg (by omega)]; rfl, by simp⟩
        · have HG := Lib.hid (hG.out.symm.trans (getR_stop l p 0 4 m hlt))
          clear hG
          have hlt2 : l.length ≤ p ∨ (p < l.length ∧ l.length ≤ p + 4) := by omega
          rcases hlt2 with hlt2 | ⟨hlt2, hlt3⟩
          · go_wp2
            refine ret_mk (numV none) (by simp [results, Try.results70, go_sem, numV, *]) rfl ⟨by rw [HG.out], by simp⟩
          · go_wp2
            refine ret_mk (numV none) (by simp [results, Try.results70, go_sem, numV, *]) rfl ⟨by rw [HG.out], by simp⟩
      · by_cases hlt : p + 0 < l.length
        · obtain ⟨b, o, rfl, e1⟩ := h.byte (p + 0) hlt
          obtain ⟨x, hx⟩ : ∃ x, l[p + 0].toNat = x := ⟨_, rfl⟩
          have hx2 : x < 256 := by have := l[p + 0].toNat_lt; omega
          rw [hx] at e1
          rw [Nat.add_zero] at e1 hlt
          obtain ⟨m', hm'⟩ : ∃ m', m' = m + x % 128 * 128 ^ 0 := ⟨_, rfl⟩
          have HG := Lib.hid (hG.out.symm.trans (getR_step l p 4 0 m m' x hlt hx hm'))
          have a1 : bits .and .i64 (x : Int) 127 = (x : Int) % 128 := by exact i64_and127 x
          obtain rfl : m = 0 := by omega
          have a2 : bits .or .i64 0 ((x : Int) % 128) = (m' : Int) := by have h := or_join 0 (x % 128) 0 (by decide) (by omega) (by omega) (by omega); have e : ((0 : Nat) : Int) = 0 := rfl; rw [e] at h; rw [show ((x : Int) % 128) = ((x % 128 : Nat) : Int) by omega, h]; omega
          have hmm : m' < 128 := by omega
          have hlt2 : p < l.length := by omega
          have a3 : bits .and .i64 (m' : Int) 1 = ((m' % 2 : Nat) : Int) := and63_1 m' (by omega)
          have hzz : 0 < x ∨ (x = 0 ∧ m' = 0) := by omega
          clear hG hm' hx
          have hcc : 127 < x ∨ (x ≤ 127 ∧ m' % 2 = 1) ∨ (x ≤ 127 ∧ m' % 2 = 0) := by omega
          rcases hcc with hc | ⟨hc, hpar⟩ | ⟨hc, hpar⟩
          · go_wp2
            go_round
            case rel => exact ⟨m', 1, rfl, rfl, by omega, by omega, Lib.hid (((HG.out).trans (if_pos hc)).symm)⟩
            case measure => simp [intOf]
          · have hu : unzig m' = (-((m' / 2 : Nat) : Int) - 1) := by unfold unzig; rw [if_pos hpar]
            have HG := Lib.hid ((HG.out).trans (if_neg (by omega)))
            rw [hu] at HG
            clear hu
            have hdd : m' / 2 ≤ 64 := by omega
            rcases hzz with hz | ⟨hz, hz2⟩
            · have b0 : ((x : Int) == 0) = false := by simp; omega
              have b1 : decide (-((m' : Int) / 2) - 1 ≤ 1000000000) = true := by simp; omega
              have b2 : decide (-1000000000 ≤ -((m' : Int) / 2) - 1) = true := by simp; omega
              go_wp2
              refine ret_mk (numV (some ((-((m' / 2 : Nat) : Int) - 1), (p : Int) + 0 + 1))) (by simp [results, Try.results70, go_sem, numV, *]) rfl ⟨by rw [HG.out, if_neg (by omega)]; rfl, by simp⟩
            · omega
          · have hu : unzig m' = ((m' / 2 : Nat) : Int) := by unfold unzig; rw [if_neg (by omega)]
            have HG := Lib.hid ((HG.out).trans (if_neg (by omega)))
            rw [hu] at HG
            clear hu
            have hdd : m' / 2 ≤ 64 := by omega
            rcases hzz with hz | ⟨hz, hz2⟩
            · have b0 : ((x : Int) == 0) = false := by simp; omega
              have b1 : decide ((m' : Int) / 2 ≤ 1000000000) = true := by simp; omega
              have b2 : decide (-1000000000 ≤ (m' : Int) / 2) = true := by simp; omega
              go_wp2
              refine ret_mk (numV (some (((m' / 2 : Nat) : Int), (p : Int) + 0 + 1))) (by simp [results, Try.results70, go_sem, numV, *]) rfl ⟨by rw [HG.out, if_neg (by omega)]; rfl, by simp⟩
            · have a1z : bits .and .i64 0 127 = 0 := by decide
              have a2z : bits .or .i64 0 0 = 0 := by decide
              have a3z : bits .and .i64 0 1 = 0 := by decide
              subst hz2
              go_wp2
              refine ret_mk (numV (some (((0 / 2 : Nat) : Int), (p : Int) + 0 + 1))) (by simp [results, Try.results70, go_sem, numV, *]) rfl ⟨by rw [HG.out, if_neg (by omega)]; rfl, by simp⟩
        · have HG := Lib.hid (hG.out.symm.trans (getR_stop l p 4 0 m hlt))
          clear hG
          have hlt2 : l.length ≤ p ∨ (p < l.length ∧ l.length ≤ p + 0) := by omega
          rcases hlt2 with hlt2 | ⟨hlt2, hlt3⟩
          · go_wp2
            refine ret_mk (numV none) (by simp [results, Try.results70, go_sem, numV, *]) rfl ⟨by rw [HG.out], by simp⟩
          · omega
end Go.Proofs.Ytojlnmenfikhbaa
