/- GetFrame, the reference's. -/
import Derived.Test.YtojlnmenfikhbaaGetFrame
namespace Go.Proofs.Ytojlnmenfikhbaa
open Go.RowKit
open Cel (rd own rd_len rd_one own_rd own_lt rd_below rd_mono own_keep)

/-- The first k bytes from s as a number, the highest first. -/
def beN (l : List UInt8) (s : Nat) : Nat → Nat
  | 0 => 0
  | k + 1 => beN l s k * 256 + (l.getD (s + k) 0).toNat
theorem beN_lt (l : List UInt8) (s : Nat) : ∀ k, beN l s k < 256 ^ k
  | 0 => by simp [beN]
  | k + 1 => by have := beN_lt l s k; have h := (l.getD (s + k) 0).toNat_lt; rw [beN, Nat.pow_succ]; omega
theorem beN_step (l : List UInt8) (s k x c : Nat) (h : s + k < l.length) (hx : beN l s k = x) (hc : l[s + k].toNat = c) : beN l s (k + 1) = x * 256 + c := by
  have hd : (l.getD (s + k) 0) = l[s + k] := by simp [List.getD, h]
  rw [beN, hx, hd, hc]
theorem or_high (x c : Nat) (hx : x < 16777216) (hc : c < 256) : bits .or .i64 ((x : Int) * 256) (c : Int) = ((x * 256 + c : Nat) : Int) := by
  have := bits_join .i64 63 (by decide) (fun n h h' => by rw [IntKind.wrap_i64]; omega) 8 ((x : Int) * 256) (c : Int) (by omega) (by omega) (by omega) (by omega) (by omega) (by omega)
  rw [this]; omega
theorem be_crc (l F : List UInt8) (s : Nat) (h : s + 4 ≤ l.length) : (part l s 4 = crc4 F) ↔ beN l s 4 = crcN F := by
  have hx := crcN_lt F
  have e : part l s 4 = [l.getD (s + 0) 0, l.getD (s + 1) 0, l.getD (s + 2) 0, l.getD (s + 3) 0] := by
    apply List.ext_getElem
    · rw [part_len _ _ _ h]; rfl
    · intro i h1 h2
      rw [part_len _ _ _ h] at h1
      have hi : i = 0 ∨ i = 1 ∨ i = 2 ∨ i = 3 := by omega
      rcases hi with rfl | rfl | rfl | rfl <;> simp [part, List.getD, show s < l.length by omega, show s + 1 < l.length by omega, show s + 2 < l.length by omega, show s + 3 < l.length by omega]
  rw [e]
  unfold beN beN beN beN beN crc4
  generalize l.getD (s + 0) 0 = b0
  generalize l.getD (s + 1) 0 = b1
  generalize l.getD (s + 2) 0 = b2
  generalize l.getD (s + 3) 0 = b3
  generalize crcN F = x at *
  have g0 := b0.toNat_lt
  have g1 := b1.toNat_lt
  have g2 := b2.toNat_lt
  have g3 := b3.toNat_lt
  simp only [List.cons.injEq, and_true, ← UInt8.toNat_inj, UInt8.toNat_ofNat']
  omega

theorem Ext.back {w w1 w2 : World} {l : List UInt8} {v : Value} (hb : Below w.heap.size w w1) (h : Ext [] w1 l v w2) : Ext [] w l v w2 := by
  obtain ⟨f, h1, h2, h3, h4⟩ := h
  refine ⟨f, h1, h2, fun b hm => ?_, Chg.of_below (Go.Proofs.Ytojlnmenfikhbaa.via hb h4.bel)⟩
  rcases h3 b hm with h5 | h5
  · cases h5
  · exact .inr (Nat.le_trans hb.size h5)
theorem RetG.some_ext {l f : List UInt8} {p q : Int} {w w' : World} {e : Ending} (h : getF l p = some (f, q)) {a : Option Addr} {c : Nat} (he : e = .returned (.tuple #[.slice a f.length c, .int .i64 q, .bool true])) (hE : Ext [] w f (.slice a f.length c) w') : RetG l p w e w' := by
  obtain ⟨f', h1, h2, h3, h4⟩ := hE
  exact RetG.some_mk h he h1 ⟨h2, fun b hb => by rcases h3 b hb with h | h; cases h; exact h⟩ h4.bel
theorem RetG.none_ext {l : List UInt8} {p : Int} {w w1 : World} {e : Ending} (h : getF l p = none) {g c : Nat} {cur : Array Value} {t : TypeId} (he : e = .returned (.tuple #[.slice (some ⟨g, 0, none⟩) 0 c, .int .i64 p, .bool false])) (hb : Below w.heap.size w w1) (hg : w1.heap.size = g) (hc : c ≤ maxLen) (hs : c ≤ cur.size) : RetG l p w e (w1.alloc (.cells cur t)) :=
  RetG.none_mk h he (OwnS.madeAt w1 cur t g c hg hc (by rw [show Cel.k UInt8 = 1 from rfl]; omega)) ⟨by simp, by have := hb.size; simp; omega⟩ (hb.alloc hb.size _)

set_option maxHeartbeats 1000000 in
theorem specGetFrame_w (l : List UInt8) (v : Value) (p : Int) (w : World) (h : Sl w l v) (hi : In64 p) (hlen : l.length ≤ 1099511627776) :
    Calls Try.prog 38 #[v, .int .i64 p] w (RetG l p w) := by
  obtain ⟨a, c, rfl, hl, hcc, hlc, -⟩ := h.open
  by_cases hN : getN l p = none
  · have e1 : getF l p = none := by unfold getF; rw [hN]
    have e1 := Lib.hid e1
    go_enter Try.func38, Try.ntmps38
    go_wp2_with fail
    refine (specGetNum_w l _ p _ h hi hlen).mono ?_
    rintro e w1 ⟨rfl, hb1⟩
    rw [hN]
    simp only [numV]
    go_wp2
    refine ret_mk (.tuple #[.slice (some ⟨w1.heap.size, 0, none⟩) 0 0, .int .i64 p, .bool false]) (by simp [results, Try.results38, go_sem, *]) rfl (RetG.none_ext e1.out rfl hb1 rfl (by decide) (by simp))
  · obtain ⟨⟨n, q⟩, hN⟩ := Option.ne_none_iff_exists'.mp hN
    obtain ⟨q, rfl, hq, hn1, hn2⟩ := getN_at l p n q hN
    by_cases hbad : n < 0 ∨ 4000 < n ∨ (l.length : Int) - q < n + 4
    · have e1 : getF l p = none := by unfold getF; rw [hN]; exact if_pos hbad
      have e1 := Lib.hid e1
      have hbad' : n < 0 ∨ (0 ≤ n ∧ 4000 < n) ∨ (0 ≤ n ∧ n ≤ 4000 ∧ (l.length : Int) - q < n + 4) := by omega
      rcases hbad' with h1 | ⟨h1, h2⟩ | ⟨h1, h2, h3⟩
      all_goals
        go_enter Try.func38, Try.ntmps38
        go_wp2_with fail
        refine (specGetNum_w l _ p _ h hi hlen).mono ?_
        rintro e w1 ⟨rfl, hb1⟩
        rw [hN]
        simp only [numV]
        clear hN
        go_wp2
        refine ret_mk (.tuple #[.slice (some ⟨w1.heap.size, 0, none⟩) 0 0, .int .i64 p, .bool false]) (by simp [results, Try.results38, go_sem, *]) rfl (RetG.none_ext e1.out rfl hb1 rfl (by decide) (by simp))
    · obtain ⟨n, rfl⟩ := Int.eq_ofNat_of_zero_le (show 0 ≤ n by omega)
      have h1 : n ≤ 4000 := by omega
      have h2 : q + n + 4 ≤ l.length := by omega
      have hin : inR (n : Int) 0 4000 = true := by simp [inR]; omega
      obtain ⟨b, o, rfl, -⟩ := h.byte 0 (by omega)
      have hp := h.part q n (by omega)
      have eF : (part l q n).length = n := part_len _ _ _ (by omega)
      have eG : getF l p = if beN l (q + n) 4 = crcN (part l q n) then some (part l q n, (q : Int) + n + 4) else none := by
        unfold getF; rw [hN]; refine (if_neg hbad).trans ?_
        have := be_crc l (part l q n) (q + n) (by omega)
        simp only [Int.toNat_natCast, this]
      replace eG := Lib.hid eG
      go_enter Try.func38, Try.ntmps38
      go_wp2_with fail
      refine (specGetNum_w l _ p _ h hi hlen).mono ?_
      rintro e w1 ⟨rfl, hb1⟩
      rw [hN]
      simp only [numV]
      go_wp2_with fail
      refine (specIn_w _ _ _ _).mono ?_
      rintro e w2 ⟨rfl, hb2⟩
      rw [hin]
      have B2 := via (w0 := w) (by simp [hb1]) hb2
      generalize part l q n = F at *
      replace hp := hp.to (w' := w2.alloc (.cells #[] 5)) (B2.alloc B2.size _)
      replace hp : Sl (w2.alloc (.cells #[] 5)) F (.slice (some ⟨b, o + q, none⟩) (q + n - q) (c - q)) := by rw [Nat.add_sub_cancel_left]; exact hp
      replace h := h.to B2
      clear hN hin
      have hF : F.length ≤ 1099511627776 := by omega
      have hN := Ext.new (α := UInt8) w2 #[] 5 w2.heap.size 0 rfl (by decide) (by simp)
      have hby : (([] : List UInt8).length + F.length) * 1 ≤ 140737488355328 := by simp; omega
      have hml : ([] : List UInt8).length + F.length ≤ maxLen := by simp [maxLen]; omega
      replace eF := Lib.hid eF
      go_wp2_with (at_builtin; go_loud (refine wpList_extF (α := UInt8) (l := []) rfl _ _ _ rfl sl22 rfl hN rfl hp hby hml ?_); intro a0 c0 w0 hE0; simp only [List.length_nil, Nat.zero_add, List.nil_append] at hE0; clear hN hp hby hml; replace h := h.to hE0.chg.bel)
      go_loop [11, 12] (fun x i => ∃ k : Nat, k ≤ 4 ∧ i = .int .i64 ((q : Int) + n + k) ∧ x = .int .i64 (beN l (q + n) k)) (fun _ i => q + n + 4 - (intOf i).toNat)
      case atStart => exact ⟨0, by omega, by simp, rfl⟩
      case round =>
        obtain ⟨k, hk, rfl, rfl⟩ := hrel
        by_cases hlt : k < 4
        · obtain ⟨b', o', e, e1⟩ := h.byte (q + n + k) (by omega)
          cases e
          have hx2 : beN l (q + n) k < 16777216 := Nat.lt_of_lt_of_le (beN_lt l (q + n) k) (show 256 ^ k ≤ 256 ^ 3 from Nat.pow_le_pow_right (by decide) (by omega))
          have hy2 := (l[q + n + k]'(by omega)).toNat_lt
          have hs := Lib.hid (beN_step l (q + n) k _ _ (by omega) rfl rfl)
          generalize hG1 : l[q + n + k].toNat = y at *
          generalize hG2 : beN l (q + n) k = x at *
          clear hG1 hG2
          have a2 := or_high x y hx2 (by omega)
          have t1 : ((q : Int) + n + k).toNat = q + n + k := by omega
          go_wp2
          go_round
          case rel => exact ⟨k + 1, by omega, by go_num, by rw [hs.out]; simp⟩
          case measure => simp [intOf]; omega
        · obtain rfl : k = 4 := by omega
          go_wp2_with fail
          refine (specCrc_w F _ _ hE0.sl).mono ?_
          rintro e w3 ⟨rfl, hb3⟩
          have hE3 := (Ext.back B2 hE0).via hb3
          have B3 := hE3.chg.bel
          have hxc := crcN_lt F
          have hx4 := beN_lt l (q + n) 4
          clear hE0 hb3 h
          by_cases hq : beN l (q + n) 4 = crcN F
          · replace eG := Lib.hid (eG.out.trans (if_pos hq))
            rw [hq]
            clear hq hx4
            generalize crcN F = x at *
            go_wp2
            refine ret_mk (.tuple #[.slice a0 F.length c0, .int .i64 ((q : Int) + n + 4), .bool true]) (by simp [results, Try.results38, go_sem, *]) rfl (RetG.some_ext eG.out rfl hE3)
          · replace eG := Lib.hid (eG.out.trans (if_neg hq))
            generalize crcN F = x at *
            generalize beN l (q + n) 4 = y at *
            have hxy : x < y ∨ y < x := by omega
            clear hq hE3
            rcases hxy with hxy | hxy
            all_goals
              go_wp2
              refine ret_mk (.tuple #[.slice (some ⟨w3.heap.size, 0, none⟩) 0 0, .int .i64 p, .bool false]) (by simp [results, Try.results38, go_sem, *]) rfl (RetG.none_ext eG.out rfl B3 rfl (by decide) (by simp))
theorem frB_len (l : List UInt8) (p : Int) : (frB l p).length ≤ 4000 := by
  unfold frB getF
  split
  · simp
  · rename_i x h
    split at h
    · cases h
    · split at h
      · cases h
      · split at h
        · obtain rfl := Option.some.inj h
          simp only [part, List.length_take]; omega
        · cases h
end Go.Proofs.Ytojlnmenfikhbaa
