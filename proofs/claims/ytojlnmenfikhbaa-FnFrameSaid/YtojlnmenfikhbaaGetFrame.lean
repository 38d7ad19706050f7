/- GetFrame, the program's and the reference's. -/
import Derived.Test.YtojlnmenfikhbaaFrame
import Derived.Test.YtojlnmenfikhbaaGetNumI
import Derived.Test.YtojlnmenfikhbaaGetNumS
import Derived.Test.YtojlnmenfikhbaaEqB
namespace Go.Proofs.Ytojlnmenfikhbaa
open Go.RowKit
open Cel (rd own rd_len rd_one own_rd own_lt rd_below rd_mono own_keep)

/-- What GetFrame finds: the body and where the next begins. -/
def getF (l : List UInt8) (p : Int) : Option (List UInt8 × Int) :=
  match getN l p with
  | none => none
  | some (n, q) => if n < 0 ∨ 4000 < n ∨ (l.length : Int) - q < n + 4 then none
    else if part l (q.toNat + n.toNat) 4 = crc4 (part l q.toNat n.toNat) then some (part l q.toNat n.toNat, q + n + 4) else none
def frB (l : List UInt8) (p : Int) : List UInt8 := match getF l p with | none => [] | some x => x.1
def frN (l : List UInt8) (p : Int) : Int := match getF l p with | none => p | some x => x.2
def RetG (l : List UInt8) (p : Int) (w : World) (e : Ending) (w' : World) : Prop :=
  ∃ a c fp, e = .returned (.tuple #[.slice a (frB l p).length c, .int .i64 (frN l p), .bool (getF l p).isSome]) ∧ OwnS w' (frB l p) (.slice a (frB l p).length c) fp ∧ Fr w.heap.size fp ∧ Below w.heap.size w w'
theorem RetG.none_mk {l : List UInt8} {p : Int} {w w' : World} {e : Ending} (h : getF l p = none) {a : Option Addr} {c : Nat} {fp : List Nat} (he : e = .returned (.tuple #[.slice a 0 c, .int .i64 p, .bool false])) (ho : OwnS w' ([] : List UInt8) (.slice a 0 c) fp) (hf : Fr w.heap.size fp) (hb : Below w.heap.size w w') : RetG l p w e w' := by
  have e2 : frB l p = [] := by unfold frB; rw [h]
  have e3 : frN l p = p := by unfold frN; rw [h]
  unfold RetG
  rw [h, e2, e3]
  exact ⟨a, c, fp, he, ho, hf, hb⟩
theorem RetG.some_mk {l f : List UInt8} {p q : Int} {w w' : World} {e : Ending} (h : getF l p = some (f, q)) {a : Option Addr} {c : Nat} {fp : List Nat} (he : e = .returned (.tuple #[.slice a f.length c, .int .i64 q, .bool true])) (ho : OwnS w' f (.slice a f.length c) fp) (hf : Fr w.heap.size fp) (hb : Below w.heap.size w w') : RetG l p w e w' := by
  have e2 : frB l p = f := by unfold frB; rw [h]
  have e3 : frN l p = q := by unfold frN; rw [h]
  unfold RetG
  rw [h, e2, e3]
  exact ⟨a, c, fp, he, ho, hf, hb⟩
theorem getR_at (l : List UInt8) (p : Nat) : ∀ f k m x, getR l p f k m = some x → ∃ q : Nat, x.2 = q ∧ q ≤ l.length ∧ -1000000000 ≤ x.1 ∧ x.1 ≤ 1000000000 := by
  intro f
  induction f with
  | zero => intro k m x h; cases h
  | succ f ih =>
    intro k m x h
    rw [getR] at h
    split at h
    · split at h
      · exact ih _ _ _ h
      · split at h
        · cases h
        · obtain rfl := Option.some.inj h
          exact ⟨p + k + 1, by simp, by omega, by show _ ≤ unzig _; omega, by show unzig _ ≤ _; omega⟩
    · cases h
theorem getN_at (l : List UInt8) (p : Int) (n q : Int) (h : getN l p = some (n, q)) : ∃ k : Nat, q = k ∧ k ≤ l.length ∧ -1000000000 ≤ n ∧ n ≤ 1000000000 := by
  unfold getN at h
  split at h
  · cases h
  · exact getR_at _ _ _ _ _ _ h

theorem implGetFrame_w (l : List UInt8) (v : Value) (p : Int) (w : World) (h : Sl w l v) (hi : In64 p) (hlen : l.length ≤ 1099511627776) :
    Calls Try.prog 39 #[v, .int .i64 p] w (RetG l p w) := by
  obtain ⟨a, c, rfl, hl, hcc, hlc, -⟩ := h.open
  by_cases hN : getN l p = none
  · have e1 : getF l p = none := by unfold getF; rw [hN]
    have e1 := Lib.hid e1
    go_enter Try.func39, Try.ntmps39
    go_wp2_with fail
    refine (implGetNum_w l _ p _ h hi hlen).mono ?_
    rintro e w1 ⟨rfl, hb1⟩
    rw [hN]
    simp only [numV]
    go_wp2
    refine ret_mk (.tuple #[.slice none 0 0, .int .i64 p, .bool false]) (by simp [results, Try.results39, go_sem, *]) rfl (RetG.none_mk e1.out rfl (OwnS.nil _) (by simp [Fr]) (by simp [hb1]))
  · obtain ⟨⟨n, q⟩, hN⟩ := Option.ne_none_iff_exists'.mp hN
    obtain ⟨q, rfl, hq, hn1, hn2⟩ := getN_at l p n q hN
    by_cases hbad : n < 0 ∨ 4000 < n ∨ (l.length : Int) - q < n + 4
    · have e1 : getF l p = none := by unfold getF; rw [hN]; exact if_pos hbad
      have e1 := Lib.hid e1
      have hbad' : n < 0 ∨ (0 ≤ n ∧ 4000 < n) ∨ (0 ≤ n ∧ n ≤ 4000 ∧ (l.length : Int) - q < n + 4) := by omega
      rcases hbad' with h1 | ⟨h1, h2⟩ | ⟨h1, h2, h3⟩
      all_goals
        go_enter Try.func39, Try.ntmps39
        go_wp2_with fail
        refine (implGetNum_w l _ p _ h hi hlen).mono ?_
        rintro e w1 ⟨rfl, hb1⟩
        rw [hN]
        simp only [numV]
        clear hN
        go_wp2
        refine ret_mk (.tuple #[.slice none 0 0, .int .i64 p, .bool false]) (by simp [results, Try.results39, go_sem, *]) rfl (RetG.none_mk e1.out rfl (OwnS.nil _) (by simp [Fr]) (by simp [hb1]))
    · obtain ⟨n, rfl⟩ := Int.eq_ofNat_of_zero_le (show 0 ≤ n by omega)
      have h1 : n ≤ 4000 := by omega
      have h2 : q + n + 4 ≤ l.length := by omega
      go_enter Try.func39, Try.ntmps39
      go_wp2_with fail
      refine (implGetNum_w l _ p _ h hi hlen).mono ?_
      rintro e w1 ⟨rfl, hb1⟩
      rw [hN]
      simp only [numV]
      have hin : inR (n : Int) 0 4000 = true := by simp [inR]; omega
      obtain ⟨b, o, rfl, -⟩ := h.byte 0 (by omega)
      have hp := h.part q n (by omega)
      have hp2 := h.part (q + n) 4 (by omega)
      have eF : (part l q n).length = n := part_len _ _ _ (by omega)
      have eG : getF l p = if part l (q + n) 4 = crc4 (part l q n) then some (part l q n, (q : Int) + n + 4) else none := by
        unfold getF; rw [hN]; exact (if_neg hbad).trans (by simp)
      replace eG := Lib.hid eG
      go_wp2_with fail
      refine (implIn_w _ _ _ _).mono ?_
      rintro e w2 ⟨rfl, hb2⟩
      rw [hin]
      have B2 := via (w0 := w) (by simp [hb1]) hb2
      generalize part l q n = F at *
      generalize part l (q + n) 4 = G at *
      replace hp := hp.to B2
      clear hN hin
      have hF : F.length ≤ 1099511627776 := by omega
      go_wp2_with fail
      refine (clone1_w F _ _ hp hF).mono ?_
      rintro e w3 ⟨a3, c3, fp3, rfl, ho3, hf3, hb3⟩
      rw [eF] at ho3
      rw [eF]
      have B3 := via B2 hb3
      replace hp2 := hp2.to B3
      clear hp
      replace eF := Lib.hid eF
      go_wp2_with fail
      obtain ⟨bq, hbq⟩ : ∃ bq, decide (G = crc4 F) = bq := ⟨_, rfl⟩
      replace hbq := Lib.hid hbq
      have s1 : IntKind.i64.wrap ((q : Int) + (n : Int)) = (q : Int) + n := by rw [IntKind.wrap_i64]; omega
      have s2 : IntKind.i64.wrap ((q : Int) + (n : Int) + 4) = (q : Int) + n + 4 := by rw [IntKind.wrap_i64]; omega
      have t1 : ((q : Int) + n).toNat = q + n := by omega
      have t2 : ((q : Int) + n + 4).toNat = q + n + 4 := by omega
      have t3 : 0 ≤ (q : Int) + n := by omega
      have t4 : (q : Int) + n ≤ (q : Int) + n + 4 := by omega
      have t5 : (q : Int) + n + 4 ≤ (c : Int) := by omega
      have t6 : q + n + 4 - (q + n) = 4 := by omega
      go_region_held3 (fun _ => True) (first | trivial | go_keep)
        (first | (go_at_call 65; refine (implCrc4_w F _ _ (ho3.sl.to (by simp (maxDischargeDepth := 9)))).mono ?_; rintro e w4 ⟨a4, c4, fp4, rfl, ho4, hf4, hb4⟩) | (go_at_call 72; refine (eqB_b G (crc4 F) bq hbq.out _ _ _ (hp2.to (by simp (maxDischargeDepth := 9) [via (w0 := w3) (by simp (maxDischargeDepth := 9)) hb4])) (ho4.sl.to (by simp (maxDischargeDepth := 9)))).mono ?_; rintro e w5 ⟨rfl, hb5⟩))
      have B4 := via (w0 := w) (by simp (maxDischargeDepth := 9) [B3]) hb4
      have B5 := via (w0 := w) (by simp (maxDischargeDepth := 9) [B4]) hb5
      have D4 := via (w0 := w3) (by simp (maxDischargeDepth := 9)) hb4
      have D5 := via (w0 := w3) (by simp (maxDischargeDepth := 9) [D4]) hb5
      have ho5 := ho3.below D5
      have hf5 := hf3.mono B2.size
      clear ho3 hf3 B3 B4 D4 D5 hb4 hb5 ho4 hf4 hp2 s1 s2 t1 t2 t3 t4 t5 t6
      cases bq with
      | true =>
        replace eG := Lib.hid (eG.out.trans (if_pos (of_decide_eq_true hbq.out)))
        clear hbq
        go_wp2
        refine ret_mk (.tuple #[.slice a3 n c3, .int .i64 ((q : Int) + n + 4), .bool true]) (by simp [results, Try.results39, go_sem, *]) rfl (RetG.some_mk eG.out (by rw [eF.out]) (by rw [eF.out]; exact ho5) hf5 (by simp [B5]))
      | false =>
        replace eG := Lib.hid (eG.out.trans (if_neg (of_decide_eq_false hbq.out)))
        clear hbq
        go_wp2
        refine ret_mk (.tuple #[.slice none 0 0, .int .i64 p, .bool false]) (by simp [results, Try.results39, go_sem, *]) rfl (RetG.none_mk eG.out rfl (OwnS.nil _) (by simp [Fr]) (by simp [B5]))
end Go.Proofs.Ytojlnmenfikhbaa
