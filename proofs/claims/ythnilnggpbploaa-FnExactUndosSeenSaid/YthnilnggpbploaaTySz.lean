/- Sizes of structs, as the laws count them. Printed by a program. -/
import Derived.Test.YthnilnggpbploaaTy
namespace Go.Proofs.Ythnilnggpbploaa
open Go.RowKit
open Cel (rd own rd_len rd_one own_rd own_lt rd_below rd_mono own_keep)

set_option maxRecDepth 20000 in
theorem szVal_w (x : ValD) (left : Int) (w : World) (hx : okVal x) (h0 : 0 ≤ left) (h1 : left ≤ 1048576) :
    Calls Try.prog 27 #[.agg #[.int .i64 x.K, .int .i64 x.N, .string x.S], .int .i64 left] w (RetI (szR (sznVal x) left) w) := by
  have hsz : Hid (sznVal x = x.S.size) := rfl
  obtain ⟨xK, xN, xS⟩ := hx
  have yS : x.S.size ≤ 9223372036854775807 := by simp [maxLen] at xS; omega
  clear xS
  go_enter Try.func27, Try.ntmps27
  by_cases q0 : left < (x.S.size : Nat)
  · go_wp2
    go_ret
    exact ⟨ret_int (by rw [hsz.out]; unfold szR; split <;> omega), (by simp (maxDischargeDepth := 9))⟩
  go_wp2
  go_ret
  exact ⟨ret_int (by rw [hsz.out]; unfold szR; split <;> omega), (by simp (maxDischargeDepth := 9))⟩
set_option maxRecDepth 20000 in
theorem szSVal_w (l : List ValD) (v : Value) (left : Int) (w : World) (h : Sl w l v) (h0 : 0 ≤ left) (h1 : left ≤ 1048576) :
    Calls Try.prog 24 #[v, .int .i64 left] w (RetI (szR (sznSVal l) left) w) := by
  obtain ⟨a, c, rfl, hl, -⟩ := h.open
  have hsz : Hid (sznSVal l = l.length + (l.map sznVal).sum) := rfl
  go_enter Try.func24, Try.ntmps24
  by_cases q0 : left < l.length
  · go_wp2
    go_ret
    exact ⟨ret_int (by rw [hsz.out]; unfold szR; split <;> omega), by simp⟩
  go_wp2
  go_loopw [1, 5] (fun lf i wr => Below w.heap.size w wr ∧ ∃ (k y : Nat), i = .int .i64 k ∧ lf = .int .i64 y ∧ k ≤ l.length ∧ Hid ((y : Int) + l.length + ((l.take k).map sznVal).sum = left)) (fun _ i _ => l.length - (intOf i).toNat)
  case atStart => exact ⟨Below.refl _ _, 0, (left - l.length).toNat, rfl, by congr 1; omega, by omega, by show _ = _; simp; omega⟩
  case round =>
    obtain ⟨hB, k, y, rfl, rfl, hk, hy⟩ := hrel
    by_cases hlt : k < l.length
    · obtain ⟨b, o, rfl, hbl, hok, hc⟩ := (h.to hB).atVal k hlt
      have hst := Lib.hid (sum_step sznVal l k hlt)
      have hle := Lib.hid (sum_le sznVal l (k + 1))
      generalize l[k] = x at *
      obtain ⟨c0, c1, c2⟩ := hc
      skip
      have hy2 : y ≤ 1048576 := by have := hy.out; omega
      go_wp2_with fail
      refine (szVal_w x  y _ hok  (by omega) (by omega)).mono ?_
      rintro e w1 ⟨rfl, hb1⟩
      have B1 := via hB hb1
      by_cases q1 : ((sznVal x : Nat) : Int) ≤ y
      · rw [szR_pos q1]
        go_wp2
        go_roundw
        case rel => exact ⟨B1, k + 1, y - sznVal x, by go_num, by congr 1; omega, by omega, by show _ = _; have := hy.out; have := hst.out; omega⟩
        case measure => simp [intOf]; omega
      · rw [szR_neg q1]
        go_wp2
        go_ret
        exact ⟨ret_int (by rw [hsz.out]; unfold szR; have := hy.out; have := hst.out; have := hle.out; split <;> omega), B1⟩
    · obtain rfl : k = l.length := by omega
      go_wp2
      go_ret
      exact ⟨ret_int (by rw [hsz.out]; unfold szR; have := hy.out; rw [List.take_length] at this; split <;> omega), hB⟩
set_option maxRecDepth 20000 in
theorem szFact_w (x : FactD) (v0 : Value) (left : Int) (w : World) (hx : okFact x) (s0 : Sl w x.Fields v0) (h0 : 0 ≤ left) (h1 : left ≤ 1048576) :
    Calls Try.prog 21 #[.agg #[.string x.Kind, v0], .int .i64 left] w (RetI (szR (sznFact x) left) w) := by
  obtain ⟨a0, c0, rfl, hl0, -⟩ := s0.open
  have hsz : Hid (sznFact x = x.Kind.size + sznSVal x.Fields) := rfl
  have xKind : x.Kind.size ≤ maxLen := hx
  have yKind : x.Kind.size ≤ 9223372036854775807 := by simp [maxLen] at xKind; omega
  clear xKind
  go_enter Try.func21, Try.ntmps21
  by_cases q0 : left < (x.Kind.size : Nat)
  · go_wp2
    go_ret
    exact ⟨ret_int (by rw [hsz.out]; unfold szR; split <;> omega), (by simp (maxDischargeDepth := 9))⟩
  go_wp2_with fail
  refine (szSVal_w x.Fields _ (left - (x.Kind.size : Nat)) _ (s0.to (by simp (maxDischargeDepth := 9))) (by omega) (by omega)).mono ?_
  rintro e w2 ⟨rfl, hb2⟩
  have B2 := via (w0 := w) (by simp (maxDischargeDepth := 9)) hb2
  have X2 : Bx w2 w.heap.size [.string x.Kind, (.slice a0 x.Fields.length c0)] := Bx.via (by simp (maxDischargeDepth := 9)) hb2
  have k2_0 := X2.c 0 _ rfl
  have k2_1 := X2.c 1 _ rfl
  by_cases q1 : ((sznSVal x.Fields : Nat) : Int) ≤ (left - (x.Kind.size : Nat))
  rotate_left
  · rw [szR_neg q1]
    go_wp2
    go_ret
    exact ⟨ret_int (by rw [hsz.out]; unfold szR; split <;> omega), (by simp (maxDischargeDepth := 9) [B2])⟩
  rw [szR_pos q1]
  go_wp2
  go_ret
  exact ⟨ret_int (by rw [hsz.out]; unfold szR; split <;> omega), (by simp (maxDischargeDepth := 9) [B2])⟩
set_option maxRecDepth 20000 in
theorem szCall_w (x : CallD) (v0 : Value) (left : Int) (w : World) (hx : okCall x) (s0 : Sl w x.F.Fields v0) (h0 : 0 ≤ left) (h1 : left ≤ 1048576) :
    Calls Try.prog 18 #[.agg #[.string x.Key, .string x.F.Kind, v0, .int .i64 x.Try], .int .i64 left] w (RetI (szR (sznCall x) left) w) := by
  obtain ⟨a0, c0, rfl, hl0, -⟩ := s0.open
  have hsz : Hid (sznCall x = x.Key.size + sznFact x.F) := rfl
  obtain ⟨xKey, xF, xTry⟩ := hx
  have yKey : x.Key.size ≤ 9223372036854775807 := by simp [maxLen] at xKey; omega
  clear xKey
  go_enter Try.func18, Try.ntmps18
  by_cases q0 : left < (x.Key.size : Nat)
  · go_wp2
    go_ret
    exact ⟨ret_int (by rw [hsz.out]; unfold szR; split <;> omega), (by simp (maxDischargeDepth := 9))⟩
  go_wp2_with fail
  refine (szFact_w x.F _ (left - (x.Key.size : Nat)) _ xF (s0.to (by simp (maxDischargeDepth := 9))) (by omega) (by omega)).mono ?_
  rintro e w2 ⟨rfl, hb2⟩
  have B2 := via (w0 := w) (by simp (maxDischargeDepth := 9)) hb2
  have X2 : Bx w2 w.heap.size [.string x.Key, .string x.F.Kind, (.slice a0 x.F.Fields.length c0), .int .i64 x.Try] := Bx.via (by simp (maxDischargeDepth := 9)) hb2
  have k2_0 := X2.c 0 _ rfl
  have k2_1 := X2.c 1 _ rfl
  have k2_2 := X2.c 2 _ rfl
  have k2_3 := X2.c 3 _ rfl
  by_cases q1 : ((sznFact x.F : Nat) : Int) ≤ (left - (x.Key.size : Nat))
  rotate_left
  · rw [szR_neg q1]
    go_wp2
    go_ret
    exact ⟨ret_int (by rw [hsz.out]; unfold szR; split <;> omega), (by simp (maxDischargeDepth := 9) [B2])⟩
  rw [szR_pos q1]
  go_wp2
  go_ret
  exact ⟨ret_int (by rw [hsz.out]; unfold szR; split <;> omega), (by simp (maxDischargeDepth := 9) [B2])⟩
set_option maxRecDepth 20000 in
theorem szSent_w (x : SentD) (v0 : Value) (left : Int) (w : World) (hx : okSent x) (s0 : Sl w x.C.F.Fields v0) (h0 : 0 ≤ left) (h1 : left ≤ 1048576) :
    Calls Try.prog 13 #[.agg #[.string x.Name, .string x.C.Key, .string x.C.F.Kind, v0, .int .i64 x.C.Try], .int .i64 left] w (RetI (szR (sznSent x) left) w) := by
  obtain ⟨a0, c0, rfl, hl0, -⟩ := s0.open
  have hsz : Hid (sznSent x = x.Name.size + sznCall x.C) := rfl
  obtain ⟨xName, xC⟩ := hx
  have yName : x.Name.size ≤ 9223372036854775807 := by simp [maxLen] at xName; omega
  clear xName
  go_enter Try.func13, Try.ntmps13
  by_cases q0 : left < (x.Name.size : Nat)
  · go_wp2
    go_ret
    exact ⟨ret_int (by rw [hsz.out]; unfold szR; split <;> omega), (by simp (maxDischargeDepth := 9))⟩
  go_wp2_with fail
  refine (szCall_w x.C _ (left - (x.Name.size : Nat)) _ xC (s0.to (by simp (maxDischargeDepth := 9))) (by omega) (by omega)).mono ?_
  rintro e w2 ⟨rfl, hb2⟩
  have B2 := via (w0 := w) (by simp (maxDischargeDepth := 9)) hb2
  have X2 : Bx w2 w.heap.size [.string x.Name, .string x.C.Key, .string x.C.F.Kind, (.slice a0 x.C.F.Fields.length c0), .int .i64 x.C.Try] := Bx.via (by simp (maxDischargeDepth := 9)) hb2
  have k2_0 := X2.c 0 _ rfl
  have k2_1 := X2.c 1 _ rfl
  have k2_2 := X2.c 2 _ rfl
  have k2_3 := X2.c 3 _ rfl
  have k2_4 := X2.c 4 _ rfl
  by_cases q1 : ((sznCall x.C : Nat) : Int) ≤ (left - (x.Name.size : Nat))
  rotate_left
  · rw [szR_neg q1]
    go_wp2
    go_ret
    exact ⟨ret_int (by rw [hsz.out]; unfold szR; split <;> omega), (by simp (maxDischargeDepth := 9) [B2])⟩
  rw [szR_pos q1]
  go_wp2
  go_ret
  exact ⟨ret_int (by rw [hsz.out]; unfold szR; split <;> omega), (by simp (maxDischargeDepth := 9) [B2])⟩
set_option maxRecDepth 20000 in
theorem szSSent_w (l : List SentD) (v : Value) (left : Int) (w : World) (h : Sl w l v) (h0 : 0 ≤ left) (h1 : left ≤ 1048576) :
    Calls Try.prog 4 #[v, .int .i64 left] w (RetI (szR (sznSSent l) left) w) := by
  obtain ⟨a, c, rfl, hl, -⟩ := h.open
  have hsz : Hid (sznSSent l = l.length + (l.map sznSent).sum) := rfl
  go_enter Try.func4, Try.ntmps4
  by_cases q0 : left < l.length
  · go_wp2
    go_ret
    exact ⟨ret_int (by rw [hsz.out]; unfold szR; split <;> omega), by simp⟩
  go_wp2
  go_loopw [1, 5] (fun lf i wr => Below w.heap.size w wr ∧ ∃ (k y : Nat), i = .int .i64 k ∧ lf = .int .i64 y ∧ k ≤ l.length ∧ Hid ((y : Int) + l.length + ((l.take k).map sznSent).sum = left)) (fun _ i _ => l.length - (intOf i).toNat)
  case atStart => exact ⟨Below.refl _ _, 0, (left - l.length).toNat, rfl, by congr 1; omega, by omega, by show _ = _; simp; omega⟩
  case round =>
    obtain ⟨hB, k, y, rfl, rfl, hk, hy⟩ := hrel
    by_cases hlt : k < l.length
    · obtain ⟨b, o, v0, rfl, hbl, hok, hc, s0⟩ := (h.to hB).atSent k hlt
      have hst := Lib.hid (sum_step sznSent l k hlt)
      have hle := Lib.hid (sum_le sznSent l (k + 1))
      generalize l[k] = x at *
      obtain ⟨c0, c1, c2, c3, c4⟩ := hc
      obtain ⟨a0, p0, rfl, hl0, -⟩ := s0.open
      have hy2 : y ≤ 1048576 := by have := hy.out; omega
      go_wp2_with fail
      refine (szSent_w x _ y _ hok s0 (by omega) (by omega)).mono ?_
      rintro e w1 ⟨rfl, hb1⟩
      have B1 := via hB hb1
      by_cases q1 : ((sznSent x : Nat) : Int) ≤ y
      · rw [szR_pos q1]
        go_wp2
        go_roundw
        case rel => exact ⟨B1, k + 1, y - sznSent x, by go_num, by congr 1; omega, by omega, by show _ = _; have := hy.out; have := hst.out; omega⟩
        case measure => simp [intOf]; omega
      · rw [szR_neg q1]
        go_wp2
        go_ret
        exact ⟨ret_int (by rw [hsz.out]; unfold szR; have := hy.out; have := hst.out; have := hle.out; split <;> omega), B1⟩
    · obtain rfl : k = l.length := by omega
      go_wp2
      go_ret
      exact ⟨ret_int (by rw [hsz.out]; unfold szR; have := hy.out; rw [List.take_length] at this; split <;> omega), hB⟩
end Go.Proofs.Ythnilnggpbploaa
