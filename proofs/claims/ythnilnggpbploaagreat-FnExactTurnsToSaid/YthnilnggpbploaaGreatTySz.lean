/- Sizes of structs, as the laws count them. Printed by a program. -/
import Derived.Test.YthnilnggpbploaaGreatTy
import Derived.Test.YthnilnggpbploaaGreatIntS
namespace Go.Proofs.YthnilnggpbploaaGreat
open Go.RowKit
open Cel (rd own rd_len rd_one own_rd own_lt rd_below rd_mono own_keep)

set_option maxRecDepth 20000 in
theorem szVal_w (x : ValD) (left : Int) (w : World) (hx : okVal x) (h0 : 0 ≤ left) (h1 : left ≤ 1048576) :
    Calls Tryz.prog 398 #[.agg #[.int .i64 x.K, .int .i64 x.N, .string x.S], .int .i64 left] w (RetI (szR (sznVal x) left) w) := by
  have hsz : Hid (sznVal x = x.S.size) := rfl
  obtain ⟨xK, xN, xS⟩ := hx
  have yS : x.S.size ≤ 9223372036854775807 := by simp [maxLen] at xS; omega
  clear xS
  go_enter Tryz.func398, Tryz.ntmps398
  by_cases q0 : left < (x.S.size : Nat)
  · go_wp2
    go_ret
    exact ⟨ret_int (by rw [hsz.out]; unfold szR; split <;> omega), (by simp (maxDischargeDepth := 9))⟩
  go_wp2
  go_ret
  exact ⟨ret_int (by rw [hsz.out]; unfold szR; split <;> omega), (by simp (maxDischargeDepth := 9))⟩
set_option maxRecDepth 20000 in
theorem szSVal_w (l : List ValD) (v : Value) (left : Int) (w : World) (h : Sl w l v) (h0 : 0 ≤ left) (h1 : left ≤ 1048576) :
    Calls Tryz.prog 442 #[v, .int .i64 left] w (RetI (szR (sznSVal l) left) w) := by
  obtain ⟨a, c, rfl, hl, -⟩ := h.open
  have hsz : Hid (sznSVal l = l.length + (l.map sznVal).sum) := rfl
  go_enter Tryz.func442, Tryz.ntmps442
  by_cases q0 : left < l.length
  · go_wp2
    go_ret
    exact ⟨ret_int (by rw [hsz.out]; unfold szR; split <;> omega), by simp⟩
  go_wp2
  go_loopw [1, 5] (fun lf i wr => Below w.heap.size w wr ∧ ∃ (k y : Nat), i = .int .i64 k ∧ lf = .int .i64 y ∧ k ≤ l.length ∧ Hid ((y : Int) + l.length + ((l.take k).map sznVal).sum = left)) (fun _ i _ => l.length - (intOf i).toNat)
  case atStart => exact ⟨Below.refl _ _, 0, (left - l.length).toNat, rfl, by congr 1; omega, by omega, by show _ = _; simp; omega⟩
  case round =>
    obtain ⟨hB, k, y, rfl, rfl, hk, hy⟩ := hrel
    by_cases hlt : k < l.length
    · obtain ⟨b, o, rfl, hbl, hok, hc⟩ := (h.to hB).atVal k hlt
      have hst := Lib.hid (sum_step sznVal l k hlt)
      have hle := Lib.hid (sum_le sznVal l (k + 1))
      generalize l[k] = x at *
      obtain ⟨c0, c1, c2⟩ := hc
      skip
      have hy2 : y ≤ 1048576 := by have := hy.out; omega
      go_wp2_with fail
      refine (szVal_w x  y _ hok  (by omega) (by omega)).mono ?_
      rintro e w1 ⟨rfl, hb1⟩
      have B1 := via hB hb1
      by_cases q1 : ((sznVal x : Nat) : Int) ≤ y
      · rw [szR_pos q1]
        go_wp2
        go_roundw
        case rel => exact ⟨B1, k + 1, y - sznVal x, by go_num, by congr 1; omega, by omega, by show _ = _; have := hy.out; have := hst.out; omega⟩
        case measure => simp [intOf]; omega
      · rw [szR_neg q1]
        go_wp2
        go_ret
        exact ⟨ret_int (by rw [hsz.out]; unfold szR; have := hy.out; have := hst.out; have := hle.out; split <;> omega), B1⟩
    · obtain rfl : k = l.length := by omega
      go_wp2
      go_ret
      exact ⟨ret_int (by rw [hsz.out]; unfold szR; have := hy.out; rw [List.take_length] at this; split <;> omega), hB⟩
set_option maxRecDepth 20000 in
theorem szFact_w (x : FactD) (v0 : Value) (left : Int) (w : World) (hx : okFact x) (s0 : Sl w x.Fields v0) (h0 : 0 ≤ left) (h1 : left ≤ 1048576) :
    Calls Tryz.prog 397 #[.agg #[.string x.Kind, v0], .int .i64 left] w (RetI (szR (sznFact x) left) w) := by
  obtain ⟨a0, c0, rfl, hl0, -⟩ := s0.open
  have hsz : Hid (sznFact x = x.Kind.size + sznSVal x.Fields) := rfl
  have xKind : x.Kind.size ≤ maxLen := hx
  have yKind : x.Kind.size ≤ 9223372036854775807 := by simp [maxLen] at xKind; omega
  clear xKind
  go_enter Tryz.func397, Tryz.ntmps397
  by_cases q0 : left < (x.Kind.size : Nat)
  · go_wp2
    go_ret
    exact ⟨ret_int (by rw [hsz.out]; unfold szR; split <;> omega), (by simp (maxDischargeDepth := 9))⟩
  go_wp2_with fail
  refine (szSVal_w x.Fields _ (left - (x.Kind.size : Nat)) _ (s0.to (by simp (maxDischargeDepth := 9))) (by omega) (by omega)).mono ?_
  rintro e w2 ⟨rfl, hb2⟩
  have B2 := via (w0 := w) (by simp (maxDischargeDepth := 9)) hb2
  have X2 : Bx w2 w.heap.size [.string x.Kind, (.slice a0 x.Fields.length c0)] := Bx.via (by simp (maxDischargeDepth := 9)) hb2
  have k2_0 := X2.c 0 _ rfl
  have k2_1 := X2.c 1 _ rfl
  by_cases q1 : ((sznSVal x.Fields : Nat) : Int) ≤ (left - (x.Kind.size : Nat))
  rotate_left
  · rw [szR_neg q1]
    go_wp2
    go_ret
    exact ⟨ret_int (by rw [hsz.out]; unfold szR; split <;> omega), (by simp (maxDischargeDepth := 9) [B2])⟩
  rw [szR_pos q1]
  go_wp2
  go_ret
  exact ⟨ret_int (by rw [hsz.out]; unfold szR; split <;> omega), (by simp (maxDischargeDepth := 9) [B2])⟩
set_option maxRecDepth 20000 in
theorem szItem_w (x : ItemD) (v0 : Value) (left : Int) (w : World) (hx : okItem x) (s0 : Sl w x.F.Fields v0) (h0 : 0 ≤ left) (h1 : left ≤ 1048576) :
    Calls Tryz.prog 394 #[.agg #[.int .i64 x.Id, .string x.F.Kind, v0], .int .i64 left] w (RetI (szR (sznItem x) left) w) := by
  obtain ⟨a0, c0, rfl, hl0, -⟩ := s0.open
  have hsz : Hid (sznItem x = sznFact x.F) := rfl
  obtain ⟨xId, xF⟩ := hx
  go_enter Tryz.func394, Tryz.ntmps394
  go_wp2_with fail
  refine (szFact_w x.F _ left _ xF (s0.to (by simp (maxDischargeDepth := 9))) (by omega) (by omega)).mono ?_
  rintro e w1 ⟨rfl, hb1⟩
  have B1 := via (w0 := w) (by simp (maxDischargeDepth := 9)) hb1
  have X1 : Bx w1 w.heap.size [.int .i64 x.Id, .string x.F.Kind, (.slice a0 x.F.Fields.length c0)] := Bx.via (by simp (maxDischargeDepth := 9)) hb1
  have k1_0 := X1.c 0 _ rfl
  have k1_1 := X1.c 1 _ rfl
  have k1_2 := X1.c 2 _ rfl
  by_cases q0 : ((sznFact x.F : Nat) : Int) ≤ left
  rotate_left
  · rw [szR_neg q0]
    go_wp2
    go_ret
    exact ⟨ret_int (by rw [hsz.out]; unfold szR; split <;> omega), (by simp (maxDischargeDepth := 9) [B1])⟩
  rw [szR_pos q0]
  go_wp2
  go_ret
  exact ⟨ret_int (by rw [hsz.out]; unfold szR; split <;> omega), (by simp (maxDischargeDepth := 9) [B1])⟩
set_option maxRecDepth 20000 in
theorem szSItem_w (l : List ItemD) (v : Value) (left : Int) (w : World) (h : Sl w l v) (h0 : 0 ≤ left) (h1 : left ≤ 1048576) :
    Calls Tryz.prog 325 #[v, .int .i64 left] w (RetI (szR (sznSItem l) left) w) := by
  obtain ⟨a, c, rfl, hl, -⟩ := h.open
  have hsz : Hid (sznSItem l = l.length + (l.map sznItem).sum) := rfl
  go_enter Tryz.func325, Tryz.ntmps325
  by_cases q0 : left < l.length
  · go_wp2
    go_ret
    exact ⟨ret_int (by rw [hsz.out]; unfold szR; split <;> omega), by simp⟩
  go_wp2
  go_loopw [1, 5] (fun lf i wr => Below w.heap.size w wr ∧ ∃ (k y : Nat), i = .int .i64 k ∧ lf = .int .i64 y ∧ k ≤ l.length ∧ Hid ((y : Int) + l.length + ((l.take k).map sznItem).sum = left)) (fun _ i _ => l.length - (intOf i).toNat)
  case atStart => exact ⟨Below.refl _ _, 0, (left - l.length).toNat, rfl, by congr 1; omega, by omega, by show _ = _; simp; omega⟩
  case round =>
    obtain ⟨hB, k, y, rfl, rfl, hk, hy⟩ := hrel
    by_cases hlt : k < l.length
    · obtain ⟨b, o, v0, rfl, hbl, hok, hc, s0⟩ := (h.to hB).atItem k hlt
      have hst := Lib.hid (sum_step sznItem l k hlt)
      have hle := Lib.hid (sum_le sznItem l (k + 1))
      generalize l[k] = x at *
      obtain ⟨c0, c1, c2⟩ := hc
      obtain ⟨a0, p0, rfl, hl0, -⟩ := s0.open
      have hy2 : y ≤ 1048576 := by have := hy.out; omega
      go_wp2_with fail
      refine (szItem_w x _ y _ hok s0 (by omega) (by omega)).mono ?_
      rintro e w1 ⟨rfl, hb1⟩
      have B1 := via hB hb1
      by_cases q1 : ((sznItem x : Nat) : Int) ≤ y
      · rw [szR_pos q1]
        go_wp2
        go_roundw
        case rel => exact ⟨B1, k + 1, y - sznItem x, by go_num, by congr 1; omega, by omega, by show _ = _; have := hy.out; have := hst.out; omega⟩
        case measure => simp [intOf]; omega
      · rw [szR_neg q1]
        go_wp2
        go_ret
        exact ⟨ret_int (by rw [hsz.out]; unfold szR; have := hy.out; have := hst.out; have := hle.out; split <;> omega), B1⟩
    · obtain rfl : k = l.length := by omega
      go_wp2
      go_ret
      exact ⟨ret_int (by rw [hsz.out]; unfold szR; have := hy.out; rw [List.take_length] at this; split <;> omega), hB⟩
set_option maxRecDepth 20000 in
theorem szStore_w (x : StoreD) (v0 : Value) (left : Int) (w : World) (hx : okStore x) (s0 : Sl w x.Items v0) (h0 : 0 ≤ left) (h1 : left ≤ 1048576) :
    Calls Tryz.prog 233 #[.agg #[v0, .int .i64 x.Next], .int .i64 left] w (RetI (szR (sznStore x) left) w) := by
  obtain ⟨a0, c0, rfl, hl0, -⟩ := s0.open
  have hsz : Hid (sznStore x = sznSItem x.Items) := rfl
  have xNext : In64 x.Next := hx
  go_enter Tryz.func233, Tryz.ntmps233
  go_wp2_with fail
  refine (szSItem_w x.Items _ left _ (s0.to (by simp (maxDischargeDepth := 9))) (by omega) (by omega)).mono ?_
  rintro e w1 ⟨rfl, hb1⟩
  have B1 := via (w0 := w) (by simp (maxDischargeDepth := 9)) hb1
  have X1 : Bx w1 w.heap.size [(.slice a0 x.Items.length c0), .int .i64 x.Next] := Bx.via (by simp (maxDischargeDepth := 9)) hb1
  have k1_0 := X1.c 0 _ rfl
  have k1_1 := X1.c 1 _ rfl
  by_cases q0 : ((sznSItem x.Items : Nat) : Int) ≤ left
  rotate_left
  · rw [szR_neg q0]
    go_wp2
    go_ret
    exact ⟨ret_int (by rw [hsz.out]; unfold szR; split <;> omega), (by simp (maxDischargeDepth := 9) [B1])⟩
  rw [szR_pos q0]
  go_wp2
  go_ret
  exact ⟨ret_int (by rw [hsz.out]; unfold szR; split <;> omega), (by simp (maxDischargeDepth := 9) [B1])⟩
set_option maxRecDepth 20000 in
theorem szArg_w (x : ArgD) (left : Int) (w : World) (hx : okArg x) (h0 : 0 ≤ left) (h1 : left ≤ 1048576) :
    Calls Tryz.prog 439 #[.agg #[.int .i64 x.K, .string x.S, .int .i64 x.V.K, .int .i64 x.V.N, .string x.V.S], .int .i64 left] w (RetI (szR (sznArg x) left) w) := by
  have hsz : Hid (sznArg x = x.S.size + sznVal x.V) := rfl
  obtain ⟨xK, xS, xV⟩ := hx
  have yS : x.S.size ≤ 9223372036854775807 := by simp [maxLen] at xS; omega
  clear xS
  go_enter Tryz.func439, Tryz.ntmps439
  by_cases q0 : left < (x.S.size : Nat)
  · go_wp2
    go_ret
    exact ⟨ret_int (by rw [hsz.out]; unfold szR; split <;> omega), (by simp (maxDischargeDepth := 9))⟩
  go_wp2_with fail
  refine (szVal_w x.V  (left - (x.S.size : Nat)) _ xV  (by omega) (by omega)).mono ?_
  rintro e w2 ⟨rfl, hb2⟩
  have B2 := via (w0 := w) (by simp (maxDischargeDepth := 9)) hb2
  have X2 : Bx w2 w.heap.size [.int .i64 x.K, .string x.S, .int .i64 x.V.K, .int .i64 x.V.N, .string x.V.S] := Bx.via (by simp (maxDischargeDepth := 9)) hb2
  have k2_0 := X2.c 0 _ rfl
  have k2_1 := X2.c 1 _ rfl
  have k2_2 := X2.c 2 _ rfl
  have k2_3 := X2.c 3 _ rfl
  have k2_4 := X2.c 4 _ rfl
  by_cases q1 : ((sznVal x.V : Nat) : Int) ≤ (left - (x.S.size : Nat))
  rotate_left
  · rw [szR_neg q1]
    go_wp2
    go_ret
    exact ⟨ret_int (by rw [hsz.out]; unfold szR; split <;> omega), (by simp (maxDischargeDepth := 9) [B2])⟩
  rw [szR_pos q1]
  go_wp2
  go_ret
  exact ⟨ret_int (by rw [hsz.out]; unfold szR; split <;> omega), (by simp (maxDischargeDepth := 9) [B2])⟩
set_option maxRecDepth 20000 in
theorem szSArg_w (l : List ArgD) (v : Value) (left : Int) (w : World) (h : Sl w l v) (h0 : 0 ≤ left) (h1 : left ≤ 1048576) :
    Calls Tryz.prog 438 #[v, .int .i64 left] w (RetI (szR (sznSArg l) left) w) := by
  obtain ⟨a, c, rfl, hl, -⟩ := h.open
  have hsz : Hid (sznSArg l = l.length + (l.map sznArg).sum) := rfl
  go_enter Tryz.func438, Tryz.ntmps438
  by_cases q0 : left < l.length
  · go_wp2
    go_ret
    exact ⟨ret_int (by rw [hsz.out]; unfold szR; split <;> omega), by simp⟩
  go_wp2
  go_loopw [1, 5] (fun lf i wr => Below w.heap.size w wr ∧ ∃ (k y : Nat), i = .int .i64 k ∧ lf = .int .i64 y ∧ k ≤ l.length ∧ Hid ((y : Int) + l.length + ((l.take k).map sznArg).sum = left)) (fun _ i _ => l.length - (intOf i).toNat)
  case atStart => exact ⟨Below.refl _ _, 0, (left - l.length).toNat, rfl, by congr 1; omega, by omega, by show _ = _; simp; omega⟩
  case round =>
    obtain ⟨hB, k, y, rfl, rfl, hk, hy⟩ := hrel
    by_cases hlt : k < l.length
    · obtain ⟨b, o, rfl, hbl, hok, hc⟩ := (h.to hB).atArg k hlt
      have hst := Lib.hid (sum_step sznArg l k hlt)
      have hle := Lib.hid (sum_le sznArg l (k + 1))
      generalize l[k] = x at *
      obtain ⟨c0, c1, c2, c3, c4⟩ := hc
      skip
      have hy2 : y ≤ 1048576 := by have := hy.out; omega
      go_wp2_with fail
      refine (szArg_w x  y _ hok  (by omega) (by omega)).mono ?_
      rintro e w1 ⟨rfl, hb1⟩
      have B1 := via hB hb1
      by_cases q1 : ((sznArg x : Nat) : Int) ≤ y
      · rw [szR_pos q1]
        go_wp2
        go_roundw
        case rel => exact ⟨B1, k + 1, y - sznArg x, by go_num, by congr 1; omega, by omega, by show _ = _; have := hy.out; have := hst.out; omega⟩
        case measure => simp [intOf]; omega
      · rw [szR_neg q1]
        go_wp2
        go_ret
        exact ⟨ret_int (by rw [hsz.out]; unfold szR; have := hy.out; have := hst.out; have := hle.out; split <;> omega), B1⟩
    · obtain rfl : k = l.length := by omega
      go_wp2
      go_ret
      exact ⟨ret_int (by rw [hsz.out]; unfold szR; have := hy.out; rw [List.take_length] at this; split <;> omega), hB⟩
set_option maxRecDepth 20000 in
theorem szPat_w (x : PatD) (v0 : Value) (left : Int) (w : World) (hx : okPat x) (s0 : Sl w x.Args v0) (h0 : 0 ≤ left) (h1 : left ≤ 1048576) :
    Calls Tryz.prog 391 #[.agg #[.string x.Kind, v0, .bool x.Not], .int .i64 left] w (RetI (szR (sznPat x) left) w) := by
  obtain ⟨a0, c0, rfl, hl0, -⟩ := s0.open
  have hsz : Hid (sznPat x = x.Kind.size + sznSArg x.Args) := rfl
  have xKind : x.Kind.size ≤ maxLen := hx
  have yKind : x.Kind.size ≤ 9223372036854775807 := by simp [maxLen] at xKind; omega
  clear xKind
  go_enter Tryz.func391, Tryz.ntmps391
  by_cases q0 : left < (x.Kind.size : Nat)
  · go_wp2
    go_ret
    exact ⟨ret_int (by rw [hsz.out]; unfold szR; split <;> omega), (by simp (maxDischargeDepth := 9))⟩
  go_wp2_with fail
  refine (szSArg_w x.Args _ (left - (x.Kind.size : Nat)) _ (s0.to (by simp (maxDischargeDepth := 9))) (by omega) (by omega)).mono ?_
  rintro e w2 ⟨rfl, hb2⟩
  have B2 := via (w0 := w) (by simp (maxDischargeDepth := 9)) hb2
  have X2 : Bx w2 w.heap.size [.string x.Kind, (.slice a0 x.Args.length c0), .bool x.Not] := Bx.via (by simp (maxDischargeDepth := 9)) hb2
  have k2_0 := X2.c 0 _ rfl
  have k2_1 := X2.c 1 _ rfl
  have k2_2 := X2.c 2 _ rfl
  by_cases q1 : ((sznSArg x.Args : Nat) : Int) ≤ (left - (x.Kind.size : Nat))
  rotate_left
  · rw [szR_neg q1]
    go_wp2
    go_ret
    exact ⟨ret_int (by rw [hsz.out]; unfold szR; split <;> omega), (by simp (maxDischargeDepth := 9) [B2])⟩
  rw [szR_pos q1]
  go_wp2
  go_ret
  exact ⟨ret_int (by rw [hsz.out]; unfold szR; split <;> omega), (by simp (maxDischargeDepth := 9) [B2])⟩
set_option maxRecDepth 20000 in
theorem szSPat_w (l : List PatD) (v : Value) (left : Int) (w : World) (h : Sl w l v) (h0 : 0 ≤ left) (h1 : left ≤ 1048576) :
    Calls Tryz.prog 322 #[v, .int .i64 left] w (RetI (szR (sznSPat l) left) w) := by
  obtain ⟨a, c, rfl, hl, -⟩ := h.open
  have hsz : Hid (sznSPat l = l.length + (l.map sznPat).sum) := rfl
  go_enter Tryz.func322, Tryz.ntmps322
  by_cases q0 : left < l.length
  · go_wp2
    go_ret
    exact ⟨ret_int (by rw [hsz.out]; unfold szR; split <;> omega), by simp⟩
  go_wp2
  go_loopw [1, 5] (fun lf i wr => Below w.heap.size w wr ∧ ∃ (k y : Nat), i = .int .i64 k ∧ lf = .int .i64 y ∧ k ≤ l.length ∧ Hid ((y : Int) + l.length + ((l.take k).map sznPat).sum = left)) (fun _ i _ => l.length - (intOf i).toNat)
  case atStart => exact ⟨Below.refl _ _, 0, (left - l.length).toNat, rfl, by congr 1; omega, by omega, by show _ = _; simp; omega⟩
  case round =>
    obtain ⟨hB, k, y, rfl, rfl, hk, hy⟩ := hrel
    by_cases hlt : k < l.length
    · obtain ⟨b, o, v0, rfl, hbl, hok, hc, s0⟩ := (h.to hB).atPat k hlt
      have hst := Lib.hid (sum_step sznPat l k hlt)
      have hle := Lib.hid (sum_le sznPat l (k + 1))
      generalize l[k] = x at *
      obtain ⟨c0, c1, c2⟩ := hc
      obtain ⟨a0, p0, rfl, hl0, -⟩ := s0.open
      have hy2 : y ≤ 1048576 := by have := hy.out; omega
      go_wp2_with fail
      refine (szPat_w x _ y _ hok s0 (by omega) (by omega)).mono ?_
      rintro e w1 ⟨rfl, hb1⟩
      have B1 := via hB hb1
      by_cases q1 : ((sznPat x : Nat) : Int) ≤ y
      · rw [szR_pos q1]
        go_wp2
        go_roundw
        case rel => exact ⟨B1, k + 1, y - sznPat x, by go_num, by congr 1; omega, by omega, by show _ = _; have := hy.out; have := hst.out; omega⟩
        case measure => simp [intOf]; omega
      · rw [szR_neg q1]
        go_wp2
        go_ret
        exact ⟨ret_int (by rw [hsz.out]; unfold szR; have := hy.out; have := hst.out; have := hle.out; split <;> omega), B1⟩
    · obtain rfl : k = l.length := by omega
      go_wp2
      go_ret
      exact ⟨ret_int (by rw [hsz.out]; unfold szR; have := hy.out; rw [List.take_length] at this; split <;> omega), hB⟩
set_option maxRecDepth 20000 in
theorem szBind_w (x : BindD) (left : Int) (w : World) (hx : okBind x) (h0 : 0 ≤ left) (h1 : left ≤ 1048576) :
    Calls Tryz.prog 441 #[.agg #[.string x.Name, .int .i64 x.V.K, .int .i64 x.V.N, .string x.V.S], .int .i64 left] w (RetI (szR (sznBind x) left) w) := by
  have hsz : Hid (sznBind x = x.Name.size + sznVal x.V) := rfl
  obtain ⟨xName, xV⟩ := hx
  have yName : x.Name.size ≤ 9223372036854775807 := by simp [maxLen] at xName; omega
  clear xName
  go_enter Tryz.func441, Tryz.ntmps441
  by_cases q0 : left < (x.Name.size : Nat)
  · go_wp2
    go_ret
    exact ⟨ret_int (by rw [hsz.out]; unfold szR; split <;> omega), (by simp (maxDischargeDepth := 9))⟩
  go_wp2_with fail
  refine (szVal_w x.V  (left - (x.Name.size : Nat)) _ xV  (by omega) (by omega)).mono ?_
  rintro e w2 ⟨rfl, hb2⟩
  have B2 := via (w0 := w) (by simp (maxDischargeDepth := 9)) hb2
  have X2 : Bx w2 w.heap.size [.string x.Name, .int .i64 x.V.K, .int .i64 x.V.N, .string x.V.S] := Bx.via (by simp (maxDischargeDepth := 9)) hb2
  have k2_0 := X2.c 0 _ rfl
  have k2_1 := X2.c 1 _ rfl
  have k2_2 := X2.c 2 _ rfl
  have k2_3 := X2.c 3 _ rfl
  by_cases q1 : ((sznVal x.V : Nat) : Int) ≤ (left - (x.Name.size : Nat))
  rotate_left
  · rw [szR_neg q1]
    go_wp2
    go_ret
    exact ⟨ret_int (by rw [hsz.out]; unfold szR; split <;> omega), (by simp (maxDischargeDepth := 9) [B2])⟩
  rw [szR_pos q1]
  go_wp2
  go_ret
  exact ⟨ret_int (by rw [hsz.out]; unfold szR; split <;> omega), (by simp (maxDischargeDepth := 9) [B2])⟩
set_option maxRecDepth 20000 in
theorem szSBind_w (l : List BindD) (v : Value) (left : Int) (w : World) (h : Sl w l v) (h0 : 0 ≤ left) (h1 : left ≤ 1048576) :
    Calls Tryz.prog 396 #[v, .int .i64 left] w (RetI (szR (sznSBind l) left) w) := by
  obtain ⟨a, c, rfl, hl, -⟩ := h.open
  have hsz : Hid (sznSBind l = l.length + (l.map sznBind).sum) := rfl
  go_enter Tryz.func396, Tryz.ntmps396
  by_cases q0 : left < l.length
  · go_wp2
    go_ret
    exact ⟨ret_int (by rw [hsz.out]; unfold szR; split <;> omega), by simp⟩
  go_wp2
  go_loopw [1, 5] (fun lf i wr => Below w.heap.size w wr ∧ ∃ (k y : Nat), i = .int .i64 k ∧ lf = .int .i64 y ∧ k ≤ l.length ∧ Hid ((y : Int) + l.length + ((l.take k).map sznBind).sum = left)) (fun _ i _ => l.length - (intOf i).toNat)
  case atStart => exact ⟨Below.refl _ _, 0, (left - l.length).toNat, rfl, by congr 1; omega, by omega, by show _ = _; simp; omega⟩
  case round =>
    obtain ⟨hB, k, y, rfl, rfl, hk, hy⟩ := hrel
    by_cases hlt : k < l.length
    · obtain ⟨b, o, rfl, hbl, hok, hc⟩ := (h.to hB).atBind k hlt
      have hst := Lib.hid (sum_step sznBind l k hlt)
      have hle := Lib.hid (sum_le sznBind l (k + 1))
      generalize l[k] = x at *
      obtain ⟨c0, c1, c2, c3⟩ := hc
      skip
      have hy2 : y ≤ 1048576 := by have := hy.out; omega
      go_wp2_with fail
      refine (szBind_w x  y _ hok  (by omega) (by omega)).mono ?_
      rintro e w1 ⟨rfl, hb1⟩
      have B1 := via hB hb1
      by_cases q1 : ((sznBind x : Nat) : Int) ≤ y
      · rw [szR_pos q1]
        go_wp2
        go_roundw
        case rel => exact ⟨B1, k + 1, y - sznBind x, by go_num, by congr 1; omega, by omega, by show _ = _; have := hy.out; have := hst.out; omega⟩
        case measure => simp [intOf]; omega
      · rw [szR_neg q1]
        go_wp2
        go_ret
        exact ⟨ret_int (by rw [hsz.out]; unfold szR; have := hy.out; have := hst.out; have := hle.out; split <;> omega), B1⟩
    · obtain rfl : k = l.length := by omega
      go_wp2
      go_ret
      exact ⟨ret_int (by rw [hsz.out]; unfold szR; have := hy.out; rw [List.take_length] at this; split <;> omega), hB⟩
set_option maxRecDepth 20000 in
theorem szCond_w (x : CondD) (left : Int) (w : World) (hx : okCond x) (h0 : 0 ≤ left) (h1 : left ≤ 1048576) :
    Calls Tryz.prog 392 #[.agg #[.int .i64 x.Op, .int .i64 x.L.K, .string x.L.S, .int .i64 x.L.V.K, .int .i64 x.L.V.N, .string x.L.V.S, .int .i64 x.R.K, .string x.R.S, .int .i64 x.R.V.K, .int .i64 x.R.V.N, .string x.R.V.S], .int .i64 left] w (RetI (szR (sznCond x) left) w) := by
  have hsz : Hid (sznCond x = sznArg x.L + sznArg x.R) := rfl
  obtain ⟨xOp, xL, xR⟩ := hx
  go_enter Tryz.func392, Tryz.ntmps392
  go_wp2_with fail
  refine (szArg_w x.L  left _ xL  (by omega) (by omega)).mono ?_
  rintro e w1 ⟨rfl, hb1⟩
  have B1 := via (w0 := w) (by simp (maxDischargeDepth := 9)) hb1
  have X1 : Bx w1 w.heap.size [.int .i64 x.Op, .int .i64 x.L.K, .string x.L.S, .int .i64 x.L.V.K, .int .i64 x.L.V.N, .string x.L.V.S, .int .i64 x.R.K, .string x.R.S, .int .i64 x.R.V.K, .int .i64 x.R.V.N, .string x.R.V.S] := Bx.via (by simp (maxDischargeDepth := 9)) hb1
  have k1_0 := X1.c 0 _ rfl
  have k1_1 := X1.c 1 _ rfl
  have k1_2 := X1.c 2 _ rfl
  have k1_3 := X1.c 3 _ rfl
  have k1_4 := X1.c 4 _ rfl
  have k1_5 := X1.c 5 _ rfl
  have k1_6 := X1.c 6 _ rfl
  have k1_7 := X1.c 7 _ rfl
  have k1_8 := X1.c 8 _ rfl
  have k1_9 := X1.c 9 _ rfl
  have k1_10 := X1.c 10 _ rfl
  by_cases q0 : ((sznArg x.L : Nat) : Int) ≤ left
  rotate_left
  · rw [szR_neg q0]
    go_wp2
    go_ret
    exact ⟨ret_int (by rw [hsz.out]; unfold szR; split <;> omega), (by simp (maxDischargeDepth := 9) [B1])⟩
  rw [szR_pos q0]
  go_wp2_with fail
  refine (szArg_w x.R  (left - (sznArg x.L : Nat)) _ xR  (by omega) (by omega)).mono ?_
  rintro e w2 ⟨rfl, hb2⟩
  have B2 := via (w0 := w) (by simp (maxDischargeDepth := 9) [B1]) hb2
  have X2 : Bx w2 w.heap.size [.int .i64 x.Op, .int .i64 x.L.K, .string x.L.S, .int .i64 x.L.V.K, .int .i64 x.L.V.N, .string x.L.V.S, .int .i64 x.R.K, .string x.R.S, .int .i64 x.R.V.K, .int .i64 x.R.V.N, .string x.R.V.S] := Bx.via (by simp (maxDischargeDepth := 9) [X1]) hb2
  have k2_0 := X2.c 0 _ rfl
  have k2_1 := X2.c 1 _ rfl
  have k2_2 := X2.c 2 _ rfl
  have k2_3 := X2.c 3 _ rfl
  have k2_4 := X2.c 4 _ rfl
  have k2_5 := X2.c 5 _ rfl
  have k2_6 := X2.c 6 _ rfl
  have k2_7 := X2.c 7 _ rfl
  have k2_8 := X2.c 8 _ rfl
  have k2_9 := X2.c 9 _ rfl
  have k2_10 := X2.c 10 _ rfl
  by_cases q1 : ((sznArg x.R : Nat) : Int) ≤ (left - (sznArg x.L : Nat))
  rotate_left
  · rw [szR_neg q1]
    go_wp2
    go_ret
    exact ⟨ret_int (by rw [hsz.out]; unfold szR; split <;> omega), (by simp (maxDischargeDepth := 9) [B2])⟩
  rw [szR_pos q1]
  go_wp2
  go_ret
  exact ⟨ret_int (by rw [hsz.out]; unfold szR; split <;> omega), (by simp (maxDischargeDepth := 9) [B2])⟩
set_option maxRecDepth 20000 in
theorem szSCond_w (l : List CondD) (v : Value) (left : Int) (w : World) (h : Sl w l v) (h0 : 0 ≤ left) (h1 : left ≤ 1048576) :
    Calls Tryz.prog 323 #[v, .int .i64 left] w (RetI (szR (sznSCond l) left) w) := by
  obtain ⟨a, c, rfl, hl, -⟩ := h.open
  have hsz : Hid (sznSCond l = l.length + (l.map sznCond).sum) := rfl
  go_enter Tryz.func323, Tryz.ntmps323
  by_cases q0 : left < l.length
  · go_wp2
    go_ret
    exact ⟨ret_int (by rw [hsz.out]; unfold szR; split <;> omega), by simp⟩
  go_wp2
  go_loopw [1, 5] (fun lf i wr => Below w.heap.size w wr ∧ ∃ (k y : Nat), i = .int .i64 k ∧ lf = .int .i64 y ∧ k ≤ l.length ∧ Hid ((y : Int) + l.length + ((l.take k).map sznCond).sum = left)) (fun _ i _ => l.length - (intOf i).toNat)
  case atStart => exact ⟨Below.refl _ _, 0, (left - l.length).toNat, rfl, by congr 1; omega, by omega, by show _ = _; simp; omega⟩
  case round =>
    obtain ⟨hB, k, y, rfl, rfl, hk, hy⟩ := hrel
    by_cases hlt : k < l.length
    · obtain ⟨b, o, rfl, hbl, hok, hc⟩ := (h.to hB).atCond k hlt
      have hst := Lib.hid (sum_step sznCond l k hlt)
      have hle := Lib.hid (sum_le sznCond l (k + 1))
      generalize l[k] = x at *
      obtain ⟨c0, c1, c2, c3, c4, c5, c6, c7, c8, c9, c10⟩ := hc
      skip
      have hy2 : y ≤ 1048576 := by have := hy.out; omega
      go_wp2_with fail
      refine (szCond_w x  y _ hok  (by omega) (by omega)).mono ?_
      rintro e w1 ⟨rfl, hb1⟩
      have B1 := via hB hb1
      by_cases q1 : ((sznCond x : Nat) : Int) ≤ y
      · rw [szR_pos q1]
        go_wp2
        go_roundw
        case rel => exact ⟨B1, k + 1, y - sznCond x, by go_num, by congr 1; omega, by omega, by show _ = _; have := hy.out; have := hst.out; omega⟩
        case measure => simp [intOf]; omega
      · rw [szR_neg q1]
        go_wp2
        go_ret
        exact ⟨ret_int (by rw [hsz.out]; unfold szR; have := hy.out; have := hst.out; have := hle.out; split <;> omega), B1⟩
    · obtain rfl : k = l.length := by omega
      go_wp2
      go_ret
      exact ⟨ret_int (by rw [hsz.out]; unfold szR; have := hy.out; rw [List.take_length] at this; split <;> omega), hB⟩
set_option maxRecDepth 20000 in
theorem szExpr_w (x : ExprD) (left : Int) (w : World) (hx : okExpr x) (h0 : 0 ≤ left) (h1 : left ≤ 1048576) :
    Calls Tryz.prog 471 #[.agg #[.string x.Op, .int .i64 x.L.K, .string x.L.S, .int .i64 x.L.V.K, .int .i64 x.L.V.N, .string x.L.V.S, .int .i64 x.R.K, .string x.R.S, .int .i64 x.R.V.K, .int .i64 x.R.V.N, .string x.R.V.S], .int .i64 left] w (RetI (szR (sznExpr x) left) w) := by
  have hsz : Hid (sznExpr x = x.Op.size + sznArg x.L + sznArg x.R) := rfl
  obtain ⟨xOp, xL, xR⟩ := hx
  have yOp : x.Op.size ≤ 9223372036854775807 := by simp [maxLen] at xOp; omega
  clear xOp
  go_enter Tryz.func471, Tryz.ntmps471
  by_cases q0 : left < (x.Op.size : Nat)
  · go_wp2
    go_ret
    exact ⟨ret_int (by rw [hsz.out]; unfold szR; split <;> omega), (by simp (maxDischargeDepth := 9))⟩
  go_wp2_with fail
  refine (szArg_w x.L  (left - (x.Op.size : Nat)) _ xL  (by omega) (by omega)).mono ?_
  rintro e w2 ⟨rfl, hb2⟩
  have B2 := via (w0 := w) (by simp (maxDischargeDepth := 9)) hb2
  have X2 : Bx w2 w.heap.size [.string x.Op, .int .i64 x.L.K, .string x.L.S, .int .i64 x.L.V.K, .int .i64 x.L.V.N, .string x.L.V.S, .int .i64 x.R.K, .string x.R.S, .int .i64 x.R.V.K, .int .i64 x.R.V.N, .string x.R.V.S] := Bx.via (by simp (maxDischargeDepth := 9)) hb2
  have k2_0 := X2.c 0 _ rfl
  have k2_1 := X2.c 1 _ rfl
  have k2_2 := X2.c 2 _ rfl
  have k2_3 := X2.c 3 _ rfl
  have k2_4 := X2.c 4 _ rfl
  have k2_5 := X2.c 5 _ rfl
  have k2_6 := X2.c 6 _ rfl
  have k2_7 := X2.c 7 _ rfl
  have k2_8 := X2.c 8 _ rfl
  have k2_9 := X2.c 9 _ rfl
  have k2_10 := X2.c 10 _ rfl
  by_cases q1 : ((sznArg x.L : Nat) : Int) ≤ (left - (x.Op.size : Nat))
  rotate_left
  · rw [szR_neg q1]
    go_wp2
    go_ret
    exact ⟨ret_int (by rw [hsz.out]; unfold szR; split <;> omega), (by simp (maxDischargeDepth := 9) [B2])⟩
  rw [szR_pos q1]
  go_wp2_with fail
  refine (szArg_w x.R  ((left - (x.Op.size : Nat)) - (sznArg x.L : Nat)) _ xR  (by omega) (by omega)).mono ?_
  rintro e w3 ⟨rfl, hb3⟩
  have B3 := via (w0 := w) (by simp (maxDischargeDepth := 9) [B2]) hb3
  have X3 : Bx w3 w.heap.size [.string x.Op, .int .i64 x.L.K, .string x.L.S, .int .i64 x.L.V.K, .int .i64 x.L.V.N, .string x.L.V.S, .int .i64 x.R.K, .string x.R.S, .int .i64 x.R.V.K, .int .i64 x.R.V.N, .string x.R.V.S] := Bx.via (by simp (maxDischargeDepth := 9) [X2]) hb3
  have k3_0 := X3.c 0 _ rfl
  have k3_1 := X3.c 1 _ rfl
  have k3_2 := X3.c 2 _ rfl
  have k3_3 := X3.c 3 _ rfl
  have k3_4 := X3.c 4 _ rfl
  have k3_5 := X3.c 5 _ rfl
  have k3_6 := X3.c 6 _ rfl
  have k3_7 := X3.c 7 _ rfl
  have k3_8 := X3.c 8 _ rfl
  have k3_9 := X3.c 9 _ rfl
  have k3_10 := X3.c 10 _ rfl
  by_cases q2 : ((sznArg x.R : Nat) : Int) ≤ ((left - (x.Op.size : Nat)) - (sznArg x.L : Nat))
  rotate_left
  · rw [szR_neg q2]
    go_wp2
    go_ret
    exact ⟨ret_int (by rw [hsz.out]; unfold szR; split <;> omega), (by simp (maxDischargeDepth := 9) [B3])⟩
  rw [szR_pos q2]
  go_wp2
  go_ret
  exact ⟨ret_int (by rw [hsz.out]; unfold szR; split <;> omega), (by simp (maxDischargeDepth := 9) [B3])⟩
set_option maxRecDepth 20000 in
theorem szSExpr_w (l : List ExprD) (v : Value) (left : Int) (w : World) (h : Sl w l v) (h0 : 0 ≤ left) (h1 : left ≤ 1048576) :
    Calls Tryz.prog 440 #[v, .int .i64 left] w (RetI (szR (sznSExpr l) left) w) := by
  obtain ⟨a, c, rfl, hl, -⟩ := h.open
  have hsz : Hid (sznSExpr l = l.length + (l.map sznExpr).sum) := rfl
  go_enter Tryz.func440, Tryz.ntmps440
  by_cases q0 : left < l.length
  · go_wp2
    go_ret
    exact ⟨ret_int (by rw [hsz.out]; unfold szR; split <;> omega), by simp⟩
  go_wp2
  go_loopw [1, 5] (fun lf i wr => Below w.heap.size w wr ∧ ∃ (k y : Nat), i = .int .i64 k ∧ lf = .int .i64 y ∧ k ≤ l.length ∧ Hid ((y : Int) + l.length + ((l.take k).map sznExpr).sum = left)) (fun _ i _ => l.length - (intOf i).toNat)
  case atStart => exact ⟨Below.refl _ _, 0, (left - l.length).toNat, rfl, by congr 1; omega, by omega, by show _ = _; simp; omega⟩
  case round =>
    obtain ⟨hB, k, y, rfl, rfl, hk, hy⟩ := hrel
    by_cases hlt : k < l.length
    · obtain ⟨b, o, rfl, hbl, hok, hc⟩ := (h.to hB).atExpr k hlt
      have hst := Lib.hid (sum_step sznExpr l k hlt)
      have hle := Lib.hid (sum_le sznExpr l (k + 1))
      generalize l[k] = x at *
      obtain ⟨c0, c1, c2, c3, c4, c5, c6, c7, c8, c9, c10⟩ := hc
      skip
      have hy2 : y ≤ 1048576 := by have := hy.out; omega
      go_wp2_with fail
      refine (szExpr_w x  y _ hok  (by omega) (by omega)).mono ?_
      rintro e w1 ⟨rfl, hb1⟩
      have B1 := via hB hb1
      by_cases q1 : ((sznExpr x : Nat) : Int) ≤ y
      · rw [szR_pos q1]
        go_wp2
        go_roundw
        case rel => exact ⟨B1, k + 1, y - sznExpr x, by go_num, by congr 1; omega, by omega, by show _ = _; have := hy.out; have := hst.out; omega⟩
        case measure => simp [intOf]; omega
      · rw [szR_neg q1]
        go_wp2
        go_ret
        exact ⟨ret_int (by rw [hsz.out]; unfold szR; have := hy.out; have := hst.out; have := hle.out; split <;> omega), B1⟩
    · obtain rfl : k = l.length := by omega
      go_wp2
      go_ret
      exact ⟨ret_int (by rw [hsz.out]; unfold szR; have := hy.out; rw [List.take_length] at this; split <;> omega), hB⟩
set_option maxRecDepth 20000 in
theorem szAct_w (x : ActD) (v0 : Value) (left : Int) (w : World) (hx : okAct x) (s0 : Sl w x.Args v0) (h0 : 0 ≤ left) (h1 : left ≤ 1048576) :
    Calls Tryz.prog 393 #[.agg #[.int .i64 x.Kind, .string x.Name, v0, .int .i64 x.N, .string x.Undo], .int .i64 left] w (RetI (szR (sznAct x) left) w) := by
  obtain ⟨a0, c0, rfl, hl0, -⟩ := s0.open
  have hsz : Hid (sznAct x = x.Name.size + sznSExpr x.Args + x.Undo.size) := rfl
  obtain ⟨xKind, xName, xN, xUndo⟩ := hx
  have yName : x.Name.size ≤ 9223372036854775807 := by simp [maxLen] at xName; omega
  clear xName
  have yUndo : x.Undo.size ≤ 9223372036854775807 := by simp [maxLen] at xUndo; omega
  clear xUndo
  go_enter Tryz.func393, Tryz.ntmps393
  by_cases q0 : left < (x.Name.size : Nat)
  · go_wp2
    go_ret
    exact ⟨ret_int (by rw [hsz.out]; unfold szR; split <;> omega), (by simp (maxDischargeDepth := 9))⟩
  go_wp2_with fail
  refine (szSExpr_w x.Args _ (left - (x.Name.size : Nat)) _ (s0.to (by simp (maxDischargeDepth := 9))) (by omega) (by omega)).mono ?_
  rintro e w2 ⟨rfl, hb2⟩
  have B2 := via (w0 := w) (by simp (maxDischargeDepth := 9)) hb2
  have X2 : Bx w2 w.heap.size [.int .i64 x.Kind, .string x.Name, (.slice a0 x.Args.length c0), .int .i64 x.N, .string x.Undo] := Bx.via (by simp (maxDischargeDepth := 9)) hb2
  have k2_0 := X2.c 0 _ rfl
  have k2_1 := X2.c 1 _ rfl
  have k2_2 := X2.c 2 _ rfl
  have k2_3 := X2.c 3 _ rfl
  have k2_4 := X2.c 4 _ rfl
  by_cases q1 : ((sznSExpr x.Args : Nat) : Int) ≤ (left - (x.Name.size : Nat))
  rotate_left
  · rw [szR_neg q1]
    go_wp2
    go_ret
    exact ⟨ret_int (by rw [hsz.out]; unfold szR; split <;> omega), (by simp (maxDischargeDepth := 9) [B2])⟩
  rw [szR_pos q1]
  by_cases q2 : ((left - (x.Name.size : Nat)) - (sznSExpr x.Args : Nat)) < (x.Undo.size : Nat)
  · go_wp2
    go_ret
    exact ⟨ret_int (by rw [hsz.out]; unfold szR; split <;> omega), (by simp (maxDischargeDepth := 9) [B2])⟩
  go_wp2
  go_ret
  exact ⟨ret_int (by rw [hsz.out]; unfold szR; split <;> omega), (by simp (maxDischargeDepth := 9) [B2])⟩
set_option maxRecDepth 20000 in
theorem szSAct_w (l : List ActD) (v : Value) (left : Int) (w : World) (h : Sl w l v) (h0 : 0 ≤ left) (h1 : left ≤ 1048576) :
    Calls Tryz.prog 324 #[v, .int .i64 left] w (RetI (szR (sznSAct l) left) w) := by
  obtain ⟨a, c, rfl, hl, -⟩ := h.open
  have hsz : Hid (sznSAct l = l.length + (l.map sznAct).sum) := rfl
  go_enter Tryz.func324, Tryz.ntmps324
  by_cases q0 : left < l.length
  · go_wp2
    go_ret
    exact ⟨ret_int (by rw [hsz.out]; unfold szR; split <;> omega), by simp⟩
  go_wp2
  go_loopw [1, 5] (fun lf i wr => Below w.heap.size w wr ∧ ∃ (k y : Nat), i = .int .i64 k ∧ lf = .int .i64 y ∧ k ≤ l.length ∧ Hid ((y : Int) + l.length + ((l.take k).map sznAct).sum = left)) (fun _ i _ => l.length - (intOf i).toNat)
  case atStart => exact ⟨Below.refl _ _, 0, (left - l.length).toNat, rfl, by congr 1; omega, by omega, by show _ = _; simp; omega⟩
  case round =>
    obtain ⟨hB, k, y, rfl, rfl, hk, hy⟩ := hrel
    by_cases hlt : k < l.length
    · obtain ⟨b, o, v0, rfl, hbl, hok, hc, s0⟩ := (h.to hB).atAct k hlt
      have hst := Lib.hid (sum_step sznAct l k hlt)
      have hle := Lib.hid (sum_le sznAct l (k + 1))
      generalize l[k] = x at *
      obtain ⟨c0, c1, c2, c3, c4⟩ := hc
      obtain ⟨a0, p0, rfl, hl0, -⟩ := s0.open
      have hy2 : y ≤ 1048576 := by have := hy.out; omega
      go_wp2_with fail
      refine (szAct_w x _ y _ hok s0 (by omega) (by omega)).mono ?_
      rintro e w1 ⟨rfl, hb1⟩
      have B1 := via hB hb1
      by_cases q1 : ((sznAct x : Nat) : Int) ≤ y
      · rw [szR_pos q1]
        go_wp2
        go_roundw
        case rel => exact ⟨B1, k + 1, y - sznAct x, by go_num, by congr 1; omega, by omega, by show _ = _; have := hy.out; have := hst.out; omega⟩
        case measure => simp [intOf]; omega
      · rw [szR_neg q1]
        go_wp2
        go_ret
        exact ⟨ret_int (by rw [hsz.out]; unfold szR; have := hy.out; have := hst.out; have := hle.out; split <;> omega), B1⟩
    · obtain rfl : k = l.length := by omega
      go_wp2
      go_ret
      exact ⟨ret_int (by rw [hsz.out]; unfold szR; have := hy.out; rw [List.take_length] at this; split <;> omega), hB⟩
set_option maxRecDepth 20000 in
theorem szRule_w (x : RuleD) (v0 v1 v2 : Value) (left : Int) (w : World) (hx : okRule x) (s0 : Sl w x.Pats v0) (s1 : Sl w x.Conds v1) (s2 : Sl w x.Acts v2) (h0 : 0 ≤ left) (h1 : left ≤ 1048576) :
    Calls Tryz.prog 232 #[.agg #[.string x.Name, .int .i64 x.Sal, v0, v1, v2], .int .i64 left] w (RetI (szR (sznRule x) left) w) := by
  obtain ⟨a0, c0, rfl, hl0, -⟩ := s0.open
  obtain ⟨a1, c1, rfl, hl1, -⟩ := s1.open
  obtain ⟨a2, c2, rfl, hl2, -⟩ := s2.open
  have hsz : Hid (sznRule x = x.Name.size + sznSPat x.Pats + sznSCond x.Conds + sznSAct x.Acts) := rfl
  obtain ⟨xName, xSal⟩ := hx
  have yName : x.Name.size ≤ 9223372036854775807 := by simp [maxLen] at xName; omega
  clear xName
  go_enter Tryz.func232, Tryz.ntmps232
  by_cases q0 : left < (x.Name.size : Nat)
  · go_wp2
    go_ret
    exact ⟨ret_int (by rw [hsz.out]; unfold szR; split <;> omega), (by simp (maxDischargeDepth := 9))⟩
  go_wp2_with fail
  refine (szSPat_w x.Pats _ (left - (x.Name.size : Nat)) _ (s0.to (by simp (maxDischargeDepth := 9))) (by omega) (by omega)).mono ?_
  rintro e w2 ⟨rfl, hb2⟩
  have B2 := via (w0 := w) (by simp (maxDischargeDepth := 9)) hb2
  have X2 : Bx w2 w.heap.size [.string x.Name, .int .i64 x.Sal, (.slice a0 x.Pats.length c0), (.slice a1 x.Conds.length c1), (.slice a2 x.Acts.length c2)] := Bx.via (by simp (maxDischargeDepth := 9)) hb2
  have k2_0 := X2.c 0 _ rfl
  have k2_1 := X2.c 1 _ rfl
  have k2_2 := X2.c 2 _ rfl
  have k2_3 := X2.c 3 _ rfl
  have k2_4 := X2.c 4 _ rfl
  by_cases q1 : ((sznSPat x.Pats : Nat) : Int) ≤ (left - (x.Name.size : Nat))
  rotate_left
  · rw [szR_neg q1]
    go_wp2
    go_ret
    exact ⟨ret_int (by rw [hsz.out]; unfold szR; split <;> omega), (by simp (maxDischargeDepth := 9) [B2])⟩
  rw [szR_pos q1]
  go_wp2_with fail
  refine (szSCond_w x.Conds _ ((left - (x.Name.size : Nat)) - (sznSPat x.Pats : Nat)) _ (s1.to (by simp (maxDischargeDepth := 9) [B2])) (by omega) (by omega)).mono ?_
  rintro e w3 ⟨rfl, hb3⟩
  have B3 := via (w0 := w) (by simp (maxDischargeDepth := 9) [B2]) hb3
  have X3 : Bx w3 w.heap.size [.string x.Name, .int .i64 x.Sal, (.slice a0 x.Pats.length c0), (.slice a1 x.Conds.length c1), (.slice a2 x.Acts.length c2)] := Bx.via (by simp (maxDischargeDepth := 9) [X2]) hb3
  have k3_0 := X3.c 0 _ rfl
  have k3_1 := X3.c 1 _ rfl
  have k3_2 := X3.c 2 _ rfl
  have k3_3 := X3.c 3 _ rfl
  have k3_4 := X3.c 4 _ rfl
  by_cases q2 : ((sznSCond x.Conds : Nat) : Int) ≤ ((left - (x.Name.size : Nat)) - (sznSPat x.Pats : Nat))
  rotate_left
  · rw [szR_neg q2]
    go_wp2
    go_ret
    exact ⟨ret_int (by rw [hsz.out]; unfold szR; split <;> omega), (by simp (maxDischargeDepth := 9) [B3])⟩
  rw [szR_pos q2]
  go_wp2_with fail
  refine (szSAct_w x.Acts _ (((left - (x.Name.size : Nat)) - (sznSPat x.Pats : Nat)) - (sznSCond x.Conds : Nat)) _ (s2.to (by simp (maxDischargeDepth := 9) [B3])) (by omega) (by omega)).mono ?_
  rintro e w4 ⟨rfl, hb4⟩
  have B4 := via (w0 := w) (by simp (maxDischargeDepth := 9) [B3]) hb4
  have X4 : Bx w4 w.heap.size [.string x.Name, .int .i64 x.Sal, (.slice a0 x.Pats.length c0), (.slice a1 x.Conds.length c1), (.slice a2 x.Acts.length c2)] := Bx.via (by simp (maxDischargeDepth := 9) [X3]) hb4
  have k4_0 := X4.c 0 _ rfl
  have k4_1 := X4.c 1 _ rfl
  have k4_2 := X4.c 2 _ rfl
  have k4_3 := X4.c 3 _ rfl
  have k4_4 := X4.c 4 _ rfl
  by_cases q3 : ((sznSAct x.Acts : Nat) : Int) ≤ (((left - (x.Name.size : Nat)) - (sznSPat x.Pats : Nat)) - (sznSCond x.Conds : Nat))
  rotate_left
  · rw [szR_neg q3]
    go_wp2
    go_ret
    exact ⟨ret_int (by rw [hsz.out]; unfold szR; split <;> omega), (by simp (maxDischargeDepth := 9) [B4])⟩
  rw [szR_pos q3]
  go_wp2
  go_ret
  exact ⟨ret_int (by rw [hsz.out]; unfold szR; split <;> omega), (by simp (maxDischargeDepth := 9) [B4])⟩
set_option maxRecDepth 20000 in
theorem szSRule_w (l : List RuleD) (v : Value) (left : Int) (w : World) (h : Sl w l v) (h0 : 0 ≤ left) (h1 : left ≤ 1048576) :
    Calls Tryz.prog 152 #[v, .int .i64 left] w (RetI (szR (sznSRule l) left) w) := by
  obtain ⟨a, c, rfl, hl, -⟩ := h.open
  have hsz : Hid (sznSRule l = l.length + (l.map sznRule).sum) := rfl
  go_enter Tryz.func152, Tryz.ntmps152
  by_cases q0 : left < l.length
  · go_wp2
    go_ret
    exact ⟨ret_int (by rw [hsz.out]; unfold szR; split <;> omega), by simp⟩
  go_wp2
  go_loopw [1, 5] (fun lf i wr => Below w.heap.size w wr ∧ ∃ (k y : Nat), i = .int .i64 k ∧ lf = .int .i64 y ∧ k ≤ l.length ∧ Hid ((y : Int) + l.length + ((l.take k).map sznRule).sum = left)) (fun _ i _ => l.length - (intOf i).toNat)
  case atStart => exact ⟨Below.refl _ _, 0, (left - l.length).toNat, rfl, by congr 1; omega, by omega, by show _ = _; simp; omega⟩
  case round =>
    obtain ⟨hB, k, y, rfl, rfl, hk, hy⟩ := hrel
    by_cases hlt : k < l.length
    · obtain ⟨b, o, v0, v1, v2, rfl, hbl, hok, hc, s0, s1, s2⟩ := (h.to hB).atRule k hlt
      have hst := Lib.hid (sum_step sznRule l k hlt)
      have hle := Lib.hid (sum_le sznRule l (k + 1))
      generalize l[k] = x at *
      obtain ⟨c0, c1, c2, c3, c4⟩ := hc
      obtain ⟨a0, p0, rfl, hl0, -⟩ := s0.open; obtain ⟨a1, p1, rfl, hl1, -⟩ := s1.open; obtain ⟨a2, p2, rfl, hl2, -⟩ := s2.open
      have hy2 : y ≤ 1048576 := by have := hy.out; omega
      go_wp2_with fail
      refine (szRule_w x _ _ _ y _ hok s0 s1 s2 (by omega) (by omega)).mono ?_
      rintro e w1 ⟨rfl, hb1⟩
      have B1 := via hB hb1
      by_cases q1 : ((sznRule x : Nat) : Int) ≤ y
      · rw [szR_pos q1]
        go_wp2
        go_roundw
        case rel => exact ⟨B1, k + 1, y - sznRule x, by go_num, by congr 1; omega, by omega, by show _ = _; have := hy.out; have := hst.out; omega⟩
        case measure => simp [intOf]; omega
      · rw [szR_neg q1]
        go_wp2
        go_ret
        exact ⟨ret_int (by rw [hsz.out]; unfold szR; have := hy.out; have := hst.out; have := hle.out; split <;> omega), B1⟩
    · obtain rfl : k = l.length := by omega
      go_wp2
      go_ret
      exact ⟨ret_int (by rw [hsz.out]; unfold szR; have := hy.out; rw [List.take_length] at this; split <;> omega), hB⟩
set_option maxRecDepth 20000 in
theorem szDef_w (x : DefD) (v0 : Value) (left : Int) (w : World) (hx : okDef x) (s0 : Sl w x.Rules v0) (h0 : 0 ≤ left) (h1 : left ≤ 1048576) :
    Calls Tryz.prog 86 #[.agg #[.string x.Name, v0], .int .i64 left] w (RetI (szR (sznDef x) left) w) := by
  obtain ⟨a0, c0, rfl, hl0, -⟩ := s0.open
  have hsz : Hid (sznDef x = x.Name.size + sznSRule x.Rules) := rfl
  have xName : x.Name.size ≤ maxLen := hx
  have yName : x.Name.size ≤ 9223372036854775807 := by simp [maxLen] at xName; omega
  clear xName
  go_enter Tryz.func86, Tryz.ntmps86
  by_cases q0 : left < (x.Name.size : Nat)
  · go_wp2
    go_ret
    exact ⟨ret_int (by rw [hsz.out]; unfold szR; split <;> omega), (by simp (maxDischargeDepth := 9))⟩
  go_wp2_with fail
  refine (szSRule_w x.Rules _ (left - (x.Name.size : Nat)) _ (s0.to (by simp (maxDischargeDepth := 9))) (by omega) (by omega)).mono ?_
  rintro e w2 ⟨rfl, hb2⟩
  have B2 := via (w0 := w) (by simp (maxDischargeDepth := 9)) hb2
  have X2 : Bx w2 w.heap.size [.string x.Name, (.slice a0 x.Rules.length c0)] := Bx.via (by simp (maxDischargeDepth := 9)) hb2
  have k2_0 := X2.c 0 _ rfl
  have k2_1 := X2.c 1 _ rfl
  by_cases q1 : ((sznSRule x.Rules : Nat) : Int) ≤ (left - (x.Name.size : Nat))
  rotate_left
  · rw [szR_neg q1]
    go_wp2
    go_ret
    exact ⟨ret_int (by rw [hsz.out]; unfold szR; split <;> omega), (by simp (maxDischargeDepth := 9) [B2])⟩
  rw [szR_pos q1]
  go_wp2
  go_ret
  exact ⟨ret_int (by rw [hsz.out]; unfold szR; split <;> omega), (by simp (maxDischargeDepth := 9) [B2])⟩
set_option maxRecDepth 20000 in
theorem szSDef_w (l : List DefD) (v : Value) (left : Int) (w : World) (h : Sl w l v) (h0 : 0 ≤ left) (h1 : left ≤ 1048576) :
    Calls Tryz.prog 43 #[v, .int .i64 left] w (RetI (szR (sznSDef l) left) w) := by
  obtain ⟨a, c, rfl, hl, -⟩ := h.open
  have hsz : Hid (sznSDef l = l.length + (l.map sznDef).sum) := rfl
  go_enter Tryz.func43, Tryz.ntmps43
  by_cases q0 : left < l.length
  · go_wp2
    go_ret
    exact ⟨ret_int (by rw [hsz.out]; unfold szR; split <;> omega), by simp⟩
  go_wp2
  go_loopw [1, 5] (fun lf i wr => Below w.heap.size w wr ∧ ∃ (k y : Nat), i = .int .i64 k ∧ lf = .int .i64 y ∧ k ≤ l.length ∧ Hid ((y : Int) + l.length + ((l.take k).map sznDef).sum = left)) (fun _ i _ => l.length - (intOf i).toNat)
  case atStart => exact ⟨Below.refl _ _, 0, (left - l.length).toNat, rfl, by congr 1; omega, by omega, by show _ = _; simp; omega⟩
  case round =>
    obtain ⟨hB, k, y, rfl, rfl, hk, hy⟩ := hrel
    by_cases hlt : k < l.length
    · obtain ⟨b, o, v0, rfl, hbl, hok, hc, s0⟩ := (h.to hB).atDef k hlt
      have hst := Lib.hid (sum_step sznDef l k hlt)
      have hle := Lib.hid (sum_le sznDef l (k + 1))
      generalize l[k] = x at *
      obtain ⟨c0, c1⟩ := hc
      obtain ⟨a0, p0, rfl, hl0, -⟩ := s0.open
      have hy2 : y ≤ 1048576 := by have := hy.out; omega
      go_wp2_with fail
      refine (szDef_w x _ y _ hok s0 (by omega) (by omega)).mono ?_
      rintro e w1 ⟨rfl, hb1⟩
      have B1 := via hB hb1
      by_cases q1 : ((sznDef x : Nat) : Int) ≤ y
      · rw [szR_pos q1]
        go_wp2
        go_roundw
        case rel => exact ⟨B1, k + 1, y - sznDef x, by go_num, by congr 1; omega, by omega, by show _ = _; have := hy.out; have := hst.out; omega⟩
        case measure => simp [intOf]; omega
      · rw [szR_neg q1]
        go_wp2
        go_ret
        exact ⟨ret_int (by rw [hsz.out]; unfold szR; have := hy.out; have := hst.out; have := hle.out; split <;> omega), B1⟩
    · obtain rfl : k = l.length := by omega
      go_wp2
      go_ret
      exact ⟨ret_int (by rw [hsz.out]; unfold szR; have := hy.out; rw [List.take_length] at this; split <;> omega), hB⟩
set_option maxRecDepth 20000 in
theorem szMatch_w (x : MatchD) (v0 v1 : Value) (left : Int) (w : World) (hx : okMatch x) (s0 : Sl w x.Ids v0) (s1 : Sl w x.Binds v1) (h0 : 0 ≤ left) (h1 : left ≤ 1048576) :
    Calls Tryz.prog 326 #[.agg #[.int .i64 x.Rule, v0, v1], .int .i64 left] w (RetI (szR (sznMatch x) left) w) := by
  obtain ⟨a0, c0, rfl, hl0, -⟩ := s0.open
  obtain ⟨a1, c1, rfl, hl1, -⟩ := s1.open
  have hsz : Hid (sznMatch x = sznSInt x.Ids + sznSBind x.Binds) := rfl
  have xRule : In64 x.Rule := hx
  go_enter Tryz.func326, Tryz.ntmps326
  go_wp2_with fail
  refine (szSInt_w x.Ids _ left _ (s0.to (by simp (maxDischargeDepth := 9))) (by omega) (by omega)).mono ?_
  rintro e w1 ⟨rfl, hb1⟩
  have B1 := via (w0 := w) (by simp (maxDischargeDepth := 9)) hb1
  have X1 : Bx w1 w.heap.size [.int .i64 x.Rule, (.slice a0 x.Ids.length c0), (.slice a1 x.Binds.length c1)] := Bx.via (by simp (maxDischargeDepth := 9)) hb1
  have k1_0 := X1.c 0 _ rfl
  have k1_1 := X1.c 1 _ rfl
  have k1_2 := X1.c 2 _ rfl
  by_cases q0 : ((sznSInt x.Ids : Nat) : Int) ≤ left
  rotate_left
  · rw [szR_neg q0]
    go_wp2
    go_ret
    exact ⟨ret_int (by rw [hsz.out]; unfold szR; split <;> omega), (by simp (maxDischargeDepth := 9) [B1])⟩
  rw [szR_pos q0]
  go_wp2_with fail
  refine (szSBind_w x.Binds _ (left - (sznSInt x.Ids : Nat)) _ (s1.to (by simp (maxDischargeDepth := 9) [B1])) (by omega) (by omega)).mono ?_
  rintro e w2 ⟨rfl, hb2⟩
  have B2 := via (w0 := w) (by simp (maxDischargeDepth := 9) [B1]) hb2
  have X2 : Bx w2 w.heap.size [.int .i64 x.Rule, (.slice a0 x.Ids.length c0), (.slice a1 x.Binds.length c1)] := Bx.via (by simp (maxDischargeDepth := 9) [X1]) hb2
  have k2_0 := X2.c 0 _ rfl
  have k2_1 := X2.c 1 _ rfl
  have k2_2 := X2.c 2 _ rfl
  by_cases q1 : ((sznSBind x.Binds : Nat) : Int) ≤ (left - (sznSInt x.Ids : Nat))
  rotate_left
  · rw [szR_neg q1]
    go_wp2
    go_ret
    exact ⟨ret_int (by rw [hsz.out]; unfold szR; split <;> omega), (by simp (maxDischargeDepth := 9) [B2])⟩
  rw [szR_pos q1]
  go_wp2
  go_ret
  exact ⟨ret_int (by rw [hsz.out]; unfold szR; split <;> omega), (by simp (maxDischargeDepth := 9) [B2])⟩
set_option maxRecDepth 20000 in
theorem szSMatch_w (l : List MatchD) (v : Value) (left : Int) (w : World) (h : Sl w l v) (h0 : 0 ≤ left) (h1 : left ≤ 1048576) :
    Calls Tryz.prog 234 #[v, .int .i64 left] w (RetI (szR (sznSMatch l) left) w) := by
  obtain ⟨a, c, rfl, hl, -⟩ := h.open
  have hsz : Hid (sznSMatch l = l.length + (l.map sznMatch).sum) := rfl
  go_enter Tryz.func234, Tryz.ntmps234
  by_cases q0 : left < l.length
  · go_wp2
    go_ret
    exact ⟨ret_int (by rw [hsz.out]; unfold szR; split <;> omega), by simp⟩
  go_wp2
  go_loopw [1, 5] (fun lf i wr => Below w.heap.size w wr ∧ ∃ (k y : Nat), i = .int .i64 k ∧ lf = .int .i64 y ∧ k ≤ l.length ∧ Hid ((y : Int) + l.length + ((l.take k).map sznMatch).sum = left)) (fun _ i _ => l.length - (intOf i).toNat)
  case atStart => exact ⟨Below.refl _ _, 0, (left - l.length).toNat, rfl, by congr 1; omega, by omega, by show _ = _; simp; omega⟩
  case round =>
    obtain ⟨hB, k, y, rfl, rfl, hk, hy⟩ := hrel
    by_cases hlt : k < l.length
    · obtain ⟨b, o, v0, v1, rfl, hbl, hok, hc, s0, s1⟩ := (h.to hB).atMatch k hlt
      have hst := Lib.hid (sum_step sznMatch l k hlt)
      have hle := Lib.hid (sum_le sznMatch l (k + 1))
      generalize l[k] = x at *
      obtain ⟨c0, c1, c2⟩ := hc
      obtain ⟨a0, p0, rfl, hl0, -⟩ := s0.open; obtain ⟨a1, p1, rfl, hl1, -⟩ := s1.open
      have hy2 : y ≤ 1048576 := by have := hy.out; omega
      go_wp2_with fail
      refine (szMatch_w x _ _ y _ hok s0 s1 (by omega) (by omega)).mono ?_
      rintro e w1 ⟨rfl, hb1⟩
      have B1 := via hB hb1
      by_cases q1 : ((sznMatch x : Nat) : Int) ≤ y
      · rw [szR_pos q1]
        go_wp2
        go_roundw
        case rel => exact ⟨B1, k + 1, y - sznMatch x, by go_num, by congr 1; omega, by omega, by show _ = _; have := hy.out; have := hst.out; omega⟩
        case measure => simp [intOf]; omega
      · rw [szR_neg q1]
        go_wp2
        go_ret
        exact ⟨ret_int (by rw [hsz.out]; unfold szR; have := hy.out; have := hst.out; have := hle.out; split <;> omega), B1⟩
    · obtain rfl : k = l.length := by omega
      go_wp2
      go_ret
      exact ⟨ret_int (by rw [hsz.out]; unfold szR; have := hy.out; rw [List.take_length] at this; split <;> omega), hB⟩
set_option maxRecDepth 20000 in
theorem szTimer_w (x : TimerD) (v0 : Value) (left : Int) (w : World) (hx : okTimer x) (s0 : Sl w x.F.Fields v0) (h0 : 0 ≤ left) (h1 : left ≤ 1048576) :
    Calls Tryz.prog 328 #[.agg #[.int .i64 x.At, .string x.F.Kind, v0], .int .i64 left] w (RetI (szR (sznTimer x) left) w) := by
  obtain ⟨a0, c0, rfl, hl0, -⟩ := s0.open
  have hsz : Hid (sznTimer x = sznFact x.F) := rfl
  obtain ⟨xAt, xF⟩ := hx
  go_enter Tryz.func328, Tryz.ntmps328
  go_wp2_with fail
  refine (szFact_w x.F _ left _ xF (s0.to (by simp (maxDischargeDepth := 9))) (by omega) (by omega)).mono ?_
  rintro e w1 ⟨rfl, hb1⟩
  have B1 := via (w0 := w) (by simp (maxDischargeDepth := 9)) hb1
  have X1 : Bx w1 w.heap.size [.int .i64 x.At, .string x.F.Kind, (.slice a0 x.F.Fields.length c0)] := Bx.via (by simp (maxDischargeDepth := 9)) hb1
  have k1_0 := X1.c 0 _ rfl
  have k1_1 := X1.c 1 _ rfl
  have k1_2 := X1.c 2 _ rfl
  by_cases q0 : ((sznFact x.F : Nat) : Int) ≤ left
  rotate_left
  · rw [szR_neg q0]
    go_wp2
    go_ret
    exact ⟨ret_int (by rw [hsz.out]; unfold szR; split <;> omega), (by simp (maxDischargeDepth := 9) [B1])⟩
  rw [szR_pos q0]
  go_wp2
  go_ret
  exact ⟨ret_int (by rw [hsz.out]; unfold szR; split <;> omega), (by simp (maxDischargeDepth := 9) [B1])⟩
set_option maxRecDepth 20000 in
theorem szSTimer_w (l : List TimerD) (v : Value) (left : Int) (w : World) (h : Sl w l v) (h0 : 0 ≤ left) (h1 : left ≤ 1048576) :
    Calls Tryz.prog 236 #[v, .int .i64 left] w (RetI (szR (sznSTimer l) left) w) := by
  obtain ⟨a, c, rfl, hl, -⟩ := h.open
  have hsz : Hid (sznSTimer l = l.length + (l.map sznTimer).sum) := rfl
  go_enter Tryz.func236, Tryz.ntmps236
  by_cases q0 : left < l.length
  · go_wp2
    go_ret
    exact ⟨ret_int (by rw [hsz.out]; unfold szR; split <;> omega), by simp⟩
  go_wp2
  go_loopw [1, 5] (fun lf i wr => Below w.heap.size w wr ∧ ∃ (k y : Nat), i = .int .i64 k ∧ lf = .int .i64 y ∧ k ≤ l.length ∧ Hid ((y : Int) + l.length + ((l.take k).map sznTimer).sum = left)) (fun _ i _ => l.length - (intOf i).toNat)
  case atStart => exact ⟨Below.refl _ _, 0, (left - l.length).toNat, rfl, by congr 1; omega, by omega, by show _ = _; simp; omega⟩
  case round =>
    obtain ⟨hB, k, y, rfl, rfl, hk, hy⟩ := hrel
    by_cases hlt : k < l.length
    · obtain ⟨b, o, v0, rfl, hbl, hok, hc, s0⟩ := (h.to hB).atTimer k hlt
      have hst := Lib.hid (sum_step sznTimer l k hlt)
      have hle := Lib.hid (sum_le sznTimer l (k + 1))
      generalize l[k] = x at *
      obtain ⟨c0, c1, c2⟩ := hc
      obtain ⟨a0, p0, rfl, hl0, -⟩ := s0.open
      have hy2 : y ≤ 1048576 := by have := hy.out; omega
      go_wp2_with fail
      refine (szTimer_w x _ y _ hok s0 (by omega) (by omega)).mono ?_
      rintro e w1 ⟨rfl, hb1⟩
      have B1 := via hB hb1
      by_cases q1 : ((sznTimer x : Nat) : Int) ≤ y
      · rw [szR_pos q1]
        go_wp2
        go_roundw
        case rel => exact ⟨B1, k + 1, y - sznTimer x, by go_num, by congr 1; omega, by omega, by show _ = _; have := hy.out; have := hst.out; omega⟩
        case measure => simp [intOf]; omega
      · rw [szR_neg q1]
        go_wp2
        go_ret
        exact ⟨ret_int (by rw [hsz.out]; unfold szR; have := hy.out; have := hst.out; have := hle.out; split <;> omega), B1⟩
    · obtain rfl : k = l.length := by omega
      go_wp2
      go_ret
      exact ⟨ret_int (by rw [hsz.out]; unfold szR; have := hy.out; rw [List.take_length] at this; split <;> omega), hB⟩
set_option maxRecDepth 20000 in
theorem szTask_w (x : TaskD) (v0 : Value) (left : Int) (w : World) (hx : okTask x) (s0 : Sl w x.F.Fields v0) (h0 : 0 ≤ left) (h1 : left ≤ 1048576) :
    Calls Tryz.prog 327 #[.agg #[.string x.F.Kind, v0, .string x.Undo, .int .i64 x.State, .int .i64 x.Tries, .int .i64 x.Due, .int .i64 x.V.K, .int .i64 x.V.N, .string x.V.S], .int .i64 left] w (RetI (szR (sznTask x) left) w) := by
  obtain ⟨a0, c0, rfl, hl0, -⟩ := s0.open
  have hsz : Hid (sznTask x = sznFact x.F + x.Undo.size + sznVal x.V) := rfl
  obtain ⟨xF, xUndo, xState, xTries, xDue, xV⟩ := hx
  have yUndo : x.Undo.size ≤ 9223372036854775807 := by simp [maxLen] at xUndo; omega
  clear xUndo
  go_enter Tryz.func327, Tryz.ntmps327
  go_wp2_with fail
  refine (szFact_w x.F _ left _ xF (s0.to (by simp (maxDischargeDepth := 9))) (by omega) (by omega)).mono ?_
  rintro e w1 ⟨rfl, hb1⟩
  have B1 := via (w0 := w) (by simp (maxDischargeDepth := 9)) hb1
  have X1 : Bx w1 w.heap.size [.string x.F.Kind, (.slice a0 x.F.Fields.length c0), .string x.Undo, .int .i64 x.State, .int .i64 x.Tries, .int .i64 x.Due, .int .i64 x.V.K, .int .i64 x.V.N, .string x.V.S] := Bx.via (by simp (maxDischargeDepth := 9)) hb1
  have k1_0 := X1.c 0 _ rfl
  have k1_1 := X1.c 1 _ rfl
  have k1_2 := X1.c 2 _ rfl
  have k1_3 := X1.c 3 _ rfl
  have k1_4 := X1.c 4 _ rfl
  have k1_5 := X1.c 5 _ rfl
  have k1_6 := X1.c 6 _ rfl
  have k1_7 := X1.c 7 _ rfl
  have k1_8 := X1.c 8 _ rfl
  by_cases q0 : ((sznFact x.F : Nat) : Int) ≤ left
  rotate_left
  · rw [szR_neg q0]
    go_wp2
    go_ret
    exact ⟨ret_int (by rw [hsz.out]; unfold szR; split <;> omega), (by simp (maxDischargeDepth := 9) [B1])⟩
  rw [szR_pos q0]
  by_cases q1 : (left - (sznFact x.F : Nat)) < (x.Undo.size : Nat)
  · go_wp2
    go_ret
    exact ⟨ret_int (by rw [hsz.out]; unfold szR; split <;> omega), (by simp (maxDischargeDepth := 9) [B1])⟩
  go_wp2_with fail
  refine (szVal_w x.V  ((left - (sznFact x.F : Nat)) - (x.Undo.size : Nat)) _ xV  (by omega) (by omega)).mono ?_
  rintro e w3 ⟨rfl, hb3⟩
  have B3 := via (w0 := w) (by simp (maxDischargeDepth := 9) [B1]) hb3
  have X3 : Bx w3 w.heap.size [.string x.F.Kind, (.slice a0 x.F.Fields.length c0), .string x.Undo, .int .i64 x.State, .int .i64 x.Tries, .int .i64 x.Due, .int .i64 x.V.K, .int .i64 x.V.N, .string x.V.S] := Bx.via (by simp (maxDischargeDepth := 9) [X1]) hb3
  have k3_0 := X3.c 0 _ rfl
  have k3_1 := X3.c 1 _ rfl
  have k3_2 := X3.c 2 _ rfl
  have k3_3 := X3.c 3 _ rfl
  have k3_4 := X3.c 4 _ rfl
  have k3_5 := X3.c 5 _ rfl
  have k3_6 := X3.c 6 _ rfl
  have k3_7 := X3.c 7 _ rfl
  have k3_8 := X3.c 8 _ rfl
  by_cases q2 : ((sznVal x.V : Nat) : Int) ≤ ((left - (sznFact x.F : Nat)) - (x.Undo.size : Nat))
  rotate_left
  · rw [szR_neg q2]
    go_wp2
    go_ret
    exact ⟨ret_int (by rw [hsz.out]; unfold szR; split <;> omega), (by simp (maxDischargeDepth := 9) [B3])⟩
  rw [szR_pos q2]
  go_wp2
  go_ret
  exact ⟨ret_int (by rw [hsz.out]; unfold szR; split <;> omega), (by simp (maxDischargeDepth := 9) [B3])⟩
set_option maxRecDepth 20000 in
theorem szSTask_w (l : List TaskD) (v : Value) (left : Int) (w : World) (h : Sl w l v) (h0 : 0 ≤ left) (h1 : left ≤ 1048576) :
    Calls Tryz.prog 235 #[v, .int .i64 left] w (RetI (szR (sznSTask l) left) w) := by
  obtain ⟨a, c, rfl, hl, -⟩ := h.open
  have hsz : Hid (sznSTask l = l.length + (l.map sznTask).sum) := rfl
  go_enter Tryz.func235, Tryz.ntmps235
  by_cases q0 : left < l.length
  · go_wp2
    go_ret
    exact ⟨ret_int (by rw [hsz.out]; unfold szR; split <;> omega), by simp⟩
  go_wp2
  go_loopw [1, 5] (fun lf i wr => Below w.heap.size w wr ∧ ∃ (k y : Nat), i = .int .i64 k ∧ lf = .int .i64 y ∧ k ≤ l.length ∧ Hid ((y : Int) + l.length + ((l.take k).map sznTask).sum = left)) (fun _ i _ => l.length - (intOf i).toNat)
  case atStart => exact ⟨Below.refl _ _, 0, (left - l.length).toNat, rfl, by congr 1; omega, by omega, by show _ = _; simp; omega⟩
  case round =>
    obtain ⟨hB, k, y, rfl, rfl, hk, hy⟩ := hrel
    by_cases hlt : k < l.length
    · obtain ⟨b, o, v0, rfl, hbl, hok, hc, s0⟩ := (h.to hB).atTask k hlt
      have hst := Lib.hid (sum_step sznTask l k hlt)
      have hle := Lib.hid (sum_le sznTask l (k + 1))
      generalize l[k] = x at *
      obtain ⟨c0, c1, c2, c3, c4, c5, c6, c7, c8⟩ := hc
      obtain ⟨a0, p0, rfl, hl0, -⟩ := s0.open
      have hy2 : y ≤ 1048576 := by have := hy.out; omega
      go_wp2_with fail
      refine (szTask_w x _ y _ hok s0 (by omega) (by omega)).mono ?_
      rintro e w1 ⟨rfl, hb1⟩
      have B1 := via hB hb1
      by_cases q1 : ((sznTask x : Nat) : Int) ≤ y
      · rw [szR_pos q1]
        go_wp2
        go_roundw
        case rel => exact ⟨B1, k + 1, y - sznTask x, by go_num, by congr 1; omega, by omega, by show _ = _; have := hy.out; have := hst.out; omega⟩
        case measure => simp [intOf]; omega
      · rw [szR_neg q1]
        go_wp2
        go_ret
        exact ⟨ret_int (by rw [hsz.out]; unfold szR; have := hy.out; have := hst.out; have := hle.out; split <;> omega), B1⟩
    · obtain rfl : k = l.length := by omega
      go_wp2
      go_ret
      exact ⟨ret_int (by rw [hsz.out]; unfold szR; have := hy.out; rw [List.take_length] at this; split <;> omega), hB⟩
set_option maxRecDepth 20000 in
theorem szUndo_w (x : UndoD) (v0 : Value) (left : Int) (w : World) (hx : okUndo x) (s0 : Sl w x.F.Fields v0) (h0 : 0 ≤ left) (h1 : left ≤ 1048576) :
    Calls Tryz.prog 329 #[.agg #[.string x.Key, .string x.F.Kind, v0], .int .i64 left] w (RetI (szR (sznUndo x) left) w) := by
  obtain ⟨a0, c0, rfl, hl0, -⟩ := s0.open
  have hsz : Hid (sznUndo x = x.Key.size + sznFact x.F) := rfl
  obtain ⟨xKey, xF⟩ := hx
  have yKey : x.Key.size ≤ 9223372036854775807 := by simp [maxLen] at xKey; omega
  clear xKey
  go_enter Tryz.func329, Tryz.ntmps329
  by_cases q0 : left < (x.Key.size : Nat)
  · go_wp2
    go_ret
    exact ⟨ret_int (by rw [hsz.out]; unfold szR; split <;> omega), (by simp (maxDischargeDepth := 9))⟩
  go_wp2_with fail
  refine (szFact_w x.F _ (left - (x.Key.size : Nat)) _ xF (s0.to (by simp (maxDischargeDepth := 9))) (by omega) (by omega)).mono ?_
  rintro e w2 ⟨rfl, hb2⟩
  have B2 := via (w0 := w) (by simp (maxDischargeDepth := 9)) hb2
  have X2 : Bx w2 w.heap.size [.string x.Key, .string x.F.Kind, (.slice a0 x.F.Fields.length c0)] := Bx.via (by simp (maxDischargeDepth := 9)) hb2
  have k2_0 := X2.c 0 _ rfl
  have k2_1 := X2.c 1 _ rfl
  have k2_2 := X2.c 2 _ rfl
  by_cases q1 : ((sznFact x.F : Nat) : Int) ≤ (left - (x.Key.size : Nat))
  rotate_left
  · rw [szR_neg q1]
    go_wp2
    go_ret
    exact ⟨ret_int (by rw [hsz.out]; unfold szR; split <;> omega), (by simp (maxDischargeDepth := 9) [B2])⟩
  rw [szR_pos q1]
  go_wp2
  go_ret
  exact ⟨ret_int (by rw [hsz.out]; unfold szR; split <;> omega), (by simp (maxDischargeDepth := 9) [B2])⟩
set_option maxRecDepth 20000 in
theorem szSUndo_w (l : List UndoD) (v : Value) (left : Int) (w : World) (h : Sl w l v) (h0 : 0 ≤ left) (h1 : left ≤ 1048576) :
    Calls Tryz.prog 237 #[v, .int .i64 left] w (RetI (szR (sznSUndo l) left) w) := by
  obtain ⟨a, c, rfl, hl, -⟩ := h.open
  have hsz : Hid (sznSUndo l = l.length + (l.map sznUndo).sum) := rfl
  go_enter Tryz.func237, Tryz.ntmps237
  by_cases q0 : left < l.length
  · go_wp2
    go_ret
    exact ⟨ret_int (by rw [hsz.out]; unfold szR; split <;> omega), by simp⟩
  go_wp2
  go_loopw [1, 5] (fun lf i wr => Below w.heap.size w wr ∧ ∃ (k y : Nat), i = .int .i64 k ∧ lf = .int .i64 y ∧ k ≤ l.length ∧ Hid ((y : Int) + l.length + ((l.take k).map sznUndo).sum = left)) (fun _ i _ => l.length - (intOf i).toNat)
  case atStart => exact ⟨Below.refl _ _, 0, (left - l.length).toNat, rfl, by congr 1; omega, by omega, by show _ = _; simp; omega⟩
  case round =>
    obtain ⟨hB, k, y, rfl, rfl, hk, hy⟩ := hrel
    by_cases hlt : k < l.length
    · obtain ⟨b, o, v0, rfl, hbl, hok, hc, s0⟩ := (h.to hB).atUndo k hlt
      have hst := Lib.hid (sum_step sznUndo l k hlt)
      have hle := Lib.hid (sum_le sznUndo l (k + 1))
      generalize l[k] = x at *
      obtain ⟨c0, c1, c2⟩ := hc
      obtain ⟨a0, p0, rfl, hl0, -⟩ := s0.open
      have hy2 : y ≤ 1048576 := by have := hy.out; omega
      go_wp2_with fail
      refine (szUndo_w x _ y _ hok s0 (by omega) (by omega)).mono ?_
      rintro e w1 ⟨rfl, hb1⟩
      have B1 := via hB hb1
      by_cases q1 : ((sznUndo x : Nat) : Int) ≤ y
      · rw [szR_pos q1]
        go_wp2
        go_roundw
        case rel => exact ⟨B1, k + 1, y - sznUndo x, by go_num, by congr 1; omega, by omega, by show _ = _; have := hy.out; have := hst.out; omega⟩
        case measure => simp [intOf]; omega
      · rw [szR_neg q1]
        go_wp2
        go_ret
        exact ⟨ret_int (by rw [hsz.out]; unfold szR; have := hy.out; have := hst.out; have := hle.out; split <;> omega), B1⟩
    · obtain rfl : k = l.length := by omega
      go_wp2
      go_ret
      exact ⟨ret_int (by rw [hsz.out]; unfold szR; have := hy.out; rw [List.take_length] at this; split <;> omega), hB⟩
set_option maxRecDepth 20000 in
theorem szInst_w (x : InstD) (v0 v1 v2 v3 v4 : Value) (left : Int) (w : World) (hx : okInst x) (s0 : Sl w x.S.Items v0) (s1 : Sl w x.Fired v1) (s2 : Sl w x.Tasks v2) (s3 : Sl w x.Timers v3) (s4 : Sl w x.Undos v4) (h0 : 0 ≤ left) (h1 : left ≤ 1048576) :
    Calls Tryz.prog 153 #[.agg #[v0, .int .i64 x.S.Next, v1, v2, v3, v4, .int .i64 x.State, .int .i64 x.Now], .int .i64 left] w (RetI (szR (sznInst x) left) w) := by
  obtain ⟨a0, c0, rfl, hl0, -⟩ := s0.open
  obtain ⟨a1, c1, rfl, hl1, -⟩ := s1.open
  obtain ⟨a2, c2, rfl, hl2, -⟩ := s2.open
  obtain ⟨a3, c3, rfl, hl3, -⟩ := s3.open
  obtain ⟨a4, c4, rfl, hl4, -⟩ := s4.open
  have hsz : Hid (sznInst x = sznStore x.S + sznSMatch x.Fired + sznSTask x.Tasks + sznSTimer x.Timers + sznSUndo x.Undos) := rfl
  obtain ⟨xS, xState, xNow⟩ := hx
  go_enter Tryz.func153, Tryz.ntmps153
  go_wp2_with fail
  refine (szStore_w x.S _ left _ xS (s0.to (by simp (maxDischargeDepth := 9))) (by omega) (by omega)).mono ?_
  rintro e w1 ⟨rfl, hb1⟩
  have B1 := via (w0 := w) (by simp (maxDischargeDepth := 9)) hb1
  have X1 : Bx w1 w.heap.size [(.slice a0 x.S.Items.length c0), .int .i64 x.S.Next, (.slice a1 x.Fired.length c1), (.slice a2 x.Tasks.length c2), (.slice a3 x.Timers.length c3), (.slice a4 x.Undos.length c4), .int .i64 x.State, .int .i64 x.Now] := Bx.via (by simp (maxDischargeDepth := 9)) hb1
  have k1_0 := X1.c 0 _ rfl
  have k1_1 := X1.c 1 _ rfl
  have k1_2 := X1.c 2 _ rfl
  have k1_3 := X1.c 3 _ rfl
  have k1_4 := X1.c 4 _ rfl
  have k1_5 := X1.c 5 _ rfl
  have k1_6 := X1.c 6 _ rfl
  have k1_7 := X1.c 7 _ rfl
  by_cases q0 : ((sznStore x.S : Nat) : Int) ≤ left
  rotate_left
  · rw [szR_neg q0]
    go_wp2
    go_ret
    exact ⟨ret_int (by rw [hsz.out]; unfold szR; split <;> omega), (by simp (maxDischargeDepth := 9) [B1])⟩
  rw [szR_pos q0]
  go_wp2_with fail
  refine (szSMatch_w x.Fired _ (left - (sznStore x.S : Nat)) _ (s1.to (by simp (maxDischargeDepth := 9) [B1])) (by omega) (by omega)).mono ?_
  rintro e w2 ⟨rfl, hb2⟩
  have B2 := via (w0 := w) (by simp (maxDischargeDepth := 9) [B1]) hb2
  have X2 : Bx w2 w.heap.size [(.slice a0 x.S.Items.length c0), .int .i64 x.S.Next, (.slice a1 x.Fired.length c1), (.slice a2 x.Tasks.length c2), (.slice a3 x.Timers.length c3), (.slice a4 x.Undos.length c4), .int .i64 x.State, .int .i64 x.Now] := Bx.via (by simp (maxDischargeDepth := 9) [X1]) hb2
  have k2_0 := X2.c 0 _ rfl
  have k2_1 := X2.c 1 _ rfl
  have k2_2 := X2.c 2 _ rfl
  have k2_3 := X2.c 3 _ rfl
  have k2_4 := X2.c 4 _ rfl
  have k2_5 := X2.c 5 _ rfl
  have k2_6 := X2.c 6 _ rfl
  have k2_7 := X2.c 7 _ rfl
  by_cases q1 : ((sznSMatch x.Fired : Nat) : Int) ≤ (left - (sznStore x.S : Nat))
  rotate_left
  · rw [szR_neg q1]
    go_wp2
    go_ret
    exact ⟨ret_int (by rw [hsz.out]; unfold szR; split <;> omega), (by simp (maxDischargeDepth := 9) [B2])⟩
  rw [szR_pos q1]
  go_wp2_with fail
  refine (szSTask_w x.Tasks _ ((left - (sznStore x.S : Nat)) - (sznSMatch x.Fired : Nat)) _ (s2.to (by simp (maxDischargeDepth := 9) [B2])) (by omega) (by omega)).mono ?_
  rintro e w3 ⟨rfl, hb3⟩
  have B3 := via (w0 := w) (by simp (maxDischargeDepth := 9) [B2]) hb3
  have X3 : Bx w3 w.heap.size [(.slice a0 x.S.Items.length c0), .int .i64 x.S.Next, (.slice a1 x.Fired.length c1), (.slice a2 x.Tasks.length c2), (.slice a3 x.Timers.length c3), (.slice a4 x.Undos.length c4), .int .i64 x.State, .int .i64 x.Now] := Bx.via (by simp (maxDischargeDepth := 9) [X2]) hb3
  have k3_0 := X3.c 0 _ rfl
  have k3_1 := X3.c 1 _ rfl
  have k3_2 := X3.c 2 _ rfl
  have k3_3 := X3.c 3 _ rfl
  have k3_4 := X3.c 4 _ rfl
  have k3_5 := X3.c 5 _ rfl
  have k3_6 := X3.c 6 _ rfl
  have k3_7 := X3.c 7 _ rfl
  by_cases q2 : ((sznSTask x.Tasks : Nat) : Int) ≤ ((left - (sznStore x.S : Nat)) - (sznSMatch x.Fired : Nat))
  rotate_left
  · rw [szR_neg q2]
    go_wp2
    go_ret
    exact ⟨ret_int (by rw [hsz.out]; unfold szR; split <;> omega), (by simp (maxDischargeDepth := 9) [B3])⟩
  rw [szR_pos q2]
  go_wp2_with fail
  refine (szSTimer_w x.Timers _ (((left - (sznStore x.S : Nat)) - (sznSMatch x.Fired : Nat)) - (sznSTask x.Tasks : Nat)) _ (s3.to (by simp (maxDischargeDepth := 9) [B3])) (by omega) (by omega)).mono ?_
  rintro e w4 ⟨rfl, hb4⟩
  have B4 := via (w0 := w) (by simp (maxDischargeDepth := 9) [B3]) hb4
  have X4 : Bx w4 w.heap.size [(.slice a0 x.S.Items.length c0), .int .i64 x.S.Next, (.slice a1 x.Fired.length c1), (.slice a2 x.Tasks.length c2), (.slice a3 x.Timers.length c3), (.slice a4 x.Undos.length c4), .int .i64 x.State, .int .i64 x.Now] := Bx.via (by simp (maxDischargeDepth := 9) [X3]) hb4
  have k4_0 := X4.c 0 _ rfl
  have k4_1 := X4.c 1 _ rfl
  have k4_2 := X4.c 2 _ rfl
  have k4_3 := X4.c 3 _ rfl
  have k4_4 := X4.c 4 _ rfl
  have k4_5 := X4.c 5 _ rfl
  have k4_6 := X4.c 6 _ rfl
  have k4_7 := X4.c 7 _ rfl
  by_cases q3 : ((sznSTimer x.Timers : Nat) : Int) ≤ (((left - (sznStore x.S : Nat)) - (sznSMatch x.Fired : Nat)) - (sznSTask x.Tasks : Nat))
  rotate_left
  · rw [szR_neg q3]
    go_wp2
    go_ret
    exact ⟨ret_int (by rw [hsz.out]; unfold szR; split <;> omega), (by simp (maxDischargeDepth := 9) [B4])⟩
  rw [szR_pos q3]
  go_wp2_with fail
  refine (szSUndo_w x.Undos _ ((((left - (sznStore x.S : Nat)) - (sznSMatch x.Fired : Nat)) - (sznSTask x.Tasks : Nat)) - (sznSTimer x.Timers : Nat)) _ (s4.to (by simp (maxDischargeDepth := 9) [B4])) (by omega) (by omega)).mono ?_
  rintro e w5 ⟨rfl, hb5⟩
  have B5 := via (w0 := w) (by simp (maxDischargeDepth := 9) [B4]) hb5
  have X5 : Bx w5 w.heap.size [(.slice a0 x.S.Items.length c0), .int .i64 x.S.Next, (.slice a1 x.Fired.length c1), (.slice a2 x.Tasks.length c2), (.slice a3 x.Timers.length c3), (.slice a4 x.Undos.length c4), .int .i64 x.State, .int .i64 x.Now] := Bx.via (by simp (maxDischargeDepth := 9) [X4]) hb5
  have k5_0 := X5.c 0 _ rfl
  have k5_1 := X5.c 1 _ rfl
  have k5_2 := X5.c 2 _ rfl
  have k5_3 := X5.c 3 _ rfl
  have k5_4 := X5.c 4 _ rfl
  have k5_5 := X5.c 5 _ rfl
  have k5_6 := X5.c 6 _ rfl
  have k5_7 := X5.c 7 _ rfl
  by_cases q4 : ((sznSUndo x.Undos : Nat) : Int) ≤ ((((left - (sznStore x.S : Nat)) - (sznSMatch x.Fired : Nat)) - (sznSTask x.Tasks : Nat)) - (sznSTimer x.Timers : Nat))
  rotate_left
  · rw [szR_neg q4]
    go_wp2
    go_ret
    exact ⟨ret_int (by rw [hsz.out]; unfold szR; split <;> omega), (by simp (maxDischargeDepth := 9) [B5])⟩
  rw [szR_pos q4]
  go_wp2
  go_ret
  exact ⟨ret_int (by rw [hsz.out]; unfold szR; split <;> omega), (by simp (maxDischargeDepth := 9) [B5])⟩
set_option maxRecDepth 20000 in
theorem szWork_w (x : WorkD) (v0 v1 v2 v3 v4 : Value) (left : Int) (w : World) (hx : okWork x) (s0 : Sl w x.X.S.Items v0) (s1 : Sl w x.X.Fired v1) (s2 : Sl w x.X.Tasks v2) (s3 : Sl w x.X.Timers v3) (s4 : Sl w x.X.Undos v4) (h0 : 0 ≤ left) (h1 : left ≤ 1048576) :
    Calls Tryz.prog 87 #[.agg #[.string x.Name, .string x.Def, v0, .int .i64 x.X.S.Next, v1, v2, v3, v4, .int .i64 x.X.State, .int .i64 x.X.Now], .int .i64 left] w (RetI (szR (sznWork x) left) w) := by
  obtain ⟨a0, c0, rfl, hl0, -⟩ := s0.open
  obtain ⟨a1, c1, rfl, hl1, -⟩ := s1.open
  obtain ⟨a2, c2, rfl, hl2, -⟩ := s2.open
  obtain ⟨a3, c3, rfl, hl3, -⟩ := s3.open
  obtain ⟨a4, c4, rfl, hl4, -⟩ := s4.open
  have hsz : Hid (sznWork x = x.Name.size + x.Def.size + sznInst x.X) := rfl
  obtain ⟨xName, xDef, xX⟩ := hx
  have yName : x.Name.size ≤ 9223372036854775807 := by simp [maxLen] at xName; omega
  clear xName
  have yDef : x.Def.size ≤ 9223372036854775807 := by simp [maxLen] at xDef; omega
  clear xDef
  go_enter Tryz.func87, Tryz.ntmps87
  by_cases q0 : left < (x.Name.size : Nat)
  · go_wp2
    go_ret
    exact ⟨ret_int (by rw [hsz.out]; unfold szR; split <;> omega), (by simp (maxDischargeDepth := 9))⟩
  by_cases q1 : (left - (x.Name.size : Nat)) < (x.Def.size : Nat)
  · go_wp2
    go_ret
    exact ⟨ret_int (by rw [hsz.out]; unfold szR; split <;> omega), (by simp (maxDischargeDepth := 9))⟩
  go_wp2_with fail
  refine (szInst_w x.X _ _ _ _ _ ((left - (x.Name.size : Nat)) - (x.Def.size : Nat)) _ xX (s0.to (by simp (maxDischargeDepth := 9))) (s1.to (by simp (maxDischargeDepth := 9))) (s2.to (by simp (maxDischargeDepth := 9))) (s3.to (by simp (maxDischargeDepth := 9))) (s4.to (by simp (maxDischargeDepth := 9))) (by omega) (by omega)).mono ?_
  rintro e w3 ⟨rfl, hb3⟩
  have B3 := via (w0 := w) (by simp (maxDischargeDepth := 9)) hb3
  have X3 : Bx w3 w.heap.size [.string x.Name, .string x.Def, (.slice a0 x.X.S.Items.length c0), .int .i64 x.X.S.Next, (.slice a1 x.X.Fired.length c1), (.slice a2 x.X.Tasks.length c2), (.slice a3 x.X.Timers.length c3), (.slice a4 x.X.Undos.length c4), .int .i64 x.X.State, .int .i64 x.X.Now] := Bx.via (by simp (maxDischargeDepth := 9)) hb3
  have k3_0 := X3.c 0 _ rfl
  have k3_1 := X3.c 1 _ rfl
  have k3_2 := X3.c 2 _ rfl
  have k3_3 := X3.c 3 _ rfl
  have k3_4 := X3.c 4 _ rfl
  have k3_5 := X3.c 5 _ rfl
  have k3_6 := X3.c 6 _ rfl
  have k3_7 := X3.c 7 _ rfl
  have k3_8 := X3.c 8 _ rfl
  have k3_9 := X3.c 9 _ rfl
  by_cases q2 : ((sznInst x.X : Nat) : Int) ≤ ((left - (x.Name.size : Nat)) - (x.Def.size : Nat))
  rotate_left
  · rw [szR_neg q2]
    go_wp2
    go_ret
    exact ⟨ret_int (by rw [hsz.out]; unfold szR; split <;> omega), (by simp (maxDischargeDepth := 9) [B3])⟩
  rw [szR_pos q2]
  go_wp2
  go_ret
  exact ⟨ret_int (by rw [hsz.out]; unfold szR; split <;> omega), (by simp (maxDischargeDepth := 9) [B3])⟩
set_option maxRecDepth 20000 in
theorem szSWork_w (l : List WorkD) (v : Value) (left : Int) (w : World) (h : Sl w l v) (h0 : 0 ≤ left) (h1 : left ≤ 1048576) :
    Calls Tryz.prog 44 #[v, .int .i64 left] w (RetI (szR (sznSWork l) left) w) := by
  obtain ⟨a, c, rfl, hl, -⟩ := h.open
  have hsz : Hid (sznSWork l = l.length + (l.map sznWork).sum) := rfl
  go_enter Tryz.func44, Tryz.ntmps44
  by_cases q0 : left < l.length
  · go_wp2
    go_ret
    exact ⟨ret_int (by rw [hsz.out]; unfold szR; split <;> omega), by simp⟩
  go_wp2
  go_loopw [1, 5] (fun lf i wr => Below w.heap.size w wr ∧ ∃ (k y : Nat), i = .int .i64 k ∧ lf = .int .i64 y ∧ k ≤ l.length ∧ Hid ((y : Int) + l.length + ((l.take k).map sznWork).sum = left)) (fun _ i _ => l.length - (intOf i).toNat)
  case atStart => exact ⟨Below.refl _ _, 0, (left - l.length).toNat, rfl, by congr 1; omega, by omega, by show _ = _; simp; omega⟩
  case round =>
    obtain ⟨hB, k, y, rfl, rfl, hk, hy⟩ := hrel
    by_cases hlt : k < l.length
    · obtain ⟨b, o, v0, v1, v2, v3, v4, rfl, hbl, hok, hc, s0, s1, s2, s3, s4⟩ := (h.to hB).atWork k hlt
      have hst := Lib.hid (sum_step sznWork l k hlt)
      have hle := Lib.hid (sum_le sznWork l (k + 1))
      generalize l[k] = x at *
      obtain ⟨c0, c1, c2, c3, c4, c5, c6, c7, c8, c9⟩ := hc
      obtain ⟨a0, p0, rfl, hl0, -⟩ := s0.open; obtain ⟨a1, p1, rfl, hl1, -⟩ := s1.open; obtain ⟨a2, p2, rfl, hl2, -⟩ := s2.open; obtain ⟨a3, p3, rfl, hl3, -⟩ := s3.open; obtain ⟨a4, p4, rfl, hl4, -⟩ := s4.open
      have hy2 : y ≤ 1048576 := by have := hy.out; omega
      go_wp2_with fail
      refine (szWork_w x _ _ _ _ _ y _ hok s0 s1 s2 s3 s4 (by omega) (by omega)).mono ?_
      rintro e w1 ⟨rfl, hb1⟩
      have B1 := via hB hb1
      by_cases q1 : ((sznWork x : Nat) : Int) ≤ y
      · rw [szR_pos q1]
        go_wp2
        go_roundw
        case rel => exact ⟨B1, k + 1, y - sznWork x, by go_num, by congr 1; omega, by omega, by show _ = _; have := hy.out; have := hst.out; omega⟩
        case measure => simp [intOf]; omega
      · rw [szR_neg q1]
        go_wp2
        go_ret
        exact ⟨ret_int (by rw [hsz.out]; unfold szR; have := hy.out; have := hst.out; have := hle.out; split <;> omega), B1⟩
    · obtain rfl : k = l.length := by omega
      go_wp2
      go_ret
      exact ⟨ret_int (by rw [hsz.out]; unfold szR; have := hy.out; rw [List.take_length] at this; split <;> omega), hB⟩
set_option maxRecDepth 20000 in
theorem szBook_w (x : BookD) (v0 v1 : Value) (left : Int) (w : World) (hx : okBook x) (s0 : Sl w x.Defs v0) (s1 : Sl w x.Works v1) (h0 : 0 ≤ left) (h1 : left ≤ 1048576) :
    Calls Tryz.prog 10 #[.agg #[v0, v1, .int .i64 x.Now, .int .i64 x.Ring], .int .i64 left] w (RetI (szR (sznBook x) left) w) := by
  obtain ⟨a0, c0, rfl, hl0, -⟩ := s0.open
  obtain ⟨a1, c1, rfl, hl1, -⟩ := s1.open
  have hsz : Hid (sznBook x = sznSDef x.Defs + sznSWork x.Works) := rfl
  obtain ⟨xNow, xRing⟩ := hx
  go_enter Tryz.func10, Tryz.ntmps10
  go_wp2_with fail
  refine (szSDef_w x.Defs _ left _ (s0.to (by simp (maxDischargeDepth := 9))) (by omega) (by omega)).mono ?_
  rintro e w1 ⟨rfl, hb1⟩
  have B1 := via (w0 := w) (by simp (maxDischargeDepth := 9)) hb1
  have X1 : Bx w1 w.heap.size [(.slice a0 x.Defs.length c0), (.slice a1 x.Works.length c1), .int .i64 x.Now, .int .i64 x.Ring] := Bx.via (by simp (maxDischargeDepth := 9)) hb1
  have k1_0 := X1.c 0 _ rfl
  have k1_1 := X1.c 1 _ rfl
  have k1_2 := X1.c 2 _ rfl
  have k1_3 := X1.c 3 _ rfl
  by_cases q0 : ((sznSDef x.Defs : Nat) : Int) ≤ left
  rotate_left
  · rw [szR_neg q0]
    go_wp2
    go_ret
    exact ⟨ret_int (by rw [hsz.out]; unfold szR; split <;> omega), (by simp (maxDischargeDepth := 9) [B1])⟩
  rw [szR_pos q0]
  go_wp2_with fail
  refine (szSWork_w x.Works _ (left - (sznSDef x.Defs : Nat)) _ (s1.to (by simp (maxDischargeDepth := 9) [B1])) (by omega) (by omega)).mono ?_
  rintro e w2 ⟨rfl, hb2⟩
  have B2 := via (w0 := w) (by simp (maxDischargeDepth := 9) [B1]) hb2
  have X2 : Bx w2 w.heap.size [(.slice a0 x.Defs.length c0), (.slice a1 x.Works.length c1), .int .i64 x.Now, .int .i64 x.Ring] := Bx.via (by simp (maxDischargeDepth := 9) [X1]) hb2
  have k2_0 := X2.c 0 _ rfl
  have k2_1 := X2.c 1 _ rfl
  have k2_2 := X2.c 2 _ rfl
  have k2_3 := X2.c 3 _ rfl
  by_cases q1 : ((sznSWork x.Works : Nat) : Int) ≤ (left - (sznSDef x.Defs : Nat))
  rotate_left
  · rw [szR_neg q1]
    go_wp2
    go_ret
    exact ⟨ret_int (by rw [hsz.out]; unfold szR; split <;> omega), (by simp (maxDischargeDepth := 9) [B2])⟩
  rw [szR_pos q1]
  go_wp2
  go_ret
  exact ⟨ret_int (by rw [hsz.out]; unfold szR; split <;> omega), (by simp (maxDischargeDepth := 9) [B2])⟩
end Go.Proofs.YthnilnggpbploaaGreat
