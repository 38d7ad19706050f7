/- Structs compared, as the laws do. Printed by a program. -/
import Derived.Test.YthnilnggpbploaaGreatTy
import Derived.Test.YthnilnggpbploaaGreatIntS
namespace Go.Proofs.YthnilnggpbploaaGreat
open Go.RowKit
open Cel (rd own rd_len rd_one own_rd own_lt rd_below rd_mono own_keep)

set_option maxRecDepth 20000 in
theorem eqVal_w (x : ValD) (w : World) :
    Calls Tryz.prog 417 #[.agg #[.int .i64 x.K, .int .i64 x.N, .string x.S], .agg #[.int .i64 x.K, .int .i64 x.N, .string x.S]] w (RetB true w) := by
  go_enter Tryz.func417, Tryz.ntmps417
  go_wp2
  go_ret
  exact ⟨rfl, (by simp (maxDischargeDepth := 9))⟩
set_option maxRecDepth 20000 in
theorem eqSVal_w (l : List ValD) (v1 v2 : Value) (w : World) (h1 : Sl w l v1) (h2 : Sl w l v2) :
    Calls Tryz.prog 454 #[v1, v2] w (RetB true w) := by
  obtain ⟨a1, c1, rfl, hl, -⟩ := h1.open
  obtain ⟨a2, c2, rfl, -⟩ := h2.open
  go_enter Tryz.func454, Tryz.ntmps454
  go_wp2
  go_loopw [5] (fun i wr => Below w.heap.size w wr ∧ ∃ k : Nat, i = .int .i64 k ∧ k ≤ l.length) (fun i _ => l.length - (intOf i).toNat)
  case atStart => exact ⟨Below.refl _ _, 0, rfl, by omega⟩
  case round =>
    obtain ⟨hB, k, rfl, hk⟩ := hrel
    by_cases hlt : k < l.length
    · obtain ⟨b, o, rfl, hbl, hok, hc⟩ := (h1.to hB).atVal k hlt
      obtain ⟨b', o', rfl, hbl', -, hc'⟩ := (h2.to hB).atVal k hlt
      generalize l[k] = x at *
      obtain ⟨c0, c1, c2⟩ := hc
      obtain ⟨d0, d1, d2⟩ := hc'
      clear h1 h2
      go_wp2
      go_region_held3 (fun w' => w'.cell? ⟨b, o + k * 3, none⟩ = some (.int .i64 x.K) ∧ w'.cell? ⟨b, o + k * 3 + 1, none⟩ = some (.int .i64 x.N) ∧ w'.cell? ⟨b, o + k * 3 + 2, none⟩ = some (.string x.S) ∧ w'.cell? ⟨b', o' + k * 3, none⟩ = some (.int .i64 x.K) ∧ w'.cell? ⟨b', o' + k * 3 + 1, none⟩ = some (.int .i64 x.N) ∧ w'.cell? ⟨b', o' + k * 3 + 2, none⟩ = some (.string x.S)) (go_keep)
        (first | (go_at_call 417; refine (eqVal_w x  _  ).mono ?_; rintro e w1 ⟨rfl, hb1⟩; have V1 := via (w0 := wr) (by simp (maxDischargeDepth := 9)) hb1; have r0 := cell_below V1 hbl c0; have r1 := cell_below V1 hbl c1; have r2 := cell_below V1 hbl c2; have z0 := cell_below V1 hbl' d0; have z1 := cell_below V1 hbl' d1; have z2 := cell_below V1 hbl' d2))
      have B1 := via (w0 := w) (by simp (maxDischargeDepth := 9) [hB]) hb1
      go_wp2
      go_roundw
      case rel => exact ⟨by simp [B1], k + 1, by go_num, by omega⟩
      case measure => simp [intOf]; omega
    · go_wp2
      go_ret
      exact ⟨rfl, hB⟩
set_option maxRecDepth 20000 in
theorem eqFact_w (x : FactD) (v0 u0 : Value) (w : World) (s0 : Sl w x.Fields v0) (t0 : Sl w x.Fields u0) :
    Calls Tryz.prog 416 #[.agg #[.string x.Kind, v0], .agg #[.string x.Kind, u0]] w (RetB true w) := by
  obtain ⟨a0, c0, rfl, hl0, -⟩ := s0.open
  obtain ⟨b0, d0, rfl, -⟩ := t0.open
  go_enter Tryz.func416, Tryz.ntmps416
  go_wp2_with fail
  refine (eqSVal_w x.Fields _ _ _ (s0.to (by simp (maxDischargeDepth := 9))) (t0.to (by simp (maxDischargeDepth := 9)))).mono ?_
  rintro e w1 ⟨rfl, hb1⟩
  have B1 := via (w0 := w) (by simp (maxDischargeDepth := 9)) hb1
  have X1 : Bx w1 w.heap.size [.string x.Kind, (.slice a0 x.Fields.length c0)] := Bx.via (by simp (maxDischargeDepth := 9)) hb1
  have Y1 : Bx w1 (w.heap.size + 1) [.string x.Kind, (.slice b0 x.Fields.length d0)] := Bx.via (by simp (maxDischargeDepth := 9)) hb1
  have k1_0 := X1.c 0 _ rfl
  have l1_0 := Y1.c 0 _ rfl
  have k1_1 := X1.c 1 _ rfl
  have l1_1 := Y1.c 1 _ rfl
  go_wp2
  go_ret
  exact ⟨rfl, (by simp (maxDischargeDepth := 9) [B1])⟩
set_option maxRecDepth 20000 in
theorem eqItem_w (x : ItemD) (v0 u0 : Value) (w : World) (s0 : Sl w x.F.Fields v0) (t0 : Sl w x.F.Fields u0) :
    Calls Tryz.prog 413 #[.agg #[.int .i64 x.Id, .string x.F.Kind, v0], .agg #[.int .i64 x.Id, .string x.F.Kind, u0]] w (RetB true w) := by
  obtain ⟨a0, c0, rfl, hl0, -⟩ := s0.open
  obtain ⟨b0, d0, rfl, -⟩ := t0.open
  go_enter Tryz.func413, Tryz.ntmps413
  go_wp2_with fail
  refine (eqFact_w x.F _ _ _ (s0.to (by simp (maxDischargeDepth := 9))) (t0.to (by simp (maxDischargeDepth := 9)))).mono ?_
  rintro e w1 ⟨rfl, hb1⟩
  have B1 := via (w0 := w) (by simp (maxDischargeDepth := 9)) hb1
  have X1 : Bx w1 w.heap.size [.int .i64 x.Id, .string x.F.Kind, (.slice a0 x.F.Fields.length c0)] := Bx.via (by simp (maxDischargeDepth := 9)) hb1
  have Y1 : Bx w1 (w.heap.size + 1) [.int .i64 x.Id, .string x.F.Kind, (.slice b0 x.F.Fields.length d0)] := Bx.via (by simp (maxDischargeDepth := 9)) hb1
  have k1_0 := X1.c 0 _ rfl
  have l1_0 := Y1.c 0 _ rfl
  have k1_1 := X1.c 1 _ rfl
  have l1_1 := Y1.c 1 _ rfl
  have k1_2 := X1.c 2 _ rfl
  have l1_2 := Y1.c 2 _ rfl
  go_wp2
  go_ret
  exact ⟨rfl, (by simp (maxDischargeDepth := 9) [B1])⟩
set_option maxRecDepth 20000 in
theorem eqSItem_w (l : List ItemD) (v1 v2 : Value) (w : World) (h1 : Sl w l v1) (h2 : Sl w l v2) :
    Calls Tryz.prog 350 #[v1, v2] w (RetB true w) := by
  obtain ⟨a1, c1, rfl, hl, -⟩ := h1.open
  obtain ⟨a2, c2, rfl, -⟩ := h2.open
  go_enter Tryz.func350, Tryz.ntmps350
  go_wp2
  go_loopw [5] (fun i wr => Below w.heap.size w wr ∧ ∃ k : Nat, i = .int .i64 k ∧ k ≤ l.length) (fun i _ => l.length - (intOf i).toNat)
  case atStart => exact ⟨Below.refl _ _, 0, rfl, by omega⟩
  case round =>
    obtain ⟨hB, k, rfl, hk⟩ := hrel
    by_cases hlt : k < l.length
    · obtain ⟨b, o, v0, rfl, hbl, hok, hc, s0⟩ := (h1.to hB).atItem k hlt
      obtain ⟨b', o', u0, rfl, hbl', -, hc', t0⟩ := (h2.to hB).atItem k hlt
      generalize l[k] = x at *
      obtain ⟨c0, c1, c2⟩ := hc
      obtain ⟨d0, d1, d2⟩ := hc'
      clear h1 h2
      go_wp2
      go_region_held3 (fun w' => w'.cell? ⟨b, o + k * 3, none⟩ = some (.int .i64 x.Id) ∧ w'.cell? ⟨b, o + k * 3 + 1, none⟩ = some (.string x.F.Kind) ∧ w'.cell? ⟨b, o + k * 3 + 2, none⟩ = some (v0) ∧ w'.cell? ⟨b', o' + k * 3, none⟩ = some (.int .i64 x.Id) ∧ w'.cell? ⟨b', o' + k * 3 + 1, none⟩ = some (.string x.F.Kind) ∧ w'.cell? ⟨b', o' + k * 3 + 2, none⟩ = some (u0)) (go_keep)
        (first | (go_at_call 413; refine (eqItem_w x _ _ _ (s0.to (by simp (maxDischargeDepth := 9))) (t0.to (by simp (maxDischargeDepth := 9)))).mono ?_; rintro e w1 ⟨rfl, hb1⟩; have V1 := via (w0 := wr) (by simp (maxDischargeDepth := 9)) hb1; have r0 := cell_below V1 hbl c0; have r1 := cell_below V1 hbl c1; have r2 := cell_below V1 hbl c2; have z0 := cell_below V1 hbl' d0; have z1 := cell_below V1 hbl' d1; have z2 := cell_below V1 hbl' d2))
      have B1 := via (w0 := w) (by simp (maxDischargeDepth := 9) [hB]) hb1
      go_wp2
      go_roundw
      case rel => exact ⟨by simp [B1], k + 1, by go_num, by omega⟩
      case measure => simp [intOf]; omega
    · go_wp2
      go_ret
      exact ⟨rfl, hB⟩
set_option maxRecDepth 20000 in
theorem eqStore_w (x : StoreD) (v0 u0 : Value) (w : World) (s0 : Sl w x.Items v0) (t0 : Sl w x.Items u0) :
    Calls Tryz.prog 254 #[.agg #[v0, .int .i64 x.Next], .agg #[u0, .int .i64 x.Next]] w (RetB true w) := by
  obtain ⟨a0, c0, rfl, hl0, -⟩ := s0.open
  obtain ⟨b0, d0, rfl, -⟩ := t0.open
  go_enter Tryz.func254, Tryz.ntmps254
  go_wp2_with fail
  refine (eqSItem_w x.Items _ _ _ (s0.to (by simp (maxDischargeDepth := 9))) (t0.to (by simp (maxDischargeDepth := 9)))).mono ?_
  rintro e w1 ⟨rfl, hb1⟩
  have B1 := via (w0 := w) (by simp (maxDischargeDepth := 9)) hb1
  have X1 : Bx w1 w.heap.size [(.slice a0 x.Items.length c0), .int .i64 x.Next] := Bx.via (by simp (maxDischargeDepth := 9)) hb1
  have Y1 : Bx w1 (w.heap.size + 1) [(.slice b0 x.Items.length d0), .int .i64 x.Next] := Bx.via (by simp (maxDischargeDepth := 9)) hb1
  have k1_0 := X1.c 0 _ rfl
  have l1_0 := Y1.c 0 _ rfl
  have k1_1 := X1.c 1 _ rfl
  have l1_1 := Y1.c 1 _ rfl
  go_wp2
  go_ret
  exact ⟨rfl, (by simp (maxDischargeDepth := 9) [B1])⟩
set_option maxRecDepth 20000 in
theorem eqArg_w (x : ArgD) (w : World) :
    Calls Tryz.prog 451 #[.agg #[.int .i64 x.K, .string x.S, .int .i64 x.V.K, .int .i64 x.V.N, .string x.V.S], .agg #[.int .i64 x.K, .string x.S, .int .i64 x.V.K, .int .i64 x.V.N, .string x.V.S]] w (RetB true w) := by
  go_enter Tryz.func451, Tryz.ntmps451
  go_wp2_with fail
  refine (eqVal_w x.V  _  ).mono ?_
  rintro e w1 ⟨rfl, hb1⟩
  have B1 := via (w0 := w) (by simp (maxDischargeDepth := 9)) hb1
  have X1 : Bx w1 w.heap.size [.int .i64 x.K, .string x.S, .int .i64 x.V.K, .int .i64 x.V.N, .string x.V.S] := Bx.via (by simp (maxDischargeDepth := 9)) hb1
  have Y1 : Bx w1 (w.heap.size + 1) [.int .i64 x.K, .string x.S, .int .i64 x.V.K, .int .i64 x.V.N, .string x.V.S] := Bx.via (by simp (maxDischargeDepth := 9)) hb1
  have k1_0 := X1.c 0 _ rfl
  have l1_0 := Y1.c 0 _ rfl
  have k1_1 := X1.c 1 _ rfl
  have l1_1 := Y1.c 1 _ rfl
  have k1_2 := X1.c 2 _ rfl
  have l1_2 := Y1.c 2 _ rfl
  have k1_3 := X1.c 3 _ rfl
  have l1_3 := Y1.c 3 _ rfl
  have k1_4 := X1.c 4 _ rfl
  have l1_4 := Y1.c 4 _ rfl
  go_wp2
  go_ret
  exact ⟨rfl, (by simp (maxDischargeDepth := 9) [B1])⟩
set_option maxRecDepth 20000 in
theorem eqSArg_w (l : List ArgD) (v1 v2 : Value) (w : World) (h1 : Sl w l v1) (h2 : Sl w l v2) :
    Calls Tryz.prog 450 #[v1, v2] w (RetB true w) := by
  obtain ⟨a1, c1, rfl, hl, -⟩ := h1.open
  obtain ⟨a2, c2, rfl, -⟩ := h2.open
  go_enter Tryz.func450, Tryz.ntmps450
  go_wp2
  go_loopw [5] (fun i wr => Below w.heap.size w wr ∧ ∃ k : Nat, i = .int .i64 k ∧ k ≤ l.length) (fun i _ => l.length - (intOf i).toNat)
  case atStart => exact ⟨Below.refl _ _, 0, rfl, by omega⟩
  case round =>
    obtain ⟨hB, k, rfl, hk⟩ := hrel
    by_cases hlt : k < l.length
    · obtain ⟨b, o, rfl, hbl, hok, hc⟩ := (h1.to hB).atArg k hlt
      obtain ⟨b', o', rfl, hbl', -, hc'⟩ := (h2.to hB).atArg k hlt
      generalize l[k] = x at *
      obtain ⟨c0, c1, c2, c3, c4⟩ := hc
      obtain ⟨d0, d1, d2, d3, d4⟩ := hc'
      clear h1 h2
      go_wp2
      go_region_held3 (fun w' => w'.cell? ⟨b, o + k * 5, none⟩ = some (.int .i64 x.K) ∧ w'.cell? ⟨b, o + k * 5 + 1, none⟩ = some (.string x.S) ∧ w'.cell? ⟨b, o + k * 5 + 2, none⟩ = some (.int .i64 x.V.K) ∧ w'.cell? ⟨b, o + k * 5 + 3, none⟩ = some (.int .i64 x.V.N) ∧ w'.cell? ⟨b, o + k * 5 + 4, none⟩ = some (.string x.V.S) ∧ w'.cell? ⟨b', o' + k * 5, none⟩ = some (.int .i64 x.K) ∧ w'.cell? ⟨b', o' + k * 5 + 1, none⟩ = some (.string x.S) ∧ w'.cell? ⟨b', o' + k * 5 + 2, none⟩ = some (.int .i64 x.V.K) ∧ w'.cell? ⟨b', o' + k * 5 + 3, none⟩ = some (.int .i64 x.V.N) ∧ w'.cell? ⟨b', o' + k * 5 + 4, none⟩ = some (.string x.V.S)) (go_keep)
        (first | (go_at_call 451; refine (eqArg_w x  _  ).mono ?_; rintro e w1 ⟨rfl, hb1⟩; have V1 := via (w0 := wr) (by simp (maxDischargeDepth := 9)) hb1; have r0 := cell_below V1 hbl c0; have r1 := cell_below V1 hbl c1; have r2 := cell_below V1 hbl c2; have r3 := cell_below V1 hbl c3; have r4 := cell_below V1 hbl c4; have z0 := cell_below V1 hbl' d0; have z1 := cell_below V1 hbl' d1; have z2 := cell_below V1 hbl' d2; have z3 := cell_below V1 hbl' d3; have z4 := cell_below V1 hbl' d4))
      have B1 := via (w0 := w) (by simp (maxDischargeDepth := 9) [hB]) hb1
      go_wp2
      go_roundw
      case rel => exact ⟨by simp [B1], k + 1, by go_num, by omega⟩
      case measure => simp [intOf]; omega
    · go_wp2
      go_ret
      exact ⟨rfl, hB⟩
set_option maxRecDepth 20000 in
theorem eqPat_w (x : PatD) (v0 u0 : Value) (w : World) (s0 : Sl w x.Args v0) (t0 : Sl w x.Args u0) :
    Calls Tryz.prog 410 #[.agg #[.string x.Kind, v0, .bool x.Not], .agg #[.string x.Kind, u0, .bool x.Not]] w (RetB true w) := by
  obtain ⟨a0, c0, rfl, hl0, -⟩ := s0.open
  obtain ⟨b0, d0, rfl, -⟩ := t0.open
  go_enter Tryz.func410, Tryz.ntmps410
  go_wp2_with fail
  refine (eqSArg_w x.Args _ _ _ (s0.to (by simp (maxDischargeDepth := 9))) (t0.to (by simp (maxDischargeDepth := 9)))).mono ?_
  rintro e w1 ⟨rfl, hb1⟩
  have B1 := via (w0 := w) (by simp (maxDischargeDepth := 9)) hb1
  have X1 : Bx w1 w.heap.size [.string x.Kind, (.slice a0 x.Args.length c0), .bool x.Not] := Bx.via (by simp (maxDischargeDepth := 9)) hb1
  have Y1 : Bx w1 (w.heap.size + 1) [.string x.Kind, (.slice b0 x.Args.length d0), .bool x.Not] := Bx.via (by simp (maxDischargeDepth := 9)) hb1
  have k1_0 := X1.c 0 _ rfl
  have l1_0 := Y1.c 0 _ rfl
  have k1_1 := X1.c 1 _ rfl
  have l1_1 := Y1.c 1 _ rfl
  have k1_2 := X1.c 2 _ rfl
  have l1_2 := Y1.c 2 _ rfl
  go_wp2
  go_ret
  exact ⟨rfl, (by simp (maxDischargeDepth := 9) [B1])⟩
set_option maxRecDepth 20000 in
theorem eqSPat_w (l : List PatD) (v1 v2 : Value) (w : World) (h1 : Sl w l v1) (h2 : Sl w l v2) :
    Calls Tryz.prog 347 #[v1, v2] w (RetB true w) := by
  obtain ⟨a1, c1, rfl, hl, -⟩ := h1.open
  obtain ⟨a2, c2, rfl, -⟩ := h2.open
  go_enter Tryz.func347, Tryz.ntmps347
  go_wp2
  go_loopw [5] (fun i wr => Below w.heap.size w wr ∧ ∃ k : Nat, i = .int .i64 k ∧ k ≤ l.length) (fun i _ => l.length - (intOf i).toNat)
  case atStart => exact ⟨Below.refl _ _, 0, rfl, by omega⟩
  case round =>
    obtain ⟨hB, k, rfl, hk⟩ := hrel
    by_cases hlt : k < l.length
    · obtain ⟨b, o, v0, rfl, hbl, hok, hc, s0⟩ := (h1.to hB).atPat k hlt
      obtain ⟨b', o', u0, rfl, hbl', -, hc', t0⟩ := (h2.to hB).atPat k hlt
      generalize l[k] = x at *
      obtain ⟨c0, c1, c2⟩ := hc
      obtain ⟨d0, d1, d2⟩ := hc'
      clear h1 h2
      go_wp2
      go_region_held3 (fun w' => w'.cell? ⟨b, o + k * 3, none⟩ = some (.string x.Kind) ∧ w'.cell? ⟨b, o + k * 3 + 1, none⟩ = some (v0) ∧ w'.cell? ⟨b, o + k * 3 + 2, none⟩ = some (.bool x.Not) ∧ w'.cell? ⟨b', o' + k * 3, none⟩ = some (.string x.Kind) ∧ w'.cell? ⟨b', o' + k * 3 + 1, none⟩ = some (u0) ∧ w'.cell? ⟨b', o' + k * 3 + 2, none⟩ = some (.bool x.Not)) (go_keep)
        (first | (go_at_call 410; refine (eqPat_w x _ _ _ (s0.to (by simp (maxDischargeDepth := 9))) (t0.to (by simp (maxDischargeDepth := 9)))).mono ?_; rintro e w1 ⟨rfl, hb1⟩; have V1 := via (w0 := wr) (by simp (maxDischargeDepth := 9)) hb1; have r0 := cell_below V1 hbl c0; have r1 := cell_below V1 hbl c1; have r2 := cell_below V1 hbl c2; have z0 := cell_below V1 hbl' d0; have z1 := cell_below V1 hbl' d1; have z2 := cell_below V1 hbl' d2))
      have B1 := via (w0 := w) (by simp (maxDischargeDepth := 9) [hB]) hb1
      go_wp2
      go_roundw
      case rel => exact ⟨by simp [B1], k + 1, by go_num, by omega⟩
      case measure => simp [intOf]; omega
    · go_wp2
      go_ret
      exact ⟨rfl, hB⟩
set_option maxRecDepth 20000 in
theorem eqBind_w (x : BindD) (w : World) :
    Calls Tryz.prog 453 #[.agg #[.string x.Name, .int .i64 x.V.K, .int .i64 x.V.N, .string x.V.S], .agg #[.string x.Name, .int .i64 x.V.K, .int .i64 x.V.N, .string x.V.S]] w (RetB true w) := by
  go_enter Tryz.func453, Tryz.ntmps453
  go_wp2_with fail
  refine (eqVal_w x.V  _  ).mono ?_
  rintro e w1 ⟨rfl, hb1⟩
  have B1 := via (w0 := w) (by simp (maxDischargeDepth := 9)) hb1
  have X1 : Bx w1 w.heap.size [.string x.Name, .int .i64 x.V.K, .int .i64 x.V.N, .string x.V.S] := Bx.via (by simp (maxDischargeDepth := 9)) hb1
  have Y1 : Bx w1 (w.heap.size + 1) [.string x.Name, .int .i64 x.V.K, .int .i64 x.V.N, .string x.V.S] := Bx.via (by simp (maxDischargeDepth := 9)) hb1
  have k1_0 := X1.c 0 _ rfl
  have l1_0 := Y1.c 0 _ rfl
  have k1_1 := X1.c 1 _ rfl
  have l1_1 := Y1.c 1 _ rfl
  have k1_2 := X1.c 2 _ rfl
  have l1_2 := Y1.c 2 _ rfl
  have k1_3 := X1.c 3 _ rfl
  have l1_3 := Y1.c 3 _ rfl
  go_wp2
  go_ret
  exact ⟨rfl, (by simp (maxDischargeDepth := 9) [B1])⟩
set_option maxRecDepth 20000 in
theorem eqSBind_w (l : List BindD) (v1 v2 : Value) (w : World) (h1 : Sl w l v1) (h2 : Sl w l v2) :
    Calls Tryz.prog 415 #[v1, v2] w (RetB true w) := by
  obtain ⟨a1, c1, rfl, hl, -⟩ := h1.open
  obtain ⟨a2, c2, rfl, -⟩ := h2.open
  go_enter Tryz.func415, Tryz.ntmps415
  go_wp2
  go_loopw [5] (fun i wr => Below w.heap.size w wr ∧ ∃ k : Nat, i = .int .i64 k ∧ k ≤ l.length) (fun i _ => l.length - (intOf i).toNat)
  case atStart => exact ⟨Below.refl _ _, 0, rfl, by omega⟩
  case round =>
    obtain ⟨hB, k, rfl, hk⟩ := hrel
    by_cases hlt : k < l.length
    · obtain ⟨b, o, rfl, hbl, hok, hc⟩ := (h1.to hB).atBind k hlt
      obtain ⟨b', o', rfl, hbl', -, hc'⟩ := (h2.to hB).atBind k hlt
      generalize l[k] = x at *
      obtain ⟨c0, c1, c2, c3⟩ := hc
      obtain ⟨d0, d1, d2, d3⟩ := hc'
      clear h1 h2
      go_wp2
      go_region_held3 (fun w' => w'.cell? ⟨b, o + k * 4, none⟩ = some (.string x.Name) ∧ w'.cell? ⟨b, o + k * 4 + 1, none⟩ = some (.int .i64 x.V.K) ∧ w'.cell? ⟨b, o + k * 4 + 2, none⟩ = some (.int .i64 x.V.N) ∧ w'.cell? ⟨b, o + k * 4 + 3, none⟩ = some (.string x.V.S) ∧ w'.cell? ⟨b', o' + k * 4, none⟩ = some (.string x.Name) ∧ w'.cell? ⟨b', o' + k * 4 + 1, none⟩ = some (.int .i64 x.V.K) ∧ w'.cell? ⟨b', o' + k * 4 + 2, none⟩ = some (.int .i64 x.V.N) ∧ w'.cell? ⟨b', o' + k * 4 + 3, none⟩ = some (.string x.V.S)) (go_keep)
        (first | (go_at_call 453; refine (eqBind_w x  _  ).mono ?_; rintro e w1 ⟨rfl, hb1⟩; have V1 := via (w0 := wr) (by simp (maxDischargeDepth := 9)) hb1; have r0 := cell_below V1 hbl c0; have r1 := cell_below V1 hbl c1; have r2 := cell_below V1 hbl c2; have r3 := cell_below V1 hbl c3; have z0 := cell_below V1 hbl' d0; have z1 := cell_below V1 hbl' d1; have z2 := cell_below V1 hbl' d2; have z3 := cell_below V1 hbl' d3))
      have B1 := via (w0 := w) (by simp (maxDischargeDepth := 9) [hB]) hb1
      go_wp2
      go_roundw
      case rel => exact ⟨by simp [B1], k + 1, by go_num, by omega⟩
      case measure => simp [intOf]; omega
    · go_wp2
      go_ret
      exact ⟨rfl, hB⟩
set_option maxRecDepth 20000 in
theorem eqCond_w (x : CondD) (w : World) :
    Calls Tryz.prog 411 #[.agg #[.int .i64 x.Op, .int .i64 x.L.K, .string x.L.S, .int .i64 x.L.V.K, .int .i64 x.L.V.N, .string x.L.V.S, .int .i64 x.R.K, .string x.R.S, .int .i64 x.R.V.K, .int .i64 x.R.V.N, .string x.R.V.S], .agg #[.int .i64 x.Op, .int .i64 x.L.K, .string x.L.S, .int .i64 x.L.V.K, .int .i64 x.L.V.N, .string x.L.V.S, .int .i64 x.R.K, .string x.R.S, .int .i64 x.R.V.K, .int .i64 x.R.V.N, .string x.R.V.S]] w (RetB true w) := by
  go_enter Tryz.func411, Tryz.ntmps411
  go_wp2_with fail
  refine (eqArg_w x.L  _  ).mono ?_
  rintro e w1 ⟨rfl, hb1⟩
  have B1 := via (w0 := w) (by simp (maxDischargeDepth := 9)) hb1
  have X1 : Bx w1 w.heap.size [.int .i64 x.Op, .int .i64 x.L.K, .string x.L.S, .int .i64 x.L.V.K, .int .i64 x.L.V.N, .string x.L.V.S, .int .i64 x.R.K, .string x.R.S, .int .i64 x.R.V.K, .int .i64 x.R.V.N, .string x.R.V.S] := Bx.via (by simp (maxDischargeDepth := 9)) hb1
  have Y1 : Bx w1 (w.heap.size + 1) [.int .i64 x.Op, .int .i64 x.L.K, .string x.L.S, .int .i64 x.L.V.K, .int .i64 x.L.V.N, .string x.L.V.S, .int .i64 x.R.K, .string x.R.S, .int .i64 x.R.V.K, .int .i64 x.R.V.N, .string x.R.V.S] := Bx.via (by simp (maxDischargeDepth := 9)) hb1
  have k1_0 := X1.c 0 _ rfl
  have l1_0 := Y1.c 0 _ rfl
  have k1_1 := X1.c 1 _ rfl
  have l1_1 := Y1.c 1 _ rfl
  have k1_2 := X1.c 2 _ rfl
  have l1_2 := Y1.c 2 _ rfl
  have k1_3 := X1.c 3 _ rfl
  have l1_3 := Y1.c 3 _ rfl
  have k1_4 := X1.c 4 _ rfl
  have l1_4 := Y1.c 4 _ rfl
  have k1_5 := X1.c 5 _ rfl
  have l1_5 := Y1.c 5 _ rfl
  have k1_6 := X1.c 6 _ rfl
  have l1_6 := Y1.c 6 _ rfl
  have k1_7 := X1.c 7 _ rfl
  have l1_7 := Y1.c 7 _ rfl
  have k1_8 := X1.c 8 _ rfl
  have l1_8 := Y1.c 8 _ rfl
  have k1_9 := X1.c 9 _ rfl
  have l1_9 := Y1.c 9 _ rfl
  have k1_10 := X1.c 10 _ rfl
  have l1_10 := Y1.c 10 _ rfl
  go_wp2_with fail
  refine (eqArg_w x.R  _  ).mono ?_
  rintro e w2 ⟨rfl, hb2⟩
  have B2 := via (w0 := w) (by simp (maxDischargeDepth := 9) [B1]) hb2
  have X2 : Bx w2 w.heap.size [.int .i64 x.Op, .int .i64 x.L.K, .string x.L.S, .int .i64 x.L.V.K, .int .i64 x.L.V.N, .string x.L.V.S, .int .i64 x.R.K, .string x.R.S, .int .i64 x.R.V.K, .int .i64 x.R.V.N, .string x.R.V.S] := Bx.via (by simp (maxDischargeDepth := 9) [X1]) hb2
  have Y2 : Bx w2 (w.heap.size + 1) [.int .i64 x.Op, .int .i64 x.L.K, .string x.L.S, .int .i64 x.L.V.K, .int .i64 x.L.V.N, .string x.L.V.S, .int .i64 x.R.K, .string x.R.S, .int .i64 x.R.V.K, .int .i64 x.R.V.N, .string x.R.V.S] := Bx.via (by simp (maxDischargeDepth := 9) [Y1]) hb2
  have k2_0 := X2.c 0 _ rfl
  have l2_0 := Y2.c 0 _ rfl
  have k2_1 := X2.c 1 _ rfl
  have l2_1 := Y2.c 1 _ rfl
  have k2_2 := X2.c 2 _ rfl
  have l2_2 := Y2.c 2 _ rfl
  have k2_3 := X2.c 3 _ rfl
  have l2_3 := Y2.c 3 _ rfl
  have k2_4 := X2.c 4 _ rfl
  have l2_4 := Y2.c 4 _ rfl
  have k2_5 := X2.c 5 _ rfl
  have l2_5 := Y2.c 5 _ rfl
  have k2_6 := X2.c 6 _ rfl
  have l2_6 := Y2.c 6 _ rfl
  have k2_7 := X2.c 7 _ rfl
  have l2_7 := Y2.c 7 _ rfl
  have k2_8 := X2.c 8 _ rfl
  have l2_8 := Y2.c 8 _ rfl
  have k2_9 := X2.c 9 _ rfl
  have l2_9 := Y2.c 9 _ rfl
  have k2_10 := X2.c 10 _ rfl
  have l2_10 := Y2.c 10 _ rfl
  go_wp2
  go_ret
  exact ⟨rfl, (by simp (maxDischargeDepth := 9) [B2])⟩
set_option maxRecDepth 20000 in
theorem eqSCond_w (l : List CondD) (v1 v2 : Value) (w : World) (h1 : Sl w l v1) (h2 : Sl w l v2) :
    Calls Tryz.prog 348 #[v1, v2] w (RetB true w) := by
  obtain ⟨a1, c1, rfl, hl, -⟩ := h1.open
  obtain ⟨a2, c2, rfl, -⟩ := h2.open
  go_enter Tryz.func348, Tryz.ntmps348
  go_wp2
  go_loopw [5] (fun i wr => Below w.heap.size w wr ∧ ∃ k : Nat, i = .int .i64 k ∧ k ≤ l.length) (fun i _ => l.length - (intOf i).toNat)
  case atStart => exact ⟨Below.refl _ _, 0, rfl, by omega⟩
  case round =>
    obtain ⟨hB, k, rfl, hk⟩ := hrel
    by_cases hlt : k < l.length
    · obtain ⟨b, o, rfl, hbl, hok, hc⟩ := (h1.to hB).atCond k hlt
      obtain ⟨b', o', rfl, hbl', -, hc'⟩ := (h2.to hB).atCond k hlt
      generalize l[k] = x at *
      obtain ⟨c0, c1, c2, c3, c4, c5, c6, c7, c8, c9, c10⟩ := hc
      obtain ⟨d0, d1, d2, d3, d4, d5, d6, d7, d8, d9, d10⟩ := hc'
      clear h1 h2
      go_wp2
      go_region_held3 (fun w' => w'.cell? ⟨b, o + k * 11, none⟩ = some (.int .i64 x.Op) ∧ w'.cell? ⟨b, o + k * 11 + 1, none⟩ = some (.int .i64 x.L.K) ∧ w'.cell? ⟨b, o + k * 11 + 2, none⟩ = some (.string x.L.S) ∧ w'.cell? ⟨b, o + k * 11 + 3, none⟩ = some (.int .i64 x.L.V.K) ∧ w'.cell? ⟨b, o + k * 11 + 4, none⟩ = some (.int .i64 x.L.V.N) ∧ w'.cell? ⟨b, o + k * 11 + 5, none⟩ = some (.string x.L.V.S) ∧ w'.cell? ⟨b, o + k * 11 + 6, none⟩ = some (.int .i64 x.R.K) ∧ w'.cell? ⟨b, o + k * 11 + 7, none⟩ = some (.string x.R.S) ∧ w'.cell? ⟨b, o + k * 11 + 8, none⟩ = some (.int .i64 x.R.V.K) ∧ w'.cell? ⟨b, o + k * 11 + 9, none⟩ = some (.int .i64 x.R.V.N) ∧ w'.cell? ⟨b, o + k * 11 + 10, none⟩ = some (.string x.R.V.S) ∧ w'.cell? ⟨b', o' + k * 11, none⟩ = some (.int .i64 x.Op) ∧ w'.cell? ⟨b', o' + k * 11 + 1, none⟩ = some (.int .i64 x.L.K) ∧ w'.cell? ⟨b', o' + k * 11 + 2, none⟩ = some (.string x.L.S) ∧ w'.cell? ⟨b', o' + k * 11 + 3, none⟩ = some (.int .i64 x.L.V.K) ∧ w'.cell? ⟨b', o' + k * 11 + 4, none⟩ = some (.int .i64 x.L.V.N) ∧ w'.cell? ⟨b', o' + k * 11 + 5, none⟩ = some (.string x.L.V.S) ∧ w'.cell? ⟨b', o' + k * 11 + 6, none⟩ = some (.int .i64 x.R.K) ∧ w'.cell? ⟨b', o' + k * 11 + 7, none⟩ = some (.string x.R.S) ∧ w'.cell? ⟨b', o' + k * 11 + 8, none⟩ = some (.int .i64 x.R.V.K) ∧ w'.cell? ⟨b', o' + k * 11 + 9, none⟩ = some (.int .i64 x.R.V.N) ∧ w'.cell? ⟨b', o' + k * 11 + 10, none⟩ = some (.string x.R.V.S)) (go_keep)
        (first | (go_at_call 411; refine (eqCond_w x  _  ).mono ?_; rintro e w1 ⟨rfl, hb1⟩; have V1 := via (w0 := wr) (by simp (maxDischargeDepth := 9)) hb1; have r0 := cell_below V1 hbl c0; have r1 := cell_below V1 hbl c1; have r2 := cell_below V1 hbl c2; have r3 := cell_below V1 hbl c3; have r4 := cell_below V1 hbl c4; have r5 := cell_below V1 hbl c5; have r6 := cell_below V1 hbl c6; have r7 := cell_below V1 hbl c7; have r8 := cell_below V1 hbl c8; have r9 := cell_below V1 hbl c9; have r10 := cell_below V1 hbl c10; have z0 := cell_below V1 hbl' d0; have z1 := cell_below V1 hbl' d1; have z2 := cell_below V1 hbl' d2; have z3 := cell_below V1 hbl' d3; have z4 := cell_below V1 hbl' d4; have z5 := cell_below V1 hbl' d5; have z6 := cell_below V1 hbl' d6; have z7 := cell_below V1 hbl' d7; have z8 := cell_below V1 hbl' d8; have z9 := cell_below V1 hbl' d9; have z10 := cell_below V1 hbl' d10))
      have B1 := via (w0 := w) (by simp (maxDischargeDepth := 9) [hB]) hb1
      go_wp2
      go_roundw
      case rel => exact ⟨by simp [B1], k + 1, by go_num, by omega⟩
      case measure => simp [intOf]; omega
    · go_wp2
      go_ret
      exact ⟨rfl, hB⟩
set_option maxRecDepth 20000 in
theorem eqExpr_w (x : ExprD) (w : World) :
    Calls Tryz.prog 475 #[.agg #[.string x.Op, .int .i64 x.L.K, .string x.L.S, .int .i64 x.L.V.K, .int .i64 x.L.V.N, .string x.L.V.S, .int .i64 x.R.K, .string x.R.S, .int .i64 x.R.V.K, .int .i64 x.R.V.N, .string x.R.V.S], .agg #[.string x.Op, .int .i64 x.L.K, .string x.L.S, .int .i64 x.L.V.K, .int .i64 x.L.V.N, .string x.L.V.S, .int .i64 x.R.K, .string x.R.S, .int .i64 x.R.V.K, .int .i64 x.R.V.N, .string x.R.V.S]] w (RetB true w) := by
  go_enter Tryz.func475, Tryz.ntmps475
  go_wp2_with fail
  refine (eqArg_w x.L  _  ).mono ?_
  rintro e w1 ⟨rfl, hb1⟩
  have B1 := via (w0 := w) (by simp (maxDischargeDepth := 9)) hb1
  have X1 : Bx w1 w.heap.size [.string x.Op, .int .i64 x.L.K, .string x.L.S, .int .i64 x.L.V.K, .int .i64 x.L.V.N, .string x.L.V.S, .int .i64 x.R.K, .string x.R.S, .int .i64 x.R.V.K, .int .i64 x.R.V.N, .string x.R.V.S] := Bx.via (by simp (maxDischargeDepth := 9)) hb1
  have Y1 : Bx w1 (w.heap.size + 1) [.string x.Op, .int .i64 x.L.K, .string x.L.S, .int .i64 x.L.V.K, .int .i64 x.L.V.N, .string x.L.V.S, .int .i64 x.R.K, .string x.R.S, .int .i64 x.R.V.K, .int .i64 x.R.V.N, .string x.R.V.S] := Bx.via (by simp (maxDischargeDepth := 9)) hb1
  have k1_0 := X1.c 0 _ rfl
  have l1_0 := Y1.c 0 _ rfl
  have k1_1 := X1.c 1 _ rfl
  have l1_1 := Y1.c 1 _ rfl
  have k1_2 := X1.c 2 _ rfl
  have l1_2 := Y1.c 2 _ rfl
  have k1_3 := X1.c 3 _ rfl
  have l1_3 := Y1.c 3 _ rfl
  have k1_4 := X1.c 4 _ rfl
  have l1_4 := Y1.c 4 _ rfl
  have k1_5 := X1.c 5 _ rfl
  have l1_5 := Y1.c 5 _ rfl
  have k1_6 := X1.c 6 _ rfl
  have l1_6 := Y1.c 6 _ rfl
  have k1_7 := X1.c 7 _ rfl
  have l1_7 := Y1.c 7 _ rfl
  have k1_8 := X1.c 8 _ rfl
  have l1_8 := Y1.c 8 _ rfl
  have k1_9 := X1.c 9 _ rfl
  have l1_9 := Y1.c 9 _ rfl
  have k1_10 := X1.c 10 _ rfl
  have l1_10 := Y1.c 10 _ rfl
  go_wp2_with fail
  refine (eqArg_w x.R  _  ).mono ?_
  rintro e w2 ⟨rfl, hb2⟩
  have B2 := via (w0 := w) (by simp (maxDischargeDepth := 9) [B1]) hb2
  have X2 : Bx w2 w.heap.size [.string x.Op, .int .i64 x.L.K, .string x.L.S, .int .i64 x.L.V.K, .int .i64 x.L.V.N, .string x.L.V.S, .int .i64 x.R.K, .string x.R.S, .int .i64 x.R.V.K, .int .i64 x.R.V.N, .string x.R.V.S] := Bx.via (by simp (maxDischargeDepth := 9) [X1]) hb2
  have Y2 : Bx w2 (w.heap.size + 1) [.string x.Op, .int .i64 x.L.K, .string x.L.S, .int .i64 x.L.V.K, .int .i64 x.L.V.N, .string x.L.V.S, .int .i64 x.R.K, .string x.R.S, .int .i64 x.R.V.K, .int .i64 x.R.V.N, .string x.R.V.S] := Bx.via (by simp (maxDischargeDepth := 9) [Y1]) hb2
  have k2_0 := X2.c 0 _ rfl
  have l2_0 := Y2.c 0 _ rfl
  have k2_1 := X2.c 1 _ rfl
  have l2_1 := Y2.c 1 _ rfl
  have k2_2 := X2.c 2 _ rfl
  have l2_2 := Y2.c 2 _ rfl
  have k2_3 := X2.c 3 _ rfl
  have l2_3 := Y2.c 3 _ rfl
  have k2_4 := X2.c 4 _ rfl
  have l2_4 := Y2.c 4 _ rfl
  have k2_5 := X2.c 5 _ rfl
  have l2_5 := Y2.c 5 _ rfl
  have k2_6 := X2.c 6 _ rfl
  have l2_6 := Y2.c 6 _ rfl
  have k2_7 := X2.c 7 _ rfl
  have l2_7 := Y2.c 7 _ rfl
  have k2_8 := X2.c 8 _ rfl
  have l2_8 := Y2.c 8 _ rfl
  have k2_9 := X2.c 9 _ rfl
  have l2_9 := Y2.c 9 _ rfl
  have k2_10 := X2.c 10 _ rfl
  have l2_10 := Y2.c 10 _ rfl
  go_wp2
  go_ret
  exact ⟨rfl, (by simp (maxDischargeDepth := 9) [B2])⟩
set_option maxRecDepth 20000 in
theorem eqSExpr_w (l : List ExprD) (v1 v2 : Value) (w : World) (h1 : Sl w l v1) (h2 : Sl w l v2) :
    Calls Tryz.prog 452 #[v1, v2] w (RetB true w) := by
  obtain ⟨a1, c1, rfl, hl, -⟩ := h1.open
  obtain ⟨a2, c2, rfl, -⟩ := h2.open
  go_enter Tryz.func452, Tryz.ntmps452
  go_wp2
  go_loopw [5] (fun i wr => Below w.heap.size w wr ∧ ∃ k : Nat, i = .int .i64 k ∧ k ≤ l.length) (fun i _ => l.length - (intOf i).toNat)
  case atStart => exact ⟨Below.refl _ _, 0, rfl, by omega⟩
  case round =>
    obtain ⟨hB, k, rfl, hk⟩ := hrel
    by_cases hlt : k < l.length
    · obtain ⟨b, o, rfl, hbl, hok, hc⟩ := (h1.to hB).atExpr k hlt
      obtain ⟨b', o', rfl, hbl', -, hc'⟩ := (h2.to hB).atExpr k hlt
      generalize l[k] = x at *
      obtain ⟨c0, c1, c2, c3, c4, c5, c6, c7, c8, c9, c10⟩ := hc
      obtain ⟨d0, d1, d2, d3, d4, d5, d6, d7, d8, d9, d10⟩ := hc'
      clear h1 h2
      go_wp2
      go_region_held3 (fun w' => w'.cell? ⟨b, o + k * 11, none⟩ = some (.string x.Op) ∧ w'.cell? ⟨b, o + k * 11 + 1, none⟩ = some (.int .i64 x.L.K) ∧ w'.cell? ⟨b, o + k * 11 + 2, none⟩ = some (.string x.L.S) ∧ w'.cell? ⟨b, o + k * 11 + 3, none⟩ = some (.int .i64 x.L.V.K) ∧ w'.cell? ⟨b, o + k * 11 + 4, none⟩ = some (.int .i64 x.L.V.N) ∧ w'.cell? ⟨b, o + k * 11 + 5, none⟩ = some (.string x.L.V.S) ∧ w'.cell? ⟨b, o + k * 11 + 6, none⟩ = some (.int .i64 x.R.K) ∧ w'.cell? ⟨b, o + k * 11 + 7, none⟩ = some (.string x.R.S) ∧ w'.cell? ⟨b, o + k * 11 + 8, none⟩ = some (.int .i64 x.R.V.K) ∧ w'.cell? ⟨b, o + k * 11 + 9, none⟩ = some (.int .i64 x.R.V.N) ∧ w'.cell? ⟨b, o + k * 11 + 10, none⟩ = some (.string x.R.V.S) ∧ w'.cell? ⟨b', o' + k * 11, none⟩ = some (.string x.Op) ∧ w'.cell? ⟨b', o' + k * 11 + 1, none⟩ = some (.int .i64 x.L.K) ∧ w'.cell? ⟨b', o' + k * 11 + 2, none⟩ = some (.string x.L.S) ∧ w'.cell? ⟨b', o' + k * 11 + 3, none⟩ = some (.int .i64 x.L.V.K) ∧ w'.cell? ⟨b', o' + k * 11 + 4, none⟩ = some (.int .i64 x.L.V.N) ∧ w'.cell? ⟨b', o' + k * 11 + 5, none⟩ = some (.string x.L.V.S) ∧ w'.cell? ⟨b', o' + k * 11 + 6, none⟩ = some (.int .i64 x.R.K) ∧ w'.cell? ⟨b', o' + k * 11 + 7, none⟩ = some (.string x.R.S) ∧ w'.cell? ⟨b', o' + k * 11 + 8, none⟩ = some (.int .i64 x.R.V.K) ∧ w'.cell? ⟨b', o' + k * 11 + 9, none⟩ = some (.int .i64 x.R.V.N) ∧ w'.cell? ⟨b', o' + k * 11 + 10, none⟩ = some (.string x.R.V.S)) (go_keep)
        (first | (go_at_call 475; refine (eqExpr_w x  _  ).mono ?_; rintro e w1 ⟨rfl, hb1⟩; have V1 := via (w0 := wr) (by simp (maxDischargeDepth := 9)) hb1; have r0 := cell_below V1 hbl c0; have r1 := cell_below V1 hbl c1; have r2 := cell_below V1 hbl c2; have r3 := cell_below V1 hbl c3; have r4 := cell_below V1 hbl c4; have r5 := cell_below V1 hbl c5; have r6 := cell_below V1 hbl c6; have r7 := cell_below V1 hbl c7; have r8 := cell_below V1 hbl c8; have r9 := cell_below V1 hbl c9; have r10 := cell_below V1 hbl c10; have z0 := cell_below V1 hbl' d0; have z1 := cell_below V1 hbl' d1; have z2 := cell_below V1 hbl' d2; have z3 := cell_below V1 hbl' d3; have z4 := cell_below V1 hbl' d4; have z5 := cell_below V1 hbl' d5; have z6 := cell_below V1 hbl' d6; have z7 := cell_below V1 hbl' d7; have z8 := cell_below V1 hbl' d8; have z9 := cell_below V1 hbl' d9; have z10 := cell_below V1 hbl' d10))
      have B1 := via (w0 := w) (by simp (maxDischargeDepth := 9) [hB]) hb1
      go_wp2
      go_roundw
      case rel => exact ⟨by simp [B1], k + 1, by go_num, by omega⟩
      case measure => simp [intOf]; omega
    · go_wp2
      go_ret
      exact ⟨rfl, hB⟩
set_option maxRecDepth 20000 in
theorem eqAct_w (x : ActD) (v0 u0 : Value) (w : World) (s0 : Sl w x.Args v0) (t0 : Sl w x.Args u0) :
    Calls Tryz.prog 412 #[.agg #[.int .i64 x.Kind, .string x.Name, v0, .int .i64 x.N, .string x.Undo], .agg #[.int .i64 x.Kind, .string x.Name, u0, .int .i64 x.N, .string x.Undo]] w (RetB true w) := by
  obtain ⟨a0, c0, rfl, hl0, -⟩ := s0.open
  obtain ⟨b0, d0, rfl, -⟩ := t0.open
  go_enter Tryz.func412, Tryz.ntmps412
  go_wp2_with fail
  refine (eqSExpr_w x.Args _ _ _ (s0.to (by simp (maxDischargeDepth := 9))) (t0.to (by simp (maxDischargeDepth := 9)))).mono ?_
  rintro e w1 ⟨rfl, hb1⟩
  have B1 := via (w0 := w) (by simp (maxDischargeDepth := 9)) hb1
  have X1 : Bx w1 w.heap.size [.int .i64 x.Kind, .string x.Name, (.slice a0 x.Args.length c0), .int .i64 x.N, .string x.Undo] := Bx.via (by simp (maxDischargeDepth := 9)) hb1
  have Y1 : Bx w1 (w.heap.size + 1) [.int .i64 x.Kind, .string x.Name, (.slice b0 x.Args.length d0), .int .i64 x.N, .string x.Undo] := Bx.via (by simp (maxDischargeDepth := 9)) hb1
  have k1_0 := X1.c 0 _ rfl
  have l1_0 := Y1.c 0 _ rfl
  have k1_1 := X1.c 1 _ rfl
  have l1_1 := Y1.c 1 _ rfl
  have k1_2 := X1.c 2 _ rfl
  have l1_2 := Y1.c 2 _ rfl
  have k1_3 := X1.c 3 _ rfl
  have l1_3 := Y1.c 3 _ rfl
  have k1_4 := X1.c 4 _ rfl
  have l1_4 := Y1.c 4 _ rfl
  go_wp2
  go_ret
  exact ⟨rfl, (by simp (maxDischargeDepth := 9) [B1])⟩
set_option maxRecDepth 20000 in
theorem eqSAct_w (l : List ActD) (v1 v2 : Value) (w : World) (h1 : Sl w l v1) (h2 : Sl w l v2) :
    Calls Tryz.prog 349 #[v1, v2] w (RetB true w) := by
  obtain ⟨a1, c1, rfl, hl, -⟩ := h1.open
  obtain ⟨a2, c2, rfl, -⟩ := h2.open
  go_enter Tryz.func349, Tryz.ntmps349
  go_wp2
  go_loopw [5] (fun i wr => Below w.heap.size w wr ∧ ∃ k : Nat, i = .int .i64 k ∧ k ≤ l.length) (fun i _ => l.length - (intOf i).toNat)
  case atStart => exact ⟨Below.refl _ _, 0, rfl, by omega⟩
  case round =>
    obtain ⟨hB, k, rfl, hk⟩ := hrel
    by_cases hlt : k < l.length
    · obtain ⟨b, o, v0, rfl, hbl, hok, hc, s0⟩ := (h1.to hB).atAct k hlt
      obtain ⟨b', o', u0, rfl, hbl', -, hc', t0⟩ := (h2.to hB).atAct k hlt
      generalize l[k] = x at *
      obtain ⟨c0, c1, c2, c3, c4⟩ := hc
      obtain ⟨d0, d1, d2, d3, d4⟩ := hc'
      clear h1 h2
      go_wp2
      go_region_held3 (fun w' => w'.cell? ⟨b, o + k * 5, none⟩ = some (.int .i64 x.Kind) ∧ w'.cell? ⟨b, o + k * 5 + 1, none⟩ = some (.string x.Name) ∧ w'.cell? ⟨b, o + k * 5 + 2, none⟩ = some (v0) ∧ w'.cell? ⟨b, o + k * 5 + 3, none⟩ = some (.int .i64 x.N) ∧ w'.cell? ⟨b, o + k * 5 + 4, none⟩ = some (.string x.Undo) ∧ w'.cell? ⟨b', o' + k * 5, none⟩ = some (.int .i64 x.Kind) ∧ w'.cell? ⟨b', o' + k * 5 + 1, none⟩ = some (.string x.Name) ∧ w'.cell? ⟨b', o' + k * 5 + 2, none⟩ = some (u0) ∧ w'.cell? ⟨b', o' + k * 5 + 3, none⟩ = some (.int .i64 x.N) ∧ w'.cell? ⟨b', o' + k * 5 + 4, none⟩ = some (.string x.Undo)) (go_keep)
        (first | (go_at_call 412; refine (eqAct_w x _ _ _ (s0.to (by simp (maxDischargeDepth := 9))) (t0.to (by simp (maxDischargeDepth := 9)))).mono ?_; rintro e w1 ⟨rfl, hb1⟩; have V1 := via (w0 := wr) (by simp (maxDischargeDepth := 9)) hb1; have r0 := cell_below V1 hbl c0; have r1 := cell_below V1 hbl c1; have r2 := cell_below V1 hbl c2; have r3 := cell_below V1 hbl c3; have r4 := cell_below V1 hbl c4; have z0 := cell_below V1 hbl' d0; have z1 := cell_below V1 hbl' d1; have z2 := cell_below V1 hbl' d2; have z3 := cell_below V1 hbl' d3; have z4 := cell_below V1 hbl' d4))
      have B1 := via (w0 := w) (by simp (maxDischargeDepth := 9) [hB]) hb1
      go_wp2
      go_roundw
      case rel => exact ⟨by simp [B1], k + 1, by go_num, by omega⟩
      case measure => simp [intOf]; omega
    · go_wp2
      go_ret
      exact ⟨rfl, hB⟩
set_option maxRecDepth 20000 in
theorem eqRule_w (x : RuleD) (v0 v1 v2 u0 u1 u2 : Value) (w : World) (s0 : Sl w x.Pats v0) (s1 : Sl w x.Conds v1) (s2 : Sl w x.Acts v2) (t0 : Sl w x.Pats u0) (t1 : Sl w x.Conds u1) (t2 : Sl w x.Acts u2) :
    Calls Tryz.prog 253 #[.agg #[.string x.Name, .int .i64 x.Sal, v0, v1, v2], .agg #[.string x.Name, .int .i64 x.Sal, u0, u1, u2]] w (RetB true w) := by
  obtain ⟨a0, c0, rfl, hl0, -⟩ := s0.open
  obtain ⟨b0, d0, rfl, -⟩ := t0.open
  obtain ⟨a1, c1, rfl, hl1, -⟩ := s1.open
  obtain ⟨b1, d1, rfl, -⟩ := t1.open
  obtain ⟨a2, c2, rfl, hl2, -⟩ := s2.open
  obtain ⟨b2, d2, rfl, -⟩ := t2.open
  go_enter Tryz.func253, Tryz.ntmps253
  go_wp2_with fail
  refine (eqSPat_w x.Pats _ _ _ (s0.to (by simp (maxDischargeDepth := 9))) (t0.to (by simp (maxDischargeDepth := 9)))).mono ?_
  rintro e w1 ⟨rfl, hb1⟩
  have B1 := via (w0 := w) (by simp (maxDischargeDepth := 9)) hb1
  have X1 : Bx w1 w.heap.size [.string x.Name, .int .i64 x.Sal, (.slice a0 x.Pats.length c0), (.slice a1 x.Conds.length c1), (.slice a2 x.Acts.length c2)] := Bx.via (by simp (maxDischargeDepth := 9)) hb1
  have Y1 : Bx w1 (w.heap.size + 1) [.string x.Name, .int .i64 x.Sal, (.slice b0 x.Pats.length d0), (.slice b1 x.Conds.length d1), (.slice b2 x.Acts.length d2)] := Bx.via (by simp (maxDischargeDepth := 9)) hb1
  have k1_0 := X1.c 0 _ rfl
  have l1_0 := Y1.c 0 _ rfl
  have k1_1 := X1.c 1 _ rfl
  have l1_1 := Y1.c 1 _ rfl
  have k1_2 := X1.c 2 _ rfl
  have l1_2 := Y1.c 2 _ rfl
  have k1_3 := X1.c 3 _ rfl
  have l1_3 := Y1.c 3 _ rfl
  have k1_4 := X1.c 4 _ rfl
  have l1_4 := Y1.c 4 _ rfl
  go_wp2_with fail
  refine (eqSCond_w x.Conds _ _ _ (s1.to (by simp (maxDischargeDepth := 9) [B1])) (t1.to (by simp (maxDischargeDepth := 9) [B1]))).mono ?_
  rintro e w2 ⟨rfl, hb2⟩
  have B2 := via (w0 := w) (by simp (maxDischargeDepth := 9) [B1]) hb2
  have X2 : Bx w2 w.heap.size [.string x.Name, .int .i64 x.Sal, (.slice a0 x.Pats.length c0), (.slice a1 x.Conds.length c1), (.slice a2 x.Acts.length c2)] := Bx.via (by simp (maxDischargeDepth := 9) [X1]) hb2
  have Y2 : Bx w2 (w.heap.size + 1) [.string x.Name, .int .i64 x.Sal, (.slice b0 x.Pats.length d0), (.slice b1 x.Conds.length d1), (.slice b2 x.Acts.length d2)] := Bx.via (by simp (maxDischargeDepth := 9) [Y1]) hb2
  have k2_0 := X2.c 0 _ rfl
  have l2_0 := Y2.c 0 _ rfl
  have k2_1 := X2.c 1 _ rfl
  have l2_1 := Y2.c 1 _ rfl
  have k2_2 := X2.c 2 _ rfl
  have l2_2 := Y2.c 2 _ rfl
  have k2_3 := X2.c 3 _ rfl
  have l2_3 := Y2.c 3 _ rfl
  have k2_4 := X2.c 4 _ rfl
  have l2_4 := Y2.c 4 _ rfl
  go_wp2_with fail
  refine (eqSAct_w x.Acts _ _ _ (s2.to (by simp (maxDischargeDepth := 9) [B2])) (t2.to (by simp (maxDischargeDepth := 9) [B2]))).mono ?_
  rintro e w3 ⟨rfl, hb3⟩
  have B3 := via (w0 := w) (by simp (maxDischargeDepth := 9) [B2]) hb3
  have X3 : Bx w3 w.heap.size [.string x.Name, .int .i64 x.Sal, (.slice a0 x.Pats.length c0), (.slice a1 x.Conds.length c1), (.slice a2 x.Acts.length c2)] := Bx.via (by simp (maxDischargeDepth := 9) [X2]) hb3
  have Y3 : Bx w3 (w.heap.size + 1) [.string x.Name, .int .i64 x.Sal, (.slice b0 x.Pats.length d0), (.slice b1 x.Conds.length d1), (.slice b2 x.Acts.length d2)] := Bx.via (by simp (maxDischargeDepth := 9) [Y2]) hb3
  have k3_0 := X3.c 0 _ rfl
  have l3_0 := Y3.c 0 _ rfl
  have k3_1 := X3.c 1 _ rfl
  have l3_1 := Y3.c 1 _ rfl
  have k3_2 := X3.c 2 _ rfl
  have l3_2 := Y3.c 2 _ rfl
  have k3_3 := X3.c 3 _ rfl
  have l3_3 := Y3.c 3 _ rfl
  have k3_4 := X3.c 4 _ rfl
  have l3_4 := Y3.c 4 _ rfl
  go_wp2
  go_ret
  exact ⟨rfl, (by simp (maxDischargeDepth := 9) [B3])⟩
set_option maxRecDepth 20000 in
theorem eqSRule_w (l : List RuleD) (v1 v2 : Value) (w : World) (h1 : Sl w l v1) (h2 : Sl w l v2) :
    Calls Tryz.prog 167 #[v1, v2] w (RetB true w) := by
  obtain ⟨a1, c1, rfl, hl, -⟩ := h1.open
  obtain ⟨a2, c2, rfl, -⟩ := h2.open
  go_enter Tryz.func167, Tryz.ntmps167
  go_wp2
  go_loopw [5] (fun i wr => Below w.heap.size w wr ∧ ∃ k : Nat, i = .int .i64 k ∧ k ≤ l.length) (fun i _ => l.length - (intOf i).toNat)
  case atStart => exact ⟨Below.refl _ _, 0, rfl, by omega⟩
  case round =>
    obtain ⟨hB, k, rfl, hk⟩ := hrel
    by_cases hlt : k < l.length
    · obtain ⟨b, o, v0, v1, v2, rfl, hbl, hok, hc, s0, s1, s2⟩ := (h1.to hB).atRule k hlt
      obtain ⟨b', o', u0, u1, u2, rfl, hbl', -, hc', t0, t1, t2⟩ := (h2.to hB).atRule k hlt
      generalize l[k] = x at *
      obtain ⟨c0, c1, c2, c3, c4⟩ := hc
      obtain ⟨d0, d1, d2, d3, d4⟩ := hc'
      clear h1 h2
      go_wp2
      go_region_held3 (fun w' => w'.cell? ⟨b, o + k * 5, none⟩ = some (.string x.Name) ∧ w'.cell? ⟨b, o + k * 5 + 1, none⟩ = some (.int .i64 x.Sal) ∧ w'.cell? ⟨b, o + k * 5 + 2, none⟩ = some (v0) ∧ w'.cell? ⟨b, o + k * 5 + 3, none⟩ = some (v1) ∧ w'.cell? ⟨b, o + k * 5 + 4, none⟩ = some (v2) ∧ w'.cell? ⟨b', o' + k * 5, none⟩ = some (.string x.Name) ∧ w'.cell? ⟨b', o' + k * 5 + 1, none⟩ = some (.int .i64 x.Sal) ∧ w'.cell? ⟨b', o' + k * 5 + 2, none⟩ = some (u0) ∧ w'.cell? ⟨b', o' + k * 5 + 3, none⟩ = some (u1) ∧ w'.cell? ⟨b', o' + k * 5 + 4, none⟩ = some (u2)) (go_keep)
        (first | (go_at_call 253; refine (eqRule_w x _ _ _ _ _ _ _ (s0.to (by simp (maxDischargeDepth := 9))) (s1.to (by simp (maxDischargeDepth := 9))) (s2.to (by simp (maxDischargeDepth := 9))) (t0.to (by simp (maxDischargeDepth := 9))) (t1.to (by simp (maxDischargeDepth := 9))) (t2.to (by simp (maxDischargeDepth := 9)))).mono ?_; rintro e w1 ⟨rfl, hb1⟩; have V1 := via (w0 := wr) (by simp (maxDischargeDepth := 9)) hb1; have r0 := cell_below V1 hbl c0; have r1 := cell_below V1 hbl c1; have r2 := cell_below V1 hbl c2; have r3 := cell_below V1 hbl c3; have r4 := cell_below V1 hbl c4; have z0 := cell_below V1 hbl' d0; have z1 := cell_below V1 hbl' d1; have z2 := cell_below V1 hbl' d2; have z3 := cell_below V1 hbl' d3; have z4 := cell_below V1 hbl' d4))
      have B1 := via (w0 := w) (by simp (maxDischargeDepth := 9) [hB]) hb1
      go_wp2
      go_roundw
      case rel => exact ⟨by simp [B1], k + 1, by go_num, by omega⟩
      case measure => simp [intOf]; omega
    · go_wp2
      go_ret
      exact ⟨rfl, hB⟩
set_option maxRecDepth 20000 in
theorem eqDef_w (x : DefD) (v0 u0 : Value) (w : World) (s0 : Sl w x.Rules v0) (t0 : Sl w x.Rules u0) :
    Calls Tryz.prog 95 #[.agg #[.string x.Name, v0], .agg #[.string x.Name, u0]] w (RetB true w) := by
  obtain ⟨a0, c0, rfl, hl0, -⟩ := s0.open
  obtain ⟨b0, d0, rfl, -⟩ := t0.open
  go_enter Tryz.func95, Tryz.ntmps95
  go_wp2_with fail
  refine (eqSRule_w x.Rules _ _ _ (s0.to (by simp (maxDischargeDepth := 9))) (t0.to (by simp (maxDischargeDepth := 9)))).mono ?_
  rintro e w1 ⟨rfl, hb1⟩
  have B1 := via (w0 := w) (by simp (maxDischargeDepth := 9)) hb1
  have X1 : Bx w1 w.heap.size [.string x.Name, (.slice a0 x.Rules.length c0)] := Bx.via (by simp (maxDischargeDepth := 9)) hb1
  have Y1 : Bx w1 (w.heap.size + 1) [.string x.Name, (.slice b0 x.Rules.length d0)] := Bx.via (by simp (maxDischargeDepth := 9)) hb1
  have k1_0 := X1.c 0 _ rfl
  have l1_0 := Y1.c 0 _ rfl
  have k1_1 := X1.c 1 _ rfl
  have l1_1 := Y1.c 1 _ rfl
  go_wp2
  go_ret
  exact ⟨rfl, (by simp (maxDischargeDepth := 9) [B1])⟩
set_option maxRecDepth 20000 in
theorem eqSDef_w (l : List DefD) (v1 v2 : Value) (w : World) (h1 : Sl w l v1) (h2 : Sl w l v2) :
    Calls Tryz.prog 48 #[v1, v2] w (RetB true w) := by
  obtain ⟨a1, c1, rfl, hl, -⟩ := h1.open
  obtain ⟨a2, c2, rfl, -⟩ := h2.open
  go_enter Tryz.func48, Tryz.ntmps48
  go_wp2
  go_loopw [5] (fun i wr => Below w.heap.size w wr ∧ ∃ k : Nat, i = .int .i64 k ∧ k ≤ l.length) (fun i _ => l.length - (intOf i).toNat)
  case atStart => exact ⟨Below.refl _ _, 0, rfl, by omega⟩
  case round =>
    obtain ⟨hB, k, rfl, hk⟩ := hrel
    by_cases hlt : k < l.length
    · obtain ⟨b, o, v0, rfl, hbl, hok, hc, s0⟩ := (h1.to hB).atDef k hlt
      obtain ⟨b', o', u0, rfl, hbl', -, hc', t0⟩ := (h2.to hB).atDef k hlt
      generalize l[k] = x at *
      obtain ⟨c0, c1⟩ := hc
      obtain ⟨d0, d1⟩ := hc'
      clear h1 h2
      go_wp2
      go_region_held3 (fun w' => w'.cell? ⟨b, o + k * 2, none⟩ = some (.string x.Name) ∧ w'.cell? ⟨b, o + k * 2 + 1, none⟩ = some (v0) ∧ w'.cell? ⟨b', o' + k * 2, none⟩ = some (.string x.Name) ∧ w'.cell? ⟨b', o' + k * 2 + 1, none⟩ = some (u0)) (go_keep)
        (first | (go_at_call 95; refine (eqDef_w x _ _ _ (s0.to (by simp (maxDischargeDepth := 9))) (t0.to (by simp (maxDischargeDepth := 9)))).mono ?_; rintro e w1 ⟨rfl, hb1⟩; have V1 := via (w0 := wr) (by simp (maxDischargeDepth := 9)) hb1; have r0 := cell_below V1 hbl c0; have r1 := cell_below V1 hbl c1; have z0 := cell_below V1 hbl' d0; have z1 := cell_below V1 hbl' d1))
      have B1 := via (w0 := w) (by simp (maxDischargeDepth := 9) [hB]) hb1
      go_wp2
      go_roundw
      case rel => exact ⟨by simp [B1], k + 1, by go_num, by omega⟩
      case measure => simp [intOf]; omega
    · go_wp2
      go_ret
      exact ⟨rfl, hB⟩
set_option maxRecDepth 20000 in
theorem eqMatch_w (x : MatchD) (v0 v1 u0 u1 : Value) (w : World) (s0 : Sl w x.Ids v0) (s1 : Sl w x.Binds v1) (t0 : Sl w x.Ids u0) (t1 : Sl w x.Binds u1) :
    Calls Tryz.prog 351 #[.agg #[.int .i64 x.Rule, v0, v1], .agg #[.int .i64 x.Rule, u0, u1]] w (RetB true w) := by
  obtain ⟨a0, c0, rfl, hl0, -⟩ := s0.open
  obtain ⟨b0, d0, rfl, -⟩ := t0.open
  obtain ⟨a1, c1, rfl, hl1, -⟩ := s1.open
  obtain ⟨b1, d1, rfl, -⟩ := t1.open
  go_enter Tryz.func351, Tryz.ntmps351
  go_wp2_with fail
  refine (eqSInt_w x.Ids _ _ _ (s0.to (by simp (maxDischargeDepth := 9))) (t0.to (by simp (maxDischargeDepth := 9)))).mono ?_
  rintro e w1 ⟨rfl, hb1⟩
  have B1 := via (w0 := w) (by simp (maxDischargeDepth := 9)) hb1
  have X1 : Bx w1 w.heap.size [.int .i64 x.Rule, (.slice a0 x.Ids.length c0), (.slice a1 x.Binds.length c1)] := Bx.via (by simp (maxDischargeDepth := 9)) hb1
  have Y1 : Bx w1 (w.heap.size + 1) [.int .i64 x.Rule, (.slice b0 x.Ids.length d0), (.slice b1 x.Binds.length d1)] := Bx.via (by simp (maxDischargeDepth := 9)) hb1
  have k1_0 := X1.c 0 _ rfl
  have l1_0 := Y1.c 0 _ rfl
  have k1_1 := X1.c 1 _ rfl
  have l1_1 := Y1.c 1 _ rfl
  have k1_2 := X1.c 2 _ rfl
  have l1_2 := Y1.c 2 _ rfl
  go_wp2_with fail
  refine (eqSBind_w x.Binds _ _ _ (s1.to (by simp (maxDischargeDepth := 9) [B1])) (t1.to (by simp (maxDischargeDepth := 9) [B1]))).mono ?_
  rintro e w2 ⟨rfl, hb2⟩
  have B2 := via (w0 := w) (by simp (maxDischargeDepth := 9) [B1]) hb2
  have X2 : Bx w2 w.heap.size [.int .i64 x.Rule, (.slice a0 x.Ids.length c0), (.slice a1 x.Binds.length c1)] := Bx.via (by simp (maxDischargeDepth := 9) [X1]) hb2
  have Y2 : Bx w2 (w.heap.size + 1) [.int .i64 x.Rule, (.slice b0 x.Ids.length d0), (.slice b1 x.Binds.length d1)] := Bx.via (by simp (maxDischargeDepth := 9) [Y1]) hb2
  have k2_0 := X2.c 0 _ rfl
  have l2_0 := Y2.c 0 _ rfl
  have k2_1 := X2.c 1 _ rfl
  have l2_1 := Y2.c 1 _ rfl
  have k2_2 := X2.c 2 _ rfl
  have l2_2 := Y2.c 2 _ rfl
  go_wp2
  go_ret
  exact ⟨rfl, (by simp (maxDischargeDepth := 9) [B2])⟩
set_option maxRecDepth 20000 in
theorem eqSMatch_w (l : List MatchD) (v1 v2 : Value) (w : World) (h1 : Sl w l v1) (h2 : Sl w l v2) :
    Calls Tryz.prog 255 #[v1, v2] w (RetB true w) := by
  obtain ⟨a1, c1, rfl, hl, -⟩ := h1.open
  obtain ⟨a2, c2, rfl, -⟩ := h2.open
  go_enter Tryz.func255, Tryz.ntmps255
  go_wp2
  go_loopw [5] (fun i wr => Below w.heap.size w wr ∧ ∃ k : Nat, i = .int .i64 k ∧ k ≤ l.length) (fun i _ => l.length - (intOf i).toNat)
  case atStart => exact ⟨Below.refl _ _, 0, rfl, by omega⟩
  case round =>
    obtain ⟨hB, k, rfl, hk⟩ := hrel
    by_cases hlt : k < l.length
    · obtain ⟨b, o, v0, v1, rfl, hbl, hok, hc, s0, s1⟩ := (h1.to hB).atMatch k hlt
      obtain ⟨b', o', u0, u1, rfl, hbl', -, hc', t0, t1⟩ := (h2.to hB).atMatch k hlt
      generalize l[k] = x at *
      obtain ⟨c0, c1, c2⟩ := hc
      obtain ⟨d0, d1, d2⟩ := hc'
      clear h1 h2
      go_wp2
      go_region_held3 (fun w' => w'.cell? ⟨b, o + k * 3, none⟩ = some (.int .i64 x.Rule) ∧ w'.cell? ⟨b, o + k * 3 + 1, none⟩ = some (v0) ∧ w'.cell? ⟨b, o + k * 3 + 2, none⟩ = some (v1) ∧ w'.cell? ⟨b', o' + k * 3, none⟩ = some (.int .i64 x.Rule) ∧ w'.cell? ⟨b', o' + k * 3 + 1, none⟩ = some (u0) ∧ w'.cell? ⟨b', o' + k * 3 + 2, none⟩ = some (u1)) (go_keep)
        (first | (go_at_call 351; refine (eqMatch_w x _ _ _ _ _ (s0.to (by simp (maxDischargeDepth := 9))) (s1.to (by simp (maxDischargeDepth := 9))) (t0.to (by simp (maxDischargeDepth := 9))) (t1.to (by simp (maxDischargeDepth := 9)))).mono ?_; rintro e w1 ⟨rfl, hb1⟩; have V1 := via (w0 := wr) (by simp (maxDischargeDepth := 9)) hb1; have r0 := cell_below V1 hbl c0; have r1 := cell_below V1 hbl c1; have r2 := cell_below V1 hbl c2; have z0 := cell_below V1 hbl' d0; have z1 := cell_below V1 hbl' d1; have z2 := cell_below V1 hbl' d2))
      have B1 := via (w0 := w) (by simp (maxDischargeDepth := 9) [hB]) hb1
      go_wp2
      go_roundw
      case rel => exact ⟨by simp [B1], k + 1, by go_num, by omega⟩
      case measure => simp [intOf]; omega
    · go_wp2
      go_ret
      exact ⟨rfl, hB⟩
set_option maxRecDepth 20000 in
theorem eqTimer_w (x : TimerD) (v0 u0 : Value) (w : World) (s0 : Sl w x.F.Fields v0) (t0 : Sl w x.F.Fields u0) :
    Calls Tryz.prog 353 #[.agg #[.int .i64 x.At, .string x.F.Kind, v0], .agg #[.int .i64 x.At, .string x.F.Kind, u0]] w (RetB true w) := by
  obtain ⟨a0, c0, rfl, hl0, -⟩ := s0.open
  obtain ⟨b0, d0, rfl, -⟩ := t0.open
  go_enter Tryz.func353, Tryz.ntmps353
  go_wp2_with fail
  refine (eqFact_w x.F _ _ _ (s0.to (by simp (maxDischargeDepth := 9))) (t0.to (by simp (maxDischargeDepth := 9)))).mono ?_
  rintro e w1 ⟨rfl, hb1⟩
  have B1 := via (w0 := w) (by simp (maxDischargeDepth := 9)) hb1
  have X1 : Bx w1 w.heap.size [.int .i64 x.At, .string x.F.Kind, (.slice a0 x.F.Fields.length c0)] := Bx.via (by simp (maxDischargeDepth := 9)) hb1
  have Y1 : Bx w1 (w.heap.size + 1) [.int .i64 x.At, .string x.F.Kind, (.slice b0 x.F.Fields.length d0)] := Bx.via (by simp (maxDischargeDepth := 9)) hb1
  have k1_0 := X1.c 0 _ rfl
  have l1_0 := Y1.c 0 _ rfl
  have k1_1 := X1.c 1 _ rfl
  have l1_1 := Y1.c 1 _ rfl
  have k1_2 := X1.c 2 _ rfl
  have l1_2 := Y1.c 2 _ rfl
  go_wp2
  go_ret
  exact ⟨rfl, (by simp (maxDischargeDepth := 9) [B1])⟩
set_option maxRecDepth 20000 in
theorem eqSTimer_w (l : List TimerD) (v1 v2 : Value) (w : World) (h1 : Sl w l v1) (h2 : Sl w l v2) :
    Calls Tryz.prog 257 #[v1, v2] w (RetB true w) := by
  obtain ⟨a1, c1, rfl, hl, -⟩ := h1.open
  obtain ⟨a2, c2, rfl, -⟩ := h2.open
  go_enter Tryz.func257, Tryz.ntmps257
  go_wp2
  go_loopw [5] (fun i wr => Below w.heap.size w wr ∧ ∃ k : Nat, i = .int .i64 k ∧ k ≤ l.length) (fun i _ => l.length - (intOf i).toNat)
  case atStart => exact ⟨Below.refl _ _, 0, rfl, by omega⟩
  case round =>
    obtain ⟨hB, k, rfl, hk⟩ := hrel
    by_cases hlt : k < l.length
    · obtain ⟨b, o, v0, rfl, hbl, hok, hc, s0⟩ := (h1.to hB).atTimer k hlt
      obtain ⟨b', o', u0, rfl, hbl', -, hc', t0⟩ := (h2.to hB).atTimer k hlt
      generalize l[k] = x at *
      obtain ⟨c0, c1, c2⟩ := hc
      obtain ⟨d0, d1, d2⟩ := hc'
      clear h1 h2
      go_wp2
      go_region_held3 (fun w' => w'.cell? ⟨b, o + k * 3, none⟩ = some (.int .i64 x.At) ∧ w'.cell? ⟨b, o + k * 3 + 1, none⟩ = some (.string x.F.Kind) ∧ w'.cell? ⟨b, o + k * 3 + 2, none⟩ = some (v0) ∧ w'.cell? ⟨b', o' + k * 3, none⟩ = some (.int .i64 x.At) ∧ w'.cell? ⟨b', o' + k * 3 + 1, none⟩ = some (.string x.F.Kind) ∧ w'.cell? ⟨b', o' + k * 3 + 2, none⟩ = some (u0)) (go_keep)
        (first | (go_at_call 353; refine (eqTimer_w x _ _ _ (s0.to (by simp (maxDischargeDepth := 9))) (t0.to (by simp (maxDischargeDepth := 9)))).mono ?_; rintro e w1 ⟨rfl, hb1⟩; have V1 := via (w0 := wr) (by simp (maxDischargeDepth := 9)) hb1; have r0 := cell_below V1 hbl c0; have r1 := cell_below V1 hbl c1; have r2 := cell_below V1 hbl c2; have z0 := cell_below V1 hbl' d0; have z1 := cell_below V1 hbl' d1; have z2 := cell_below V1 hbl' d2))
      have B1 := via (w0 := w) (by simp (maxDischargeDepth := 9) [hB]) hb1
      go_wp2
      go_roundw
      case rel => exact ⟨by simp [B1], k + 1, by go_num, by omega⟩
      case measure => simp [intOf]; omega
    · go_wp2
      go_ret
      exact ⟨rfl, hB⟩
set_option maxRecDepth 20000 in
theorem eqTask_w (x : TaskD) (v0 u0 : Value) (w : World) (s0 : Sl w x.F.Fields v0) (t0 : Sl w x.F.Fields u0) :
    Calls Tryz.prog 352 #[.agg #[.string x.F.Kind, v0, .string x.Undo, .int .i64 x.State, .int .i64 x.Tries, .int .i64 x.Due, .int .i64 x.V.K, .int .i64 x.V.N, .string x.V.S], .agg #[.string x.F.Kind, u0, .string x.Undo, .int .i64 x.State, .int .i64 x.Tries, .int .i64 x.Due, .int .i64 x.V.K, .int .i64 x.V.N, .string x.V.S]] w (RetB true w) := by
  obtain ⟨a0, c0, rfl, hl0, -⟩ := s0.open
  obtain ⟨b0, d0, rfl, -⟩ := t0.open
  go_enter Tryz.func352, Tryz.ntmps352
  go_wp2_with fail
  refine (eqFact_w x.F _ _ _ (s0.to (by simp (maxDischargeDepth := 9))) (t0.to (by simp (maxDischargeDepth := 9)))).mono ?_
  rintro e w1 ⟨rfl, hb1⟩
  have B1 := via (w0 := w) (by simp (maxDischargeDepth := 9)) hb1
  have X1 : Bx w1 w.heap.size [.string x.F.Kind, (.slice a0 x.F.Fields.length c0), .string x.Undo, .int .i64 x.State, .int .i64 x.Tries, .int .i64 x.Due, .int .i64 x.V.K, .int .i64 x.V.N, .string x.V.S] := Bx.via (by simp (maxDischargeDepth := 9)) hb1
  have Y1 : Bx w1 (w.heap.size + 1) [.string x.F.Kind, (.slice b0 x.F.Fields.length d0), .string x.Undo, .int .i64 x.State, .int .i64 x.Tries, .int .i64 x.Due, .int .i64 x.V.K, .int .i64 x.V.N, .string x.V.S] := Bx.via (by simp (maxDischargeDepth := 9)) hb1
  have k1_0 := X1.c 0 _ rfl
  have l1_0 := Y1.c 0 _ rfl
  have k1_1 := X1.c 1 _ rfl
  have l1_1 := Y1.c 1 _ rfl
  have k1_2 := X1.c 2 _ rfl
  have l1_2 := Y1.c 2 _ rfl
  have k1_3 := X1.c 3 _ rfl
  have l1_3 := Y1.c 3 _ rfl
  have k1_4 := X1.c 4 _ rfl
  have l1_4 := Y1.c 4 _ rfl
  have k1_5 := X1.c 5 _ rfl
  have l1_5 := Y1.c 5 _ rfl
  have k1_6 := X1.c 6 _ rfl
  have l1_6 := Y1.c 6 _ rfl
  have k1_7 := X1.c 7 _ rfl
  have l1_7 := Y1.c 7 _ rfl
  have k1_8 := X1.c 8 _ rfl
  have l1_8 := Y1.c 8 _ rfl
  go_wp2_with fail
  refine (eqVal_w x.V  _  ).mono ?_
  rintro e w2 ⟨rfl, hb2⟩
  have B2 := via (w0 := w) (by simp (maxDischargeDepth := 9) [B1]) hb2
  have X2 : Bx w2 w.heap.size [.string x.F.Kind, (.slice a0 x.F.Fields.length c0), .string x.Undo, .int .i64 x.State, .int .i64 x.Tries, .int .i64 x.Due, .int .i64 x.V.K, .int .i64 x.V.N, .string x.V.S] := Bx.via (by simp (maxDischargeDepth := 9) [X1]) hb2
  have Y2 : Bx w2 (w.heap.size + 1) [.string x.F.Kind, (.slice b0 x.F.Fields.length d0), .string x.Undo, .int .i64 x.State, .int .i64 x.Tries, .int .i64 x.Due, .int .i64 x.V.K, .int .i64 x.V.N, .string x.V.S] := Bx.via (by simp (maxDischargeDepth := 9) [Y1]) hb2
  have k2_0 := X2.c 0 _ rfl
  have l2_0 := Y2.c 0 _ rfl
  have k2_1 := X2.c 1 _ rfl
  have l2_1 := Y2.c 1 _ rfl
  have k2_2 := X2.c 2 _ rfl
  have l2_2 := Y2.c 2 _ rfl
  have k2_3 := X2.c 3 _ rfl
  have l2_3 := Y2.c 3 _ rfl
  have k2_4 := X2.c 4 _ rfl
  have l2_4 := Y2.c 4 _ rfl
  have k2_5 := X2.c 5 _ rfl
  have l2_5 := Y2.c 5 _ rfl
  have k2_6 := X2.c 6 _ rfl
  have l2_6 := Y2.c 6 _ rfl
  have k2_7 := X2.c 7 _ rfl
  have l2_7 := Y2.c 7 _ rfl
  have k2_8 := X2.c 8 _ rfl
  have l2_8 := Y2.c 8 _ rfl
  go_wp2
  go_ret
  exact ⟨rfl, (by simp (maxDischargeDepth := 9) [B2])⟩
set_option maxRecDepth 20000 in
theorem eqSTask_w (l : List TaskD) (v1 v2 : Value) (w : World) (h1 : Sl w l v1) (h2 : Sl w l v2) :
    Calls Tryz.prog 256 #[v1, v2] w (RetB true w) := by
  obtain ⟨a1, c1, rfl, hl, -⟩ := h1.open
  obtain ⟨a2, c2, rfl, -⟩ := h2.open
  go_enter Tryz.func256, Tryz.ntmps256
  go_wp2
  go_loopw [5] (fun i wr => Below w.heap.size w wr ∧ ∃ k : Nat, i = .int .i64 k ∧ k ≤ l.length) (fun i _ => l.length - (intOf i).toNat)
  case atStart => exact ⟨Below.refl _ _, 0, rfl, by omega⟩
  case round =>
    obtain ⟨hB, k, rfl, hk⟩ := hrel
    by_cases hlt : k < l.length
    · obtain ⟨b, o, v0, rfl, hbl, hok, hc, s0⟩ := (h1.to hB).atTask k hlt
      obtain ⟨b', o', u0, rfl, hbl', -, hc', t0⟩ := (h2.to hB).atTask k hlt
      generalize l[k] = x at *
      obtain ⟨c0, c1, c2, c3, c4, c5, c6, c7, c8⟩ := hc
      obtain ⟨d0, d1, d2, d3, d4, d5, d6, d7, d8⟩ := hc'
      clear h1 h2
      go_wp2
      go_region_held3 (fun w' => w'.cell? ⟨b, o + k * 9, none⟩ = some (.string x.F.Kind) ∧ w'.cell? ⟨b, o + k * 9 + 1, none⟩ = some (v0) ∧ w'.cell? ⟨b, o + k * 9 + 2, none⟩ = some (.string x.Undo) ∧ w'.cell? ⟨b, o + k * 9 + 3, none⟩ = some (.int .i64 x.State) ∧ w'.cell? ⟨b, o + k * 9 + 4, none⟩ = some (.int .i64 x.Tries) ∧ w'.cell? ⟨b, o + k * 9 + 5, none⟩ = some (.int .i64 x.Due) ∧ w'.cell? ⟨b, o + k * 9 + 6, none⟩ = some (.int .i64 x.V.K) ∧ w'.cell? ⟨b, o + k * 9 + 7, none⟩ = some (.int .i64 x.V.N) ∧ w'.cell? ⟨b, o + k * 9 + 8, none⟩ = some (.string x.V.S) ∧ w'.cell? ⟨b', o' + k * 9, none⟩ = some (.string x.F.Kind) ∧ w'.cell? ⟨b', o' + k * 9 + 1, none⟩ = some (u0) ∧ w'.cell? ⟨b', o' + k * 9 + 2, none⟩ = some (.string x.Undo) ∧ w'.cell? ⟨b', o' + k * 9 + 3, none⟩ = some (.int .i64 x.State) ∧ w'.cell? ⟨b', o' + k * 9 + 4, none⟩ = some (.int .i64 x.Tries) ∧ w'.cell? ⟨b', o' + k * 9 + 5, none⟩ = some (.int .i64 x.Due) ∧ w'.cell? ⟨b', o' + k * 9 + 6, none⟩ = some (.int .i64 x.V.K) ∧ w'.cell? ⟨b', o' + k * 9 + 7, none⟩ = some (.int .i64 x.V.N) ∧ w'.cell? ⟨b', o' + k * 9 + 8, none⟩ = some (.string x.V.S)) (go_keep)
        (first | (go_at_call 352; refine (eqTask_w x _ _ _ (s0.to (by simp (maxDischargeDepth := 9))) (t0.to (by simp (maxDischargeDepth := 9)))).mono ?_; rintro e w1 ⟨rfl, hb1⟩; have V1 := via (w0 := wr) (by simp (maxDischargeDepth := 9)) hb1; have r0 := cell_below V1 hbl c0; have r1 := cell_below V1 hbl c1; have r2 := cell_below V1 hbl c2; have r3 := cell_below V1 hbl c3; have r4 := cell_below V1 hbl c4; have r5 := cell_below V1 hbl c5; have r6 := cell_below V1 hbl c6; have r7 := cell_below V1 hbl c7; have r8 := cell_below V1 hbl c8; have z0 := cell_below V1 hbl' d0; have z1 := cell_below V1 hbl' d1; have z2 := cell_below V1 hbl' d2; have z3 := cell_below V1 hbl' d3; have z4 := cell_below V1 hbl' d4; have z5 := cell_below V1 hbl' d5; have z6 := cell_below V1 hbl' d6; have z7 := cell_below V1 hbl' d7; have z8 := cell_below V1 hbl' d8))
      have B1 := via (w0 := w) (by simp (maxDischargeDepth := 9) [hB]) hb1
      go_wp2
      go_roundw
      case rel => exact ⟨by simp [B1], k + 1, by go_num, by omega⟩
      case measure => simp [intOf]; omega
    · go_wp2
      go_ret
      exact ⟨rfl, hB⟩
set_option maxRecDepth 20000 in
theorem eqUndo_w (x : UndoD) (v0 u0 : Value) (w : World) (s0 : Sl w x.F.Fields v0) (t0 : Sl w x.F.Fields u0) :
    Calls Tryz.prog 354 #[.agg #[.string x.Key, .string x.F.Kind, v0], .agg #[.string x.Key, .string x.F.Kind, u0]] w (RetB true w) := by
  obtain ⟨a0, c0, rfl, hl0, -⟩ := s0.open
  obtain ⟨b0, d0, rfl, -⟩ := t0.open
  go_enter Tryz.func354, Tryz.ntmps354
  go_wp2_with fail
  refine (eqFact_w x.F _ _ _ (s0.to (by simp (maxDischargeDepth := 9))) (t0.to (by simp (maxDischargeDepth := 9)))).mono ?_
  rintro e w1 ⟨rfl, hb1⟩
  have B1 := via (w0 := w) (by simp (maxDischargeDepth := 9)) hb1
  have X1 : Bx w1 w.heap.size [.string x.Key, .string x.F.Kind, (.slice a0 x.F.Fields.length c0)] := Bx.via (by simp (maxDischargeDepth := 9)) hb1
  have Y1 : Bx w1 (w.heap.size + 1) [.string x.Key, .string x.F.Kind, (.slice b0 x.F.Fields.length d0)] := Bx.via (by simp (maxDischargeDepth := 9)) hb1
  have k1_0 := X1.c 0 _ rfl
  have l1_0 := Y1.c 0 _ rfl
  have k1_1 := X1.c 1 _ rfl
  have l1_1 := Y1.c 1 _ rfl
  have k1_2 := X1.c 2 _ rfl
  have l1_2 := Y1.c 2 _ rfl
  go_wp2
  go_ret
  exact ⟨rfl, (by simp (maxDischargeDepth := 9) [B1])⟩
set_option maxRecDepth 20000 in
theorem eqSUndo_w (l : List UndoD) (v1 v2 : Value) (w : World) (h1 : Sl w l v1) (h2 : Sl w l v2) :
    Calls Tryz.prog 258 #[v1, v2] w (RetB true w) := by
  obtain ⟨a1, c1, rfl, hl, -⟩ := h1.open
  obtain ⟨a2, c2, rfl, -⟩ := h2.open
  go_enter Tryz.func258, Tryz.ntmps258
  go_wp2
  go_loopw [5] (fun i wr => Below w.heap.size w wr ∧ ∃ k : Nat, i = .int .i64 k ∧ k ≤ l.length) (fun i _ => l.length - (intOf i).toNat)
  case atStart => exact ⟨Below.refl _ _, 0, rfl, by omega⟩
  case round =>
    obtain ⟨hB, k, rfl, hk⟩ := hrel
    by_cases hlt : k < l.length
    · obtain ⟨b, o, v0, rfl, hbl, hok, hc, s0⟩ := (h1.to hB).atUndo k hlt
      obtain ⟨b', o', u0, rfl, hbl', -, hc', t0⟩ := (h2.to hB).atUndo k hlt
      generalize l[k] = x at *
      obtain ⟨c0, c1, c2⟩ := hc
      obtain ⟨d0, d1, d2⟩ := hc'
      clear h1 h2
      go_wp2
      go_region_held3 (fun w' => w'.cell? ⟨b, o + k * 3, none⟩ = some (.string x.Key) ∧ w'.cell? ⟨b, o + k * 3 + 1, none⟩ = some (.string x.F.Kind) ∧ w'.cell? ⟨b, o + k * 3 + 2, none⟩ = some (v0) ∧ w'.cell? ⟨b', o' + k * 3, none⟩ = some (.string x.Key) ∧ w'.cell? ⟨b', o' + k * 3 + 1, none⟩ = some (.string x.F.Kind) ∧ w'.cell? ⟨b', o' + k * 3 + 2, none⟩ = some (u0)) (go_keep)
        (first | (go_at_call 354; refine (eqUndo_w x _ _ _ (s0.to (by simp (maxDischargeDepth := 9))) (t0.to (by simp (maxDischargeDepth := 9)))).mono ?_; rintro e w1 ⟨rfl, hb1⟩; have V1 := via (w0 := wr) (by simp (maxDischargeDepth := 9)) hb1; have r0 := cell_below V1 hbl c0; have r1 := cell_below V1 hbl c1; have r2 := cell_below V1 hbl c2; have z0 := cell_below V1 hbl' d0; have z1 := cell_below V1 hbl' d1; have z2 := cell_below V1 hbl' d2))
      have B1 := via (w0 := w) (by simp (maxDischargeDepth := 9) [hB]) hb1
      go_wp2
      go_roundw
      case rel => exact ⟨by simp [B1], k + 1, by go_num, by omega⟩
      case measure => simp [intOf]; omega
    · go_wp2
      go_ret
      exact ⟨rfl, hB⟩
set_option maxRecDepth 20000 in
theorem eqInst_w (x : InstD) (v0 v1 v2 v3 v4 u0 u1 u2 u3 u4 : Value) (w : World) (s0 : Sl w x.S.Items v0) (s1 : Sl w x.Fired v1) (s2 : Sl w x.Tasks v2) (s3 : Sl w x.Timers v3) (s4 : Sl w x.Undos v4) (t0 : Sl w x.S.Items u0) (t1 : Sl w x.Fired u1) (t2 : Sl w x.Tasks u2) (t3 : Sl w x.Timers u3) (t4 : Sl w x.Undos u4) :
    Calls Tryz.prog 168 #[.agg #[v0, .int .i64 x.S.Next, v1, v2, v3, v4, .int .i64 x.State, .int .i64 x.Now], .agg #[u0, .int .i64 x.S.Next, u1, u2, u3, u4, .int .i64 x.State, .int .i64 x.Now]] w (RetB true w) := by
  obtain ⟨a0, c0, rfl, hl0, -⟩ := s0.open
  obtain ⟨b0, d0, rfl, -⟩ := t0.open
  obtain ⟨a1, c1, rfl, hl1, -⟩ := s1.open
  obtain ⟨b1, d1, rfl, -⟩ := t1.open
  obtain ⟨a2, c2, rfl, hl2, -⟩ := s2.open
  obtain ⟨b2, d2, rfl, -⟩ := t2.open
  obtain ⟨a3, c3, rfl, hl3, -⟩ := s3.open
  obtain ⟨b3, d3, rfl, -⟩ := t3.open
  obtain ⟨a4, c4, rfl, hl4, -⟩ := s4.open
  obtain ⟨b4, d4, rfl, -⟩ := t4.open
  go_enter Tryz.func168, Tryz.ntmps168
  go_wp2_with fail
  refine (eqStore_w x.S _ _ _ (s0.to (by simp (maxDischargeDepth := 9))) (t0.to (by simp (maxDischargeDepth := 9)))).mono ?_
  rintro e w1 ⟨rfl, hb1⟩
  have B1 := via (w0 := w) (by simp (maxDischargeDepth := 9)) hb1
  have X1 : Bx w1 w.heap.size [(.slice a0 x.S.Items.length c0), .int .i64 x.S.Next, (.slice a1 x.Fired.length c1), (.slice a2 x.Tasks.length c2), (.slice a3 x.Timers.length c3), (.slice a4 x.Undos.length c4), .int .i64 x.State, .int .i64 x.Now] := Bx.via (by simp (maxDischargeDepth := 9)) hb1
  have Y1 : Bx w1 (w.heap.size + 1) [(.slice b0 x.S.Items.length d0), .int .i64 x.S.Next, (.slice b1 x.Fired.length d1), (.slice b2 x.Tasks.length d2), (.slice b3 x.Timers.length d3), (.slice b4 x.Undos.length d4), .int .i64 x.State, .int .i64 x.Now] := Bx.via (by simp (maxDischargeDepth := 9)) hb1
  have k1_0 := X1.c 0 _ rfl
  have l1_0 := Y1.c 0 _ rfl
  have k1_1 := X1.c 1 _ rfl
  have l1_1 := Y1.c 1 _ rfl
  have k1_2 := X1.c 2 _ rfl
  have l1_2 := Y1.c 2 _ rfl
  have k1_3 := X1.c 3 _ rfl
  have l1_3 := Y1.c 3 _ rfl
  have k1_4 := X1.c 4 _ rfl
  have l1_4 := Y1.c 4 _ rfl
  have k1_5 := X1.c 5 _ rfl
  have l1_5 := Y1.c 5 _ rfl
  have k1_6 := X1.c 6 _ rfl
  have l1_6 := Y1.c 6 _ rfl
  have k1_7 := X1.c 7 _ rfl
  have l1_7 := Y1.c 7 _ rfl
  go_wp2_with fail
  refine (eqSMatch_w x.Fired _ _ _ (s1.to (by simp (maxDischargeDepth := 9) [B1])) (t1.to (by simp (maxDischargeDepth := 9) [B1]))).mono ?_
  rintro e w2 ⟨rfl, hb2⟩
  have B2 := via (w0 := w) (by simp (maxDischargeDepth := 9) [B1]) hb2
  have X2 : Bx w2 w.heap.size [(.slice a0 x.S.Items.length c0), .int .i64 x.S.Next, (.slice a1 x.Fired.length c1), (.slice a2 x.Tasks.length c2), (.slice a3 x.Timers.length c3), (.slice a4 x.Undos.length c4), .int .i64 x.State, .int .i64 x.Now] := Bx.via (by simp (maxDischargeDepth := 9) [X1]) hb2
  have Y2 : Bx w2 (w.heap.size + 1) [(.slice b0 x.S.Items.length d0), .int .i64 x.S.Next, (.slice b1 x.Fired.length d1), (.slice b2 x.Tasks.length d2), (.slice b3 x.Timers.length d3), (.slice b4 x.Undos.length d4), .int .i64 x.State, .int .i64 x.Now] := Bx.via (by simp (maxDischargeDepth := 9) [Y1]) hb2
  have k2_0 := X2.c 0 _ rfl
  have l2_0 := Y2.c 0 _ rfl
  have k2_1 := X2.c 1 _ rfl
  have l2_1 := Y2.c 1 _ rfl
  have k2_2 := X2.c 2 _ rfl
  have l2_2 := Y2.c 2 _ rfl
  have k2_3 := X2.c 3 _ rfl
  have l2_3 := Y2.c 3 _ rfl
  have k2_4 := X2.c 4 _ rfl
  have l2_4 := Y2.c 4 _ rfl
  have k2_5 := X2.c 5 _ rfl
  have l2_5 := Y2.c 5 _ rfl
  have k2_6 := X2.c 6 _ rfl
  have l2_6 := Y2.c 6 _ rfl
  have k2_7 := X2.c 7 _ rfl
  have l2_7 := Y2.c 7 _ rfl
  go_wp2_with fail
  refine (eqSTask_w x.Tasks _ _ _ (s2.to (by simp (maxDischargeDepth := 9) [B2])) (t2.to (by simp (maxDischargeDepth := 9) [B2]))).mono ?_
  rintro e w3 ⟨rfl, hb3⟩
  have B3 := via (w0 := w) (by simp (maxDischargeDepth := 9) [B2]) hb3
  have X3 : Bx w3 w.heap.size [(.slice a0 x.S.Items.length c0), .int .i64 x.S.Next, (.slice a1 x.Fired.length c1), (.slice a2 x.Tasks.length c2), (.slice a3 x.Timers.length c3), (.slice a4 x.Undos.length c4), .int .i64 x.State, .int .i64 x.Now] := Bx.via (by simp (maxDischargeDepth := 9) [X2]) hb3
  have Y3 : Bx w3 (w.heap.size + 1) [(.slice b0 x.S.Items.length d0), .int .i64 x.S.Next, (.slice b1 x.Fired.length d1), (.slice b2 x.Tasks.length d2), (.slice b3 x.Timers.length d3), (.slice b4 x.Undos.length d4), .int .i64 x.State, .int .i64 x.Now] := Bx.via (by simp (maxDischargeDepth := 9) [Y2]) hb3
  have k3_0 := X3.c 0 _ rfl
  have l3_0 := Y3.c 0 _ rfl
  have k3_1 := X3.c 1 _ rfl
  have l3_1 := Y3.c 1 _ rfl
  have k3_2 := X3.c 2 _ rfl
  have l3_2 := Y3.c 2 _ rfl
  have k3_3 := X3.c 3 _ rfl
  have l3_3 := Y3.c 3 _ rfl
  have k3_4 := X3.c 4 _ rfl
  have l3_4 := Y3.c 4 _ rfl
  have k3_5 := X3.c 5 _ rfl
  have l3_5 := Y3.c 5 _ rfl
  have k3_6 := X3.c 6 _ rfl
  have l3_6 := Y3.c 6 _ rfl
  have k3_7 := X3.c 7 _ rfl
  have l3_7 := Y3.c 7 _ rfl
  go_wp2_with fail
  refine (eqSTimer_w x.Timers _ _ _ (s3.to (by simp (maxDischargeDepth := 9) [B3])) (t3.to (by simp (maxDischargeDepth := 9) [B3]))).mono ?_
  rintro e w4 ⟨rfl, hb4⟩
  have B4 := via (w0 := w) (by simp (maxDischargeDepth := 9) [B3]) hb4
  have X4 : Bx w4 w.heap.size [(.slice a0 x.S.Items.length c0), .int .i64 x.S.Next, (.slice a1 x.Fired.length c1), (.slice a2 x.Tasks.length c2), (.slice a3 x.Timers.length c3), (.slice a4 x.Undos.length c4), .int .i64 x.State, .int .i64 x.Now] := Bx.via (by simp (maxDischargeDepth := 9) [X3]) hb4
  have Y4 : Bx w4 (w.heap.size + 1) [(.slice b0 x.S.Items.length d0), .int .i64 x.S.Next, (.slice b1 x.Fired.length d1), (.slice b2 x.Tasks.length d2), (.slice b3 x.Timers.length d3), (.slice b4 x.Undos.length d4), .int .i64 x.State, .int .i64 x.Now] := Bx.via (by simp (maxDischargeDepth := 9) [Y3]) hb4
  have k4_0 := X4.c 0 _ rfl
  have l4_0 := Y4.c 0 _ rfl
  have k4_1 := X4.c 1 _ rfl
  have l4_1 := Y4.c 1 _ rfl
  have k4_2 := X4.c 2 _ rfl
  have l4_2 := Y4.c 2 _ rfl
  have k4_3 := X4.c 3 _ rfl
  have l4_3 := Y4.c 3 _ rfl
  have k4_4 := X4.c 4 _ rfl
  have l4_4 := Y4.c 4 _ rfl
  have k4_5 := X4.c 5 _ rfl
  have l4_5 := Y4.c 5 _ rfl
  have k4_6 := X4.c 6 _ rfl
  have l4_6 := Y4.c 6 _ rfl
  have k4_7 := X4.c 7 _ rfl
  have l4_7 := Y4.c 7 _ rfl
  go_wp2_with fail
  refine (eqSUndo_w x.Undos _ _ _ (s4.to (by simp (maxDischargeDepth := 9) [B4])) (t4.to (by simp (maxDischargeDepth := 9) [B4]))).mono ?_
  rintro e w5 ⟨rfl, hb5⟩
  have B5 := via (w0 := w) (by simp (maxDischargeDepth := 9) [B4]) hb5
  have X5 : Bx w5 w.heap.size [(.slice a0 x.S.Items.length c0), .int .i64 x.S.Next, (.slice a1 x.Fired.length c1), (.slice a2 x.Tasks.length c2), (.slice a3 x.Timers.length c3), (.slice a4 x.Undos.length c4), .int .i64 x.State, .int .i64 x.Now] := Bx.via (by simp (maxDischargeDepth := 9) [X4]) hb5
  have Y5 : Bx w5 (w.heap.size + 1) [(.slice b0 x.S.Items.length d0), .int .i64 x.S.Next, (.slice b1 x.Fired.length d1), (.slice b2 x.Tasks.length d2), (.slice b3 x.Timers.length d3), (.slice b4 x.Undos.length d4), .int .i64 x.State, .int .i64 x.Now] := Bx.via (by simp (maxDischargeDepth := 9) [Y4]) hb5
  have k5_0 := X5.c 0 _ rfl
  have l5_0 := Y5.c 0 _ rfl
  have k5_1 := X5.c 1 _ rfl
  have l5_1 := Y5.c 1 _ rfl
  have k5_2 := X5.c 2 _ rfl
  have l5_2 := Y5.c 2 _ rfl
  have k5_3 := X5.c 3 _ rfl
  have l5_3 := Y5.c 3 _ rfl
  have k5_4 := X5.c 4 _ rfl
  have l5_4 := Y5.c 4 _ rfl
  have k5_5 := X5.c 5 _ rfl
  have l5_5 := Y5.c 5 _ rfl
  have k5_6 := X5.c 6 _ rfl
  have l5_6 := Y5.c 6 _ rfl
  have k5_7 := X5.c 7 _ rfl
  have l5_7 := Y5.c 7 _ rfl
  go_wp2
  go_ret
  exact ⟨rfl, (by simp (maxDischargeDepth := 9) [B5])⟩
set_option maxRecDepth 20000 in
theorem eqWork_w (x : WorkD) (v0 v1 v2 v3 v4 u0 u1 u2 u3 u4 : Value) (w : World) (s0 : Sl w x.X.S.Items v0) (s1 : Sl w x.X.Fired v1) (s2 : Sl w x.X.Tasks v2) (s3 : Sl w x.X.Timers v3) (s4 : Sl w x.X.Undos v4) (t0 : Sl w x.X.S.Items u0) (t1 : Sl w x.X.Fired u1) (t2 : Sl w x.X.Tasks u2) (t3 : Sl w x.X.Timers u3) (t4 : Sl w x.X.Undos u4) :
    Calls Tryz.prog 96 #[.agg #[.string x.Name, .string x.Def, v0, .int .i64 x.X.S.Next, v1, v2, v3, v4, .int .i64 x.X.State, .int .i64 x.X.Now], .agg #[.string x.Name, .string x.Def, u0, .int .i64 x.X.S.Next, u1, u2, u3, u4, .int .i64 x.X.State, .int .i64 x.X.Now]] w (RetB true w) := by
  obtain ⟨a0, c0, rfl, hl0, -⟩ := s0.open
  obtain ⟨b0, d0, rfl, -⟩ := t0.open
  obtain ⟨a1, c1, rfl, hl1, -⟩ := s1.open
  obtain ⟨b1, d1, rfl, -⟩ := t1.open
  obtain ⟨a2, c2, rfl, hl2, -⟩ := s2.open
  obtain ⟨b2, d2, rfl, -⟩ := t2.open
  obtain ⟨a3, c3, rfl, hl3, -⟩ := s3.open
  obtain ⟨b3, d3, rfl, -⟩ := t3.open
  obtain ⟨a4, c4, rfl, hl4, -⟩ := s4.open
  obtain ⟨b4, d4, rfl, -⟩ := t4.open
  go_enter Tryz.func96, Tryz.ntmps96
  go_wp2_with fail
  refine (eqInst_w x.X _ _ _ _ _ _ _ _ _ _ _ (s0.to (by simp (maxDischargeDepth := 9))) (s1.to (by simp (maxDischargeDepth := 9))) (s2.to (by simp (maxDischargeDepth := 9))) (s3.to (by simp (maxDischargeDepth := 9))) (s4.to (by simp (maxDischargeDepth := 9))) (t0.to (by simp (maxDischargeDepth := 9))) (t1.to (by simp (maxDischargeDepth := 9))) (t2.to (by simp (maxDischargeDepth := 9))) (t3.to (by simp (maxDischargeDepth := 9))) (t4.to (by simp (maxDischargeDepth := 9)))).mono ?_
  rintro e w1 ⟨rfl, hb1⟩
  have B1 := via (w0 := w) (by simp (maxDischargeDepth := 9)) hb1
  have X1 : Bx w1 w.heap.size [.string x.Name, .string x.Def, (.slice a0 x.X.S.Items.length c0), .int .i64 x.X.S.Next, (.slice a1 x.X.Fired.length c1), (.slice a2 x.X.Tasks.length c2), (.slice a3 x.X.Timers.length c3), (.slice a4 x.X.Undos.length c4), .int .i64 x.X.State, .int .i64 x.X.Now] := Bx.via (by simp (maxDischargeDepth := 9)) hb1
  have Y1 : Bx w1 (w.heap.size + 1) [.string x.Name, .string x.Def, (.slice b0 x.X.S.Items.length d0), .int .i64 x.X.S.Next, (.slice b1 x.X.Fired.length d1), (.slice b2 x.X.Tasks.length d2), (.slice b3 x.X.Timers.length d3), (.slice b4 x.X.Undos.length d4), .int .i64 x.X.State, .int .i64 x.X.Now] := Bx.via (by simp (maxDischargeDepth := 9)) hb1
  have k1_0 := X1.c 0 _ rfl
  have l1_0 := Y1.c 0 _ rfl
  have k1_1 := X1.c 1 _ rfl
  have l1_1 := Y1.c 1 _ rfl
  have k1_2 := X1.c 2 _ rfl
  have l1_2 := Y1.c 2 _ rfl
  have k1_3 := X1.c 3 _ rfl
  have l1_3 := Y1.c 3 _ rfl
  have k1_4 := X1.c 4 _ rfl
  have l1_4 := Y1.c 4 _ rfl
  have k1_5 := X1.c 5 _ rfl
  have l1_5 := Y1.c 5 _ rfl
  have k1_6 := X1.c 6 _ rfl
  have l1_6 := Y1.c 6 _ rfl
  have k1_7 := X1.c 7 _ rfl
  have l1_7 := Y1.c 7 _ rfl
  have k1_8 := X1.c 8 _ rfl
  have l1_8 := Y1.c 8 _ rfl
  have k1_9 := X1.c 9 _ rfl
  have l1_9 := Y1.c 9 _ rfl
  go_wp2
  go_ret
  exact ⟨rfl, (by simp (maxDischargeDepth := 9) [B1])⟩
set_option maxRecDepth 20000 in
theorem eqSWork_w (l : List WorkD) (v1 v2 : Value) (w : World) (h1 : Sl w l v1) (h2 : Sl w l v2) :
    Calls Tryz.prog 49 #[v1, v2] w (RetB true w) := by
  obtain ⟨a1, c1, rfl, hl, -⟩ := h1.open
  obtain ⟨a2, c2, rfl, -⟩ := h2.open
  go_enter Tryz.func49, Tryz.ntmps49
  go_wp2
  go_loopw [5] (fun i wr => Below w.heap.size w wr ∧ ∃ k : Nat, i = .int .i64 k ∧ k ≤ l.length) (fun i _ => l.length - (intOf i).toNat)
  case atStart => exact ⟨Below.refl _ _, 0, rfl, by omega⟩
  case round =>
    obtain ⟨hB, k, rfl, hk⟩ := hrel
    by_cases hlt : k < l.length
    · obtain ⟨b, o, v0, v1, v2, v3, v4, rfl, hbl, hok, hc, s0, s1, s2, s3, s4⟩ := (h1.to hB).atWork k hlt
      obtain ⟨b', o', u0, u1, u2, u3, u4, rfl, hbl', -, hc', t0, t1, t2, t3, t4⟩ := (h2.to hB).atWork k hlt
      generalize l[k] = x at *
      obtain ⟨c0, c1, c2, c3, c4, c5, c6, c7, c8, c9⟩ := hc
      obtain ⟨d0, d1, d2, d3, d4, d5, d6, d7, d8, d9⟩ := hc'
      clear h1 h2
      go_wp2
      go_region_held3 (fun w' => w'.cell? ⟨b, o + k * 10, none⟩ = some (.string x.Name) ∧ w'.cell? ⟨b, o + k * 10 + 1, none⟩ = some (.string x.Def) ∧ w'.cell? ⟨b, o + k * 10 + 2, none⟩ = some (v0) ∧ w'.cell? ⟨b, o + k * 10 + 3, none⟩ = some (.int .i64 x.X.S.Next) ∧ w'.cell? ⟨b, o + k * 10 + 4, none⟩ = some (v1) ∧ w'.cell? ⟨b, o + k * 10 + 5, none⟩ = some (v2) ∧ w'.cell? ⟨b, o + k * 10 + 6, none⟩ = some (v3) ∧ w'.cell? ⟨b, o + k * 10 + 7, none⟩ = some (v4) ∧ w'.cell? ⟨b, o + k * 10 + 8, none⟩ = some (.int .i64 x.X.State) ∧ w'.cell? ⟨b, o + k * 10 + 9, none⟩ = some (.int .i64 x.X.Now) ∧ w'.cell? ⟨b', o' + k * 10, none⟩ = some (.string x.Name) ∧ w'.cell? ⟨b', o' + k * 10 + 1, none⟩ = some (.string x.Def) ∧ w'.cell? ⟨b', o' + k * 10 + 2, none⟩ = some (u0) ∧ w'.cell? ⟨b', o' + k * 10 + 3, none⟩ = some (.int .i64 x.X.S.Next) ∧ w'.cell? ⟨b', o' + k * 10 + 4, none⟩ = some (u1) ∧ w'.cell? ⟨b', o' + k * 10 + 5, none⟩ = some (u2) ∧ w'.cell? ⟨b', o' + k * 10 + 6, none⟩ = some (u3) ∧ w'.cell? ⟨b', o' + k * 10 + 7, none⟩ = some (u4) ∧ w'.cell? ⟨b', o' + k * 10 + 8, none⟩ = some (.int .i64 x.X.State) ∧ w'.cell? ⟨b', o' + k * 10 + 9, none⟩ = some (.int .i64 x.X.Now)) (go_keep)
        (first | (go_at_call 96; refine (eqWork_w x _ _ _ _ _ _ _ _ _ _ _ (s0.to (by simp (maxDischargeDepth := 9))) (s1.to (by simp (maxDischargeDepth := 9))) (s2.to (by simp (maxDischargeDepth := 9))) (s3.to (by simp (maxDischargeDepth := 9))) (s4.to (by simp (maxDischargeDepth := 9))) (t0.to (by simp (maxDischargeDepth := 9))) (t1.to (by simp (maxDischargeDepth := 9))) (t2.to (by simp (maxDischargeDepth := 9))) (t3.to (by simp (maxDischargeDepth := 9))) (t4.to (by simp (maxDischargeDepth := 9)))).mono ?_; rintro e w1 ⟨rfl, hb1⟩; have V1 := via (w0 := wr) (by simp (maxDischargeDepth := 9)) hb1; have r0 := cell_below V1 hbl c0; have r1 := cell_below V1 hbl c1; have r2 := cell_below V1 hbl c2; have r3 := cell_below V1 hbl c3; have r4 := cell_below V1 hbl c4; have r5 := cell_below V1 hbl c5; have r6 := cell_below V1 hbl c6; have r7 := cell_below V1 hbl c7; have r8 := cell_below V1 hbl c8; have r9 := cell_below V1 hbl c9; have z0 := cell_below V1 hbl' d0; have z1 := cell_below V1 hbl' d1; have z2 := cell_below V1 hbl' d2; have z3 := cell_below V1 hbl' d3; have z4 := cell_below V1 hbl' d4; have z5 := cell_below V1 hbl' d5; have z6 := cell_below V1 hbl' d6; have z7 := cell_below V1 hbl' d7; have z8 := cell_below V1 hbl' d8; have z9 := cell_below V1 hbl' d9))
      have B1 := via (w0 := w) (by simp (maxDischargeDepth := 9) [hB]) hb1
      go_wp2
      go_roundw
      case rel => exact ⟨by simp [B1], k + 1, by go_num, by omega⟩
      case measure => simp [intOf]; omega
    · go_wp2
      go_ret
      exact ⟨rfl, hB⟩
set_option maxRecDepth 20000 in
theorem eqBook_w (x : BookD) (v0 v1 u0 u1 : Value) (w : World) (s0 : Sl w x.Defs v0) (s1 : Sl w x.Works v1) (t0 : Sl w x.Defs u0) (t1 : Sl w x.Works u1) :
    Calls Tryz.prog 14 #[.agg #[v0, v1, .int .i64 x.Now, .int .i64 x.Ring], .agg #[u0, u1, .int .i64 x.Now, .int .i64 x.Ring]] w (RetB true w) := by
  obtain ⟨a0, c0, rfl, hl0, -⟩ := s0.open
  obtain ⟨b0, d0, rfl, -⟩ := t0.open
  obtain ⟨a1, c1, rfl, hl1, -⟩ := s1.open
  obtain ⟨b1, d1, rfl, -⟩ := t1.open
  go_enter Tryz.func14, Tryz.ntmps14
  go_wp2_with fail
  refine (eqSDef_w x.Defs _ _ _ (s0.to (by simp (maxDischargeDepth := 9))) (t0.to (by simp (maxDischargeDepth := 9)))).mono ?_
  rintro e w1 ⟨rfl, hb1⟩
  have B1 := via (w0 := w) (by simp (maxDischargeDepth := 9)) hb1
  have X1 : Bx w1 w.heap.size [(.slice a0 x.Defs.length c0), (.slice a1 x.Works.length c1), .int .i64 x.Now, .int .i64 x.Ring] := Bx.via (by simp (maxDischargeDepth := 9)) hb1
  have Y1 : Bx w1 (w.heap.size + 1) [(.slice b0 x.Defs.length d0), (.slice b1 x.Works.length d1), .int .i64 x.Now, .int .i64 x.Ring] := Bx.via (by simp (maxDischargeDepth := 9)) hb1
  have k1_0 := X1.c 0 _ rfl
  have l1_0 := Y1.c 0 _ rfl
  have k1_1 := X1.c 1 _ rfl
  have l1_1 := Y1.c 1 _ rfl
  have k1_2 := X1.c 2 _ rfl
  have l1_2 := Y1.c 2 _ rfl
  have k1_3 := X1.c 3 _ rfl
  have l1_3 := Y1.c 3 _ rfl
  go_wp2_with fail
  refine (eqSWork_w x.Works _ _ _ (s1.to (by simp (maxDischargeDepth := 9) [B1])) (t1.to (by simp (maxDischargeDepth := 9) [B1]))).mono ?_
  rintro e w2 ⟨rfl, hb2⟩
  have B2 := via (w0 := w) (by simp (maxDischargeDepth := 9) [B1]) hb2
  have X2 : Bx w2 w.heap.size [(.slice a0 x.Defs.length c0), (.slice a1 x.Works.length c1), .int .i64 x.Now, .int .i64 x.Ring] := Bx.via (by simp (maxDischargeDepth := 9) [X1]) hb2
  have Y2 : Bx w2 (w.heap.size + 1) [(.slice b0 x.Defs.length d0), (.slice b1 x.Works.length d1), .int .i64 x.Now, .int .i64 x.Ring] := Bx.via (by simp (maxDischargeDepth := 9) [Y1]) hb2
  have k2_0 := X2.c 0 _ rfl
  have l2_0 := Y2.c 0 _ rfl
  have k2_1 := X2.c 1 _ rfl
  have l2_1 := Y2.c 1 _ rfl
  have k2_2 := X2.c 2 _ rfl
  have l2_2 := Y2.c 2 _ rfl
  have k2_3 := X2.c 3 _ rfl
  have l2_3 := Y2.c 3 _ rfl
  go_wp2
  go_ret
  exact ⟨rfl, (by simp (maxDischargeDepth := 9) [B2])⟩
end Go.Proofs.YthnilnggpbploaaGreat
