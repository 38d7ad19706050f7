/- Structs compared, as the laws do. Printed by a program. -/
import Derived.Test.YthnilnggpbploaaTy
namespace Go.Proofs.Ythnilnggpbploaa
open Go.RowKit
open Cel (rd own rd_len rd_one own_rd own_lt rd_below rd_mono own_keep)

set_option maxRecDepth 20000 in
theorem eqVal_w (x : ValD) (w : World) :
    Calls Try.prog 29 #[.agg #[.int .i64 x.K, .int .i64 x.N, .string x.S], .agg #[.int .i64 x.K, .int .i64 x.N, .string x.S]] w (RetB true w) := by
  go_enter Try.func29, Try.ntmps29
  go_wp2
  go_ret
  exact ⟨rfl, (by simp (maxDischargeDepth := 9))⟩
set_option maxRecDepth 20000 in
theorem eqSVal_w (l : List ValD) (v1 v2 : Value) (w : World) (h1 : Sl w l v1) (h2 : Sl w l v2) :
    Calls Try.prog 26 #[v1, v2] w (RetB true w) := by
  obtain ⟨a1, c1, rfl, hl, -⟩ := h1.open
  obtain ⟨a2, c2, rfl, -⟩ := h2.open
  go_enter Try.func26, Try.ntmps26
  go_wp2
  go_loopw [5] (fun i wr => Below w.heap.size w wr ∧ ∃ k : Nat, i = .int .i64 k ∧ k ≤ l.length) (fun i _ => l.length - (intOf i).toNat)
  case atStart => exact ⟨Below.refl _ _, 0, rfl, by omega⟩
  case round =>
    obtain ⟨hB, k, rfl, hk⟩ := hrel
    by_cases hlt : k < l.length
    · obtain ⟨b, o, rfl, hbl, hok, hc⟩ := (h1.to hB).atVal k hlt
      obtain ⟨b', o', rfl, hbl', -, hc'⟩ := (h2.to hB).atVal k hlt
      generalize l[k] = x at *
      obtain ⟨c0, c1, c2⟩ := hc
      obtain ⟨d0, d1, d2⟩ := hc'
      clear h1 h2
      go_wp2
      go_region_held3 (fun w' => w'.cell? ⟨b, o + k * 3, none⟩ = some (.int .i64 x.K) ∧ w'.cell? ⟨b, o + k * 3 + 1, none⟩ = some (.int .i64 x.N) ∧ w'.cell? ⟨b, o + k * 3 + 2, none⟩ = some (.string x.S) ∧ w'.cell? ⟨b', o' + k * 3, none⟩ = some (.int .i64 x.K) ∧ w'.cell? ⟨b', o' + k * 3 + 1, none⟩ = some (.int .i64 x.N) ∧ w'.cell? ⟨b', o' + k * 3 + 2, none⟩ = some (.string x.S)) (go_keep)
        (first | (go_at_call 29; refine (eqVal_w x  _  ).mono ?_; rintro e w1 ⟨rfl, hb1⟩; have V1 := via (w0 := wr) (by simp (maxDischargeDepth := 9)) hb1; have r0 := cell_below V1 hbl c0; have r1 := cell_below V1 hbl c1; have r2 := cell_below V1 hbl c2; have z0 := cell_below V1 hbl' d0; have z1 := cell_below V1 hbl' d1; have z2 := cell_below V1 hbl' d2))
      have B1 := via (w0 := w) (by simp (maxDischargeDepth := 9) [hB]) hb1
      go_wp2
      go_roundw
      case rel => exact ⟨by simp [B1], k + 1, by go_num, by omega⟩
      case measure => simp [intOf]; omega
    · go_wp2
      go_ret
      exact ⟨rfl, hB⟩
set_option maxRecDepth 20000 in
theorem eqFact_w (x : FactD) (v0 u0 : Value) (w : World) (s0 : Sl w x.Fields v0) (t0 : Sl w x.Fields u0) :
    Calls Try.prog 23 #[.agg #[.string x.Kind, v0], .agg #[.string x.Kind, u0]] w (RetB true w) := by
  obtain ⟨a0, c0, rfl, hl0, -⟩ := s0.open
  obtain ⟨b0, d0, rfl, -⟩ := t0.open
  go_enter Try.func23, Try.ntmps23
  go_wp2_with fail
  refine (eqSVal_w x.Fields _ _ _ (s0.to (by simp (maxDischargeDepth := 9))) (t0.to (by simp (maxDischargeDepth := 9)))).mono ?_
  rintro e w1 ⟨rfl, hb1⟩
  have B1 := via (w0 := w) (by simp (maxDischargeDepth := 9)) hb1
  have X1 : Bx w1 w.heap.size [.string x.Kind, (.slice a0 x.Fields.length c0)] := Bx.via (by simp (maxDischargeDepth := 9)) hb1
  have Y1 : Bx w1 (w.heap.size + 1) [.string x.Kind, (.slice b0 x.Fields.length d0)] := Bx.via (by simp (maxDischargeDepth := 9)) hb1
  have k1_0 := X1.c 0 _ rfl
  have l1_0 := Y1.c 0 _ rfl
  have k1_1 := X1.c 1 _ rfl
  have l1_1 := Y1.c 1 _ rfl
  go_wp2
  go_ret
  exact ⟨rfl, (by simp (maxDischargeDepth := 9) [B1])⟩
set_option maxRecDepth 20000 in
theorem eqCall_w (x : CallD) (v0 u0 : Value) (w : World) (s0 : Sl w x.F.Fields v0) (t0 : Sl w x.F.Fields u0) :
    Calls Try.prog 20 #[.agg #[.string x.Key, .string x.F.Kind, v0, .int .i64 x.Try], .agg #[.string x.Key, .string x.F.Kind, u0, .int .i64 x.Try]] w (RetB true w) := by
  obtain ⟨a0, c0, rfl, hl0, -⟩ := s0.open
  obtain ⟨b0, d0, rfl, -⟩ := t0.open
  go_enter Try.func20, Try.ntmps20
  go_wp2_with fail
  refine (eqFact_w x.F _ _ _ (s0.to (by simp (maxDischargeDepth := 9))) (t0.to (by simp (maxDischargeDepth := 9)))).mono ?_
  rintro e w1 ⟨rfl, hb1⟩
  have B1 := via (w0 := w) (by simp (maxDischargeDepth := 9)) hb1
  have X1 : Bx w1 w.heap.size [.string x.Key, .string x.F.Kind, (.slice a0 x.F.Fields.length c0), .int .i64 x.Try] := Bx.via (by simp (maxDischargeDepth := 9)) hb1
  have Y1 : Bx w1 (w.heap.size + 1) [.string x.Key, .string x.F.Kind, (.slice b0 x.F.Fields.length d0), .int .i64 x.Try] := Bx.via (by simp (maxDischargeDepth := 9)) hb1
  have k1_0 := X1.c 0 _ rfl
  have l1_0 := Y1.c 0 _ rfl
  have k1_1 := X1.c 1 _ rfl
  have l1_1 := Y1.c 1 _ rfl
  have k1_2 := X1.c 2 _ rfl
  have l1_2 := Y1.c 2 _ rfl
  have k1_3 := X1.c 3 _ rfl
  have l1_3 := Y1.c 3 _ rfl
  go_wp2
  go_ret
  exact ⟨rfl, (by simp (maxDischargeDepth := 9) [B1])⟩
set_option maxRecDepth 20000 in
theorem eqSent_w (x : SentD) (v0 u0 : Value) (w : World) (s0 : Sl w x.C.F.Fields v0) (t0 : Sl w x.C.F.Fields u0) :
    Calls Try.prog 15 #[.agg #[.string x.Name, .string x.C.Key, .string x.C.F.Kind, v0, .int .i64 x.C.Try], .agg #[.string x.Name, .string x.C.Key, .string x.C.F.Kind, u0, .int .i64 x.C.Try]] w (RetB true w) := by
  obtain ⟨a0, c0, rfl, hl0, -⟩ := s0.open
  obtain ⟨b0, d0, rfl, -⟩ := t0.open
  go_enter Try.func15, Try.ntmps15
  go_wp2_with fail
  refine (eqCall_w x.C _ _ _ (s0.to (by simp (maxDischargeDepth := 9))) (t0.to (by simp (maxDischargeDepth := 9)))).mono ?_
  rintro e w1 ⟨rfl, hb1⟩
  have B1 := via (w0 := w) (by simp (maxDischargeDepth := 9)) hb1
  have X1 : Bx w1 w.heap.size [.string x.Name, .string x.C.Key, .string x.C.F.Kind, (.slice a0 x.C.F.Fields.length c0), .int .i64 x.C.Try] := Bx.via (by simp (maxDischargeDepth := 9)) hb1
  have Y1 : Bx w1 (w.heap.size + 1) [.string x.Name, .string x.C.Key, .string x.C.F.Kind, (.slice b0 x.C.F.Fields.length d0), .int .i64 x.C.Try] := Bx.via (by simp (maxDischargeDepth := 9)) hb1
  have k1_0 := X1.c 0 _ rfl
  have l1_0 := Y1.c 0 _ rfl
  have k1_1 := X1.c 1 _ rfl
  have l1_1 := Y1.c 1 _ rfl
  have k1_2 := X1.c 2 _ rfl
  have l1_2 := Y1.c 2 _ rfl
  have k1_3 := X1.c 3 _ rfl
  have l1_3 := Y1.c 3 _ rfl
  have k1_4 := X1.c 4 _ rfl
  have l1_4 := Y1.c 4 _ rfl
  go_wp2
  go_ret
  exact ⟨rfl, (by simp (maxDischargeDepth := 9) [B1])⟩
set_option maxRecDepth 20000 in
theorem eqSSent_w (l : List SentD) (v1 v2 : Value) (w : World) (h1 : Sl w l v1) (h2 : Sl w l v2) :
    Calls Try.prog 9 #[v1, v2] w (RetB true w) := by
  obtain ⟨a1, c1, rfl, hl, -⟩ := h1.open
  obtain ⟨a2, c2, rfl, -⟩ := h2.open
  go_enter Try.func9, Try.ntmps9
  go_wp2
  go_loopw [5] (fun i wr => Below w.heap.size w wr ∧ ∃ k : Nat, i = .int .i64 k ∧ k ≤ l.length) (fun i _ => l.length - (intOf i).toNat)
  case atStart => exact ⟨Below.refl _ _, 0, rfl, by omega⟩
  case round =>
    obtain ⟨hB, k, rfl, hk⟩ := hrel
    by_cases hlt : k < l.length
    · obtain ⟨b, o, v0, rfl, hbl, hok, hc, s0⟩ := (h1.to hB).atSent k hlt
      obtain ⟨b', o', u0, rfl, hbl', -, hc', t0⟩ := (h2.to hB).atSent k hlt
      generalize l[k] = x at *
      obtain ⟨c0, c1, c2, c3, c4⟩ := hc
      obtain ⟨d0, d1, d2, d3, d4⟩ := hc'
      clear h1 h2
      go_wp2
      go_region_held3 (fun w' => w'.cell? ⟨b, o + k * 5, none⟩ = some (.string x.Name) ∧ w'.cell? ⟨b, o + k * 5 + 1, none⟩ = some (.string x.C.Key) ∧ w'.cell? ⟨b, o + k * 5 + 2, none⟩ = some (.string x.C.F.Kind) ∧ w'.cell? ⟨b, o + k * 5 + 3, none⟩ = some (v0) ∧ w'.cell? ⟨b, o + k * 5 + 4, none⟩ = some (.int .i64 x.C.Try) ∧ w'.cell? ⟨b', o' + k * 5, none⟩ = some (.string x.Name) ∧ w'.cell? ⟨b', o' + k * 5 + 1, none⟩ = some (.string x.C.Key) ∧ w'.cell? ⟨b', o' + k * 5 + 2, none⟩ = some (.string x.C.F.Kind) ∧ w'.cell? ⟨b', o' + k * 5 + 3, none⟩ = some (u0) ∧ w'.cell? ⟨b', o' + k * 5 + 4, none⟩ = some (.int .i64 x.C.Try)) (go_keep)
        (first | (go_at_call 15; refine (eqSent_w x _ _ _ (s0.to (by simp (maxDischargeDepth := 9))) (t0.to (by simp (maxDischargeDepth := 9)))).mono ?_; rintro e w1 ⟨rfl, hb1⟩; have V1 := via (w0 := wr) (by simp (maxDischargeDepth := 9)) hb1; have r0 := cell_below V1 hbl c0; have r1 := cell_below V1 hbl c1; have r2 := cell_below V1 hbl c2; have r3 := cell_below V1 hbl c3; have r4 := cell_below V1 hbl c4; have z0 := cell_below V1 hbl' d0; have z1 := cell_below V1 hbl' d1; have z2 := cell_below V1 hbl' d2; have z3 := cell_below V1 hbl' d3; have z4 := cell_below V1 hbl' d4))
      have B1 := via (w0 := w) (by simp (maxDischargeDepth := 9) [hB]) hb1
      go_wp2
      go_roundw
      case rel => exact ⟨by simp [B1], k + 1, by go_num, by omega⟩
      case measure => simp [intOf]; omega
    · go_wp2
      go_ret
      exact ⟨rfl, hB⟩
end Go.Proofs.Ythnilnggpbploaa
