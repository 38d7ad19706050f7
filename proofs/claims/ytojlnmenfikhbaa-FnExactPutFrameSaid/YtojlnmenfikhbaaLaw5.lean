/- FnExactPutFrame, walked. -/
import Derived.Test.YtojlnmenfikhbaaTypes
import Derived.Test.YtojlnmenfikhbaaFileH
import Derived.Test.YtojlnmenfikhbaaFile2
import Derived.Test.YtojlnmenfikhbaaFrame
namespace Go.Proofs.Ytojlnmenfikhbaa
open Go.RowKit
open Cel (rd own rd_len rd_one own_rd own_lt rd_below rd_mono own_keep)

theorem exactPutFrame_walk (v_b : Value) (b : List UInt8) (v_f : Value) (f : List UInt8) (w : World) (sb : Sl w b v_b) (sf : Sl w f v_f) :
    Calls Try.prog 7 #[v_b, v_f] w (RetB true w) := by
  obtain ⟨ab, cb, rfl, hl_b, -⟩ := sb.open
  obtain ⟨af, cf, rfl, hl_f, -⟩ := sf.open
  by_cases hs_b : b.length ≤ 1048576
  rotate_left
  · go_enter Try.func7, Try.ntmps7
    go_wp2
    go_ret
    exact ⟨rfl, (by simp (maxDischargeDepth := 9))⟩
  by_cases hs_f : f.length ≤ 1048576
  rotate_left
  · go_enter Try.func7, Try.ntmps7
    go_wp2
    go_ret
    exact ⟨rfl, (by simp (maxDischargeDepth := 9))⟩
  have hL := frameB_len b f
  go_enter Try.func7, Try.ntmps7
  go_wp2_with fail
  refine (toByteS_w b _ _ (sb.to (by simp (maxDischargeDepth := 9))) (by omega)).mono ?_
  rintro e w1 ⟨a1, c1, fp1, rfl, ho1, hf1, hb1⟩
  have B1 := via (w0 := w) (by simp (maxDischargeDepth := 9)) hb1
  have z1 : w.heap.size + 0 ≤ w1.heap.size := (by have := hb1.size; (try simp at this); omega)
  have lt1 := ho1.lt
  go_wp2_with fail
  refine (toByteS_w f _ _ (sf.to (by simp (maxDischargeDepth := 9) [B1])) (by omega)).mono ?_
  rintro e w2 ⟨a2, c2, fp2, rfl, ho2, hf2, hb2⟩
  have B2 := via (w0 := w) (by simp (maxDischargeDepth := 9) [B1]) hb2
  have z2 : w1.heap.size + 0 ≤ w2.heap.size := (by have := hb2.size; (try simp at this); omega)
  have D1_2 := via (w0 := w1) (by simp (maxDischargeDepth := 9)) hb2
  have N1_2 := disj ho1.lt (by simp (maxDischargeDepth := 9)) hf2
  have lt2 := ho2.lt
  clear B1
  go_wp2_with fail
  refine (specPutFrame_w b f _ _ _ (ho1.sl.to (by simp (maxDischargeDepth := 9) [D1_2])) (ho2.sl.to (by simp (maxDischargeDepth := 9))) (by omega) (by omega)).mono ?_
  rintro e w3 ⟨a3, c3, fp3, rfl, ho3, hf3, hb3⟩
  have B3 := via (w0 := w) (by simp (maxDischargeDepth := 9) [B2]) hb3
  have z3 : w2.heap.size + 0 ≤ w3.heap.size := (by have := hb3.size; (try simp at this); omega)
  have D1_3 := via (w0 := w1) (by simp (maxDischargeDepth := 9) [D1_2]) hb3
  have D2_3 := via (w0 := w2) (by simp (maxDischargeDepth := 9)) hb3
  have N1_3 := disj ho1.lt (by simp (maxDischargeDepth := 9) [D1_2]) hf3
  have N2_3 := disj ho2.lt (by simp (maxDischargeDepth := 9)) hf3
  have lt3 := ho3.lt
  clear B2 D1_2
  go_wp2_with fail
  refine (toByteS_w b _ _ (sb.to (by simp (maxDischargeDepth := 9) [B3])) (by omega)).mono ?_
  rintro e w4 ⟨a4, c4, fp4, rfl, ho4, hf4, hb4⟩
  have B4 := via (w0 := w) (by simp (maxDischargeDepth := 9) [B3]) hb4
  have z4 : w3.heap.size + 0 ≤ w4.heap.size := (by have := hb4.size; (try simp at this); omega)
  have D3_4 := via (w0 := w3) (by simp (maxDischargeDepth := 9)) hb4
  have N3_4 := disj ho3.lt (by simp (maxDischargeDepth := 9)) hf4
  have lt4 := ho4.lt
  clear B3
  go_wp2_with fail
  refine (toByteS_w f _ _ (sf.to (by simp (maxDischargeDepth := 9) [B4])) (by omega)).mono ?_
  rintro e w5 ⟨a5, c5, fp5, rfl, ho5, hf5, hb5⟩
  have B5 := via (w0 := w) (by simp (maxDischargeDepth := 9) [B4]) hb5
  have z5 : w4.heap.size + 0 ≤ w5.heap.size := (by have := hb5.size; (try simp at this); omega)
  have D3_5 := via (w0 := w3) (by simp (maxDischargeDepth := 9) [D3_4]) hb5
  have D4_5 := via (w0 := w4) (by simp (maxDischargeDepth := 9)) hb5
  have N3_5 := disj ho3.lt (by simp (maxDischargeDepth := 9) [D3_4]) hf5
  have N4_5 := disj ho4.lt (by simp (maxDischargeDepth := 9)) hf5
  have lt5 := ho5.lt
  clear B4 D3_4
  go_wp2_with fail
  refine (implPutFrame_w b f _ _ _ (ho4.sl.to (by simp (maxDischargeDepth := 9) [D4_5])) (ho5.sl.to (by simp (maxDischargeDepth := 9))) (by omega) (by omega)).mono ?_
  rintro e w6 ⟨a6, c6, fp6, rfl, ho6, hf6, hb6⟩
  have B6 := via (w0 := w) (by simp (maxDischargeDepth := 9) [B5]) hb6
  have z6 : w5.heap.size + 0 ≤ w6.heap.size := (by have := hb6.size; (try simp at this); omega)
  have D3_6 := via (w0 := w3) (by simp (maxDischargeDepth := 9) [D3_5]) hb6
  have D4_6 := via (w0 := w4) (by simp (maxDischargeDepth := 9) [D4_5]) hb6
  have D5_6 := via (w0 := w5) (by simp (maxDischargeDepth := 9)) hb6
  have N3_6 := disj ho3.lt (by simp (maxDischargeDepth := 9) [D3_5]) hf6
  have N4_6 := disj ho4.lt (by simp (maxDischargeDepth := 9) [D4_5]) hf6
  have N5_6 := disj ho5.lt (by simp (maxDischargeDepth := 9)) hf6
  have lt6 := ho6.lt
  clear B5 D3_5 D4_5
  go_wp2_with fail
  refine (eqByteS_w ((frameB b f)) _ _ _ (ho6.sl.to (by simp (maxDischargeDepth := 9))) (ho3.sl.to (by simp (maxDischargeDepth := 9) [D3_6]))).mono ?_
  rintro e w7 ⟨rfl, hb7⟩
  have B7 := via (w0 := w) (by simp (maxDischargeDepth := 9) [B6]) hb7
  have z7 : w6.heap.size + 0 ≤ w7.heap.size := (by have := hb7.size; (try simp at this); omega)
  have D3_7 := via (w0 := w3) (by simp (maxDischargeDepth := 9) [D3_6]) hb7
  have D4_7 := via (w0 := w4) (by simp (maxDischargeDepth := 9) [D4_6]) hb7
  have D5_7 := via (w0 := w5) (by simp (maxDischargeDepth := 9) [D5_6]) hb7
  have D6_7 := via (w0 := w6) (by simp (maxDischargeDepth := 9)) hb7
  clear B6 D3_6 D4_6 D5_6
  go_wp2_with fail
  refine (toByteS_w b _ _ (sb.to (by simp (maxDischargeDepth := 9) [B7])) (by omega)).mono ?_
  rintro e w8 ⟨a8, c8, fp8, rfl, ho8, hf8, hb8⟩
  have B8 := via (w0 := w) (by simp (maxDischargeDepth := 9) [B7]) hb8
  have z8 : w7.heap.size + 0 ≤ w8.heap.size := (by have := hb8.size; (try simp at this); omega)
  have D3_8 := via (w0 := w3) (by simp (maxDischargeDepth := 9) [D3_7]) hb8
  have D4_8 := via (w0 := w4) (by simp (maxDischargeDepth := 9) [D4_7]) hb8
  have D5_8 := via (w0 := w5) (by simp (maxDischargeDepth := 9) [D5_7]) hb8
  have D6_8 := via (w0 := w6) (by simp (maxDischargeDepth := 9) [D6_7]) hb8
  have N3_8 := disj ho3.lt (by simp (maxDischargeDepth := 9) [D3_7]) hf8
  have N4_8 := disj ho4.lt (by simp (maxDischargeDepth := 9) [D4_7]) hf8
  have N5_8 := disj ho5.lt (by simp (maxDischargeDepth := 9) [D5_7]) hf8
  have N6_8 := disj ho6.lt (by simp (maxDischargeDepth := 9) [D6_7]) hf8
  have lt8 := ho8.lt
  clear B7 D3_7 D4_7 D5_7 D6_7
  go_wp2_with fail
  refine (eqByteS_w (b) _ _ _ (ho4.sl.to (by simp (maxDischargeDepth := 9) [D4_8])) (ho8.sl.to (by simp (maxDischargeDepth := 9)))).mono ?_
  rintro e w9 ⟨rfl, hb9⟩
  have B9 := via (w0 := w) (by simp (maxDischargeDepth := 9) [B8]) hb9
  have z9 : w8.heap.size + 0 ≤ w9.heap.size := (by have := hb9.size; (try simp at this); omega)
  have D3_9 := via (w0 := w3) (by simp (maxDischargeDepth := 9) [D3_8]) hb9
  have D4_9 := via (w0 := w4) (by simp (maxDischargeDepth := 9) [D4_8]) hb9
  have D5_9 := via (w0 := w5) (by simp (maxDischargeDepth := 9) [D5_8]) hb9
  have D6_9 := via (w0 := w6) (by simp (maxDischargeDepth := 9) [D6_8]) hb9
  have D8_9 := via (w0 := w8) (by simp (maxDischargeDepth := 9)) hb9
  clear B8 D3_8 D4_8 D5_8 D6_8
  go_wp2_with fail
  refine (toByteS_w f _ _ (sf.to (by simp (maxDischargeDepth := 9) [B9])) (by omega)).mono ?_
  rintro e w10 ⟨a10, c10, fp10, rfl, ho10, hf10, hb10⟩
  have B10 := via (w0 := w) (by simp (maxDischargeDepth := 9) [B9]) hb10
  have z10 : w9.heap.size + 0 ≤ w10.heap.size := (by have := hb10.size; (try simp at this); omega)
  have D3_10 := via (w0 := w3) (by simp (maxDischargeDepth := 9) [D3_9]) hb10
  have D4_10 := via (w0 := w4) (by simp (maxDischargeDepth := 9) [D4_9]) hb10
  have D5_10 := via (w0 := w5) (by simp (maxDischargeDepth := 9) [D5_9]) hb10
  have D6_10 := via (w0 := w6) (by simp (maxDischargeDepth := 9) [D6_9]) hb10
  have N3_10 := disj ho3.lt (by simp (maxDischargeDepth := 9) [D3_9]) hf10
  have N4_10 := disj ho4.lt (by simp (maxDischargeDepth := 9) [D4_9]) hf10
  have N5_10 := disj ho5.lt (by simp (maxDischargeDepth := 9) [D5_9]) hf10
  have N6_10 := disj ho6.lt (by simp (maxDischargeDepth := 9) [D6_9]) hf10
  have lt10 := ho10.lt
  clear B9 D3_9 D4_9 D5_9 D6_9
  go_wp2_with fail
  refine (eqByteS_w (f) _ _ _ (ho5.sl.to (by simp (maxDischargeDepth := 9) [D5_10])) (ho10.sl.to (by simp (maxDischargeDepth := 9)))).mono ?_
  rintro e w11 ⟨rfl, hb11⟩
  have B11 := via (w0 := w) (by simp (maxDischargeDepth := 9) [B10]) hb11
  have z11 : w10.heap.size + 0 ≤ w11.heap.size := (by have := hb11.size; (try simp at this); omega)
  have D3_11 := via (w0 := w3) (by simp (maxDischargeDepth := 9) [D3_10]) hb11
  have D4_11 := via (w0 := w4) (by simp (maxDischargeDepth := 9) [D4_10]) hb11
  have D5_11 := via (w0 := w5) (by simp (maxDischargeDepth := 9) [D5_10]) hb11
  have D6_11 := via (w0 := w6) (by simp (maxDischargeDepth := 9) [D6_10]) hb11
  have D10_11 := via (w0 := w10) (by simp (maxDischargeDepth := 9)) hb11
  clear B10 D3_10 D4_10 D5_10 D6_10
  go_wp2_with fail
  refine (markByteS_w (b) _ fp4 (1) _ (ho4.below (by simp (maxDischargeDepth := 9) [D4_11])) hf4.1 (by omega) (by omega)).mono ?_
  rintro e w12 ⟨rfl, ho12m, hc12⟩
  have B12 := chgB (w0 := w) (by simp (maxDischargeDepth := 9) [B11]) hc12 (fun b hb => by have h1 := hf4.2 _ hb; (try simp at h1); omega)
  have z12 : w11.heap.size + 0 ≤ w12.heap.size := (by have := hc12.size; (try simp at this); omega)
  have ho3_12 := OwnS.chg (ho3.below (by simp (maxDischargeDepth := 9) [D3_11])) hc12 (fun b hb hb' => N3_4 b hb' hb)
  have ho5_12 := OwnS.chg (ho5.below (by simp (maxDischargeDepth := 9) [D5_11])) hc12 N4_5
  have ho6_12 := OwnS.chg (ho6.below (by simp (maxDischargeDepth := 9) [D6_11])) hc12 N4_6
  clear B11 D3_11 D4_11 D5_11 D6_11
  go_wp2_with fail
  refine (markByteS_w (f) _ fp5 (1 + (b.length : Int)) _ (ho5_12.below (by simp (maxDischargeDepth := 9))) hf5.1 (by omega) (by omega)).mono ?_
  rintro e w13 ⟨rfl, ho13m, hc13⟩
  have B13 := chgB (w0 := w) (by simp (maxDischargeDepth := 9) [B12]) hc13 (fun b hb => by have h1 := hf5.2 _ hb; (try simp at h1); omega)
  have z13 : w12.heap.size + 0 ≤ w13.heap.size := (by have := hc13.size; (try simp at this); omega)
  have ho3_13 := OwnS.chg (ho3_12.below (by simp (maxDischargeDepth := 9))) hc13 (fun b hb hb' => N3_5 b hb' hb)
  have ho6_13 := OwnS.chg (ho6_12.below (by simp (maxDischargeDepth := 9))) hc13 N5_6
  clear B12
  go_wp2_with fail
  refine (eqByteS_w ((frameB b f)) _ _ _ (ho6_13.sl.to (by simp (maxDischargeDepth := 9))) (ho3_13.sl.to (by simp (maxDischargeDepth := 9)))).mono ?_
  rintro e w14 ⟨rfl, hb14⟩
  have B14 := via (w0 := w) (by simp (maxDischargeDepth := 9) [B13]) hb14
  have z14 : w13.heap.size + 0 ≤ w14.heap.size := (by have := hb14.size; (try simp at this); omega)
  have D3_14 := via (w0 := w13) (by simp (maxDischargeDepth := 9)) hb14
  have D6_14 := via (w0 := w13) (by simp (maxDischargeDepth := 9)) hb14
  clear B13
  go_wp2_with fail
  refine (markByteS_w ((frameB b f)) _ fp6 (1) _ (ho6_13.below (by simp (maxDischargeDepth := 9) [D6_14])) hf6.1 (by omega) (by omega)).mono ?_
  rintro e w15 ⟨rfl, ho15m, hc15⟩
  have B15 := chgB (w0 := w) (by simp (maxDischargeDepth := 9) [B14]) hc15 (fun b hb => by have h1 := hf6.2 _ hb; (try simp at h1); omega)
  have z15 : w14.heap.size + 0 ≤ w15.heap.size := (by have := hc15.size; (try simp at this); omega)
  have ho3_15 := OwnS.chg (ho3_13.below (by simp (maxDischargeDepth := 9) [D3_14])) hc15 (fun b hb hb' => N3_6 b hb' hb)
  clear B14 D3_14 D6_14
  go_wp2_with fail
  refine (heldByteS_w ((frameB b f)) _ 1 _ (by decide) (ho15m.sl.to (by simp (maxDischargeDepth := 9))) (by omega)).mono ?_
  rintro e w16 ⟨rfl, hb16⟩
  have B16 := via (w0 := w) (by simp (maxDischargeDepth := 9) [B15]) hb16
  have z16 : w15.heap.size + 0 ≤ w16.heap.size := (by have := hb16.size; (try simp at this); omega)
  have D3_16 := via (w0 := w15) (by simp (maxDischargeDepth := 9)) hb16
  have D6_16 := via (w0 := w15) (by simp (maxDischargeDepth := 9)) hb16
  clear B15
  go_wp2_with fail
  refine (toByteS_w b _ _ (sb.to (by simp (maxDischargeDepth := 9) [B16])) (by omega)).mono ?_
  rintro e w17 ⟨a17, c17, fp17, rfl, ho17, hf17, hb17⟩
  have B17 := via (w0 := w) (by simp (maxDischargeDepth := 9) [B16]) hb17
  have z17 : w16.heap.size + 0 ≤ w17.heap.size := (by have := hb17.size; (try simp at this); omega)
  have D3_17 := via (w0 := w15) (by simp (maxDischargeDepth := 9) [D3_16]) hb17
  have D6_17 := via (w0 := w15) (by simp (maxDischargeDepth := 9) [D6_16]) hb17
  have N3_17 := disj ho3_15.lt (by simp (maxDischargeDepth := 9) [D3_16]) hf17
  have N6_17 := disj ho15m.lt (by simp (maxDischargeDepth := 9) [D6_16]) hf17
  have lt17 := ho17.lt
  clear B16 D3_16 D6_16
  go_wp2_with fail
  refine (toByteS_w f _ _ (sf.to (by simp (maxDischargeDepth := 9) [B17])) (by omega)).mono ?_
  rintro e w18 ⟨a18, c18, fp18, rfl, ho18, hf18, hb18⟩
  have B18 := via (w0 := w) (by simp (maxDischargeDepth := 9) [B17]) hb18
  have z18 : w17.heap.size + 0 ≤ w18.heap.size := (by have := hb18.size; (try simp at this); omega)
  have D3_18 := via (w0 := w15) (by simp (maxDischargeDepth := 9) [D3_17]) hb18
  have D6_18 := via (w0 := w15) (by simp (maxDischargeDepth := 9) [D6_17]) hb18
  have D17_18 := via (w0 := w17) (by simp (maxDischargeDepth := 9)) hb18
  have N3_18 := disj ho3_15.lt (by simp (maxDischargeDepth := 9) [D3_17]) hf18
  have N6_18 := disj ho15m.lt (by simp (maxDischargeDepth := 9) [D6_17]) hf18
  have N17_18 := disj ho17.lt (by simp (maxDischargeDepth := 9)) hf18
  have lt18 := ho18.lt
  clear B17 D3_17 D6_17
  go_wp2_with fail
  refine (implPutFrame_w b f _ _ _ (ho17.sl.to (by simp (maxDischargeDepth := 9) [D17_18])) (ho18.sl.to (by simp (maxDischargeDepth := 9))) (by omega) (by omega)).mono ?_
  rintro e w19 ⟨a19, c19, fp19, rfl, ho19, hf19, hb19⟩
  have B19 := via (w0 := w) (by simp (maxDischargeDepth := 9) [B18]) hb19
  have z19 : w18.heap.size + 0 ≤ w19.heap.size := (by have := hb19.size; (try simp at this); omega)
  have D3_19 := via (w0 := w15) (by simp (maxDischargeDepth := 9) [D3_18]) hb19
  have D6_19 := via (w0 := w15) (by simp (maxDischargeDepth := 9) [D6_18]) hb19
  have D17_19 := via (w0 := w17) (by simp (maxDischargeDepth := 9) [D17_18]) hb19
  have D18_19 := via (w0 := w18) (by simp (maxDischargeDepth := 9)) hb19
  have N3_19 := disj ho3_15.lt (by simp (maxDischargeDepth := 9) [D3_18]) hf19
  have N6_19 := disj ho15m.lt (by simp (maxDischargeDepth := 9) [D6_18]) hf19
  have N17_19 := disj ho17.lt (by simp (maxDischargeDepth := 9) [D17_18]) hf19
  have N18_19 := disj ho18.lt (by simp (maxDischargeDepth := 9)) hf19
  have lt19 := ho19.lt
  clear B18 D3_18 D6_18 D17_18
  go_wp2_with fail
  refine (eqByteS_w ((frameB b f)) _ _ _ (ho19.sl.to (by simp (maxDischargeDepth := 9))) (ho3_15.sl.to (by simp (maxDischargeDepth := 9) [D3_19]))).mono ?_
  rintro e w20 ⟨rfl, hb20⟩
  have B20 := via (w0 := w) (by simp (maxDischargeDepth := 9) [B19]) hb20
  have z20 : w19.heap.size + 0 ≤ w20.heap.size := (by have := hb20.size; (try simp at this); omega)
  have D3_20 := via (w0 := w15) (by simp (maxDischargeDepth := 9) [D3_19]) hb20
  have D6_20 := via (w0 := w15) (by simp (maxDischargeDepth := 9) [D6_19]) hb20
  have D19_20 := via (w0 := w19) (by simp (maxDischargeDepth := 9)) hb20
  clear B19 D3_19 D6_19
  go_wp2_with fail
  refine (heldByteS_w ((frameB b f)) _ 1 _ (by decide) (ho15m.sl.to (by simp (maxDischargeDepth := 9) [D6_20])) (by omega)).mono ?_
  rintro e w21 ⟨rfl, hb21⟩
  have B21 := via (w0 := w) (by simp (maxDischargeDepth := 9) [B20]) hb21
  have z21 : w20.heap.size + 0 ≤ w21.heap.size := (by have := hb21.size; (try simp at this); omega)
  have D3_21 := via (w0 := w15) (by simp (maxDischargeDepth := 9) [D3_20]) hb21
  have D6_21 := via (w0 := w15) (by simp (maxDischargeDepth := 9) [D6_20]) hb21
  have D19_21 := via (w0 := w19) (by simp (maxDischargeDepth := 9) [D19_20]) hb21
  clear B20 D3_20 D6_20 D19_20
  go_wp2
  go_ret
  exact ⟨rfl, (by simp (maxDischargeDepth := 9) [B21])⟩

end Go.Proofs.Ytojlnmenfikhbaa
