/- FnExactReadFrames, walked. -/
import Derived.Test.YtojlnmenfikhbaaTypes
import Derived.Test.YtojlnmenfikhbaaFileH
import Derived.Test.YtojlnmenfikhbaaFile2
import Derived.Test.YtojlnmenfikhbaaReadF
namespace Go.Proofs.Ytojlnmenfikhbaa
open Go.RowKit
open Cel (rd own rd_len rd_one own_rd own_lt rd_below rd_mono own_keep)

theorem exactReadFrames_walk (v_b : Value) (b : List UInt8) (w : World) (sb : Sl w b v_b) :
    Calls Try.prog 13 #[v_b] w (RetB true w) := by
  obtain ⟨ab, cb, rfl, hl_b, -⟩ := sb.open
  by_cases hs_b : b.length ≤ 1048576
  rotate_left
  · go_enter Try.func13, Try.ntmps13
    go_wp2
    go_ret
    exact ⟨rfl, (by simp (maxDischargeDepth := 9))⟩
  obtain ⟨hL, hS⟩ := readF_bound b
  go_enter Try.func13, Try.ntmps13
  go_wp2_with fail
  refine (toByteS_w b _ _ (sb.to (by simp (maxDischargeDepth := 9))) (by omega)).mono ?_
  rintro e w1 ⟨a1, c1, fp1, rfl, ho1, hf1, hb1⟩
  have B1 := via (w0 := w) (by simp (maxDischargeDepth := 9)) hb1
  have z1 : w.heap.size + 0 ≤ w1.heap.size := (by have := hb1.size; (try simp at this); omega)
  have lt1 := ho1.lt
  go_wp2_with fail
  refine (specReadFrames_w b _ _ (ho1.sl.to (by simp (maxDischargeDepth := 9))) (by omega)).mono ?_
  rintro e w2 ⟨a2, c2, fp2, rfl, ho2, hf2, hb2⟩
  have B2 := via (w0 := w) (by simp (maxDischargeDepth := 9) [B1]) hb2
  have z2 : w1.heap.size + 0 ≤ w2.heap.size := (by have := hb2.size; (try simp at this); omega)
  have D1_2 := via (w0 := w1) (by simp (maxDischargeDepth := 9)) hb2
  have N1_2 := disj ho1.lt (by simp (maxDischargeDepth := 9)) hf2
  have lt2 := ho2.lt
  clear B1
  go_wp2_with fail
  refine (toByteS_w b _ _ (sb.to (by simp (maxDischargeDepth := 9) [B2])) (by omega)).mono ?_
  rintro e w3 ⟨a3, c3, fp3, rfl, ho3, hf3, hb3⟩
  have B3 := via (w0 := w) (by simp (maxDischargeDepth := 9) [B2]) hb3
  have z3 : w2.heap.size + 0 ≤ w3.heap.size := (by have := hb3.size; (try simp at this); omega)
  have D2_3 := via (w0 := w2) (by simp (maxDischargeDepth := 9)) hb3
  have N2_3 := disj ho2.lt (by simp (maxDischargeDepth := 9)) hf3
  have lt3 := ho3.lt
  clear B2
  go_wp2_with fail
  refine (implReadFrames_w b _ _ (ho3.sl.to (by simp (maxDischargeDepth := 9))) (by omega)).mono ?_
  rintro e w4 ⟨a4, c4, fp4, rfl, ho4, hf4, hb4⟩
  have B4 := via (w0 := w) (by simp (maxDischargeDepth := 9) [B3]) hb4
  have z4 : w3.heap.size + 0 ≤ w4.heap.size := (by have := hb4.size; (try simp at this); omega)
  have D2_4 := via (w0 := w2) (by simp (maxDischargeDepth := 9) [D2_3]) hb4
  have D3_4 := via (w0 := w3) (by simp (maxDischargeDepth := 9)) hb4
  have N2_4 := disj ho2.lt (by simp (maxDischargeDepth := 9) [D2_3]) hf4
  have N3_4 := disj ho3.lt (by simp (maxDischargeDepth := 9)) hf4
  have lt4 := ho4.lt
  clear B3 D2_3
  go_wp2_with fail
  refine (eqFrameS_w ((readF b).1) _ _ _ (ho4.sl.to (by simp (maxDischargeDepth := 9))) (ho2.sl.to (by simp (maxDischargeDepth := 9) [D2_4]))).mono ?_
  rintro e w5 ⟨rfl, hb5⟩
  have B5 := via (w0 := w) (by simp (maxDischargeDepth := 9) [B4]) hb5
  have z5 : w4.heap.size + 0 ≤ w5.heap.size := (by have := hb5.size; (try simp at this); omega)
  have D2_5 := via (w0 := w2) (by simp (maxDischargeDepth := 9) [D2_4]) hb5
  have D3_5 := via (w0 := w3) (by simp (maxDischargeDepth := 9) [D3_4]) hb5
  have D4_5 := via (w0 := w4) (by simp (maxDischargeDepth := 9)) hb5
  clear B4 D2_4 D3_4
  go_wp2_with fail
  refine (toByteS_w b _ _ (sb.to (by simp (maxDischargeDepth := 9) [B5])) (by omega)).mono ?_
  rintro e w6 ⟨a6, c6, fp6, rfl, ho6, hf6, hb6⟩
  have B6 := via (w0 := w) (by simp (maxDischargeDepth := 9) [B5]) hb6
  have z6 : w5.heap.size + 0 ≤ w6.heap.size := (by have := hb6.size; (try simp at this); omega)
  have D2_6 := via (w0 := w2) (by simp (maxDischargeDepth := 9) [D2_5]) hb6
  have D3_6 := via (w0 := w3) (by simp (maxDischargeDepth := 9) [D3_5]) hb6
  have D4_6 := via (w0 := w4) (by simp (maxDischargeDepth := 9) [D4_5]) hb6
  have N2_6 := disj ho2.lt (by simp (maxDischargeDepth := 9) [D2_5]) hf6
  have N3_6 := disj ho3.lt (by simp (maxDischargeDepth := 9) [D3_5]) hf6
  have N4_6 := disj ho4.lt (by simp (maxDischargeDepth := 9) [D4_5]) hf6
  have lt6 := ho6.lt
  clear B5 D2_5 D3_5 D4_5
  go_wp2_with fail
  refine (eqByteS_w (b) _ _ _ (ho3.sl.to (by simp (maxDischargeDepth := 9) [D3_6])) (ho6.sl.to (by simp (maxDischargeDepth := 9)))).mono ?_
  rintro e w7 ⟨rfl, hb7⟩
  have B7 := via (w0 := w) (by simp (maxDischargeDepth := 9) [B6]) hb7
  have z7 : w6.heap.size + 0 ≤ w7.heap.size := (by have := hb7.size; (try simp at this); omega)
  have D2_7 := via (w0 := w2) (by simp (maxDischargeDepth := 9) [D2_6]) hb7
  have D3_7 := via (w0 := w3) (by simp (maxDischargeDepth := 9) [D3_6]) hb7
  have D4_7 := via (w0 := w4) (by simp (maxDischargeDepth := 9) [D4_6]) hb7
  have D6_7 := via (w0 := w6) (by simp (maxDischargeDepth := 9)) hb7
  clear B6 D2_6 D3_6 D4_6
  go_wp2_with fail
  refine (markByteS_w (b) _ fp3 (1) _ (ho3.below (by simp (maxDischargeDepth := 9) [D3_7])) hf3.1 (by omega) (by omega)).mono ?_
  rintro e w8 ⟨rfl, ho8m, hc8⟩
  have B8 := chgB (w0 := w) (by simp (maxDischargeDepth := 9) [B7]) hc8 (fun b hb => by have h1 := hf3.2 _ hb; (try simp at h1); omega)
  have z8 : w7.heap.size + 0 ≤ w8.heap.size := (by have := hc8.size; (try simp at this); omega)
  have ho2_8 := OwnS.chg (ho2.below (by simp (maxDischargeDepth := 9) [D2_7])) hc8 (fun b hb hb' => N2_3 b hb' hb)
  have ho4_8 := OwnS.chg (ho4.below (by simp (maxDischargeDepth := 9) [D4_7])) hc8 N3_4
  clear B7 D2_7 D3_7 D4_7
  go_wp2_with fail
  refine (eqFrameS_w ((readF b).1) _ _ _ (ho4_8.sl.to (by simp (maxDischargeDepth := 9))) (ho2_8.sl.to (by simp (maxDischargeDepth := 9)))).mono ?_
  rintro e w9 ⟨rfl, hb9⟩
  have B9 := via (w0 := w) (by simp (maxDischargeDepth := 9) [B8]) hb9
  have z9 : w8.heap.size + 0 ≤ w9.heap.size := (by have := hb9.size; (try simp at this); omega)
  have D2_9 := via (w0 := w8) (by simp (maxDischargeDepth := 9)) hb9
  have D4_9 := via (w0 := w8) (by simp (maxDischargeDepth := 9)) hb9
  clear B8
  go_wp2_with fail
  refine (markFrameS_w ((readF b).1) _ fp4 (1) _ (ho4_8.below (by simp (maxDischargeDepth := 9) [D4_9])) hf4.1 (by omega) (by omega) (by omega)).mono ?_
  rintro e w10 ⟨rfl, ho10m, hc10⟩
  have B10 := chgB (w0 := w) (by simp (maxDischargeDepth := 9) [B9]) hc10 (fun b hb => by have h1 := hf4.2 _ hb; (try simp at h1); omega)
  have z10 : w9.heap.size + 0 ≤ w10.heap.size := (by have := hc10.size; (try simp at this); omega)
  have ho2_10 := OwnS.chg (ho2_8.below (by simp (maxDischargeDepth := 9) [D2_9])) hc10 (fun b hb hb' => N2_4 b hb' hb)
  clear B9 D2_9 D4_9
  go_wp2_with fail
  refine (heldFrameS_w ((readF b).1) _ 1 _ (by decide) (ho10m.sl.to (by simp (maxDischargeDepth := 9))) (by omega) (by omega)).mono ?_
  rintro e w11 ⟨rfl, hb11⟩
  have B11 := via (w0 := w) (by simp (maxDischargeDepth := 9) [B10]) hb11
  have z11 : w10.heap.size + 0 ≤ w11.heap.size := (by have := hb11.size; (try simp at this); omega)
  have D2_11 := via (w0 := w10) (by simp (maxDischargeDepth := 9)) hb11
  have D4_11 := via (w0 := w10) (by simp (maxDischargeDepth := 9)) hb11
  clear B10
  go_wp2_with fail
  refine (toByteS_w b _ _ (sb.to (by simp (maxDischargeDepth := 9) [B11])) (by omega)).mono ?_
  rintro e w12 ⟨a12, c12, fp12, rfl, ho12, hf12, hb12⟩
  have B12 := via (w0 := w) (by simp (maxDischargeDepth := 9) [B11]) hb12
  have z12 : w11.heap.size + 0 ≤ w12.heap.size := (by have := hb12.size; (try simp at this); omega)
  have D2_12 := via (w0 := w10) (by simp (maxDischargeDepth := 9) [D2_11]) hb12
  have D4_12 := via (w0 := w10) (by simp (maxDischargeDepth := 9) [D4_11]) hb12
  have N2_12 := disj ho2_10.lt (by simp (maxDischargeDepth := 9) [D2_11]) hf12
  have N4_12 := disj ho10m.lt (by simp (maxDischargeDepth := 9) [D4_11]) hf12
  have lt12 := ho12.lt
  clear B11 D2_11 D4_11
  go_wp2_with fail
  refine (implReadFrames_w b _ _ (ho12.sl.to (by simp (maxDischargeDepth := 9))) (by omega)).mono ?_
  rintro e w13 ⟨a13, c13, fp13, rfl, ho13, hf13, hb13⟩
  have B13 := via (w0 := w) (by simp (maxDischargeDepth := 9) [B12]) hb13
  have z13 : w12.heap.size + 0 ≤ w13.heap.size := (by have := hb13.size; (try simp at this); omega)
  have D2_13 := via (w0 := w10) (by simp (maxDischargeDepth := 9) [D2_12]) hb13
  have D4_13 := via (w0 := w10) (by simp (maxDischargeDepth := 9) [D4_12]) hb13
  have D12_13 := via (w0 := w12) (by simp (maxDischargeDepth := 9)) hb13
  have N2_13 := disj ho2_10.lt (by simp (maxDischargeDepth := 9) [D2_12]) hf13
  have N4_13 := disj ho10m.lt (by simp (maxDischargeDepth := 9) [D4_12]) hf13
  have N12_13 := disj ho12.lt (by simp (maxDischargeDepth := 9)) hf13
  have lt13 := ho13.lt
  clear B12 D2_12 D4_12
  go_wp2_with fail
  refine (eqFrameS_w ((readF b).1) _ _ _ (ho13.sl.to (by simp (maxDischargeDepth := 9))) (ho2_10.sl.to (by simp (maxDischargeDepth := 9) [D2_13]))).mono ?_
  rintro e w14 ⟨rfl, hb14⟩
  have B14 := via (w0 := w) (by simp (maxDischargeDepth := 9) [B13]) hb14
  have z14 : w13.heap.size + 0 ≤ w14.heap.size := (by have := hb14.size; (try simp at this); omega)
  have D2_14 := via (w0 := w10) (by simp (maxDischargeDepth := 9) [D2_13]) hb14
  have D4_14 := via (w0 := w10) (by simp (maxDischargeDepth := 9) [D4_13]) hb14
  have D13_14 := via (w0 := w13) (by simp (maxDischargeDepth := 9)) hb14
  clear B13 D2_13 D4_13
  go_wp2_with fail
  refine (heldFrameS_w ((readF b).1) _ 1 _ (by decide) (ho10m.sl.to (by simp (maxDischargeDepth := 9) [D4_14])) (by omega) (by omega)).mono ?_
  rintro e w15 ⟨rfl, hb15⟩
  have B15 := via (w0 := w) (by simp (maxDischargeDepth := 9) [B14]) hb15
  have z15 : w14.heap.size + 0 ≤ w15.heap.size := (by have := hb15.size; (try simp at this); omega)
  have D2_15 := via (w0 := w10) (by simp (maxDischargeDepth := 9) [D2_14]) hb15
  have D4_15 := via (w0 := w10) (by simp (maxDischargeDepth := 9) [D4_14]) hb15
  have D13_15 := via (w0 := w13) (by simp (maxDischargeDepth := 9) [D13_14]) hb15
  clear B14 D2_14 D4_14 D13_14
  go_wp2
  go_ret
  exact ⟨rfl, (by simp (maxDischargeDepth := 9) [B15])⟩

end Go.Proofs.Ytojlnmenfikhbaa
