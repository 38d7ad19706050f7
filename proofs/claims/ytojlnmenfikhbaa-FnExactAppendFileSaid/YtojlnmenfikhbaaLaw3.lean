/- FnExactAppendFile, walked. -/
import Derived.Test.YtojlnmenfikhbaaTypes
import Derived.Test.YtojlnmenfikhbaaFileH
import Derived.Test.YtojlnmenfikhbaaFile2
namespace Go.Proofs.Ytojlnmenfikhbaa
open Go.RowKit
open Cel (rd own rd_len rd_one own_rd own_lt rd_below rd_mono own_keep)

theorem exactAppendFile_walk (vs_l : List Value) (f_l : FileD) (v_b : Value) (b : List UInt8) (w : World) (hr_l : rd w.heap.size w vs_l f_l) (sb : Sl w b v_b) :
    Calls Try.prog 5 #[.agg vs_l.toArray, v_b] w (RetB true w) := by
  obtain ⟨v_l, rfl, hv_l, hn_l⟩ := rd_File hr_l
  have sl : Sl w f_l.B v_l := hv_l
  clear hv_l hr_l
  generalize f_l.B = l at *
  generalize f_l.Sure = n at *
  obtain ⟨al, cl, rfl, hl_l, -⟩ := sl.open
  obtain ⟨ab, cb, rfl, hl_b, -⟩ := sb.open
  by_cases hs_b : b.length ≤ 1048576
  rotate_left
  · go_enter Try.func5, Try.ntmps5
    go_wp2
    go_ret
    exact ⟨rfl, (by simp (maxDischargeDepth := 9))⟩
  by_cases hs_l : l.length ≤ 1048576
  rotate_left
  · have hz_l : szB l 1048576 < 0 := by unfold szB; split <;> omega
    go_enter Try.func5, Try.ntmps5
    go_wp2_with fail
    refine (szFile_w l n 1048576 _ _ (sl.to (by simp (maxDischargeDepth := 9))) (by decide) (by decide)).mono ?_
    rintro e w1 ⟨rfl, hb1⟩
    have B1 := via (w0 := w) (by simp (maxDischargeDepth := 9)) hb1
    have z1 : w.heap.size + 1 ≤ w1.heap.size := (by have := hb1.size; (try simp at this); omega)
    have Al_1 : Bx w1 w.heap.size [.slice al l.length cl, .int .i64 n] := Bx.via (by simp (maxDischargeDepth := 9)) hb1
    have Alk0 := Al_1.c 0 _ rfl
    have Alk1 := Al_1.c 1 _ rfl
    have Alz := Al_1.z
    go_wp2
    go_ret
    exact ⟨rfl, (by simp (maxDischargeDepth := 9) [B1])⟩
  have hL := appB_len l b n
  have hz_l : 0 ≤ szB l 1048576 := by unfold szB; split <;> omega
  go_enter Try.func5, Try.ntmps5
  go_wp2_with fail
  refine (szFile_w l n 1048576 _ _ (sl.to (by simp (maxDischargeDepth := 9))) (by decide) (by decide)).mono ?_
  rintro e w1 ⟨rfl, hb1⟩
  have B1 := via (w0 := w) (by simp (maxDischargeDepth := 9)) hb1
  have z1 : w.heap.size + 1 ≤ w1.heap.size := (by have := hb1.size; (try simp at this); omega)
  have Al_1 : Bx w1 w.heap.size [.slice al l.length cl, .int .i64 n] := Bx.via (by simp (maxDischargeDepth := 9)) hb1
  have Alk0 := Al_1.c 0 _ rfl
  have Alk1 := Al_1.c 1 _ rfl
  have Alz := Al_1.z
  go_wp2_with fail
  refine (toFile_w l n _ _ (sl.to (by simp (maxDischargeDepth := 9) [B1])) (by omega)).mono ?_
  rintro e w2 ⟨a2, c2, fp2, rfl, ho2, hf2, hb2⟩
  have B2 := via (w0 := w) (by simp (maxDischargeDepth := 9) [B1]) hb2
  have z2 : w1.heap.size + 0 ≤ w2.heap.size := (by have := hb2.size; (try simp at this); omega)
  have lt2 := ho2.lt
  have Al_2 : Bx w2 w.heap.size [.slice al l.length cl, .int .i64 n] := Bx.via (by simp (maxDischargeDepth := 9) [Al_1]) hb2
  clear Al_1 Alk0 Alk1 Alz B1
  have Alk0 := Al_2.c 0 _ rfl
  have Alk1 := Al_2.c 1 _ rfl
  have Alz := Al_2.z
  go_wp2_with fail
  refine (toByteS_w b _ _ (sb.to (by simp (maxDischargeDepth := 9) [B2])) (by omega)).mono ?_
  rintro e w3 ⟨a3, c3, fp3, rfl, ho3, hf3, hb3⟩
  have B3 := via (w0 := w) (by simp (maxDischargeDepth := 9) [B2]) hb3
  have z3 : w2.heap.size + 0 ≤ w3.heap.size := (by have := hb3.size; (try simp at this); omega)
  have D2_3 := via (w0 := w2) (by simp (maxDischargeDepth := 9)) hb3
  have N2_3 := disj ho2.lt (by simp (maxDischargeDepth := 9)) hf3
  have lt3 := ho3.lt
  have Al_3 : Bx w3 w.heap.size [.slice al l.length cl, .int .i64 n] := Bx.via (by simp (maxDischargeDepth := 9) [Al_2]) hb3
  clear Al_2 Alk0 Alk1 Alz B2
  have Alk0 := Al_3.c 0 _ rfl
  have Alk1 := Al_3.c 1 _ rfl
  have Alz := Al_3.z
  go_wp2_with fail
  refine (specAppend_w l b n _ _ _ (ho2.sl.to (by simp (maxDischargeDepth := 9) [D2_3])) (ho3.sl.to (by simp (maxDischargeDepth := 9))) (by omega) (by omega)).mono ?_
  rintro e w4 ⟨a4, c4, fp4, rfl, ho4, hf4, hb4⟩
  have B4 := via (w0 := w) (by simp (maxDischargeDepth := 9) [B3]) hb4
  have z4 : w3.heap.size + 0 ≤ w4.heap.size := (by have := hb4.size; (try simp at this); omega)
  have D2_4 := via (w0 := w2) (by simp (maxDischargeDepth := 9) [D2_3]) hb4
  have D3_4 := via (w0 := w3) (by simp (maxDischargeDepth := 9)) hb4
  have N2_4 := disj ho2.lt (by simp (maxDischargeDepth := 9) [D2_3]) hf4
  have N3_4 := disj ho3.lt (by simp (maxDischargeDepth := 9)) hf4
  have lt4 := ho4.lt
  have Al_4 : Bx w4 w.heap.size [.slice al l.length cl, .int .i64 n] := Bx.via (by simp (maxDischargeDepth := 9) [Al_3]) hb4
  clear Al_3 Alk0 Alk1 Alz B3 D2_3
  have Alk0 := Al_4.c 0 _ rfl
  have Alk1 := Al_4.c 1 _ rfl
  have Alz := Al_4.z
  go_wp2_with fail
  refine (toFile_w l n _ _ (sl.to (by simp (maxDischargeDepth := 9) [B4])) (by omega)).mono ?_
  rintro e w5 ⟨a5, c5, fp5, rfl, ho5, hf5, hb5⟩
  have B5 := via (w0 := w) (by simp (maxDischargeDepth := 9) [B4]) hb5
  have z5 : w4.heap.size + 1 ≤ w5.heap.size := (by have := hb5.size; (try simp at this); omega)
  have D4_5 := via (w0 := w4) (by simp (maxDischargeDepth := 9)) hb5
  have N4_5 := disj ho4.lt (by simp (maxDischargeDepth := 9)) hf5
  have lt5 := ho5.lt
  have Al_5 : Bx w5 w.heap.size [.slice al l.length cl, .int .i64 n] := Bx.via (by simp (maxDischargeDepth := 9) [Al_4]) hb5
  have W0_5 : Bx w5 w4.heap.size [.slice a4 ((appB l n b)).length c4, .int .i64 n] := Bx.via (by simp (maxDischargeDepth := 9)) hb5
  clear Al_4 Alk0 Alk1 Alz B4
  have Alk0 := Al_5.c 0 _ rfl
  have Alk1 := Al_5.c 1 _ rfl
  have Alz := Al_5.z
  have W0k0 := W0_5.c 0 _ rfl
  have W0k1 := W0_5.c 1 _ rfl
  have W0z := W0_5.z
  go_wp2_with fail
  refine (toByteS_w b _ _ (sb.to (by simp (maxDischargeDepth := 9) [B5])) (by omega)).mono ?_
  rintro e w6 ⟨a6, c6, fp6, rfl, ho6, hf6, hb6⟩
  have B6 := via (w0 := w) (by simp (maxDischargeDepth := 9) [B5]) hb6
  have z6 : w5.heap.size + 1 ≤ w6.heap.size := (by have := hb6.size; (try simp at this); omega)
  have D4_6 := via (w0 := w4) (by simp (maxDischargeDepth := 9) [D4_5]) hb6
  have D5_6 := via (w0 := w5) (by simp (maxDischargeDepth := 9)) hb6
  have N4_6 := disj ho4.lt (by simp (maxDischargeDepth := 9) [D4_5]) hf6
  have N5_6 := disj ho5.lt (by simp (maxDischargeDepth := 9)) hf6
  have lt6 := ho6.lt
  have Al_6 : Bx w6 w.heap.size [.slice al l.length cl, .int .i64 n] := Bx.via (by simp (maxDischargeDepth := 9) [Al_5]) hb6
  have W0_6 : Bx w6 w4.heap.size [.slice a4 ((appB l n b)).length c4, .int .i64 n] := Bx.via (by simp (maxDischargeDepth := 9) [W0_5]) hb6
  have X0_6 : Bx w6 w5.heap.size [.slice a5 (l).length c5, .int .i64 n] := Bx.via (by simp (maxDischargeDepth := 9)) hb6
  clear Al_5 W0_5 Alk0 Alk1 Alz W0k0 W0k1 W0z B5 D4_5
  have Alk0 := Al_6.c 0 _ rfl
  have Alk1 := Al_6.c 1 _ rfl
  have Alz := Al_6.z
  have W0k0 := W0_6.c 0 _ rfl
  have W0k1 := W0_6.c 1 _ rfl
  have W0z := W0_6.z
  have X0k0 := X0_6.c 0 _ rfl
  have X0k1 := X0_6.c 1 _ rfl
  have X0z := X0_6.z
  go_wp2_with fail
  refine (implAppend_w l b n _ _ _ (ho5.sl.to (by simp (maxDischargeDepth := 9) [D5_6])) (ho6.sl.to (by simp (maxDischargeDepth := 9))) (by omega) (by omega)).mono ?_
  rintro e w7 ⟨a7, c7, fp7, rfl, ho7, hf7, hb7⟩
  have B7 := via (w0 := w) (by simp (maxDischargeDepth := 9) [B6]) hb7
  have z7 : w6.heap.size + 0 ≤ w7.heap.size := (by have := hb7.size; (try simp at this); omega)
  have D4_7 := via (w0 := w4) (by simp (maxDischargeDepth := 9) [D4_6]) hb7
  have D5_7 := via (w0 := w5) (by simp (maxDischargeDepth := 9) [D5_6]) hb7
  have D6_7 := via (w0 := w6) (by simp (maxDischargeDepth := 9)) hb7
  have N4_7 := disj ho4.lt (by simp (maxDischargeDepth := 9) [D4_6]) hf7
  have N5_7 := disj ho5.lt (by simp (maxDischargeDepth := 9) [D5_6]) hf7
  have N6_7 := disj ho6.lt (by simp (maxDischargeDepth := 9)) hf7
  have lt7 := ho7.lt
  have Al_7 : Bx w7 w.heap.size [.slice al l.length cl, .int .i64 n] := Bx.via (by simp (maxDischargeDepth := 9) [Al_6]) hb7
  have W0_7 : Bx w7 w4.heap.size [.slice a4 ((appB l n b)).length c4, .int .i64 n] := Bx.via (by simp (maxDischargeDepth := 9) [W0_6]) hb7
  have X0_7 : Bx w7 w5.heap.size [.slice a5 (l).length c5, .int .i64 n] := Bx.via (by simp (maxDischargeDepth := 9) [X0_6]) hb7
  clear Al_6 W0_6 X0_6 Alk0 Alk1 Alz W0k0 W0k1 W0z X0k0 X0k1 X0z B6 D4_6 D5_6
  have Alk0 := Al_7.c 0 _ rfl
  have Alk1 := Al_7.c 1 _ rfl
  have Alz := Al_7.z
  have W0k0 := W0_7.c 0 _ rfl
  have W0k1 := W0_7.c 1 _ rfl
  have W0z := W0_7.z
  have X0k0 := X0_7.c 0 _ rfl
  have X0k1 := X0_7.c 1 _ rfl
  have X0z := X0_7.z
  go_wp2_with fail
  refine (eqFile_w ((appB l n b)) (n) _ _ _ (ho7.sl.to (by simp (maxDischargeDepth := 9))) (ho4.sl.to (by simp (maxDischargeDepth := 9) [D4_7]))).mono ?_
  rintro e w8 ⟨rfl, hb8⟩
  have B8 := via (w0 := w) (by simp (maxDischargeDepth := 9) [B7]) hb8
  have z8 : w7.heap.size + 1 ≤ w8.heap.size := (by have := hb8.size; (try simp at this); omega)
  have D4_8 := via (w0 := w4) (by simp (maxDischargeDepth := 9) [D4_7]) hb8
  have D5_8 := via (w0 := w5) (by simp (maxDischargeDepth := 9) [D5_7]) hb8
  have D6_8 := via (w0 := w6) (by simp (maxDischargeDepth := 9) [D6_7]) hb8
  have D7_8 := via (w0 := w7) (by simp (maxDischargeDepth := 9)) hb8
  have Al_8 : Bx w8 w.heap.size [.slice al l.length cl, .int .i64 n] := Bx.via (by simp (maxDischargeDepth := 9) [Al_7]) hb8
  have W0_8 : Bx w8 w4.heap.size [.slice a4 ((appB l n b)).length c4, .int .i64 n] := Bx.via (by simp (maxDischargeDepth := 9) [W0_7]) hb8
  have X0_8 : Bx w8 w5.heap.size [.slice a5 (l).length c5, .int .i64 n] := Bx.via (by simp (maxDischargeDepth := 9) [X0_7]) hb8
  have G0_8 : Bx w8 w7.heap.size [.slice a7 ((appB l n b)).length c7, .int .i64 n] := Bx.via (by simp (maxDischargeDepth := 9)) hb8
  clear Al_7 W0_7 X0_7 Alk0 Alk1 Alz W0k0 W0k1 W0z X0k0 X0k1 X0z B7 D4_7 D5_7 D6_7
  have Alk0 := Al_8.c 0 _ rfl
  have Alk1 := Al_8.c 1 _ rfl
  have Alz := Al_8.z
  have W0k0 := W0_8.c 0 _ rfl
  have W0k1 := W0_8.c 1 _ rfl
  have W0z := W0_8.z
  have X0k0 := X0_8.c 0 _ rfl
  have X0k1 := X0_8.c 1 _ rfl
  have X0z := X0_8.z
  have G0k0 := G0_8.c 0 _ rfl
  have G0k1 := G0_8.c 1 _ rfl
  have G0z := G0_8.z
  go_wp2
  go_region_held3 (fun w' => w'.cell? ⟨w.heap.size, 0, none⟩ = some (.slice al l.length cl) ∧ w'.cell? ⟨w.heap.size, 1, none⟩ = some (.int .i64 n) ∧ w'.cell? ⟨w5.heap.size, 0, none⟩ = some (.slice a5 (l).length c5) ∧ w'.cell? ⟨w5.heap.size, 1, none⟩ = some (.int .i64 n)) (go_keep)
    (first | (go_at_call 17; refine (toFile_w l n _ _ (sl.to (by simp (maxDischargeDepth := 9) [B8])) (by omega)).mono ?_; rintro e w9 ⟨a9, c9, fp9, rfl, ho9, hf9, hb9⟩; have B9 := via (w0 := w) (by simp (maxDischargeDepth := 9) [B8]) hb9; have z9 : w8.heap.size + 0 ≤ w9.heap.size := (by have := hb9.size; (try simp at this); omega); have D4_9 := via (w0 := w4) (by simp (maxDischargeDepth := 9) [D4_8]) hb9; have D5_9 := via (w0 := w5) (by simp (maxDischargeDepth := 9) [D5_8]) hb9; have D6_9 := via (w0 := w6) (by simp (maxDischargeDepth := 9) [D6_8]) hb9; have D7_9 := via (w0 := w7) (by simp (maxDischargeDepth := 9) [D7_8]) hb9; have N4_9 := disj ho4.lt (by simp (maxDischargeDepth := 9) [D4_8]) hf9; have N5_9 := disj ho5.lt (by simp (maxDischargeDepth := 9) [D5_8]) hf9; have N6_9 := disj ho6.lt (by simp (maxDischargeDepth := 9) [D6_8]) hf9; have N7_9 := disj ho7.lt (by simp (maxDischargeDepth := 9) [D7_8]) hf9; have lt9 := ho9.lt; have Al_9 : Bx w9 w.heap.size [.slice al l.length cl, .int .i64 n] := Bx.via (by simp (maxDischargeDepth := 9) [Al_8]) hb9; have W0_9 : Bx w9 w4.heap.size [.slice a4 ((appB l n b)).length c4, .int .i64 n] := Bx.via (by simp (maxDischargeDepth := 9) [W0_8]) hb9; have X0_9 : Bx w9 w5.heap.size [.slice a5 (l).length c5, .int .i64 n] := Bx.via (by simp (maxDischargeDepth := 9) [X0_8]) hb9; have G0_9 : Bx w9 w7.heap.size [.slice a7 ((appB l n b)).length c7, .int .i64 n] := Bx.via (by simp (maxDischargeDepth := 9) [G0_8]) hb9; have Alk0 := Al_9.c 0 _ rfl; have Alk1 := Al_9.c 1 _ rfl; have Alz := Al_9.z; have W0k0 := W0_9.c 0 _ rfl; have W0k1 := W0_9.c 1 _ rfl; have W0z := W0_9.z; have X0k0 := X0_9.c 0 _ rfl; have X0k1 := X0_9.c 1 _ rfl; have X0z := X0_9.z; have G0k0 := G0_9.c 0 _ rfl; have G0k1 := G0_9.c 1 _ rfl; have G0z := G0_9.z) | (go_at_call 19; refine (eqFile_w (l) (n) _ _ _ (ho5.sl.to (by simp (maxDischargeDepth := 9) [D5_9])) (ho9.sl.to (by simp (maxDischargeDepth := 9)))).mono ?_; rintro e w10 ⟨rfl, hb10⟩; have B10 := via (w0 := w) (by simp (maxDischargeDepth := 9) [B9]) hb10; have z10 : w9.heap.size + 0 ≤ w10.heap.size := (by have := hb10.size; (try simp at this); omega); have D4_10 := via (w0 := w4) (by simp (maxDischargeDepth := 9) [D4_9]) hb10; have D5_10 := via (w0 := w5) (by simp (maxDischargeDepth := 9) [D5_9]) hb10; have D6_10 := via (w0 := w6) (by simp (maxDischargeDepth := 9) [D6_9]) hb10; have D7_10 := via (w0 := w7) (by simp (maxDischargeDepth := 9) [D7_9]) hb10; have D9_10 := via (w0 := w9) (by simp (maxDischargeDepth := 9)) hb10; have Al_10 : Bx w10 w.heap.size [.slice al l.length cl, .int .i64 n] := Bx.via (by simp (maxDischargeDepth := 9) [Al_9]) hb10; have W0_10 : Bx w10 w4.heap.size [.slice a4 ((appB l n b)).length c4, .int .i64 n] := Bx.via (by simp (maxDischargeDepth := 9) [W0_9]) hb10; have X0_10 : Bx w10 w5.heap.size [.slice a5 (l).length c5, .int .i64 n] := Bx.via (by simp (maxDischargeDepth := 9) [X0_9]) hb10; have G0_10 : Bx w10 w7.heap.size [.slice a7 ((appB l n b)).length c7, .int .i64 n] := Bx.via (by simp (maxDischargeDepth := 9) [G0_9]) hb10; have Alk0 := Al_10.c 0 _ rfl; have Alk1 := Al_10.c 1 _ rfl; have Alz := Al_10.z; have W0k0 := W0_10.c 0 _ rfl; have W0k1 := W0_10.c 1 _ rfl; have W0z := W0_10.z; have X0k0 := X0_10.c 0 _ rfl; have X0k1 := X0_10.c 1 _ rfl; have X0z := X0_10.z; have G0k0 := G0_10.c 0 _ rfl; have G0k1 := G0_10.c 1 _ rfl; have G0z := G0_10.z))
  go_wp2_with fail
  refine (toByteS_w b _ _ (sb.to (by simp (maxDischargeDepth := 9) [B10])) (by omega)).mono ?_
  rintro e w11 ⟨a11, c11, fp11, rfl, ho11, hf11, hb11⟩
  have B11 := via (w0 := w) (by simp (maxDischargeDepth := 9) [B10]) hb11
  have z11 : w10.heap.size + 0 ≤ w11.heap.size := (by have := hb11.size; (try simp at this); omega)
  have D4_11 := via (w0 := w4) (by simp (maxDischargeDepth := 9) [D4_10]) hb11
  have D5_11 := via (w0 := w5) (by simp (maxDischargeDepth := 9) [D5_10]) hb11
  have D6_11 := via (w0 := w6) (by simp (maxDischargeDepth := 9) [D6_10]) hb11
  have D7_11 := via (w0 := w7) (by simp (maxDischargeDepth := 9) [D7_10]) hb11
  have N4_11 := disj ho4.lt (by simp (maxDischargeDepth := 9) [D4_10]) hf11
  have N5_11 := disj ho5.lt (by simp (maxDischargeDepth := 9) [D5_10]) hf11
  have N6_11 := disj ho6.lt (by simp (maxDischargeDepth := 9) [D6_10]) hf11
  have N7_11 := disj ho7.lt (by simp (maxDischargeDepth := 9) [D7_10]) hf11
  have lt11 := ho11.lt
  have Al_11 : Bx w11 w.heap.size [.slice al l.length cl, .int .i64 n] := Bx.via (by simp (maxDischargeDepth := 9) [Al_10]) hb11
  have W0_11 : Bx w11 w4.heap.size [.slice a4 ((appB l n b)).length c4, .int .i64 n] := Bx.via (by simp (maxDischargeDepth := 9) [W0_10]) hb11
  have X0_11 : Bx w11 w5.heap.size [.slice a5 (l).length c5, .int .i64 n] := Bx.via (by simp (maxDischargeDepth := 9) [X0_10]) hb11
  have G0_11 : Bx w11 w7.heap.size [.slice a7 ((appB l n b)).length c7, .int .i64 n] := Bx.via (by simp (maxDischargeDepth := 9) [G0_10]) hb11
  clear Al_10 W0_10 X0_10 G0_10 Alk0 Alk1 Alz W0k0 W0k1 W0z X0k0 X0k1 X0z G0k0 G0k1 G0z B10 D4_10 D5_10 D6_10 D7_10
  have Alk0 := Al_11.c 0 _ rfl
  have Alk1 := Al_11.c 1 _ rfl
  have Alz := Al_11.z
  have W0k0 := W0_11.c 0 _ rfl
  have W0k1 := W0_11.c 1 _ rfl
  have W0z := W0_11.z
  have X0k0 := X0_11.c 0 _ rfl
  have X0k1 := X0_11.c 1 _ rfl
  have X0z := X0_11.z
  have G0k0 := G0_11.c 0 _ rfl
  have G0k1 := G0_11.c 1 _ rfl
  have G0z := G0_11.z
  go_wp2_with fail
  refine (eqByteS_w (b) _ _ _ (ho6.sl.to (by simp (maxDischargeDepth := 9) [D6_11])) (ho11.sl.to (by simp (maxDischargeDepth := 9)))).mono ?_
  rintro e w12 ⟨rfl, hb12⟩
  have B12 := via (w0 := w) (by simp (maxDischargeDepth := 9) [B11]) hb12
  have z12 : w11.heap.size + 0 ≤ w12.heap.size := (by have := hb12.size; (try simp at this); omega)
  have D4_12 := via (w0 := w4) (by simp (maxDischargeDepth := 9) [D4_11]) hb12
  have D5_12 := via (w0 := w5) (by simp (maxDischargeDepth := 9) [D5_11]) hb12
  have D6_12 := via (w0 := w6) (by simp (maxDischargeDepth := 9) [D6_11]) hb12
  have D7_12 := via (w0 := w7) (by simp (maxDischargeDepth := 9) [D7_11]) hb12
  have D11_12 := via (w0 := w11) (by simp (maxDischargeDepth := 9)) hb12
  have Al_12 : Bx w12 w.heap.size [.slice al l.length cl, .int .i64 n] := Bx.via (by simp (maxDischargeDepth := 9) [Al_11]) hb12
  have W0_12 : Bx w12 w4.heap.size [.slice a4 ((appB l n b)).length c4, .int .i64 n] := Bx.via (by simp (maxDischargeDepth := 9) [W0_11]) hb12
  have X0_12 : Bx w12 w5.heap.size [.slice a5 (l).length c5, .int .i64 n] := Bx.via (by simp (maxDischargeDepth := 9) [X0_11]) hb12
  have G0_12 : Bx w12 w7.heap.size [.slice a7 ((appB l n b)).length c7, .int .i64 n] := Bx.via (by simp (maxDischargeDepth := 9) [G0_11]) hb12
  clear Al_11 W0_11 X0_11 G0_11 Alk0 Alk1 Alz W0k0 W0k1 W0z X0k0 X0k1 X0z G0k0 G0k1 G0z B11 D4_11 D5_11 D6_11 D7_11
  have Alk0 := Al_12.c 0 _ rfl
  have Alk1 := Al_12.c 1 _ rfl
  have Alz := Al_12.z
  have W0k0 := W0_12.c 0 _ rfl
  have W0k1 := W0_12.c 1 _ rfl
  have W0z := W0_12.z
  have X0k0 := X0_12.c 0 _ rfl
  have X0k1 := X0_12.c 1 _ rfl
  have X0z := X0_12.z
  have G0k0 := G0_12.c 0 _ rfl
  have G0k1 := G0_12.c 1 _ rfl
  have G0z := G0_12.z
  go_wp2_with fail
  refine (markFile_w (l) (n) _ fp5 (1) _ (ho5.below (by simp (maxDischargeDepth := 9) [D5_12])) hf5.1 (by omega) (by omega)).mono ?_
  rintro e w13 ⟨rfl, ho13m, hc13⟩
  have B13 := chgB (w0 := w) (by simp (maxDischargeDepth := 9) [B12]) hc13 (fun b hb => by have h1 := hf5.2 _ hb; (try simp at h1); omega)
  have z13 : w12.heap.size + 0 ≤ w13.heap.size := (by have := hc13.size; (try simp at this); omega)
  have ho4_13 := OwnS.chg (ho4.below (by simp (maxDischargeDepth := 9) [D4_12])) hc13 (fun b hb hb' => N4_5 b hb' hb)
  have ho6_13 := OwnS.chg (ho6.below (by simp (maxDischargeDepth := 9) [D6_12])) hc13 N5_6
  have ho7_13 := OwnS.chg (ho7.below (by simp (maxDischargeDepth := 9) [D7_12])) hc13 N5_7
  have Al_13 : Bx w13 w.heap.size [.slice al l.length cl, .int .i64 n] := Bx.chg (by simp (maxDischargeDepth := 9) [Al_12]) hc13 (fun hm => by have h1 := hf5.2 _ hm; have h2 := lt5 _ hm; (try simp at h1); omega)
  have W0_13 : Bx w13 w4.heap.size [.slice a4 ((appB l n b)).length c4, .int .i64 n] := Bx.chg (by simp (maxDischargeDepth := 9) [W0_12]) hc13 (fun hm => by have h1 := hf5.2 _ hm; have h2 := lt5 _ hm; (try simp at h1); omega)
  have X0_13 : Bx w13 w5.heap.size [.slice a5 (l).length c5, .int .i64 n] := Bx.chg (by simp (maxDischargeDepth := 9) [X0_12]) hc13 (fun hm => by have h1 := hf5.2 _ hm; have h2 := lt5 _ hm; (try simp at h1); omega)
  have G0_13 : Bx w13 w7.heap.size [.slice a7 ((appB l n b)).length c7, .int .i64 n] := Bx.chg (by simp (maxDischargeDepth := 9) [G0_12]) hc13 (fun hm => by have h1 := hf5.2 _ hm; have h2 := lt5 _ hm; (try simp at h1); omega)
  clear Al_12 W0_12 X0_12 G0_12 Alk0 Alk1 Alz W0k0 W0k1 W0z X0k0 X0k1 X0z G0k0 G0k1 G0z B12 D4_12 D5_12 D6_12 D7_12
  have Alk0 := Al_13.c 0 _ rfl
  have Alk1 := Al_13.c 1 _ rfl
  have Alz := Al_13.z
  have W0k0 := W0_13.c 0 _ rfl
  have W0k1 := W0_13.c 1 _ rfl
  have W0z := W0_13.z
  have X0k0 := X0_13.c 0 _ rfl
  have X0k1 := X0_13.c 1 _ rfl
  have X0z := X0_13.z
  have G0k0 := G0_13.c 0 _ rfl
  have G0k1 := G0_13.c 1 _ rfl
  have G0z := G0_13.z
  go_wp2_with fail
  refine (markByteS_w (b) _ fp6 _ _ (ho6_13.below (by simp (maxDischargeDepth := 9))) hf6.1 (by omega) (by omega)).mono ?_
  rintro e w14 ⟨rfl, ho14m, hc14⟩
  have B14 := chgB (w0 := w) (by simp (maxDischargeDepth := 9) [B13]) hc14 (fun b hb => by have h1 := hf6.2 _ hb; (try simp at h1); omega)
  have z14 : w13.heap.size + 0 ≤ w14.heap.size := (by have := hc14.size; (try simp at this); omega)
  have ho4_14 := OwnS.chg (ho4_13.below (by simp (maxDischargeDepth := 9))) hc14 (fun b hb hb' => N4_6 b hb' hb)
  have ho7_14 := OwnS.chg (ho7_13.below (by simp (maxDischargeDepth := 9))) hc14 N6_7
  have Al_14 : Bx w14 w.heap.size [.slice al l.length cl, .int .i64 n] := Bx.chg (by simp (maxDischargeDepth := 9) [Al_13]) hc14 (fun hm => by have h1 := hf6.2 _ hm; have h2 := lt6 _ hm; (try simp at h1); omega)
  have W0_14 : Bx w14 w4.heap.size [.slice a4 ((appB l n b)).length c4, .int .i64 n] := Bx.chg (by simp (maxDischargeDepth := 9) [W0_13]) hc14 (fun hm => by have h1 := hf6.2 _ hm; have h2 := lt6 _ hm; (try simp at h1); omega)
  have X0_14 : Bx w14 w5.heap.size [.slice a5 (l).length c5, .int .i64 n] := Bx.chg (by simp (maxDischargeDepth := 9) [X0_13]) hc14 (fun hm => by have h1 := hf6.2 _ hm; have h2 := lt6 _ hm; (try simp at h1); omega)
  have G0_14 : Bx w14 w7.heap.size [.slice a7 ((appB l n b)).length c7, .int .i64 n] := Bx.chg (by simp (maxDischargeDepth := 9) [G0_13]) hc14 (fun hm => by have h1 := hf6.2 _ hm; have h2 := lt6 _ hm; (try simp at h1); omega)
  clear Al_13 W0_13 X0_13 G0_13 Alk0 Alk1 Alz W0k0 W0k1 W0z X0k0 X0k1 X0z G0k0 G0k1 G0z B13
  have Alk0 := Al_14.c 0 _ rfl
  have Alk1 := Al_14.c 1 _ rfl
  have Alz := Al_14.z
  have W0k0 := W0_14.c 0 _ rfl
  have W0k1 := W0_14.c 1 _ rfl
  have W0z := W0_14.z
  have X0k0 := X0_14.c 0 _ rfl
  have X0k1 := X0_14.c 1 _ rfl
  have X0z := X0_14.z
  have G0k0 := G0_14.c 0 _ rfl
  have G0k1 := G0_14.c 1 _ rfl
  have G0z := G0_14.z
  go_wp2_with fail
  refine (eqFile_w ((appB l n b)) (n) _ _ _ (ho7_14.sl.to (by simp (maxDischargeDepth := 9))) (ho4_14.sl.to (by simp (maxDischargeDepth := 9)))).mono ?_
  rintro e w15 ⟨rfl, hb15⟩
  have B15 := via (w0 := w) (by simp (maxDischargeDepth := 9) [B14]) hb15
  have z15 : w14.heap.size + 0 ≤ w15.heap.size := (by have := hb15.size; (try simp at this); omega)
  have D4_15 := via (w0 := w14) (by simp (maxDischargeDepth := 9)) hb15
  have D7_15 := via (w0 := w14) (by simp (maxDischargeDepth := 9)) hb15
  have Al_15 : Bx w15 w.heap.size [.slice al l.length cl, .int .i64 n] := Bx.via (by simp (maxDischargeDepth := 9) [Al_14]) hb15
  have W0_15 : Bx w15 w4.heap.size [.slice a4 ((appB l n b)).length c4, .int .i64 n] := Bx.via (by simp (maxDischargeDepth := 9) [W0_14]) hb15
  have X0_15 : Bx w15 w5.heap.size [.slice a5 (l).length c5, .int .i64 n] := Bx.via (by simp (maxDischargeDepth := 9) [X0_14]) hb15
  have G0_15 : Bx w15 w7.heap.size [.slice a7 ((appB l n b)).length c7, .int .i64 n] := Bx.via (by simp (maxDischargeDepth := 9) [G0_14]) hb15
  clear Al_14 W0_14 X0_14 G0_14 Alk0 Alk1 Alz W0k0 W0k1 W0z X0k0 X0k1 X0z G0k0 G0k1 G0z B14
  have Alk0 := Al_15.c 0 _ rfl
  have Alk1 := Al_15.c 1 _ rfl
  have Alz := Al_15.z
  have W0k0 := W0_15.c 0 _ rfl
  have W0k1 := W0_15.c 1 _ rfl
  have W0z := W0_15.z
  have X0k0 := X0_15.c 0 _ rfl
  have X0k1 := X0_15.c 1 _ rfl
  have X0z := X0_15.z
  have G0k0 := G0_15.c 0 _ rfl
  have G0k1 := G0_15.c 1 _ rfl
  have G0z := G0_15.z
  go_wp2_with fail
  refine (markFile_w ((appB l n b)) (n) _ fp7 (1) _ (ho7_14.below (by simp (maxDischargeDepth := 9) [D7_15])) hf7.1 (by omega) (by omega)).mono ?_
  rintro e w16 ⟨rfl, ho16m, hc16⟩
  have B16 := chgB (w0 := w) (by simp (maxDischargeDepth := 9) [B15]) hc16 (fun b hb => by have h1 := hf7.2 _ hb; (try simp at h1); omega)
  have z16 : w15.heap.size + 0 ≤ w16.heap.size := (by have := hc16.size; (try simp at this); omega)
  have ho4_16 := OwnS.chg (ho4_14.below (by simp (maxDischargeDepth := 9) [D4_15])) hc16 (fun b hb hb' => N4_7 b hb' hb)
  have Al_16 : Bx w16 w.heap.size [.slice al l.length cl, .int .i64 n] := Bx.chg (by simp (maxDischargeDepth := 9) [Al_15]) hc16 (fun hm => by have h1 := hf7.2 _ hm; have h2 := lt7 _ hm; (try simp at h1); omega)
  have W0_16 : Bx w16 w4.heap.size [.slice a4 ((appB l n b)).length c4, .int .i64 n] := Bx.chg (by simp (maxDischargeDepth := 9) [W0_15]) hc16 (fun hm => by have h1 := hf7.2 _ hm; have h2 := lt7 _ hm; (try simp at h1); omega)
  have X0_16 : Bx w16 w5.heap.size [.slice a5 (l).length c5, .int .i64 n] := Bx.chg (by simp (maxDischargeDepth := 9) [X0_15]) hc16 (fun hm => by have h1 := hf7.2 _ hm; have h2 := lt7 _ hm; (try simp at h1); omega)
  have G0_16 : Bx w16 w7.heap.size [.slice a7 ((appB l n b)).length c7, .int .i64 n] := Bx.chg (by simp (maxDischargeDepth := 9) [G0_15]) hc16 (fun hm => by have h1 := hf7.2 _ hm; have h2 := lt7 _ hm; (try simp at h1); omega)
  clear Al_15 W0_15 X0_15 G0_15 Alk0 Alk1 Alz W0k0 W0k1 W0z X0k0 X0k1 X0z G0k0 G0k1 G0z B15 D4_15 D7_15
  have Alk0 := Al_16.c 0 _ rfl
  have Alk1 := Al_16.c 1 _ rfl
  have Alz := Al_16.z
  have W0k0 := W0_16.c 0 _ rfl
  have W0k1 := W0_16.c 1 _ rfl
  have W0z := W0_16.z
  have X0k0 := X0_16.c 0 _ rfl
  have X0k1 := X0_16.c 1 _ rfl
  have X0z := X0_16.z
  have G0k0 := G0_16.c 0 _ rfl
  have G0k1 := G0_16.c 1 _ rfl
  have G0z := G0_16.z
  go_wp2_with fail
  refine (heldFile_w ((appB l n b)) (n) _ 1 _ (by decide) (ho16m.sl.to (by simp (maxDischargeDepth := 9))) (by omega)).mono ?_
  rintro e w17 ⟨rfl, hb17⟩
  have B17 := via (w0 := w) (by simp (maxDischargeDepth := 9) [B16]) hb17
  have z17 : w16.heap.size + 0 ≤ w17.heap.size := (by have := hb17.size; (try simp at this); omega)
  have D4_17 := via (w0 := w16) (by simp (maxDischargeDepth := 9)) hb17
  have D7_17 := via (w0 := w16) (by simp (maxDischargeDepth := 9)) hb17
  have Al_17 : Bx w17 w.heap.size [.slice al l.length cl, .int .i64 n] := Bx.via (by simp (maxDischargeDepth := 9) [Al_16]) hb17
  have W0_17 : Bx w17 w4.heap.size [.slice a4 ((appB l n b)).length c4, .int .i64 n] := Bx.via (by simp (maxDischargeDepth := 9) [W0_16]) hb17
  have X0_17 : Bx w17 w5.heap.size [.slice a5 (l).length c5, .int .i64 n] := Bx.via (by simp (maxDischargeDepth := 9) [X0_16]) hb17
  have G0_17 : Bx w17 w7.heap.size [.slice a7 ((appB l n b)).length c7, .int .i64 n] := Bx.via (by simp (maxDischargeDepth := 9) [G0_16]) hb17
  clear Al_16 W0_16 X0_16 G0_16 Alk0 Alk1 Alz W0k0 W0k1 W0z X0k0 X0k1 X0z G0k0 G0k1 G0z B16
  have Alk0 := Al_17.c 0 _ rfl
  have Alk1 := Al_17.c 1 _ rfl
  have Alz := Al_17.z
  have W0k0 := W0_17.c 0 _ rfl
  have W0k1 := W0_17.c 1 _ rfl
  have W0z := W0_17.z
  have X0k0 := X0_17.c 0 _ rfl
  have X0k1 := X0_17.c 1 _ rfl
  have X0z := X0_17.z
  have G0k0 := G0_17.c 0 _ rfl
  have G0k1 := G0_17.c 1 _ rfl
  have G0z := G0_17.z
  go_wp2_with fail
  refine (toFile_w l n _ _ (sl.to (by simp (maxDischargeDepth := 9) [B17])) (by omega)).mono ?_
  rintro e w18 ⟨a18, c18, fp18, rfl, ho18, hf18, hb18⟩
  have B18 := via (w0 := w) (by simp (maxDischargeDepth := 9) [B17]) hb18
  have z18 : w17.heap.size + 0 ≤ w18.heap.size := (by have := hb18.size; (try simp at this); omega)
  have D4_18 := via (w0 := w16) (by simp (maxDischargeDepth := 9) [D4_17]) hb18
  have D7_18 := via (w0 := w16) (by simp (maxDischargeDepth := 9) [D7_17]) hb18
  have N4_18 := disj ho4_16.lt (by simp (maxDischargeDepth := 9) [D4_17]) hf18
  have N7_18 := disj ho16m.lt (by simp (maxDischargeDepth := 9) [D7_17]) hf18
  have lt18 := ho18.lt
  have Al_18 : Bx w18 w.heap.size [.slice al l.length cl, .int .i64 n] := Bx.via (by simp (maxDischargeDepth := 9) [Al_17]) hb18
  have W0_18 : Bx w18 w4.heap.size [.slice a4 ((appB l n b)).length c4, .int .i64 n] := Bx.via (by simp (maxDischargeDepth := 9) [W0_17]) hb18
  have X0_18 : Bx w18 w5.heap.size [.slice a5 (l).length c5, .int .i64 n] := Bx.via (by simp (maxDischargeDepth := 9) [X0_17]) hb18
  have G0_18 : Bx w18 w7.heap.size [.slice a7 ((appB l n b)).length c7, .int .i64 n] := Bx.via (by simp (maxDischargeDepth := 9) [G0_17]) hb18
  clear Al_17 W0_17 X0_17 G0_17 Alk0 Alk1 Alz W0k0 W0k1 W0z X0k0 X0k1 X0z G0k0 G0k1 G0z B17 D4_17 D7_17
  have Alk0 := Al_18.c 0 _ rfl
  have Alk1 := Al_18.c 1 _ rfl
  have Alz := Al_18.z
  have W0k0 := W0_18.c 0 _ rfl
  have W0k1 := W0_18.c 1 _ rfl
  have W0z := W0_18.z
  have X0k0 := X0_18.c 0 _ rfl
  have X0k1 := X0_18.c 1 _ rfl
  have X0z := X0_18.z
  have G0k0 := G0_18.c 0 _ rfl
  have G0k1 := G0_18.c 1 _ rfl
  have G0z := G0_18.z
  go_wp2_with fail
  refine (toByteS_w b _ _ (sb.to (by simp (maxDischargeDepth := 9) [B18])) (by omega)).mono ?_
  rintro e w19 ⟨a19, c19, fp19, rfl, ho19, hf19, hb19⟩
  have B19 := via (w0 := w) (by simp (maxDischargeDepth := 9) [B18]) hb19
  have z19 : w18.heap.size + 0 ≤ w19.heap.size := (by have := hb19.size; (try simp at this); omega)
  have D4_19 := via (w0 := w16) (by simp (maxDischargeDepth := 9) [D4_18]) hb19
  have D7_19 := via (w0 := w16) (by simp (maxDischargeDepth := 9) [D7_18]) hb19
  have D18_19 := via (w0 := w18) (by simp (maxDischargeDepth := 9)) hb19
  have N4_19 := disj ho4_16.lt (by simp (maxDischargeDepth := 9) [D4_18]) hf19
  have N7_19 := disj ho16m.lt (by simp (maxDischargeDepth := 9) [D7_18]) hf19
  have N18_19 := disj ho18.lt (by simp (maxDischargeDepth := 9)) hf19
  have lt19 := ho19.lt
  have Al_19 : Bx w19 w.heap.size [.slice al l.length cl, .int .i64 n] := Bx.via (by simp (maxDischargeDepth := 9) [Al_18]) hb19
  have W0_19 : Bx w19 w4.heap.size [.slice a4 ((appB l n b)).length c4, .int .i64 n] := Bx.via (by simp (maxDischargeDepth := 9) [W0_18]) hb19
  have X0_19 : Bx w19 w5.heap.size [.slice a5 (l).length c5, .int .i64 n] := Bx.via (by simp (maxDischargeDepth := 9) [X0_18]) hb19
  have G0_19 : Bx w19 w7.heap.size [.slice a7 ((appB l n b)).length c7, .int .i64 n] := Bx.via (by simp (maxDischargeDepth := 9) [G0_18]) hb19
  clear Al_18 W0_18 X0_18 G0_18 Alk0 Alk1 Alz W0k0 W0k1 W0z X0k0 X0k1 X0z G0k0 G0k1 G0z B18 D4_18 D7_18
  have Alk0 := Al_19.c 0 _ rfl
  have Alk1 := Al_19.c 1 _ rfl
  have Alz := Al_19.z
  have W0k0 := W0_19.c 0 _ rfl
  have W0k1 := W0_19.c 1 _ rfl
  have W0z := W0_19.z
  have X0k0 := X0_19.c 0 _ rfl
  have X0k1 := X0_19.c 1 _ rfl
  have X0z := X0_19.z
  have G0k0 := G0_19.c 0 _ rfl
  have G0k1 := G0_19.c 1 _ rfl
  have G0z := G0_19.z
  go_wp2_with fail
  refine (implAppend_w l b n _ _ _ (ho18.sl.to (by simp (maxDischargeDepth := 9) [D18_19])) (ho19.sl.to (by simp (maxDischargeDepth := 9))) (by omega) (by omega)).mono ?_
  rintro e w20 ⟨a20, c20, fp20, rfl, ho20, hf20, hb20⟩
  have B20 := via (w0 := w) (by simp (maxDischargeDepth := 9) [B19]) hb20
  have z20 : w19.heap.size + 0 ≤ w20.heap.size := (by have := hb20.size; (try simp at this); omega)
  have D4_20 := via (w0 := w16) (by simp (maxDischargeDepth := 9) [D4_19]) hb20
  have D7_20 := via (w0 := w16) (by simp (maxDischargeDepth := 9) [D7_19]) hb20
  have D18_20 := via (w0 := w18) (by simp (maxDischargeDepth := 9) [D18_19]) hb20
  have D19_20 := via (w0 := w19) (by simp (maxDischargeDepth := 9)) hb20
  have N4_20 := disj ho4_16.lt (by simp (maxDischargeDepth := 9) [D4_19]) hf20
  have N7_20 := disj ho16m.lt (by simp (maxDischargeDepth := 9) [D7_19]) hf20
  have N18_20 := disj ho18.lt (by simp (maxDischargeDepth := 9) [D18_19]) hf20
  have N19_20 := disj ho19.lt (by simp (maxDischargeDepth := 9)) hf20
  have lt20 := ho20.lt
  have Al_20 : Bx w20 w.heap.size [.slice al l.length cl, .int .i64 n] := Bx.via (by simp (maxDischargeDepth := 9) [Al_19]) hb20
  have W0_20 : Bx w20 w4.heap.size [.slice a4 ((appB l n b)).length c4, .int .i64 n] := Bx.via (by simp (maxDischargeDepth := 9) [W0_19]) hb20
  have X0_20 : Bx w20 w5.heap.size [.slice a5 (l).length c5, .int .i64 n] := Bx.via (by simp (maxDischargeDepth := 9) [X0_19]) hb20
  have G0_20 : Bx w20 w7.heap.size [.slice a7 ((appB l n b)).length c7, .int .i64 n] := Bx.via (by simp (maxDischargeDepth := 9) [G0_19]) hb20
  clear Al_19 W0_19 X0_19 G0_19 Alk0 Alk1 Alz W0k0 W0k1 W0z X0k0 X0k1 X0z G0k0 G0k1 G0z B19 D4_19 D7_19 D18_19
  have Alk0 := Al_20.c 0 _ rfl
  have Alk1 := Al_20.c 1 _ rfl
  have Alz := Al_20.z
  have W0k0 := W0_20.c 0 _ rfl
  have W0k1 := W0_20.c 1 _ rfl
  have W0z := W0_20.z
  have X0k0 := X0_20.c 0 _ rfl
  have X0k1 := X0_20.c 1 _ rfl
  have X0z := X0_20.z
  have G0k0 := G0_20.c 0 _ rfl
  have G0k1 := G0_20.c 1 _ rfl
  have G0z := G0_20.z
  go_wp2_with fail
  refine (eqFile_w ((appB l n b)) (n) _ _ _ (ho20.sl.to (by simp (maxDischargeDepth := 9))) (ho4_16.sl.to (by simp (maxDischargeDepth := 9) [D4_20]))).mono ?_
  rintro e w21 ⟨rfl, hb21⟩
  have B21 := via (w0 := w) (by simp (maxDischargeDepth := 9) [B20]) hb21
  have z21 : w20.heap.size + 1 ≤ w21.heap.size := (by have := hb21.size; (try simp at this); omega)
  have D4_21 := via (w0 := w16) (by simp (maxDischargeDepth := 9) [D4_20]) hb21
  have D7_21 := via (w0 := w16) (by simp (maxDischargeDepth := 9) [D7_20]) hb21
  have D20_21 := via (w0 := w20) (by simp (maxDischargeDepth := 9)) hb21
  have Al_21 : Bx w21 w.heap.size [.slice al l.length cl, .int .i64 n] := Bx.via (by simp (maxDischargeDepth := 9) [Al_20]) hb21
  have W0_21 : Bx w21 w4.heap.size [.slice a4 ((appB l n b)).length c4, .int .i64 n] := Bx.via (by simp (maxDischargeDepth := 9) [W0_20]) hb21
  have X0_21 : Bx w21 w5.heap.size [.slice a5 (l).length c5, .int .i64 n] := Bx.via (by simp (maxDischargeDepth := 9) [X0_20]) hb21
  have G0_21 : Bx w21 w7.heap.size [.slice a7 ((appB l n b)).length c7, .int .i64 n] := Bx.via (by simp (maxDischargeDepth := 9) [G0_20]) hb21
  have H0_21 : Bx w21 w20.heap.size [.slice a20 ((appB l n b)).length c20, .int .i64 n] := Bx.via (by simp (maxDischargeDepth := 9)) hb21
  clear Al_20 W0_20 X0_20 G0_20 Alk0 Alk1 Alz W0k0 W0k1 W0z X0k0 X0k1 X0z G0k0 G0k1 G0z B20 D4_20 D7_20
  have Alk0 := Al_21.c 0 _ rfl
  have Alk1 := Al_21.c 1 _ rfl
  have Alz := Al_21.z
  have W0k0 := W0_21.c 0 _ rfl
  have W0k1 := W0_21.c 1 _ rfl
  have W0z := W0_21.z
  have X0k0 := X0_21.c 0 _ rfl
  have X0k1 := X0_21.c 1 _ rfl
  have X0z := X0_21.z
  have G0k0 := G0_21.c 0 _ rfl
  have G0k1 := G0_21.c 1 _ rfl
  have G0z := G0_21.z
  have H0k0 := H0_21.c 0 _ rfl
  have H0k1 := H0_21.c 1 _ rfl
  have H0z := H0_21.z
  go_wp2_with fail
  refine (heldFile_w ((appB l n b)) (n) _ 1 _ (by decide) (ho16m.sl.to (by simp (maxDischargeDepth := 9) [D7_21])) (by omega)).mono ?_
  rintro e w22 ⟨rfl, hb22⟩
  have B22 := via (w0 := w) (by simp (maxDischargeDepth := 9) [B21]) hb22
  have z22 : w21.heap.size + 0 ≤ w22.heap.size := (by have := hb22.size; (try simp at this); omega)
  have D4_22 := via (w0 := w16) (by simp (maxDischargeDepth := 9) [D4_21]) hb22
  have D7_22 := via (w0 := w16) (by simp (maxDischargeDepth := 9) [D7_21]) hb22
  have D20_22 := via (w0 := w20) (by simp (maxDischargeDepth := 9) [D20_21]) hb22
  have Al_22 : Bx w22 w.heap.size [.slice al l.length cl, .int .i64 n] := Bx.via (by simp (maxDischargeDepth := 9) [Al_21]) hb22
  have W0_22 : Bx w22 w4.heap.size [.slice a4 ((appB l n b)).length c4, .int .i64 n] := Bx.via (by simp (maxDischargeDepth := 9) [W0_21]) hb22
  have X0_22 : Bx w22 w5.heap.size [.slice a5 (l).length c5, .int .i64 n] := Bx.via (by simp (maxDischargeDepth := 9) [X0_21]) hb22
  have G0_22 : Bx w22 w7.heap.size [.slice a7 ((appB l n b)).length c7, .int .i64 n] := Bx.via (by simp (maxDischargeDepth := 9) [G0_21]) hb22
  have H0_22 : Bx w22 w20.heap.size [.slice a20 ((appB l n b)).length c20, .int .i64 n] := Bx.via (by simp (maxDischargeDepth := 9) [H0_21]) hb22
  clear Al_21 W0_21 X0_21 G0_21 H0_21 Alk0 Alk1 Alz W0k0 W0k1 W0z X0k0 X0k1 X0z G0k0 G0k1 G0z H0k0 H0k1 H0z B21 D4_21 D7_21 D20_21
  have Alk0 := Al_22.c 0 _ rfl
  have Alk1 := Al_22.c 1 _ rfl
  have Alz := Al_22.z
  have W0k0 := W0_22.c 0 _ rfl
  have W0k1 := W0_22.c 1 _ rfl
  have W0z := W0_22.z
  have X0k0 := X0_22.c 0 _ rfl
  have X0k1 := X0_22.c 1 _ rfl
  have X0z := X0_22.z
  have G0k0 := G0_22.c 0 _ rfl
  have G0k1 := G0_22.c 1 _ rfl
  have G0z := G0_22.z
  have H0k0 := H0_22.c 0 _ rfl
  have H0k1 := H0_22.c 1 _ rfl
  have H0z := H0_22.z
  go_wp2
  go_ret
  exact ⟨rfl, (by simp (maxDischargeDepth := 9) [B22])⟩

end Go.Proofs.Ytojlnmenfikhbaa
