/- FnExactFallFile, walked. -/
import Derived.Test.YtojlnmenfikhbaaTypes
import Derived.Test.YtojlnmenfikhbaaFileH
import Derived.Test.YtojlnmenfikhbaaFile2
namespace Go.Proofs.Ytojlnmenfikhbaa
open Go.RowKit
open Cel (rd own rd_len rd_one own_rd own_lt rd_below rd_mono own_keep)

theorem exactFallFile_walk (vs_l : List Value) (f_l : FileD) (keep : Int) (w : World) (hr_l : rd w.heap.size w vs_l f_l) (_hi_keep : In64 keep) :
    Calls Try.prog 6 #[.agg vs_l.toArray, .int .i64 keep] w (RetB true w) := by
  obtain ⟨v_l, rfl, hv_l, hn_l⟩ := rd_File hr_l
  have sl : Sl w f_l.B v_l := hv_l
  clear hv_l hr_l
  generalize f_l.B = l at *
  generalize f_l.Sure = n at *
  obtain ⟨al, cl, rfl, hl_l, -⟩ := sl.open
  by_cases hs_l : l.length ≤ 1048576
  rotate_left
  · have hz_l : szB l 1048576 < 0 := by unfold szB; split <;> omega
    go_enter Try.func6, Try.ntmps6
    go_wp2_with fail
    refine (szFile_w l n 1048576 _ _ (sl.to (by simp (maxDischargeDepth := 9))) (by decide) (by decide)).mono ?_
    rintro e w1 ⟨rfl, hb1⟩
    have B1 := via (w0 := w) (by simp (maxDischargeDepth := 9)) hb1
    have z1 : w.heap.size + 1 ≤ w1.heap.size := (by have := hb1.size; (try simp at this); omega)
    have Al_1 : Bx w1 w.heap.size [.slice al l.length cl, .int .i64 n] := Bx.via (by simp (maxDischargeDepth := 9)) hb1
    have Alk0 := Al_1.c 0 _ rfl
    have Alk1 := Al_1.c 1 _ rfl
    have Alz := Al_1.z
    go_wp2
    go_ret
    exact ⟨rfl, (by simp (maxDischargeDepth := 9) [B1])⟩
  have hL := fallB_len l n keep
  have hz_l : 0 ≤ szB l 1048576 := by unfold szB; split <;> omega
  go_enter Try.func6, Try.ntmps6
  go_wp2_with fail
  refine (szFile_w l n 1048576 _ _ (sl.to (by simp (maxDischargeDepth := 9))) (by decide) (by decide)).mono ?_
  rintro e w1 ⟨rfl, hb1⟩
  have B1 := via (w0 := w) (by simp (maxDischargeDepth := 9)) hb1
  have z1 : w.heap.size + 1 ≤ w1.heap.size := (by have := hb1.size; (try simp at this); omega)
  have Al_1 : Bx w1 w.heap.size [.slice al l.length cl, .int .i64 n] := Bx.via (by simp (maxDischargeDepth := 9)) hb1
  have Alk0 := Al_1.c 0 _ rfl
  have Alk1 := Al_1.c 1 _ rfl
  have Alz := Al_1.z
  go_wp2_with fail
  refine (toFile_w l n _ _ (sl.to (by simp (maxDischargeDepth := 9) [B1])) (by omega)).mono ?_
  rintro e w2 ⟨a2, c2, fp2, rfl, ho2, hf2, hb2⟩
  have B2 := via (w0 := w) (by simp (maxDischargeDepth := 9) [B1]) hb2
  have z2 : w1.heap.size + 0 ≤ w2.heap.size := (by have := hb2.size; (try simp at this); omega)
  have lt2 := ho2.lt
  have Al_2 : Bx w2 w.heap.size [.slice al l.length cl, .int .i64 n] := Bx.via (by simp (maxDischargeDepth := 9) [Al_1]) hb2
  clear Al_1 Alk0 Alk1 Alz B1
  have Alk0 := Al_2.c 0 _ rfl
  have Alk1 := Al_2.c 1 _ rfl
  have Alz := Al_2.z
  go_wp2_with fail
  refine (specFall_w l n keep _ _ (ho2.sl.to (by simp (maxDischargeDepth := 9))) (by omega)).mono ?_
  rintro e w3 ⟨a3, c3, fp3, rfl, ho3, hf3, hb3⟩
  have B3 := via (w0 := w) (by simp (maxDischargeDepth := 9) [B2]) hb3
  have z3 : w2.heap.size + 0 ≤ w3.heap.size := (by have := hb3.size; (try simp at this); omega)
  have D2_3 := via (w0 := w2) (by simp (maxDischargeDepth := 9)) hb3
  have N2_3 := disj ho2.lt (by simp (maxDischargeDepth := 9)) hf3
  have lt3 := ho3.lt
  have Al_3 : Bx w3 w.heap.size [.slice al l.length cl, .int .i64 n] := Bx.via (by simp (maxDischargeDepth := 9) [Al_2]) hb3
  clear Al_2 Alk0 Alk1 Alz B2
  have Alk0 := Al_3.c 0 _ rfl
  have Alk1 := Al_3.c 1 _ rfl
  have Alz := Al_3.z
  go_wp2_with fail
  refine (toFile_w l n _ _ (sl.to (by simp (maxDischargeDepth := 9) [B3])) (by omega)).mono ?_
  rintro e w4 ⟨a4, c4, fp4, rfl, ho4, hf4, hb4⟩
  have B4 := via (w0 := w) (by simp (maxDischargeDepth := 9) [B3]) hb4
  have z4 : w3.heap.size + 1 ≤ w4.heap.size := (by have := hb4.size; (try simp at this); omega)
  have D3_4 := via (w0 := w3) (by simp (maxDischargeDepth := 9)) hb4
  have N3_4 := disj ho3.lt (by simp (maxDischargeDepth := 9)) hf4
  have lt4 := ho4.lt
  have Al_4 : Bx w4 w.heap.size [.slice al l.length cl, .int .i64 n] := Bx.via (by simp (maxDischargeDepth := 9) [Al_3]) hb4
  have W0_4 : Bx w4 w3.heap.size [.slice a3 ((fallB l n keep)).length c3, .int .i64 (fallN l n keep)] := Bx.via (by simp (maxDischargeDepth := 9)) hb4
  clear Al_3 Alk0 Alk1 Alz B3
  have Alk0 := Al_4.c 0 _ rfl
  have Alk1 := Al_4.c 1 _ rfl
  have Alz := Al_4.z
  have W0k0 := W0_4.c 0 _ rfl
  have W0k1 := W0_4.c 1 _ rfl
  have W0z := W0_4.z
  go_wp2_with fail
  refine (implFall_w l n keep _ _ (ho4.sl.to (by simp (maxDischargeDepth := 9))) (by omega)).mono ?_
  rintro e w5 ⟨a5, c5, fp5, rfl, ho5, hf5, hb5⟩
  have B5 := via (w0 := w) (by simp (maxDischargeDepth := 9) [B4]) hb5
  have z5 : w4.heap.size + 1 ≤ w5.heap.size := (by have := hb5.size; (try simp at this); omega)
  have D3_5 := via (w0 := w3) (by simp (maxDischargeDepth := 9) [D3_4]) hb5
  have D4_5 := via (w0 := w4) (by simp (maxDischargeDepth := 9)) hb5
  have N3_5 := disj ho3.lt (by simp (maxDischargeDepth := 9) [D3_4]) hf5
  have N4_5 := disj ho4.lt (by simp (maxDischargeDepth := 9)) hf5
  have lt5 := ho5.lt
  have Al_5 : Bx w5 w.heap.size [.slice al l.length cl, .int .i64 n] := Bx.via (by simp (maxDischargeDepth := 9) [Al_4]) hb5
  have W0_5 : Bx w5 w3.heap.size [.slice a3 ((fallB l n keep)).length c3, .int .i64 (fallN l n keep)] := Bx.via (by simp (maxDischargeDepth := 9) [W0_4]) hb5
  have X0_5 : Bx w5 w4.heap.size [.slice a4 (l).length c4, .int .i64 n] := Bx.via (by simp (maxDischargeDepth := 9)) hb5
  clear Al_4 W0_4 Alk0 Alk1 Alz W0k0 W0k1 W0z B4 D3_4
  have Alk0 := Al_5.c 0 _ rfl
  have Alk1 := Al_5.c 1 _ rfl
  have Alz := Al_5.z
  have W0k0 := W0_5.c 0 _ rfl
  have W0k1 := W0_5.c 1 _ rfl
  have W0z := W0_5.z
  have X0k0 := X0_5.c 0 _ rfl
  have X0k1 := X0_5.c 1 _ rfl
  have X0z := X0_5.z
  go_wp2_with fail
  refine (eqFile_w ((fallB l n keep)) ((fallN l n keep)) _ _ _ (ho5.sl.to (by simp (maxDischargeDepth := 9))) (ho3.sl.to (by simp (maxDischargeDepth := 9) [D3_5]))).mono ?_
  rintro e w6 ⟨rfl, hb6⟩
  have B6 := via (w0 := w) (by simp (maxDischargeDepth := 9) [B5]) hb6
  have z6 : w5.heap.size + 1 ≤ w6.heap.size := (by have := hb6.size; (try simp at this); omega)
  have D3_6 := via (w0 := w3) (by simp (maxDischargeDepth := 9) [D3_5]) hb6
  have D4_6 := via (w0 := w4) (by simp (maxDischargeDepth := 9) [D4_5]) hb6
  have D5_6 := via (w0 := w5) (by simp (maxDischargeDepth := 9)) hb6
  have Al_6 : Bx w6 w.heap.size [.slice al l.length cl, .int .i64 n] := Bx.via (by simp (maxDischargeDepth := 9) [Al_5]) hb6
  have W0_6 : Bx w6 w3.heap.size [.slice a3 ((fallB l n keep)).length c3, .int .i64 (fallN l n keep)] := Bx.via (by simp (maxDischargeDepth := 9) [W0_5]) hb6
  have X0_6 : Bx w6 w4.heap.size [.slice a4 (l).length c4, .int .i64 n] := Bx.via (by simp (maxDischargeDepth := 9) [X0_5]) hb6
  have G0_6 : Bx w6 w5.heap.size [.slice a5 ((fallB l n keep)).length c5, .int .i64 (fallN l n keep)] := Bx.via (by simp (maxDischargeDepth := 9)) hb6
  clear Al_5 W0_5 X0_5 Alk0 Alk1 Alz W0k0 W0k1 W0z X0k0 X0k1 X0z B5 D3_5 D4_5
  have Alk0 := Al_6.c 0 _ rfl
  have Alk1 := Al_6.c 1 _ rfl
  have Alz := Al_6.z
  have W0k0 := W0_6.c 0 _ rfl
  have W0k1 := W0_6.c 1 _ rfl
  have W0z := W0_6.z
  have X0k0 := X0_6.c 0 _ rfl
  have X0k1 := X0_6.c 1 _ rfl
  have X0z := X0_6.z
  have G0k0 := G0_6.c 0 _ rfl
  have G0k1 := G0_6.c 1 _ rfl
  have G0z := G0_6.z
  go_wp2
  go_region_held3 (fun w' => w'.cell? ⟨w.heap.size, 0, none⟩ = some (.slice al l.length cl) ∧ w'.cell? ⟨w.heap.size, 1, none⟩ = some (.int .i64 n) ∧ w'.cell? ⟨w4.heap.size, 0, none⟩ = some (.slice a4 (l).length c4) ∧ w'.cell? ⟨w4.heap.size, 1, none⟩ = some (.int .i64 n)) (go_keep)
    (first | (go_at_call 17; refine (toFile_w l n _ _ (sl.to (by simp (maxDischargeDepth := 9) [B6])) (by omega)).mono ?_; rintro e w7 ⟨a7, c7, fp7, rfl, ho7, hf7, hb7⟩; have B7 := via (w0 := w) (by simp (maxDischargeDepth := 9) [B6]) hb7; have z7 : w6.heap.size + 0 ≤ w7.heap.size := (by have := hb7.size; (try simp at this); omega); have D3_7 := via (w0 := w3) (by simp (maxDischargeDepth := 9) [D3_6]) hb7; have D4_7 := via (w0 := w4) (by simp (maxDischargeDepth := 9) [D4_6]) hb7; have D5_7 := via (w0 := w5) (by simp (maxDischargeDepth := 9) [D5_6]) hb7; have N3_7 := disj ho3.lt (by simp (maxDischargeDepth := 9) [D3_6]) hf7; have N4_7 := disj ho4.lt (by simp (maxDischargeDepth := 9) [D4_6]) hf7; have N5_7 := disj ho5.lt (by simp (maxDischargeDepth := 9) [D5_6]) hf7; have lt7 := ho7.lt; have Al_7 : Bx w7 w.heap.size [.slice al l.length cl, .int .i64 n] := Bx.via (by simp (maxDischargeDepth := 9) [Al_6]) hb7; have W0_7 : Bx w7 w3.heap.size [.slice a3 ((fallB l n keep)).length c3, .int .i64 (fallN l n keep)] := Bx.via (by simp (maxDischargeDepth := 9) [W0_6]) hb7; have X0_7 : Bx w7 w4.heap.size [.slice a4 (l).length c4, .int .i64 n] := Bx.via (by simp (maxDischargeDepth := 9) [X0_6]) hb7; have G0_7 : Bx w7 w5.heap.size [.slice a5 ((fallB l n keep)).length c5, .int .i64 (fallN l n keep)] := Bx.via (by simp (maxDischargeDepth := 9) [G0_6]) hb7; have Alk0 := Al_7.c 0 _ rfl; have Alk1 := Al_7.c 1 _ rfl; have Alz := Al_7.z; have W0k0 := W0_7.c 0 _ rfl; have W0k1 := W0_7.c 1 _ rfl; have W0z := W0_7.z; have X0k0 := X0_7.c 0 _ rfl; have X0k1 := X0_7.c 1 _ rfl; have X0z := X0_7.z; have G0k0 := G0_7.c 0 _ rfl; have G0k1 := G0_7.c 1 _ rfl; have G0z := G0_7.z) | (go_at_call 19; refine (eqFile_w (l) (n) _ _ _ (ho4.sl.to (by simp (maxDischargeDepth := 9) [D4_7])) (ho7.sl.to (by simp (maxDischargeDepth := 9)))).mono ?_; rintro e w8 ⟨rfl, hb8⟩; have B8 := via (w0 := w) (by simp (maxDischargeDepth := 9) [B7]) hb8; have z8 : w7.heap.size + 0 ≤ w8.heap.size := (by have := hb8.size; (try simp at this); omega); have D3_8 := via (w0 := w3) (by simp (maxDischargeDepth := 9) [D3_7]) hb8; have D4_8 := via (w0 := w4) (by simp (maxDischargeDepth := 9) [D4_7]) hb8; have D5_8 := via (w0 := w5) (by simp (maxDischargeDepth := 9) [D5_7]) hb8; have D7_8 := via (w0 := w7) (by simp (maxDischargeDepth := 9)) hb8; have Al_8 : Bx w8 w.heap.size [.slice al l.length cl, .int .i64 n] := Bx.via (by simp (maxDischargeDepth := 9) [Al_7]) hb8; have W0_8 : Bx w8 w3.heap.size [.slice a3 ((fallB l n keep)).length c3, .int .i64 (fallN l n keep)] := Bx.via (by simp (maxDischargeDepth := 9) [W0_7]) hb8; have X0_8 : Bx w8 w4.heap.size [.slice a4 (l).length c4, .int .i64 n] := Bx.via (by simp (maxDischargeDepth := 9) [X0_7]) hb8; have G0_8 : Bx w8 w5.heap.size [.slice a5 ((fallB l n keep)).length c5, .int .i64 (fallN l n keep)] := Bx.via (by simp (maxDischargeDepth := 9) [G0_7]) hb8; have Alk0 := Al_8.c 0 _ rfl; have Alk1 := Al_8.c 1 _ rfl; have Alz := Al_8.z; have W0k0 := W0_8.c 0 _ rfl; have W0k1 := W0_8.c 1 _ rfl; have W0z := W0_8.z; have X0k0 := X0_8.c 0 _ rfl; have X0k1 := X0_8.c 1 _ rfl; have X0z := X0_8.z; have G0k0 := G0_8.c 0 _ rfl; have G0k1 := G0_8.c 1 _ rfl; have G0z := G0_8.z))
  go_wp2_with fail
  refine (markFile_w (l) (n) _ fp4 (1) _ (ho4.below (by simp (maxDischargeDepth := 9) [D4_8])) hf4.1 (by omega) (by omega)).mono ?_
  rintro e w9 ⟨rfl, ho9m, hc9⟩
  have B9 := chgB (w0 := w) (by simp (maxDischargeDepth := 9) [B8]) hc9 (fun b hb => by have h1 := hf4.2 _ hb; (try simp at h1); omega)
  have z9 : w8.heap.size + 0 ≤ w9.heap.size := (by have := hc9.size; (try simp at this); omega)
  have ho3_9 := OwnS.chg (ho3.below (by simp (maxDischargeDepth := 9) [D3_8])) hc9 (fun b hb hb' => N3_4 b hb' hb)
  have ho5_9 := OwnS.chg (ho5.below (by simp (maxDischargeDepth := 9) [D5_8])) hc9 N4_5
  have Al_9 : Bx w9 w.heap.size [.slice al l.length cl, .int .i64 n] := Bx.chg (by simp (maxDischargeDepth := 9) [Al_8]) hc9 (fun hm => by have h1 := hf4.2 _ hm; have h2 := lt4 _ hm; (try simp at h1); omega)
  have W0_9 : Bx w9 w3.heap.size [.slice a3 ((fallB l n keep)).length c3, .int .i64 (fallN l n keep)] := Bx.chg (by simp (maxDischargeDepth := 9) [W0_8]) hc9 (fun hm => by have h1 := hf4.2 _ hm; have h2 := lt4 _ hm; (try simp at h1); omega)
  have X0_9 : Bx w9 w4.heap.size [.slice a4 (l).length c4, .int .i64 n] := Bx.chg (by simp (maxDischargeDepth := 9) [X0_8]) hc9 (fun hm => by have h1 := hf4.2 _ hm; have h2 := lt4 _ hm; (try simp at h1); omega)
  have G0_9 : Bx w9 w5.heap.size [.slice a5 ((fallB l n keep)).length c5, .int .i64 (fallN l n keep)] := Bx.chg (by simp (maxDischargeDepth := 9) [G0_8]) hc9 (fun hm => by have h1 := hf4.2 _ hm; have h2 := lt4 _ hm; (try simp at h1); omega)
  clear Al_8 W0_8 X0_8 G0_8 Alk0 Alk1 Alz W0k0 W0k1 W0z X0k0 X0k1 X0z G0k0 G0k1 G0z B8 D3_8 D4_8 D5_8
  have Alk0 := Al_9.c 0 _ rfl
  have Alk1 := Al_9.c 1 _ rfl
  have Alz := Al_9.z
  have W0k0 := W0_9.c 0 _ rfl
  have W0k1 := W0_9.c 1 _ rfl
  have W0z := W0_9.z
  have X0k0 := X0_9.c 0 _ rfl
  have X0k1 := X0_9.c 1 _ rfl
  have X0z := X0_9.z
  have G0k0 := G0_9.c 0 _ rfl
  have G0k1 := G0_9.c 1 _ rfl
  have G0z := G0_9.z
  go_wp2_with fail
  refine (eqFile_w ((fallB l n keep)) ((fallN l n keep)) _ _ _ (ho5_9.sl.to (by simp (maxDischargeDepth := 9))) (ho3_9.sl.to (by simp (maxDischargeDepth := 9)))).mono ?_
  rintro e w10 ⟨rfl, hb10⟩
  have B10 := via (w0 := w) (by simp (maxDischargeDepth := 9) [B9]) hb10
  have z10 : w9.heap.size + 0 ≤ w10.heap.size := (by have := hb10.size; (try simp at this); omega)
  have D3_10 := via (w0 := w9) (by simp (maxDischargeDepth := 9)) hb10
  have D5_10 := via (w0 := w9) (by simp (maxDischargeDepth := 9)) hb10
  have Al_10 : Bx w10 w.heap.size [.slice al l.length cl, .int .i64 n] := Bx.via (by simp (maxDischargeDepth := 9) [Al_9]) hb10
  have W0_10 : Bx w10 w3.heap.size [.slice a3 ((fallB l n keep)).length c3, .int .i64 (fallN l n keep)] := Bx.via (by simp (maxDischargeDepth := 9) [W0_9]) hb10
  have X0_10 : Bx w10 w4.heap.size [.slice a4 (l).length c4, .int .i64 n] := Bx.via (by simp (maxDischargeDepth := 9) [X0_9]) hb10
  have G0_10 : Bx w10 w5.heap.size [.slice a5 ((fallB l n keep)).length c5, .int .i64 (fallN l n keep)] := Bx.via (by simp (maxDischargeDepth := 9) [G0_9]) hb10
  clear Al_9 W0_9 X0_9 G0_9 Alk0 Alk1 Alz W0k0 W0k1 W0z X0k0 X0k1 X0z G0k0 G0k1 G0z B9
  have Alk0 := Al_10.c 0 _ rfl
  have Alk1 := Al_10.c 1 _ rfl
  have Alz := Al_10.z
  have W0k0 := W0_10.c 0 _ rfl
  have W0k1 := W0_10.c 1 _ rfl
  have W0z := W0_10.z
  have X0k0 := X0_10.c 0 _ rfl
  have X0k1 := X0_10.c 1 _ rfl
  have X0z := X0_10.z
  have G0k0 := G0_10.c 0 _ rfl
  have G0k1 := G0_10.c 1 _ rfl
  have G0z := G0_10.z
  go_wp2_with fail
  refine (markFile_w ((fallB l n keep)) ((fallN l n keep)) _ fp5 (1) _ (ho5_9.below (by simp (maxDischargeDepth := 9) [D5_10])) hf5.1 (by omega) (by omega)).mono ?_
  rintro e w11 ⟨rfl, ho11m, hc11⟩
  have B11 := chgB (w0 := w) (by simp (maxDischargeDepth := 9) [B10]) hc11 (fun b hb => by have h1 := hf5.2 _ hb; (try simp at h1); omega)
  have z11 : w10.heap.size + 0 ≤ w11.heap.size := (by have := hc11.size; (try simp at this); omega)
  have ho3_11 := OwnS.chg (ho3_9.below (by simp (maxDischargeDepth := 9) [D3_10])) hc11 (fun b hb hb' => N3_5 b hb' hb)
  have Al_11 : Bx w11 w.heap.size [.slice al l.length cl, .int .i64 n] := Bx.chg (by simp (maxDischargeDepth := 9) [Al_10]) hc11 (fun hm => by have h1 := hf5.2 _ hm; have h2 := lt5 _ hm; (try simp at h1); omega)
  have W0_11 : Bx w11 w3.heap.size [.slice a3 ((fallB l n keep)).length c3, .int .i64 (fallN l n keep)] := Bx.chg (by simp (maxDischargeDepth := 9) [W0_10]) hc11 (fun hm => by have h1 := hf5.2 _ hm; have h2 := lt5 _ hm; (try simp at h1); omega)
  have X0_11 : Bx w11 w4.heap.size [.slice a4 (l).length c4, .int .i64 n] := Bx.chg (by simp (maxDischargeDepth := 9) [X0_10]) hc11 (fun hm => by have h1 := hf5.2 _ hm; have h2 := lt5 _ hm; (try simp at h1); omega)
  have G0_11 : Bx w11 w5.heap.size [.slice a5 ((fallB l n keep)).length c5, .int .i64 (fallN l n keep)] := Bx.chg (by simp (maxDischargeDepth := 9) [G0_10]) hc11 (fun hm => by have h1 := hf5.2 _ hm; have h2 := lt5 _ hm; (try simp at h1); omega)
  clear Al_10 W0_10 X0_10 G0_10 Alk0 Alk1 Alz W0k0 W0k1 W0z X0k0 X0k1 X0z G0k0 G0k1 G0z B10 D3_10 D5_10
  have Alk0 := Al_11.c 0 _ rfl
  have Alk1 := Al_11.c 1 _ rfl
  have Alz := Al_11.z
  have W0k0 := W0_11.c 0 _ rfl
  have W0k1 := W0_11.c 1 _ rfl
  have W0z := W0_11.z
  have X0k0 := X0_11.c 0 _ rfl
  have X0k1 := X0_11.c 1 _ rfl
  have X0z := X0_11.z
  have G0k0 := G0_11.c 0 _ rfl
  have G0k1 := G0_11.c 1 _ rfl
  have G0z := G0_11.z
  go_wp2_with fail
  refine (heldFile_w ((fallB l n keep)) ((fallN l n keep)) _ 1 _ (by decide) (ho11m.sl.to (by simp (maxDischargeDepth := 9))) (by omega)).mono ?_
  rintro e w12 ⟨rfl, hb12⟩
  have B12 := via (w0 := w) (by simp (maxDischargeDepth := 9) [B11]) hb12
  have z12 : w11.heap.size + 0 ≤ w12.heap.size := (by have := hb12.size; (try simp at this); omega)
  have D3_12 := via (w0 := w11) (by simp (maxDischargeDepth := 9)) hb12
  have D5_12 := via (w0 := w11) (by simp (maxDischargeDepth := 9)) hb12
  have Al_12 : Bx w12 w.heap.size [.slice al l.length cl, .int .i64 n] := Bx.via (by simp (maxDischargeDepth := 9) [Al_11]) hb12
  have W0_12 : Bx w12 w3.heap.size [.slice a3 ((fallB l n keep)).length c3, .int .i64 (fallN l n keep)] := Bx.via (by simp (maxDischargeDepth := 9) [W0_11]) hb12
  have X0_12 : Bx w12 w4.heap.size [.slice a4 (l).length c4, .int .i64 n] := Bx.via (by simp (maxDischargeDepth := 9) [X0_11]) hb12
  have G0_12 : Bx w12 w5.heap.size [.slice a5 ((fallB l n keep)).length c5, .int .i64 (fallN l n keep)] := Bx.via (by simp (maxDischargeDepth := 9) [G0_11]) hb12
  clear Al_11 W0_11 X0_11 G0_11 Alk0 Alk1 Alz W0k0 W0k1 W0z X0k0 X0k1 X0z G0k0 G0k1 G0z B11
  have Alk0 := Al_12.c 0 _ rfl
  have Alk1 := Al_12.c 1 _ rfl
  have Alz := Al_12.z
  have W0k0 := W0_12.c 0 _ rfl
  have W0k1 := W0_12.c 1 _ rfl
  have W0z := W0_12.z
  have X0k0 := X0_12.c 0 _ rfl
  have X0k1 := X0_12.c 1 _ rfl
  have X0z := X0_12.z
  have G0k0 := G0_12.c 0 _ rfl
  have G0k1 := G0_12.c 1 _ rfl
  have G0z := G0_12.z
  go_wp2_with fail
  refine (toFile_w l n _ _ (sl.to (by simp (maxDischargeDepth := 9) [B12])) (by omega)).mono ?_
  rintro e w13 ⟨a13, c13, fp13, rfl, ho13, hf13, hb13⟩
  have B13 := via (w0 := w) (by simp (maxDischargeDepth := 9) [B12]) hb13
  have z13 : w12.heap.size + 0 ≤ w13.heap.size := (by have := hb13.size; (try simp at this); omega)
  have D3_13 := via (w0 := w11) (by simp (maxDischargeDepth := 9) [D3_12]) hb13
  have D5_13 := via (w0 := w11) (by simp (maxDischargeDepth := 9) [D5_12]) hb13
  have N3_13 := disj ho3_11.lt (by simp (maxDischargeDepth := 9) [D3_12]) hf13
  have N5_13 := disj ho11m.lt (by simp (maxDischargeDepth := 9) [D5_12]) hf13
  have lt13 := ho13.lt
  have Al_13 : Bx w13 w.heap.size [.slice al l.length cl, .int .i64 n] := Bx.via (by simp (maxDischargeDepth := 9) [Al_12]) hb13
  have W0_13 : Bx w13 w3.heap.size [.slice a3 ((fallB l n keep)).length c3, .int .i64 (fallN l n keep)] := Bx.via (by simp (maxDischargeDepth := 9) [W0_12]) hb13
  have X0_13 : Bx w13 w4.heap.size [.slice a4 (l).length c4, .int .i64 n] := Bx.via (by simp (maxDischargeDepth := 9) [X0_12]) hb13
  have G0_13 : Bx w13 w5.heap.size [.slice a5 ((fallB l n keep)).length c5, .int .i64 (fallN l n keep)] := Bx.via (by simp (maxDischargeDepth := 9) [G0_12]) hb13
  clear Al_12 W0_12 X0_12 G0_12 Alk0 Alk1 Alz W0k0 W0k1 W0z X0k0 X0k1 X0z G0k0 G0k1 G0z B12 D3_12 D5_12
  have Alk0 := Al_13.c 0 _ rfl
  have Alk1 := Al_13.c 1 _ rfl
  have Alz := Al_13.z
  have W0k0 := W0_13.c 0 _ rfl
  have W0k1 := W0_13.c 1 _ rfl
  have W0z := W0_13.z
  have X0k0 := X0_13.c 0 _ rfl
  have X0k1 := X0_13.c 1 _ rfl
  have X0z := X0_13.z
  have G0k0 := G0_13.c 0 _ rfl
  have G0k1 := G0_13.c 1 _ rfl
  have G0z := G0_13.z
  go_wp2_with fail
  refine (implFall_w l n keep _ _ (ho13.sl.to (by simp (maxDischargeDepth := 9))) (by omega)).mono ?_
  rintro e w14 ⟨a14, c14, fp14, rfl, ho14, hf14, hb14⟩
  have B14 := via (w0 := w) (by simp (maxDischargeDepth := 9) [B13]) hb14
  have z14 : w13.heap.size + 0 ≤ w14.heap.size := (by have := hb14.size; (try simp at this); omega)
  have D3_14 := via (w0 := w11) (by simp (maxDischargeDepth := 9) [D3_13]) hb14
  have D5_14 := via (w0 := w11) (by simp (maxDischargeDepth := 9) [D5_13]) hb14
  have D13_14 := via (w0 := w13) (by simp (maxDischargeDepth := 9)) hb14
  have N3_14 := disj ho3_11.lt (by simp (maxDischargeDepth := 9) [D3_13]) hf14
  have N5_14 := disj ho11m.lt (by simp (maxDischargeDepth := 9) [D5_13]) hf14
  have N13_14 := disj ho13.lt (by simp (maxDischargeDepth := 9)) hf14
  have lt14 := ho14.lt
  have Al_14 : Bx w14 w.heap.size [.slice al l.length cl, .int .i64 n] := Bx.via (by simp (maxDischargeDepth := 9) [Al_13]) hb14
  have W0_14 : Bx w14 w3.heap.size [.slice a3 ((fallB l n keep)).length c3, .int .i64 (fallN l n keep)] := Bx.via (by simp (maxDischargeDepth := 9) [W0_13]) hb14
  have X0_14 : Bx w14 w4.heap.size [.slice a4 (l).length c4, .int .i64 n] := Bx.via (by simp (maxDischargeDepth := 9) [X0_13]) hb14
  have G0_14 : Bx w14 w5.heap.size [.slice a5 ((fallB l n keep)).length c5, .int .i64 (fallN l n keep)] := Bx.via (by simp (maxDischargeDepth := 9) [G0_13]) hb14
  clear Al_13 W0_13 X0_13 G0_13 Alk0 Alk1 Alz W0k0 W0k1 W0z X0k0 X0k1 X0z G0k0 G0k1 G0z B13 D3_13 D5_13
  have Alk0 := Al_14.c 0 _ rfl
  have Alk1 := Al_14.c 1 _ rfl
  have Alz := Al_14.z
  have W0k0 := W0_14.c 0 _ rfl
  have W0k1 := W0_14.c 1 _ rfl
  have W0z := W0_14.z
  have X0k0 := X0_14.c 0 _ rfl
  have X0k1 := X0_14.c 1 _ rfl
  have X0z := X0_14.z
  have G0k0 := G0_14.c 0 _ rfl
  have G0k1 := G0_14.c 1 _ rfl
  have G0z := G0_14.z
  go_wp2_with fail
  refine (eqFile_w ((fallB l n keep)) ((fallN l n keep)) _ _ _ (ho14.sl.to (by simp (maxDischargeDepth := 9))) (ho3_11.sl.to (by simp (maxDischargeDepth := 9) [D3_14]))).mono ?_
  rintro e w15 ⟨rfl, hb15⟩
  have B15 := via (w0 := w) (by simp (maxDischargeDepth := 9) [B14]) hb15
  have z15 : w14.heap.size + 1 ≤ w15.heap.size := (by have := hb15.size; (try simp at this); omega)
  have D3_15 := via (w0 := w11) (by simp (maxDischargeDepth := 9) [D3_14]) hb15
  have D5_15 := via (w0 := w11) (by simp (maxDischargeDepth := 9) [D5_14]) hb15
  have D14_15 := via (w0 := w14) (by simp (maxDischargeDepth := 9)) hb15
  have Al_15 : Bx w15 w.heap.size [.slice al l.length cl, .int .i64 n] := Bx.via (by simp (maxDischargeDepth := 9) [Al_14]) hb15
  have W0_15 : Bx w15 w3.heap.size [.slice a3 ((fallB l n keep)).length c3, .int .i64 (fallN l n keep)] := Bx.via (by simp (maxDischargeDepth := 9) [W0_14]) hb15
  have X0_15 : Bx w15 w4.heap.size [.slice a4 (l).length c4, .int .i64 n] := Bx.via (by simp (maxDischargeDepth := 9) [X0_14]) hb15
  have G0_15 : Bx w15 w5.heap.size [.slice a5 ((fallB l n keep)).length c5, .int .i64 (fallN l n keep)] := Bx.via (by simp (maxDischargeDepth := 9) [G0_14]) hb15
  have H0_15 : Bx w15 w14.heap.size [.slice a14 ((fallB l n keep)).length c14, .int .i64 (fallN l n keep)] := Bx.via (by simp (maxDischargeDepth := 9)) hb15
  clear Al_14 W0_14 X0_14 G0_14 Alk0 Alk1 Alz W0k0 W0k1 W0z X0k0 X0k1 X0z G0k0 G0k1 G0z B14 D3_14 D5_14
  have Alk0 := Al_15.c 0 _ rfl
  have Alk1 := Al_15.c 1 _ rfl
  have Alz := Al_15.z
  have W0k0 := W0_15.c 0 _ rfl
  have W0k1 := W0_15.c 1 _ rfl
  have W0z := W0_15.z
  have X0k0 := X0_15.c 0 _ rfl
  have X0k1 := X0_15.c 1 _ rfl
  have X0z := X0_15.z
  have G0k0 := G0_15.c 0 _ rfl
  have G0k1 := G0_15.c 1 _ rfl
  have G0z := G0_15.z
  have H0k0 := H0_15.c 0 _ rfl
  have H0k1 := H0_15.c 1 _ rfl
  have H0z := H0_15.z
  go_wp2_with fail
  refine (heldFile_w ((fallB l n keep)) ((fallN l n keep)) _ 1 _ (by decide) (ho11m.sl.to (by simp (maxDischargeDepth := 9) [D5_15])) (by omega)).mono ?_
  rintro e w16 ⟨rfl, hb16⟩
  have B16 := via (w0 := w) (by simp (maxDischargeDepth := 9) [B15]) hb16
  have z16 : w15.heap.size + 0 ≤ w16.heap.size := (by have := hb16.size; (try simp at this); omega)
  have D3_16 := via (w0 := w11) (by simp (maxDischargeDepth := 9) [D3_15]) hb16
  have D5_16 := via (w0 := w11) (by simp (maxDischargeDepth := 9) [D5_15]) hb16
  have D14_16 := via (w0 := w14) (by simp (maxDischargeDepth := 9) [D14_15]) hb16
  have Al_16 : Bx w16 w.heap.size [.slice al l.length cl, .int .i64 n] := Bx.via (by simp (maxDischargeDepth := 9) [Al_15]) hb16
  have W0_16 : Bx w16 w3.heap.size [.slice a3 ((fallB l n keep)).length c3, .int .i64 (fallN l n keep)] := Bx.via (by simp (maxDischargeDepth := 9) [W0_15]) hb16
  have X0_16 : Bx w16 w4.heap.size [.slice a4 (l).length c4, .int .i64 n] := Bx.via (by simp (maxDischargeDepth := 9) [X0_15]) hb16
  have G0_16 : Bx w16 w5.heap.size [.slice a5 ((fallB l n keep)).length c5, .int .i64 (fallN l n keep)] := Bx.via (by simp (maxDischargeDepth := 9) [G0_15]) hb16
  have H0_16 : Bx w16 w14.heap.size [.slice a14 ((fallB l n keep)).length c14, .int .i64 (fallN l n keep)] := Bx.via (by simp (maxDischargeDepth := 9) [H0_15]) hb16
  clear Al_15 W0_15 X0_15 G0_15 H0_15 Alk0 Alk1 Alz W0k0 W0k1 W0z X0k0 X0k1 X0z G0k0 G0k1 G0z H0k0 H0k1 H0z B15 D3_15 D5_15 D14_15
  have Alk0 := Al_16.c 0 _ rfl
  have Alk1 := Al_16.c 1 _ rfl
  have Alz := Al_16.z
  have W0k0 := W0_16.c 0 _ rfl
  have W0k1 := W0_16.c 1 _ rfl
  have W0z := W0_16.z
  have X0k0 := X0_16.c 0 _ rfl
  have X0k1 := X0_16.c 1 _ rfl
  have X0z := X0_16.z
  have G0k0 := G0_16.c 0 _ rfl
  have G0k1 := G0_16.c 1 _ rfl
  have G0z := G0_16.z
  have H0k0 := H0_16.c 0 _ rfl
  have H0k1 := H0_16.c 1 _ rfl
  have H0z := H0_16.z
  go_wp2
  go_ret
  exact ⟨rfl, (by simp (maxDischargeDepth := 9) [B16])⟩

end Go.Proofs.Ytojlnmenfikhbaa
