/- FnExactFileOk: for every input the program's FileOk answers what the reference's answers. -/
import Derived.Test.YtojlnmenfikhbaaTypes
import Derived.Test.YtojlnmenfikhbaaFileH
namespace Go.Proofs.Ytojlnmenfikhbaa
open Go.RowKit
open Cel (rd own rd_len rd_one own_rd own_lt rd_below rd_mono own_keep)

theorem exactFileOk_walk (vs : List Value) (f : FileD) (w : World) (hr : rd w.heap.size w vs f) :
    Calls Try.prog 3 #[.agg vs.toArray] w (RetB true w) := by
  obtain ⟨v, rfl, hv, hn⟩ := rd_File hr
  have h : Sl w f.B v := hv
  clear hv hr
  generalize f.B = l at *
  generalize f.Sure = n at *
  obtain ⟨a, c, rfl, hl, _⟩ := h.open
  by_cases hsz : l.length ≤ 1048576
  · have hs : 0 ≤ szB l 1048576 := by unfold szB; split <;> omega
    go_enter Try.func3, Try.ntmps3
    go_wp2_with fail
    refine (szFile_w l n 1048576 _ _ (h.to (by simp (maxDischargeDepth := 9))) (by decide) (by decide)).mono ?_
    rintro e w1 ⟨rfl, hb1⟩
    have B1 := via (w0 := w) (by simp (maxDischargeDepth := 9)) hb1
    have X_1 : Bx w1 w.heap.size [.slice a l.length c, .int .i64 n] := Bx.via (by simp (maxDischargeDepth := 9)) hb1
    have Xk0 := X_1.c 0 _ rfl
    have Xk1 := X_1.c 1 _ rfl
    have Xz := X_1.z
    go_wp2_with fail
    refine (toFile_w l n _ _ (h.to (by simp (maxDischargeDepth := 9) [B1])) (by omega)).mono ?_
    rintro e w2 ⟨a2, c2, fp2, rfl, ho2, hf2, hb2⟩
    have B2 := via (w0 := w) (by simp (maxDischargeDepth := 9) [B1]) hb2
    have X_2 : Bx w2 w.heap.size [.slice a l.length c, .int .i64 n] := Bx.via (by simp (maxDischargeDepth := 9) [X_1]) hb2
    clear X_1 Xk0 Xk1 Xz B1
    have Xk0 := X_2.c 0 _ rfl
    have Xk1 := X_2.c 1 _ rfl
    have Xz := X_2.z
    go_wp2_with fail
    refine (specFileOk_w l n _ _ (ho2.sl.to (by simp (maxDischargeDepth := 9)))).mono ?_
    rintro e w3 ⟨rfl, hb3⟩
    have B3 := via (w0 := w) (by simp (maxDischargeDepth := 9) [B2]) hb3
    have X_3 : Bx w3 w.heap.size [.slice a l.length c, .int .i64 n] := Bx.via (by simp (maxDischargeDepth := 9) [X_2]) hb3
    clear X_2 Xk0 Xk1 Xz B2
    have Xk0 := X_3.c 0 _ rfl
    have Xk1 := X_3.c 1 _ rfl
    have Xz := X_3.z
    go_wp2_with fail
    refine (toFile_w l n _ _ (h.to (by simp (maxDischargeDepth := 9) [B3])) (by omega)).mono ?_
    rintro e w4 ⟨a4, c4, fp4, rfl, ho4, hf4, hb4⟩
    have B4 := via (w0 := w) (by simp (maxDischargeDepth := 9) [B3]) hb4
    have X_4 : Bx w4 w.heap.size [.slice a l.length c, .int .i64 n] := Bx.via (by simp (maxDischargeDepth := 9) [X_3]) hb4
    clear X_3 Xk0 Xk1 Xz B3
    have Xk0 := X_4.c 0 _ rfl
    have Xk1 := X_4.c 1 _ rfl
    have Xz := X_4.z
    go_wp2_with fail
    refine (implFileOk_w l n _ _ (ho4.sl.to (by simp (maxDischargeDepth := 9)))).mono ?_
    rintro e w5 ⟨rfl, hb5⟩
    have B5 := via (w0 := w) (by simp (maxDischargeDepth := 9) [B4]) hb5
    have h4 := ho4.sl.to (w' := w5) (via (by simp (maxDischargeDepth := 9)) hb5)
    have X_5 : Bx w5 w.heap.size [.slice a l.length c, .int .i64 n] := Bx.via (by simp (maxDischargeDepth := 9) [X_4]) hb5
    have Y_5 : Bx w5 w4.heap.size [.slice a4 l.length c4, .int .i64 n] := Bx.via (by simp (maxDischargeDepth := 9)) hb5
    clear X_4 Xk0 Xk1 Xz B4
    have Xk0 := X_5.c 0 _ rfl
    have Xk1 := X_5.c 1 _ rfl
    have Xz := X_5.z
    have Yk0 := Y_5.c 0 _ rfl
    have Yk1 := Y_5.c 1 _ rfl
    have Yz := Y_5.z
    go_wp2
    go_region_held3 (fun w' => w'.cell? ⟨w.heap.size, 0, none⟩ = some (.slice a l.length c) ∧ w'.cell? ⟨w.heap.size, 1, none⟩ = some (.int .i64 n) ∧ w'.cell? ⟨w4.heap.size, 0, none⟩ = some (.slice a4 l.length c4) ∧ w'.cell? ⟨w4.heap.size, 1, none⟩ = some (.int .i64 n)) (go_keep)
      (first | (go_at_call 17; refine (toFile_w l n _ _ (h.to (by simp (maxDischargeDepth := 9) [B5])) (by omega)).mono ?_; rintro e w6 ⟨a6, c6, fp6, rfl, ho6, hf6, hb6⟩; have B6 := via (w0 := w) (by simp (maxDischargeDepth := 9) [B5]) hb6; have h46 := h4.to (w' := w6) (via (by simp (maxDischargeDepth := 9)) hb6); have X_6 : Bx w6 w.heap.size [.slice a l.length c, .int .i64 n] := Bx.via (by simp (maxDischargeDepth := 9) [X_5]) hb6; have Y_6 : Bx w6 w4.heap.size [.slice a4 l.length c4, .int .i64 n] := Bx.via (by simp (maxDischargeDepth := 9) [Y_5]) hb6; have Xk0 := X_6.c 0 _ rfl; have Xk1 := X_6.c 1 _ rfl; have Xz := X_6.z; have Yk0 := Y_6.c 0 _ rfl; have Yk1 := Y_6.c 1 _ rfl; have Yz := Y_6.z) | (go_at_call 19; refine (eqFile_w l n _ _ _ (h46.to (by simp (maxDischargeDepth := 9))) (ho6.sl.to (by simp (maxDischargeDepth := 9)))).mono ?_; rintro e w7 ⟨rfl, hb7⟩; have B7 := via (w0 := w) (by simp (maxDischargeDepth := 9) [B6]) hb7; have X_7 : Bx w7 w.heap.size [.slice a l.length c, .int .i64 n] := Bx.via (by simp (maxDischargeDepth := 9) [X_6]) hb7; have Y_7 : Bx w7 w4.heap.size [.slice a4 l.length c4, .int .i64 n] := Bx.via (by simp (maxDischargeDepth := 9) [Y_6]) hb7; have Xk0 := X_7.c 0 _ rfl; have Xk1 := X_7.c 1 _ rfl; have Xz := X_7.z; have Yk0 := Y_7.c 0 _ rfl; have Yk1 := Y_7.c 1 _ rfl; have Yz := Y_7.z))
    go_wp2
    go_ret
    exact ⟨rfl, by simp (maxDischargeDepth := 9) [B7]⟩
  · have hs : szB l 1048576 < 0 := by unfold szB; split <;> omega
    go_enter Try.func3, Try.ntmps3
    go_wp2_with fail
    refine (szFile_w l n 1048576 _ _ (h.to (by simp (maxDischargeDepth := 9))) (by decide) (by decide)).mono ?_
    rintro e w1 ⟨rfl, hb1⟩
    have B1 := via (w0 := w) (by simp (maxDischargeDepth := 9)) hb1
    have X_1 : Bx w1 w.heap.size [.slice a l.length c, .int .i64 n] := Bx.via (by simp (maxDischargeDepth := 9)) hb1
    have Xk0 := X_1.c 0 _ rfl
    have Xk1 := X_1.c 1 _ rfl
    have Xz := X_1.z
    go_wp2
    go_ret
    exact ⟨rfl, by simp (maxDischargeDepth := 9) [B1]⟩

end Go.Proofs.Ytojlnmenfikhbaa
