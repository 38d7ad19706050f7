/- The laws' helpers on files. -/
import Derived.Test.YtojlnmenfikhbaaFile
namespace Go.Proofs.Ytojlnmenfikhbaa
open Go.RowKit
open Cel (rd own rd_len rd_one own_rd own_lt rd_below rd_mono own_keep)

theorem szFile_w (l : List UInt8) (n left : Int) (v : Value) (w : World) (h : Sl w l v) (h0 : 0 ≤ left) (h1 : left ≤ 1048576) :
    Calls Try.prog 15 #[.agg #[v, .int .i64 n], .int .i64 left] w (RetI (szB l left) w) := by
  obtain ⟨a, c, rfl, hl, _⟩ := h.open
  go_enter Try.func15, Try.ntmps15
  go_wp2_with fail
  refine (szByteS_w l _ left _ (h.to (by simp (maxDischargeDepth := 9))) h0 h1).mono ?_
  rintro e w1 ⟨rfl, hb1⟩
  have B1 := via (w0 := w) (by simp (maxDischargeDepth := 9)) hb1
  have X_1 : Bx w1 w.heap.size [.slice a l.length c, .int .i64 n] := Bx.via (by simp (maxDischargeDepth := 9)) hb1
  have Xk0 := X_1.c 0 _ rfl
  have Xk1 := X_1.c 1 _ rfl
  have Xz := X_1.z
  go_wp2
  all_goals go_ret
  all_goals refine ⟨?_, B1⟩
  all_goals simp only [szB] at *
  all_goals first | rfl | (apply ret_int; split at * <;> omega)

theorem toFile_w (l : List UInt8) (n : Int) (v : Value) (w : World) (h : Sl w l v) (hlen : l.length ≤ 1099511627776) :
    Calls Try.prog 17 #[.agg #[v, .int .i64 n]] w (RetF l n w) := by
  obtain ⟨a, c, rfl, hl, _⟩ := h.open
  go_enter Try.func17, Try.ntmps17
  go_wp2_with fail
  refine (toByteS_w l _ _ (h.to (by simp (maxDischargeDepth := 9))) hlen).mono ?_
  rintro e w1 ⟨a1, c1, fp1, rfl, ho, hf, hb1⟩
  have B1 := via (w0 := w) (by simp (maxDischargeDepth := 9)) hb1
  have hm := ho.rng hf (lo := w.heap.size + 3) (by simp)
  have hf' := hf.mono (B' := w.heap.size) (by simp; omega)
  have X_1 : Bx w1 w.heap.size [.slice a l.length c, .int .i64 n] := Bx.via (by simp (maxDischargeDepth := 9)) hb1
  have Y_1 : Bx w1 (w.heap.size + 1) [.slice none 0 0, .int .i64 0] := Bx.via (by simp (maxDischargeDepth := 9)) hb1
  have Z_1 : Bx w1 (w.heap.size + 1 + 1) [.slice none 0 0, .int .i64 0] := Bx.via (by simp (maxDischargeDepth := 9)) hb1
  have Xk0 := X_1.c 0 _ rfl
  have Xk1 := X_1.c 1 _ rfl
  have Xz := X_1.z
  have Yk0 := Y_1.c 0 _ rfl
  have Yk1 := Y_1.c 1 _ rfl
  have Yz := Y_1.z
  have Zk0 := Z_1.c 0 _ rfl
  have Zk1 := Z_1.c 1 _ rfl
  have Zz := Z_1.z
  go_wp2
  refine ret_mk (.agg #[.slice a1 l.length c1, .int .i64 n]) (by simp [results, Try.results17, go_sem, *]) rfl ⟨a1, c1, fp1, rfl, ?_, hf', ?_⟩
  · exact (((ho.out hm (by simp) _).out hm (by simp) _).out hm (by simp) _).out hm (by simp) _
  · simp (maxDischargeDepth := 9) [bl_le, B1]

theorem eqFile_w (l : List UInt8) (n : Int) (v v2 : Value) (w : World) (h : Sl w l v) (h2 : Sl w l v2) :
    Calls Try.prog 19 #[.agg #[v, .int .i64 n], .agg #[v2, .int .i64 n]] w (RetB true w) := by
  obtain ⟨a, c, rfl, hl, _⟩ := h.open
  obtain ⟨a2, c2, rfl, _⟩ := h2.open
  go_enter Try.func19, Try.ntmps19
  go_wp2_with fail
  refine (eqByteS_w l _ _ _ (h.to (by simp (maxDischargeDepth := 9))) (h2.to (by simp (maxDischargeDepth := 9)))).mono ?_
  rintro e w1 ⟨rfl, hb1⟩
  have B1 := via (w0 := w) (by simp (maxDischargeDepth := 9)) hb1
  have X_1 : Bx w1 w.heap.size [.slice a l.length c, .int .i64 n] := Bx.via (by simp (maxDischargeDepth := 9)) hb1
  have Y_1 : Bx w1 (w.heap.size + 1) [.slice a2 l.length c2, .int .i64 n] := Bx.via (by simp (maxDischargeDepth := 9)) hb1
  have Xk0 := X_1.c 0 _ rfl
  have Xk1 := X_1.c 1 _ rfl
  have Xz := X_1.z
  have Yk0 := Y_1.c 0 _ rfl
  have Yk1 := Y_1.c 1 _ rfl
  have Yz := Y_1.z
  go_wp2
  all_goals go_ret
  all_goals exact ⟨rfl, B1⟩

theorem markFile_w (l : List UInt8) (n : Int) (v : Value) (fp : List Nat) (K : Int) (w : World) (h : OwnS w l v fp) (hn : fp.Nodup) (h0 : 0 ≤ K) (hk : K + l.length ≤ 1099511627776) :
    Calls Try.prog 22 #[.agg #[v, .int .i64 n], .int .i64 K] w (fun e w' => e = .returned (.int .i64 (K + l.length)) ∧ OwnS w' (markB l K.toNat) v fp ∧ Chg fp w w') := by
  obtain ⟨a, c, rfl⟩ := h.open
  go_enter Try.func22, Try.ntmps22
  go_wp2_with fail
  refine (markByteS_w l _ fp K _ (h.alloc _) hn h0 hk).mono ?_
  rintro e w1 ⟨rfl, ho, hc⟩
  go_wp2
  go_ret
  exact ⟨rfl, ho, ((Chg.refl fp w).alloc _).trans hc⟩

theorem heldFile_w (l : List UInt8) (n : Int) (v : Value) (K : Int) (w : World) (h0 : 0 ≤ K) (h : Sl w (markB l K.toNat) v) (hk : K + l.length ≤ 1099511627776) :
    Calls Try.prog 23 #[.agg #[v, .int .i64 n], .int .i64 K] w (RetI (K + l.length) w) := by
  obtain ⟨a, c, rfl, hl, _⟩ := h.open
  go_enter Try.func23, Try.ntmps23
  go_wp2_with fail
  refine (heldByteS_w l _ K _ h0 (h.to (by simp (maxDischargeDepth := 9))) hk).mono ?_
  rintro e w1 ⟨rfl, hb1⟩
  have B1 := via (w0 := w) (by simp (maxDischargeDepth := 9)) hb1
  have X_1 : Bx w1 w.heap.size [.slice a (markB l K.toNat).length c, .int .i64 n] := Bx.via (by simp (maxDischargeDepth := 9)) hb1
  have Xk0 := X_1.c 0 _ rfl
  have Xk1 := X_1.c 1 _ rfl
  have Xz := X_1.z
  have hp : 0 ≤ K + l.length := by omega
  go_wp2
  go_ret
  exact ⟨rfl, B1⟩

end Go.Proofs.Ytojlnmenfikhbaa
