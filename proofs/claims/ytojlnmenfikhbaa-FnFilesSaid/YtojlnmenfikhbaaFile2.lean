/- AppendFile and FallFile, the program's and the reference's. -/
import Derived.Test.YtojlnmenfikhbaaFile
namespace Go.Proofs.Ytojlnmenfikhbaa
open Go.RowKit
open Cel (rd own rd_len rd_one own_rd own_lt rd_below rd_mono own_keep)

def appOk (l : List UInt8) (n : Int) (lb : List UInt8) : Bool := fileOk l n && decide (l.length + lb.length ≤ 20000)
def appB (l : List UInt8) (n : Int) (lb : List UInt8) : List UInt8 := if appOk l n lb then l ++ lb else l

/-- What AppendFile hands back. -/
def RetFB (l : List UInt8) (n : Int) (b : Bool) (w : World) (e : Ending) (w' : World) : Prop :=
  ∃ a c fp, e = .returned (.tuple #[.agg #[.slice a l.length c, .int .i64 n], .bool b]) ∧ OwnS w' l (.slice a l.length c) fp ∧ Fr w.heap.size fp ∧ Below w.heap.size w w'

theorem specAppend_w (l lb : List UInt8) (n : Int) (v v2 : Value) (w : World) (h : Sl w l v) (h2 : Sl w lb v2) (hlen : l.length ≤ 1099511627776) (_hlen2 : lb.length ≤ 1099511627776) :
    Calls Try.prog 24 #[.agg #[v, .int .i64 n], v2] w (RetFB (appB l n lb) n (appOk l n lb) w) := by
  obtain ⟨a, c, rfl, hl, _⟩ := h.open
  obtain ⟨a2, c2, rfl, hl2, _⟩ := h2.open
  unfold appB
  by_cases hok : appOk l n lb = true
  · have hk : fileOk l n = true ∧ l.length + lb.length ≤ 20000 := by simpa [appOk] using hok
    obtain ⟨hk1, hk2⟩ := hk
    have hml : l.length + lb.length ≤ maxLen := by simp [maxLen]; omega
    rw [if_pos hok, hok]
    clear hok
    go_enter Try.func24, Try.ntmps24
    go_wp2_with fail
    refine (specCopyFile_w l n _ _ (h.to (by simp (maxDischargeDepth := 9))) hlen).mono ?_
    rintro e w1 ⟨a1, c1, fp1, rfl, ho, hf, hb1⟩
    have B1 := via (w0 := w) (by simp (maxDischargeDepth := 9)) hb1
    have hm := ho.rng hf (lo := w.heap.size + 2) (by simp)
    have hf' := hf.mono (B' := w.heap.size) (by simp; omega)
    have z1 : w.heap.size + 2 ≤ w1.heap.size := by have := hb1.size; simp at this; omega
    have X_1 : Bx w1 w.heap.size [.slice a l.length c, .int .i64 n] := Bx.via (by simp (maxDischargeDepth := 9)) hb1
    have R_1 : Bx w1 (w.heap.size + 1) [.slice none 0 0, .int .i64 0] := Bx.via (by simp (maxDischargeDepth := 9)) hb1
    have Xk0 := X_1.c 0 _ rfl
    have Xk1 := X_1.c 1 _ rfl
    have Xz := X_1.z
    have Rk0 := R_1.c 0 _ rfl
    have Rk1 := R_1.c 1 _ rfl
    have Rz := R_1.z
    go_wp2_with fail
    refine (specFileOk_w l n _ _ (h.to (by simp (maxDischargeDepth := 9) [B1]))).mono ?_
    rintro e w2 ⟨rfl, hb2⟩
    have B2 := via (w0 := w) (by simp (maxDischargeDepth := 9) [B1]) hb2
    have ho2 := (ho.alloc (.cells #[.slice a1 l.length c1, .int .i64 n] 27)).below hb2
    have z2 : w1.heap.size + 1 ≤ w2.heap.size := by have := hb2.size; simpa using this
    have X_2 : Bx w2 w.heap.size [.slice a l.length c, .int .i64 n] := Bx.via (by simp (maxDischargeDepth := 9) [X_1]) hb2
    have R_2 : Bx w2 (w.heap.size + 1) [.slice none 0 0, .int .i64 0] := Bx.via (by simp (maxDischargeDepth := 9) [R_1]) hb2
    have O_2 : Bx w2 w1.heap.size [.slice a1 l.length c1, .int .i64 n] := Bx.via (by simp (maxDischargeDepth := 9)) hb2
    clear X_1 R_1 Xk0 Xk1 Xz Rk0 Rk1 Rz B1
    have Xk0 := X_2.c 0 _ rfl
    have Xk1 := X_2.c 1 _ rfl
    have Xz := X_2.z
    have Rk0 := R_2.c 0 _ rfl
    have Rk1 := R_2.c 1 _ rfl
    have Rz := R_2.z
    have Ok0 := O_2.c 0 _ rfl
    have Ok1 := O_2.c 1 _ rfl
    have Oz := O_2.z
    have hfr2 : Fr (w.heap.size + 2) fp1 := hf.mono (by simp)
    have h2' := h2.to (w' := w2) (by simp [B2])
    go_wp2_with (at_builtin; go_loud (refine wpList_appendF (α := UInt8) (B := w.heap.size + 2) rfl _ _ _ rfl sl22 rfl ho2 rfl h2' hfr2 (by omega) (by omega) hml ?_); intro a3 c3 w3 fp3 ho3 hf3 hg3 hb3 hx3; have B3 : Below w.heap.size w w3 := B2.trans (hb3.mono (by omega)); have X3 : Bx w3 w.heap.size [.slice a l.length c, .int .i64 n] := X_2.block (hb3.block _ (by omega)); have R3 : Bx w3 (w.heap.size + 1) [.slice none 0 0, .int .i64 0] := R_2.block (hb3.block _ (by omega)); have O3 : Bx w3 w1.heap.size [.slice a1 l.length c1, .int .i64 n] := O_2.block (hg3.block _ (by omega) (fun e => by have := hm _ (ho2.block_mem e.symm); omega)); clear X_2 R_2 O_2 Xk0 Xk1 Xz Rk0 Rk1 Rz Ok0 Ok1 Oz; have Rk0 := R3.c 0 _ rfl; have Rk1 := R3.c 1 _ rfl; have Rz := R3.z; have Ok0 := O3.c 0 _ rfl; have Ok1 := O3.c 1 _ rfl; have Oz := O3.z)
    have hm3 : ∀ b ∈ fp3, ¬ b = w1.heap.size ∧ w.heap.size + 2 ≤ b := fun b hb => by rcases hx3 b hb with h | h; (have := hm b h; omega); omega
    refine ret_mk (.tuple #[.agg #[.slice a3 (l.length + lb.length) c3, .int .i64 n], .bool true]) (by simp [results, Try.results24, go_sem, *]) rfl ⟨a3, c3, fp3, ?_, ?_, hf3.mono (by omega), ?_⟩
    · simp
    · rw [List.length_append]
      refine ((ho3.setCell ?_ _).setCell ?_ _).setCell ?_ _ <;> (intro hm; have := hm3 _ hm; simp at this)
    · simp (maxDischargeDepth := 9) [bl_le, B3, Nat.le_trans (Nat.le_add_right _ 2) z1]
  · rw [if_neg hok]
    have hok' : appOk l n lb = false := by simpa using hok
    rw [hok']
    clear hok
    by_cases hk1 : fileOk l n = true
    · have hk2 : 20000 < l.length + lb.length := by simp [appOk, hk1] at hok'; omega
      clear hok'
      go_enter Try.func24, Try.ntmps24
      go_wp2_with fail
      refine (specCopyFile_w l n _ _ (h.to (by simp (maxDischargeDepth := 9))) hlen).mono ?_
      rintro e w1 ⟨a1, c1, fp1, rfl, ho, hf, hb1⟩
      have B1 := via (w0 := w) (by simp (maxDischargeDepth := 9)) hb1
      have hm := ho.rng hf (lo := w.heap.size + 2) (by simp)
      have hf' := hf.mono (B' := w.heap.size) (by simp; omega)
      have z1 : w.heap.size + 2 ≤ w1.heap.size := by have := hb1.size; simp at this; omega
      have X_1 : Bx w1 w.heap.size [.slice a l.length c, .int .i64 n] := Bx.via (by simp (maxDischargeDepth := 9)) hb1
      have R_1 : Bx w1 (w.heap.size + 1) [.slice none 0 0, .int .i64 0] := Bx.via (by simp (maxDischargeDepth := 9)) hb1
      have Xk0 := X_1.c 0 _ rfl
      have Xk1 := X_1.c 1 _ rfl
      have Xz := X_1.z
      have Rk0 := R_1.c 0 _ rfl
      have Rk1 := R_1.c 1 _ rfl
      have Rz := R_1.z
      go_wp2_with fail
      refine (specFileOk_w l n _ _ (h.to (by simp (maxDischargeDepth := 9) [B1]))).mono ?_
      rintro e w2 ⟨rfl, hb2⟩
      have B2 := via (w0 := w) (by simp (maxDischargeDepth := 9) [B1]) hb2
      have ho2 := (ho.alloc (.cells #[.slice a1 l.length c1, .int .i64 n] 27)).below hb2
      have z2 : w1.heap.size + 1 ≤ w2.heap.size := by have := hb2.size; simpa using this
      have X_2 : Bx w2 w.heap.size [.slice a l.length c, .int .i64 n] := Bx.via (by simp (maxDischargeDepth := 9) [X_1]) hb2
      have R_2 : Bx w2 (w.heap.size + 1) [.slice none 0 0, .int .i64 0] := Bx.via (by simp (maxDischargeDepth := 9) [R_1]) hb2
      have O_2 : Bx w2 w1.heap.size [.slice a1 l.length c1, .int .i64 n] := Bx.via (by simp (maxDischargeDepth := 9)) hb2
      clear X_1 R_1 Xk0 Xk1 Xz Rk0 Rk1 Rz B1
      have Xk0 := X_2.c 0 _ rfl
      have Xk1 := X_2.c 1 _ rfl
      have Xz := X_2.z
      have Rk0 := R_2.c 0 _ rfl
      have Rk1 := R_2.c 1 _ rfl
      have Rz := R_2.z
      have Ok0 := O_2.c 0 _ rfl
      have Ok1 := O_2.c 1 _ rfl
      have Oz := O_2.z
      go_wp2
      refine ret_mk (.tuple #[.agg #[.slice a1 l.length c1, .int .i64 n], .bool false]) (by simp [results, Try.results24, go_sem, *]) rfl ⟨a1, c1, fp1, ?_, ?_, hf', ?_⟩
      · simp
      · exact (ho2.out hm (by simp) _).out hm (by simp) _
      · simp (maxDischargeDepth := 9) [bl_le, B2]
    · have hk1 : fileOk l n = false := by simpa using hk1
      clear hok'
      go_enter Try.func24, Try.ntmps24
      go_wp2_with fail
      refine (specCopyFile_w l n _ _ (h.to (by simp (maxDischargeDepth := 9))) hlen).mono ?_
      rintro e w1 ⟨a1, c1, fp1, rfl, ho, hf, hb1⟩
      have B1 := via (w0 := w) (by simp (maxDischargeDepth := 9)) hb1
      have hm := ho.rng hf (lo := w.heap.size + 2) (by simp)
      have hf' := hf.mono (B' := w.heap.size) (by simp; omega)
      have z1 : w.heap.size + 2 ≤ w1.heap.size := by have := hb1.size; simp at this; omega
      have X_1 : Bx w1 w.heap.size [.slice a l.length c, .int .i64 n] := Bx.via (by simp (maxDischargeDepth := 9)) hb1
      have R_1 : Bx w1 (w.heap.size + 1) [.slice none 0 0, .int .i64 0] := Bx.via (by simp (maxDischargeDepth := 9)) hb1
      have Xk0 := X_1.c 0 _ rfl
      have Xk1 := X_1.c 1 _ rfl
      have Xz := X_1.z
      have Rk0 := R_1.c 0 _ rfl
      have Rk1 := R_1.c 1 _ rfl
      have Rz := R_1.z
      go_wp2_with fail
      refine (specFileOk_w l n _ _ (h.to (by simp (maxDischargeDepth := 9) [B1]))).mono ?_
      rintro e w2 ⟨rfl, hb2⟩
      have B2 := via (w0 := w) (by simp (maxDischargeDepth := 9) [B1]) hb2
      have ho2 := (ho.alloc (.cells #[.slice a1 l.length c1, .int .i64 n] 27)).below hb2
      have z2 : w1.heap.size + 1 ≤ w2.heap.size := by have := hb2.size; simpa using this
      have X_2 : Bx w2 w.heap.size [.slice a l.length c, .int .i64 n] := Bx.via (by simp (maxDischargeDepth := 9) [X_1]) hb2
      have R_2 : Bx w2 (w.heap.size + 1) [.slice none 0 0, .int .i64 0] := Bx.via (by simp (maxDischargeDepth := 9) [R_1]) hb2
      have O_2 : Bx w2 w1.heap.size [.slice a1 l.length c1, .int .i64 n] := Bx.via (by simp (maxDischargeDepth := 9)) hb2
      clear X_1 R_1 Xk0 Xk1 Xz Rk0 Rk1 Rz B1
      have Xk0 := X_2.c 0 _ rfl
      have Xk1 := X_2.c 1 _ rfl
      have Xz := X_2.z
      have Rk0 := R_2.c 0 _ rfl
      have Rk1 := R_2.c 1 _ rfl
      have Rz := R_2.z
      have Ok0 := O_2.c 0 _ rfl
      have Ok1 := O_2.c 1 _ rfl
      have Oz := O_2.z
      go_wp2
      refine ret_mk (.tuple #[.agg #[.slice a1 l.length c1, .int .i64 n], .bool false]) (by simp [results, Try.results24, go_sem, *]) rfl ⟨a1, c1, fp1, ?_, ?_, hf', ?_⟩
      · simp
      · exact (ho2.out hm (by simp) _).out hm (by simp) _
      · simp (maxDischargeDepth := 9) [bl_le, B2]

theorem implAppend_w (l lb : List UInt8) (n : Int) (v v2 : Value) (w : World) (h : Sl w l v) (h2 : Sl w lb v2) (hlen : l.length ≤ 1099511627776) (_hlen2 : lb.length ≤ 1099511627776) :
    Calls Try.prog 26 #[.agg #[v, .int .i64 n], v2] w (RetFB (appB l n lb) n (appOk l n lb) w) := by
  obtain ⟨a, c, rfl, hl, _⟩ := h.open
  obtain ⟨a2, c2, rfl, hl2, _⟩ := h2.open
  unfold appB
  by_cases hok : appOk l n lb = true
  · have hk : fileOk l n = true ∧ l.length + lb.length ≤ 20000 := by simpa [appOk] using hok
    obtain ⟨hk1, hk2⟩ := hk
    have hml : l.length + lb.length ≤ maxLen := by simp [maxLen]; omega
    rw [if_pos hok, hok]
    clear hok
    go_enter Try.func26, Try.ntmps26
    go_wp2_with fail
    refine (implCopyFile_w l n _ _ (h.to (by simp (maxDischargeDepth := 9))) hlen).mono ?_
    rintro e w1 ⟨a1, c1, fp1, rfl, ho, hf, hb1⟩
    have B1 := via (w0 := w) (by simp (maxDischargeDepth := 9)) hb1
    have hm := ho.rng hf (lo := w.heap.size + 2) (by simp)
    have hf' := hf.mono (B' := w.heap.size) (by simp; omega)
    have z1 : w.heap.size + 2 ≤ w1.heap.size := by have := hb1.size; simp at this; omega
    have X_1 : Bx w1 w.heap.size [.slice a l.length c, .int .i64 n] := Bx.via (by simp (maxDischargeDepth := 9)) hb1
    have R_1 : Bx w1 (w.heap.size + 1) [.slice none 0 0, .int .i64 0] := Bx.via (by simp (maxDischargeDepth := 9)) hb1
    have Xk0 := X_1.c 0 _ rfl
    have Xk1 := X_1.c 1 _ rfl
    have Xz := X_1.z
    have Rk0 := R_1.c 0 _ rfl
    have Rk1 := R_1.c 1 _ rfl
    have Rz := R_1.z
    go_wp2_with fail
    refine (implFileOk_w l n _ _ (h.to (by simp (maxDischargeDepth := 9) [B1]))).mono ?_
    rintro e w2 ⟨rfl, hb2⟩
    have B2 := via (w0 := w) (by simp (maxDischargeDepth := 9) [B1]) hb2
    have ho2 := (ho.alloc (.cells #[.slice a1 l.length c1, .int .i64 n] 27)).below hb2
    have z2 : w1.heap.size + 1 ≤ w2.heap.size := by have := hb2.size; simpa using this
    have X_2 : Bx w2 w.heap.size [.slice a l.length c, .int .i64 n] := Bx.via (by simp (maxDischargeDepth := 9) [X_1]) hb2
    have R_2 : Bx w2 (w.heap.size + 1) [.slice none 0 0, .int .i64 0] := Bx.via (by simp (maxDischargeDepth := 9) [R_1]) hb2
    have O_2 : Bx w2 w1.heap.size [.slice a1 l.length c1, .int .i64 n] := Bx.via (by simp (maxDischargeDepth := 9)) hb2
    clear X_1 R_1 Xk0 Xk1 Xz Rk0 Rk1 Rz B1
    have Xk0 := X_2.c 0 _ rfl
    have Xk1 := X_2.c 1 _ rfl
    have Xz := X_2.z
    have Rk0 := R_2.c 0 _ rfl
    have Rk1 := R_2.c 1 _ rfl
    have Rz := R_2.z
    have Ok0 := O_2.c 0 _ rfl
    have Ok1 := O_2.c 1 _ rfl
    have Oz := O_2.z
    have hfr2 : Fr (w.heap.size + 2) fp1 := hf.mono (by simp)
    have h2' := h2.to (w' := w2) (by simp [B2])
    go_wp2_with (at_builtin; go_loud (refine wpList_appendF (α := UInt8) (B := w.heap.size + 2) rfl _ _ _ rfl sl22 rfl ho2 rfl h2' hfr2 (by omega) (by omega) hml ?_); intro a3 c3 w3 fp3 ho3 hf3 hg3 hb3 hx3; have B3 : Below w.heap.size w w3 := B2.trans (hb3.mono (by omega)); have X3 : Bx w3 w.heap.size [.slice a l.length c, .int .i64 n] := X_2.block (hb3.block _ (by omega)); have R3 : Bx w3 (w.heap.size + 1) [.slice none 0 0, .int .i64 0] := R_2.block (hb3.block _ (by omega)); have O3 : Bx w3 w1.heap.size [.slice a1 l.length c1, .int .i64 n] := O_2.block (hg3.block _ (by omega) (fun e => by have := hm _ (ho2.block_mem e.symm); omega)); clear X_2 R_2 O_2 Xk0 Xk1 Xz Rk0 Rk1 Rz Ok0 Ok1 Oz; have Rk0 := R3.c 0 _ rfl; have Rk1 := R3.c 1 _ rfl; have Rz := R3.z; have Ok0 := O3.c 0 _ rfl; have Ok1 := O3.c 1 _ rfl; have Oz := O3.z)
    have hm3 : ∀ b ∈ fp3, ¬ b = w1.heap.size ∧ w.heap.size + 2 ≤ b := fun b hb => by rcases hx3 b hb with h | h; (have := hm b h; omega); omega
    refine ret_mk (.tuple #[.agg #[.slice a3 (l.length + lb.length) c3, .int .i64 n], .bool true]) (by simp [results, Try.results26, go_sem, *]) rfl ⟨a3, c3, fp3, ?_, ?_, hf3.mono (by omega), ?_⟩
    · simp
    · rw [List.length_append]
      refine ((ho3.setCell ?_ _).setCell ?_ _).setCell ?_ _ <;> (intro hm; have := hm3 _ hm; simp at this)
    · simp (maxDischargeDepth := 9) [bl_le, B3, Nat.le_trans (Nat.le_add_right _ 2) z1]
  · rw [if_neg hok]
    have hok' : appOk l n lb = false := by simpa using hok
    rw [hok']
    clear hok
    by_cases hk1 : fileOk l n = true
    · have hk2 : 20000 < l.length + lb.length := by simp [appOk, hk1] at hok'; omega
      clear hok'
      go_enter Try.func26, Try.ntmps26
      go_wp2_with fail
      refine (implCopyFile_w l n _ _ (h.to (by simp (maxDischargeDepth := 9))) hlen).mono ?_
      rintro e w1 ⟨a1, c1, fp1, rfl, ho, hf, hb1⟩
      have B1 := via (w0 := w) (by simp (maxDischargeDepth := 9)) hb1
      have hm := ho.rng hf (lo := w.heap.size + 2) (by simp)
      have hf' := hf.mono (B' := w.heap.size) (by simp; omega)
      have z1 : w.heap.size + 2 ≤ w1.heap.size := by have := hb1.size; simp at this; omega
      have X_1 : Bx w1 w.heap.size [.slice a l.length c, .int .i64 n] := Bx.via (by simp (maxDischargeDepth := 9)) hb1
      have R_1 : Bx w1 (w.heap.size + 1) [.slice none 0 0, .int .i64 0] := Bx.via (by simp (maxDischargeDepth := 9)) hb1
      have Xk0 := X_1.c 0 _ rfl
      have Xk1 := X_1.c 1 _ rfl
      have Xz := X_1.z
      have Rk0 := R_1.c 0 _ rfl
      have Rk1 := R_1.c 1 _ rfl
      have Rz := R_1.z
      go_wp2_with fail
      refine (implFileOk_w l n _ _ (h.to (by simp (maxDischargeDepth := 9) [B1]))).mono ?_
      rintro e w2 ⟨rfl, hb2⟩
      have B2 := via (w0 := w) (by simp (maxDischargeDepth := 9) [B1]) hb2
      have ho2 := (ho.alloc (.cells #[.slice a1 l.length c1, .int .i64 n] 27)).below hb2
      have z2 : w1.heap.size + 1 ≤ w2.heap.size := by have := hb2.size; simpa using this
      have X_2 : Bx w2 w.heap.size [.slice a l.length c, .int .i64 n] := Bx.via (by simp (maxDischargeDepth := 9) [X_1]) hb2
      have R_2 : Bx w2 (w.heap.size + 1) [.slice none 0 0, .int .i64 0] := Bx.via (by simp (maxDischargeDepth := 9) [R_1]) hb2
      have O_2 : Bx w2 w1.heap.size [.slice a1 l.length c1, .int .i64 n] := Bx.via (by simp (maxDischargeDepth := 9)) hb2
      clear X_1 R_1 Xk0 Xk1 Xz Rk0 Rk1 Rz B1
      have Xk0 := X_2.c 0 _ rfl
      have Xk1 := X_2.c 1 _ rfl
      have Xz := X_2.z
      have Rk0 := R_2.c 0 _ rfl
      have Rk1 := R_2.c 1 _ rfl
      have Rz := R_2.z
      have Ok0 := O_2.c 0 _ rfl
      have Ok1 := O_2.c 1 _ rfl
      have Oz := O_2.z
      go_wp2
      refine ret_mk (.tuple #[.agg #[.slice a1 l.length c1, .int .i64 n], .bool false]) (by simp [results, Try.results26, go_sem, *]) rfl ⟨a1, c1, fp1, ?_, ?_, hf', ?_⟩
      · simp
      · exact (ho2.out hm (by simp) _).out hm (by simp) _
      · simp (maxDischargeDepth := 9) [bl_le, B2]
    · have hk1 : fileOk l n = false := by simpa using hk1
      clear hok'
      go_enter Try.func26, Try.ntmps26
      go_wp2_with fail
      refine (implCopyFile_w l n _ _ (h.to (by simp (maxDischargeDepth := 9))) hlen).mono ?_
      rintro e w1 ⟨a1, c1, fp1, rfl, ho, hf, hb1⟩
      have B1 := via (w0 := w) (by simp (maxDischargeDepth := 9)) hb1
      have hm := ho.rng hf (lo := w.heap.size + 2) (by simp)
      have hf' := hf.mono (B' := w.heap.size) (by simp; omega)
      have z1 : w.heap.size + 2 ≤ w1.heap.size := by have := hb1.size; simp at this; omega
      have X_1 : Bx w1 w.heap.size [.slice a l.length c, .int .i64 n] := Bx.via (by simp (maxDischargeDepth := 9)) hb1
      have R_1 : Bx w1 (w.heap.size + 1) [.slice none 0 0, .int .i64 0] := Bx.via (by simp (maxDischargeDepth := 9)) hb1
      have Xk0 := X_1.c 0 _ rfl
      have Xk1 := X_1.c 1 _ rfl
      have Xz := X_1.z
      have Rk0 := R_1.c 0 _ rfl
      have Rk1 := R_1.c 1 _ rfl
      have Rz := R_1.z
      go_wp2_with fail
      refine (implFileOk_w l n _ _ (h.to (by simp (maxDischargeDepth := 9) [B1]))).mono ?_
      rintro e w2 ⟨rfl, hb2⟩
      have B2 := via (w0 := w) (by simp (maxDischargeDepth := 9) [B1]) hb2
      have ho2 := (ho.alloc (.cells #[.slice a1 l.length c1, .int .i64 n] 27)).below hb2
      have z2 : w1.heap.size + 1 ≤ w2.heap.size := by have := hb2.size; simpa using this
      have X_2 : Bx w2 w.heap.size [.slice a l.length c, .int .i64 n] := Bx.via (by simp (maxDischargeDepth := 9) [X_1]) hb2
      have R_2 : Bx w2 (w.heap.size + 1) [.slice none 0 0, .int .i64 0] := Bx.via (by simp (maxDischargeDepth := 9) [R_1]) hb2
      have O_2 : Bx w2 w1.heap.size [.slice a1 l.length c1, .int .i64 n] := Bx.via (by simp (maxDischargeDepth := 9)) hb2
      clear X_1 R_1 Xk0 Xk1 Xz Rk0 Rk1 Rz B1
      have Xk0 := X_2.c 0 _ rfl
      have Xk1 := X_2.c 1 _ rfl
      have Xz := X_2.z
      have Rk0 := R_2.c 0 _ rfl
      have Rk1 := R_2.c 1 _ rfl
      have Rz := R_2.z
      have Ok0 := O_2.c 0 _ rfl
      have Ok1 := O_2.c 1 _ rfl
      have Oz := O_2.z
      go_wp2
      refine ret_mk (.tuple #[.agg #[.slice a1 l.length c1, .int .i64 n], .bool false]) (by simp [results, Try.results26, go_sem, *]) rfl ⟨a1, c1, fp1, ?_, ?_, hf', ?_⟩
      · simp
      · exact (ho2.out hm (by simp) _).out hm (by simp) _
      · simp (maxDischargeDepth := 9) [bl_le, B2]

def fallK (l : List UInt8) (n keep : Int) : Int := min (max keep 0) (l.length - n)
def fallB (l : List UInt8) (n keep : Int) : List UInt8 := if fileOk l n then l.take (n + fallK l n keep).toNat else l
def fallN (l : List UInt8) (n keep : Int) : Int := if fileOk l n then n + fallK l n keep else n

theorem fallB_len (l : List UInt8) (n keep : Int) : (fallB l n keep).length ≤ l.length := by
  unfold fallB; split
  · rw [List.length_take]; omega
  · omega
theorem appB_len (l lb : List UInt8) (n : Int) : (appB l n lb).length ≤ l.length + lb.length := by
  unfold appB; split
  · simp
  · omega

theorem specFall_w (l : List UInt8) (n keep : Int) (v : Value) (w : World) (h : Sl w l v) (hlen : l.length ≤ 1099511627776) :
    Calls Try.prog 29 #[.agg #[v, .int .i64 n], .int .i64 keep] w (RetF (fallB l n keep) (fallN l n keep) w) := by
  obtain ⟨a, c, rfl, hl, _⟩ := h.open
  unfold fallB fallN
  by_cases hok : fileOk l n = true
  · have hn := sureFile_l l n hok
    obtain ⟨hn1, hn2, hn3⟩ := hn
    have hkk : (keep < 0 ∧ fallK l n keep = 0) ∨ (0 ≤ keep ∧ (l.length : Int) - n < keep ∧ fallK l n keep = l.length - n) ∨ (0 ≤ keep ∧ keep ≤ l.length - n ∧ fallK l n keep = keep) := by unfold fallK; omega
    rw [if_pos hok, if_pos hok]
    go_enter Try.func29, Try.ntmps29
    go_wp2_with fail
    refine (specCopyFile_w l n _ _ (h.to (by simp (maxDischargeDepth := 9))) hlen).mono ?_
    rintro e w1 ⟨a1, c1, fp1, rfl, ho, hf, hb1⟩
    have B1 := via (w0 := w) (by simp (maxDischargeDepth := 9)) hb1
    have hm := ho.rng hf (lo := w.heap.size + 2) (by simp)
    have hf' := hf.mono (B' := w.heap.size) (by simp; omega)
    have z1 : w.heap.size + 2 ≤ w1.heap.size := by have := hb1.size; simp at this; omega
    obtain ⟨-, -, hl1, hc1, -⟩ := hb1.open1 ho
    have X_1 : Bx w1 w.heap.size [.slice a l.length c, .int .i64 n] := Bx.via (by simp (maxDischargeDepth := 9)) hb1
    have R_1 : Bx w1 (w.heap.size + 1) [.slice none 0 0, .int .i64 0] := Bx.via (by simp (maxDischargeDepth := 9)) hb1
    have Xk0 := X_1.c 0 _ rfl
    have Xk1 := X_1.c 1 _ rfl
    have Xz := X_1.z
    have Rk0 := R_1.c 0 _ rfl
    have Rk1 := R_1.c 1 _ rfl
    have Rz := R_1.z
    go_wp2_with fail
    refine (specFileOk_w l n _ _ (h.to (by simp (maxDischargeDepth := 9) [B1]))).mono ?_
    rintro e w2 ⟨rfl, hb2⟩
    have B2 := via (w0 := w) (by simp (maxDischargeDepth := 9) [B1]) hb2
    have ho2 := (ho.alloc (.cells #[.slice a1 l.length c1, .int .i64 n] 27)).below hb2
    have z2 : w1.heap.size + 1 ≤ w2.heap.size := by have := hb2.size; simpa using this
    have X_2 : Bx w2 w.heap.size [.slice a l.length c, .int .i64 n] := Bx.via (by simp (maxDischargeDepth := 9) [X_1]) hb2
    have R_2 : Bx w2 (w.heap.size + 1) [.slice none 0 0, .int .i64 0] := Bx.via (by simp (maxDischargeDepth := 9) [R_1]) hb2
    have O_2 : Bx w2 w1.heap.size [.slice a1 l.length c1, .int .i64 n] := Bx.via (by simp (maxDischargeDepth := 9)) hb2
    clear X_1 R_1 Xk0 Xk1 Xz Rk0 Rk1 Rz B1
    have Xk0 := X_2.c 0 _ rfl
    have Xk1 := X_2.c 1 _ rfl
    have Xz := X_2.z
    have Rk0 := R_2.c 0 _ rfl
    have Rk1 := R_2.c 1 _ rfl
    have Rz := R_2.z
    have Ok0 := O_2.c 0 _ rfl
    have Ok1 := O_2.c 1 _ rfl
    have Oz := O_2.z
    go_wp2
    · refine ret_mk (.agg #[.slice a1 (n).toNat c1, .int .i64 (max (n) 0)]) (by simp [results, Try.results29, go_sem, *]) rfl ⟨a1, c1, fp1, ?_, ?_, hf', ?_⟩
      · have hE : n + fallK l n keep = n := by omega
        have hL : (List.take (n).toNat l).length = (n).toNat := by rw [List.length_take]; omega
        have hM : max (n) 0 = n := by omega
        rw [hE, hL]; rw [hM]
      · have hE : n + fallK l n keep = n := by omega
        have hL : (List.take (n).toNat l).length = (n).toNat := by rw [List.length_take]; omega
        rw [hE, hL]
        have h9 := ho2.takeF (n).toNat (c1) (by omega) (by omega) (by omega)
        exact (((h9.out hm (by simp) _).out hm (by simp) _).out hm (by simp) _).out hm (by simp) _
      · simp (maxDischargeDepth := 9) [bl_le, B2, Nat.le_trans (Nat.le_add_right _ 2) z1]
    · refine ret_mk (.agg #[.slice a1 (n + (↑l.length - n)).toNat c1, .int .i64 (max (n + (↑l.length - n)) 0)]) (by simp [results, Try.results29, go_sem, *]) rfl ⟨a1, c1, fp1, ?_, ?_, hf', ?_⟩
      · have hE : n + fallK l n keep = n + (↑l.length - n) := by omega
        have hL : (List.take (n + (↑l.length - n)).toNat l).length = (n + (↑l.length - n)).toNat := by rw [List.length_take]; omega
        have hM : max (n + (↑l.length - n)) 0 = n + (↑l.length - n) := by omega
        rw [hE, hL]; rw [hM]
      · have hE : n + fallK l n keep = n + (↑l.length - n) := by omega
        have hL : (List.take (n + (↑l.length - n)).toNat l).length = (n + (↑l.length - n)).toNat := by rw [List.length_take]; omega
        rw [hE, hL]
        have h9 := ho2.takeF (n + (↑l.length - n)).toNat (c1) (by omega) (by omega) (by omega)
        exact (((h9.out hm (by simp) _).out hm (by simp) _).out hm (by simp) _).out hm (by simp) _
      · simp (maxDischargeDepth := 9) [bl_le, B2, Nat.le_trans (Nat.le_add_right _ 2) z1]
    · refine ret_mk (.agg #[.slice a1 (n + keep).toNat c1, .int .i64 (max (n + keep) 0)]) (by simp [results, Try.results29, go_sem, *]) rfl ⟨a1, c1, fp1, ?_, ?_, hf', ?_⟩
      · have hE : n + fallK l n keep = n + keep := by omega
        have hL : (List.take (n + keep).toNat l).length = (n + keep).toNat := by rw [List.length_take]; omega
        have hM : max (n + keep) 0 = n + keep := by omega
        rw [hE, hL]; rw [hM]
      · have hE : n + fallK l n keep = n + keep := by omega
        have hL : (List.take (n + keep).toNat l).length = (n + keep).toNat := by rw [List.length_take]; omega
        rw [hE, hL]
        have h9 := ho2.takeF (n + keep).toNat (c1) (by omega) (by omega) (by omega)
        exact (((h9.out hm (by simp) _).out hm (by simp) _).out hm (by simp) _).out hm (by simp) _
      · simp (maxDischargeDepth := 9) [bl_le, B2, Nat.le_trans (Nat.le_add_right _ 2) z1]
  · rw [if_neg hok, if_neg hok]
    have hok : fileOk l n = false := by simpa using hok
    go_enter Try.func29, Try.ntmps29
    go_wp2_with fail
    refine (specCopyFile_w l n _ _ (h.to (by simp (maxDischargeDepth := 9))) hlen).mono ?_
    rintro e w1 ⟨a1, c1, fp1, rfl, ho, hf, hb1⟩
    have B1 := via (w0 := w) (by simp (maxDischargeDepth := 9)) hb1
    have hm := ho.rng hf (lo := w.heap.size + 2) (by simp)
    have hf' := hf.mono (B' := w.heap.size) (by simp; omega)
    have z1 : w.heap.size + 2 ≤ w1.heap.size := by have := hb1.size; simp at this; omega
    obtain ⟨-, -, hl1, hc1, -⟩ := hb1.open1 ho
    have X_1 : Bx w1 w.heap.size [.slice a l.length c, .int .i64 n] := Bx.via (by simp (maxDischargeDepth := 9)) hb1
    have R_1 : Bx w1 (w.heap.size + 1) [.slice none 0 0, .int .i64 0] := Bx.via (by simp (maxDischargeDepth := 9)) hb1
    have Xk0 := X_1.c 0 _ rfl
    have Xk1 := X_1.c 1 _ rfl
    have Xz := X_1.z
    have Rk0 := R_1.c 0 _ rfl
    have Rk1 := R_1.c 1 _ rfl
    have Rz := R_1.z
    go_wp2_with fail
    refine (specFileOk_w l n _ _ (h.to (by simp (maxDischargeDepth := 9) [B1]))).mono ?_
    rintro e w2 ⟨rfl, hb2⟩
    have B2 := via (w0 := w) (by simp (maxDischargeDepth := 9) [B1]) hb2
    have ho2 := (ho.alloc (.cells #[.slice a1 l.length c1, .int .i64 n] 27)).below hb2
    have z2 : w1.heap.size + 1 ≤ w2.heap.size := by have := hb2.size; simpa using this
    have X_2 : Bx w2 w.heap.size [.slice a l.length c, .int .i64 n] := Bx.via (by simp (maxDischargeDepth := 9) [X_1]) hb2
    have R_2 : Bx w2 (w.heap.size + 1) [.slice none 0 0, .int .i64 0] := Bx.via (by simp (maxDischargeDepth := 9) [R_1]) hb2
    have O_2 : Bx w2 w1.heap.size [.slice a1 l.length c1, .int .i64 n] := Bx.via (by simp (maxDischargeDepth := 9)) hb2
    clear X_1 R_1 Xk0 Xk1 Xz Rk0 Rk1 Rz B1
    have Xk0 := X_2.c 0 _ rfl
    have Xk1 := X_2.c 1 _ rfl
    have Xz := X_2.z
    have Rk0 := R_2.c 0 _ rfl
    have Rk1 := R_2.c 1 _ rfl
    have Rz := R_2.z
    have Ok0 := O_2.c 0 _ rfl
    have Ok1 := O_2.c 1 _ rfl
    have Oz := O_2.z
    go_wp2
    refine ret_mk (.agg #[.slice a1 l.length c1, .int .i64 n]) (by simp [results, Try.results29, go_sem, *]) rfl ⟨a1, c1, fp1, ?_, ?_, hf', ?_⟩
    · simp
    · exact (ho2.out hm (by simp) _).out hm (by simp) _
    · simp (maxDischargeDepth := 9) [bl_le, B2]

theorem implFall_w (l : List UInt8) (n keep : Int) (v : Value) (w : World) (h : Sl w l v) (hlen : l.length ≤ 1099511627776) :
    Calls Try.prog 30 #[.agg #[v, .int .i64 n], .int .i64 keep] w (RetF (fallB l n keep) (fallN l n keep) w) := by
  obtain ⟨a, c, rfl, hl, _⟩ := h.open
  unfold fallB fallN
  by_cases hok : fileOk l n = true
  · have hn := sureFile_l l n hok
    obtain ⟨hn1, hn2, hn3⟩ := hn
    have hkk : (keep < 0 ∧ fallK l n keep = 0) ∨ (0 ≤ keep ∧ (l.length : Int) - n < keep ∧ fallK l n keep = l.length - n) ∨ (0 ≤ keep ∧ keep ≤ l.length - n ∧ fallK l n keep = keep) := by unfold fallK; omega
    rw [if_pos hok, if_pos hok]
    go_enter Try.func30, Try.ntmps30
    go_wp2_with fail
    refine (implCopyFile_w l n _ _ (h.to (by simp (maxDischargeDepth := 9))) hlen).mono ?_
    rintro e w1 ⟨a1, c1, fp1, rfl, ho, hf, hb1⟩
    have B1 := via (w0 := w) (by simp (maxDischargeDepth := 9)) hb1
    have hm := ho.rng hf (lo := w.heap.size + 2) (by simp)
    have hf' := hf.mono (B' := w.heap.size) (by simp; omega)
    have z1 : w.heap.size + 2 ≤ w1.heap.size := by have := hb1.size; simp at this; omega
    obtain ⟨-, -, hl1, hc1, -⟩ := hb1.open1 ho
    have X_1 : Bx w1 w.heap.size [.slice a l.length c, .int .i64 n] := Bx.via (by simp (maxDischargeDepth := 9)) hb1
    have R_1 : Bx w1 (w.heap.size + 1) [.slice none 0 0, .int .i64 0] := Bx.via (by simp (maxDischargeDepth := 9)) hb1
    have Xk0 := X_1.c 0 _ rfl
    have Xk1 := X_1.c 1 _ rfl
    have Xz := X_1.z
    have Rk0 := R_1.c 0 _ rfl
    have Rk1 := R_1.c 1 _ rfl
    have Rz := R_1.z
    go_wp2_with fail
    refine (implFileOk_w l n _ _ (h.to (by simp (maxDischargeDepth := 9) [B1]))).mono ?_
    rintro e w2 ⟨rfl, hb2⟩
    have B2 := via (w0 := w) (by simp (maxDischargeDepth := 9) [B1]) hb2
    have ho2 := (ho.alloc (.cells #[.slice a1 l.length c1, .int .i64 n] 27)).below hb2
    have z2 : w1.heap.size + 1 ≤ w2.heap.size := by have := hb2.size; simpa using this
    have X_2 : Bx w2 w.heap.size [.slice a l.length c, .int .i64 n] := Bx.via (by simp (maxDischargeDepth := 9) [X_1]) hb2
    have R_2 : Bx w2 (w.heap.size + 1) [.slice none 0 0, .int .i64 0] := Bx.via (by simp (maxDischargeDepth := 9) [R_1]) hb2
    have O_2 : Bx w2 w1.heap.size [.slice a1 l.length c1, .int .i64 n] := Bx.via (by simp (maxDischargeDepth := 9)) hb2
    clear X_1 R_1 Xk0 Xk1 Xz Rk0 Rk1 Rz B1
    have Xk0 := X_2.c 0 _ rfl
    have Xk1 := X_2.c 1 _ rfl
    have Xz := X_2.z
    have Rk0 := R_2.c 0 _ rfl
    have Rk1 := R_2.c 1 _ rfl
    have Rz := R_2.z
    have Ok0 := O_2.c 0 _ rfl
    have Ok1 := O_2.c 1 _ rfl
    have Oz := O_2.z
    go_wp2
    · refine ret_mk (.agg #[.slice a1 (n).toNat (n).toNat, .int .i64 (n)]) (by simp [results, Try.results30, go_sem, *]) rfl ⟨a1, (n).toNat, fp1, ?_, ?_, hf', ?_⟩
      · have hE : n + fallK l n keep = n := by omega
        have hL : (List.take (n).toNat l).length = (n).toNat := by rw [List.length_take]; omega
        have hM : max (n) 0 = n := by omega
        rw [hE, hL]
      · have hE : n + fallK l n keep = n := by omega
        have hL : (List.take (n).toNat l).length = (n).toNat := by rw [List.length_take]; omega
        rw [hE, hL]
        have h9 := ho2.takeF (n).toNat ((n).toNat) (by omega) (by omega) (by omega)
        exact (((h9.out hm (by simp) _).out hm (by simp) _).out hm (by simp) _).out hm (by simp) _
      · simp (maxDischargeDepth := 9) [bl_le, B2, Nat.le_trans (Nat.le_add_right _ 2) z1]
    · refine ret_mk (.agg #[.slice a1 (n + (↑l.length - n)).toNat (n + (↑l.length - n)).toNat, .int .i64 (n + (↑l.length - n))]) (by simp [results, Try.results30, go_sem, *]) rfl ⟨a1, (n + (↑l.length - n)).toNat, fp1, ?_, ?_, hf', ?_⟩
      · have hE : n + fallK l n keep = n + (↑l.length - n) := by omega
        have hL : (List.take (n + (↑l.length - n)).toNat l).length = (n + (↑l.length - n)).toNat := by rw [List.length_take]; omega
        have hM : max (n + (↑l.length - n)) 0 = n + (↑l.length - n) := by omega
        rw [hE, hL]
      · have hE : n + fallK l n keep = n + (↑l.length - n) := by omega
        have hL : (List.take (n + (↑l.length - n)).toNat l).length = (n + (↑l.length - n)).toNat := by rw [List.length_take]; omega
        rw [hE, hL]
        have h9 := ho2.takeF (n + (↑l.length - n)).toNat ((n + (↑l.length - n)).toNat) (by omega) (by omega) (by omega)
        exact (((h9.out hm (by simp) _).out hm (by simp) _).out hm (by simp) _).out hm (by simp) _
      · simp (maxDischargeDepth := 9) [bl_le, B2, Nat.le_trans (Nat.le_add_right _ 2) z1]
    · refine ret_mk (.agg #[.slice a1 (n + keep).toNat (n + keep).toNat, .int .i64 (n + keep)]) (by simp [results, Try.results30, go_sem, *]) rfl ⟨a1, (n + keep).toNat, fp1, ?_, ?_, hf', ?_⟩
      · have hE : n + fallK l n keep = n + keep := by omega
        have hL : (List.take (n + keep).toNat l).length = (n + keep).toNat := by rw [List.length_take]; omega
        have hM : max (n + keep) 0 = n + keep := by omega
        rw [hE, hL]
      · have hE : n + fallK l n keep = n + keep := by omega
        have hL : (List.take (n + keep).toNat l).length = (n + keep).toNat := by rw [List.length_take]; omega
        rw [hE, hL]
        have h9 := ho2.takeF (n + keep).toNat ((n + keep).toNat) (by omega) (by omega) (by omega)
        exact (((h9.out hm (by simp) _).out hm (by simp) _).out hm (by simp) _).out hm (by simp) _
      · simp (maxDischargeDepth := 9) [bl_le, B2, Nat.le_trans (Nat.le_add_right _ 2) z1]
  · rw [if_neg hok, if_neg hok]
    have hok : fileOk l n = false := by simpa using hok
    go_enter Try.func30, Try.ntmps30
    go_wp2_with fail
    refine (implCopyFile_w l n _ _ (h.to (by simp (maxDischargeDepth := 9))) hlen).mono ?_
    rintro e w1 ⟨a1, c1, fp1, rfl, ho, hf, hb1⟩
    have B1 := via (w0 := w) (by simp (maxDischargeDepth := 9)) hb1
    have hm := ho.rng hf (lo := w.heap.size + 2) (by simp)
    have hf' := hf.mono (B' := w.heap.size) (by simp; omega)
    have z1 : w.heap.size + 2 ≤ w1.heap.size := by have := hb1.size; simp at this; omega
    obtain ⟨-, -, hl1, hc1, -⟩ := hb1.open1 ho
    have X_1 : Bx w1 w.heap.size [.slice a l.length c, .int .i64 n] := Bx.via (by simp (maxDischargeDepth := 9)) hb1
    have R_1 : Bx w1 (w.heap.size + 1) [.slice none 0 0, .int .i64 0] := Bx.via (by simp (maxDischargeDepth := 9)) hb1
    have Xk0 := X_1.c 0 _ rfl
    have Xk1 := X_1.c 1 _ rfl
    have Xz := X_1.z
    have Rk0 := R_1.c 0 _ rfl
    have Rk1 := R_1.c 1 _ rfl
    have Rz := R_1.z
    go_wp2_with fail
    refine (implFileOk_w l n _ _ (h.to (by simp (maxDischargeDepth := 9) [B1]))).mono ?_
    rintro e w2 ⟨rfl, hb2⟩
    have B2 := via (w0 := w) (by simp (maxDischargeDepth := 9) [B1]) hb2
    have ho2 := (ho.alloc (.cells #[.slice a1 l.length c1, .int .i64 n] 27)).below hb2
    have z2 : w1.heap.size + 1 ≤ w2.heap.size := by have := hb2.size; simpa using this
    have X_2 : Bx w2 w.heap.size [.slice a l.length c, .int .i64 n] := Bx.via (by simp (maxDischargeDepth := 9) [X_1]) hb2
    have R_2 : Bx w2 (w.heap.size + 1) [.slice none 0 0, .int .i64 0] := Bx.via (by simp (maxDischargeDepth := 9) [R_1]) hb2
    have O_2 : Bx w2 w1.heap.size [.slice a1 l.length c1, .int .i64 n] := Bx.via (by simp (maxDischargeDepth := 9)) hb2
    clear X_1 R_1 Xk0 Xk1 Xz Rk0 Rk1 Rz B1
    have Xk0 := X_2.c 0 _ rfl
    have Xk1 := X_2.c 1 _ rfl
    have Xz := X_2.z
    have Rk0 := R_2.c 0 _ rfl
    have Rk1 := R_2.c 1 _ rfl
    have Rz := R_2.z
    have Ok0 := O_2.c 0 _ rfl
    have Ok1 := O_2.c 1 _ rfl
    have Oz := O_2.z
    go_wp2
    refine ret_mk (.agg #[.slice a1 l.length c1, .int .i64 n]) (by simp [results, Try.results30, go_sem, *]) rfl ⟨a1, c1, fp1, ?_, ?_, hf', ?_⟩
    · simp
    · exact (ho2.out hm (by simp) _).out hm (by simp) _
    · simp (maxDischargeDepth := 9) [bl_le, B2]

end Go.Proofs.Ytojlnmenfikhbaa
