/- Files. -/
import Derived.Test.YtojlnmenfikhbaaHarnB
import Derived.Deep.RegionHeld3
import Derived.StillTailTactics
namespace Go.Proofs.Ytojlnmenfikhbaa
open Go.RowKit
open Cel (rd own rd_len rd_one own_rd own_lt rd_below rd_mono own_keep)

theorem clone1_w (l : List UInt8) (v : Value) (w : World) (h : Sl w l v) (hlen : l.length ≤ 1099511627776) :
    Calls Try.prog 63 #[v] w (RetS l w) := by
  obtain ⟨a, c, rfl, hl, _, hlc, hc⟩ := h.open
  have e1 := fun w => Lib.run_eql_slice_nil (P := Try.prog) w 22 5 a l.length c 0 0 Try.underlying22
  cases a with
  | none =>
    obtain rfl : c = 0 := hc rfl
    obtain rfl : l = [] := List.eq_nil_of_length_eq_zero (by omega)
    clear hc h hl hlc hlen
    simp only [Option.isNone_none, List.length_nil] at e1 ⊢
    go_enter Try.func63, Try.ntmps63
    go_wp2
    go_ret
    exact ⟨none, 0, [], rfl, OwnS.nil w, Fr.nil _, Below.refl _ _⟩
  | some ad =>
    have h' := h.to ((Below.refl w.heap.size w).alloc (Nat.le_refl _) (.cells #[] 5))
    have hfr : Fr w.heap.size [w.heap.size] := ⟨by simp, by simp⟩
    have hby : (([] : List UInt8).length + l.length) * 1 ≤ 140737488355328 := by simp; omega
    have hml : ([] : List UInt8).length + l.length ≤ maxLen := by simp [maxLen]; omega
    go_enter Try.func63, Try.ntmps63
    go_wp2_with (at_builtin; go_loud (refine wpList_appendF (α := UInt8) (l := []) (B := w.heap.size) rfl _ _ _ rfl sl22 rfl (OwnS.made w _ _ 0 (by decide) (by simp)) rfl h' hfr (by simp) hby hml ?_); intro a' c' w' fp' h1 h2 h3 h4 _)
    go_ret
    refine ⟨a', c', fp', ?_, ?_, h2, ?_⟩
    · simp
    · simpa using h1
    · exact ((Below.refl _ _).alloc (Nat.le_refl _) _).trans h4


def inR (n a b : Int) : Bool := decide (a ≤ n) && decide (n ≤ b)

theorem specIn_w (n a b : Int) (w : World) : Calls Try.prog 57 #[.int .i64 n, .int .i64 a, .int .i64 b] w (RetB (inR n a b) w) := by
  unfold inR
  by_cases h1 : a ≤ n
  · have h2 : decide (a ≤ n) = true := decide_eq_true h1
    go_enter Try.func57, Try.ntmps57
    go_wp2
    all_goals go_ret
    all_goals exact ⟨by simp [h1], Below.refl _ _⟩
  · have h2 : decide (a ≤ n) = false := decide_eq_false h1
    go_enter Try.func57, Try.ntmps57
    go_wp2
    go_ret
    exact ⟨by simp, Below.refl _ _⟩

theorem implIn_w (n a b : Int) (w : World) : Calls Try.prog 58 #[.int .i64 n, .int .i64 a, .int .i64 b] w (RetB (inR n a b) w) := by
  unfold inR
  by_cases h1 : a ≤ n
  · have h2 : decide (a ≤ n) = true := decide_eq_true h1
    go_enter Try.func58, Try.ntmps58
    go_wp2
    all_goals go_ret
    all_goals exact ⟨by simp [h1], Below.refl _ _⟩
  · have h2 : decide (a ≤ n) = false := decide_eq_false h1
    go_enter Try.func58, Try.ntmps58
    go_wp2
    go_ret
    exact ⟨by simp, Below.refl _ _⟩

def fileOk (l : List UInt8) (n : Int) : Bool := decide (l.length ≤ 20000) && inR n 0 l.length

theorem specFileOk_w (l : List UInt8) (n : Int) (v : Value) (w : World) (h : Sl w l v) :
    Calls Try.prog 16 #[.agg #[v, .int .i64 n]] w (RetB (fileOk l n) w) := by
  obtain ⟨a, c, rfl, hl, _⟩ := h.open
  unfold fileOk
  by_cases h1 : l.length ≤ 20000
  · have h2 : decide (l.length ≤ 20000) = true := decide_eq_true h1
    go_enter Try.func16, Try.ntmps16
    go_wp2_with (go_at_call 57; refine (specIn_w _ _ _ _).mono ?_; rintro e w1 ⟨rfl, hb⟩)
    go_ret
    exact ⟨by simp [h1], ((Below.refl _ _).alloc (Nat.le_refl _) _).trans (hb.mono (by simp))⟩
  · have h2 : decide (l.length ≤ 20000) = false := decide_eq_false h1
    go_enter Try.func16, Try.ntmps16
    go_wp2
    go_ret
    exact ⟨by simp, (Below.refl _ _).alloc (Nat.le_refl _) _⟩

theorem implFileOk_w (l : List UInt8) (n : Int) (v : Value) (w : World) (h : Sl w l v) :
    Calls Try.prog 18 #[.agg #[v, .int .i64 n]] w (RetB (fileOk l n) w) := by
  obtain ⟨a, c, rfl, hl, _⟩ := h.open
  unfold fileOk
  by_cases h1 : l.length ≤ 20000
  · have h2 : decide (l.length ≤ 20000) = true := decide_eq_true h1
    go_enter Try.func18, Try.ntmps18
    go_wp2_with (go_at_call 58; refine (implIn_w _ _ _ _).mono ?_; rintro e w1 ⟨rfl, hb⟩)
    go_ret
    exact ⟨by simp [h1], ((Below.refl _ _).alloc (Nat.le_refl _) _).trans (hb.mono (by simp))⟩
  · have h2 : decide (l.length ≤ 20000) = false := decide_eq_false h1
    go_enter Try.func18, Try.ntmps18
    go_wp2
    go_ret
    exact ⟨by simp, (Below.refl _ _).alloc (Nat.le_refl _) _⟩

theorem implCopyFile_w (l : List UInt8) (n : Int) (v : Value) (w : World) (h : Sl w l v) (hlen : l.length ≤ 1099511627776) :
    Calls Try.prog 60 #[.agg #[v, .int .i64 n]] w fun e w' =>
      ∃ a c fp, e = .returned (.agg #[.slice a l.length c, .int .i64 n]) ∧ OwnS w' l (.slice a l.length c) fp ∧ Fr w.heap.size fp ∧ Below w.heap.size w w' := by
  obtain ⟨a, c, rfl, hl, _⟩ := h.open
  go_enter Try.func60, Try.ntmps60
  go_wp2
  go_region_held3 (fun w' => w'.cell? ⟨w.heap.size, 0, none⟩ = some (.slice a l.length c) ∧ w'.cell? ⟨w.heap.size, 1, none⟩ = some (.int .i64 n)) (go_keep)
    (first | (go_at_call 63; refine (clone1_w l _ _ (h.to ?_) hlen).mono ?_; exact (((Below.refl _ _).alloc (Nat.le_refl _) _).alloc (by simp) _).drew; rintro e w1 ⟨a', c', fp', rfl, ho, hf, hb⟩; obtain ⟨hc, hfz⟩ := bcell (B := w.heap.size + 2) (hb.mono (by simp))))
  go_wp2
  have h3 := via (w0 := w) (by simp (maxDischargeDepth := 9)) hb
  refine ret_mk (.agg #[.slice a' l.length c', .int .i64 n]) (by simp [results, Try.results60, go_sem, hc]) rfl ⟨a', c', fp', rfl, (ho.low hf (by simp) _).low hf (by simp) _, hf.mono (by simp; omega), ?_⟩
  simp (maxDischargeDepth := 9) [bl_le, h3]


theorem specCopyFile_w (l : List UInt8) (n : Int) (v : Value) (w : World) (h : Sl w l v) (hlen : l.length ≤ 1099511627776) :
    Calls Try.prog 59 #[.agg #[v, .int .i64 n]] w fun e w' =>
      ∃ a c fp, e = .returned (.agg #[.slice a l.length c, .int .i64 n]) ∧ OwnS w' l (.slice a l.length c) fp ∧ Fr w.heap.size fp ∧ Below w.heap.size w w' := by
  obtain ⟨a, c, rfl, hl, _⟩ := h.open
  have hby : (([] : List UInt8).length + l.length) * 1 ≤ 140737488355328 := by simp; omega
  have hml : ([] : List UInt8).length + l.length ≤ maxLen := by simp [maxLen]; omega
  have hfr : Fr (w.heap.size + 2) [w.heap.size + 2] := ⟨by simp, by simp⟩
  go_enter Try.func59, Try.ntmps59
  go_wp2
  go_region_held3 (fun w' => w'.cell? ⟨w.heap.size, 0, none⟩ = some (.slice a l.length c) ∧ w'.cell? ⟨w.heap.size, 1, none⟩ = some (.int .i64 n)) (go_keep)
    ((refine step_appendF (α := UInt8) (l := []) (B := w.heap.size + 2) (fp := [w.heap.size + 2]) (by rfl) (.tmp 3) (.tmp 5) 22 (by rfl) sl22 (by rfl) ?ho (by rfl) (h.to ?_) hfr ?_ hby hml ?_; (refine OwnS.drew ?_; refine OwnS.madeAt _ _ _ _ _ ?_ ?_ ?_ <;> simp [maxLen]); simp (maxDischargeDepth := 9); simp; intro a' c' w1 fp' h1 h2 h3 h4 _; obtain ⟨hc, hfz⟩ := bcell h4))
  go_wp2
  simp only [List.length_nil, Nat.zero_add, List.nil_append] at h1
  have h5 : Below w.heap.size w w1 := Below.trans (by simp (maxDischargeDepth := 9)) (h4.mono (by omega))
  refine ret_mk (.agg #[.slice a' l.length c', .int .i64 n]) (by simp [results, Try.results59, go_sem, hc]) rfl ⟨a', c', fp', rfl, (h1.low h2 (by simp) _).low h2 (by simp) _, h2.mono (by omega), ?_⟩
  simp (maxDischargeDepth := 9) [bl_le, h5]

/-- What a call hands back that makes a file. -/
def RetF (l : List UInt8) (n : Int) (w : World) (e : Ending) (w' : World) : Prop :=
  ∃ a c fp, e = .returned (.agg #[.slice a l.length c, .int .i64 n]) ∧ OwnS w' l (.slice a l.length c) fp ∧ Fr w.heap.size fp ∧ Below w.heap.size w w'

theorem sureFile_l (l : List UInt8) (n : Int) : fileOk l n = true → n ≤ l.length ∧ 0 ≤ n ∧ l.length ≤ 20000 := by
  simp [fileOk, inR]; omega

def sureN (l : List UInt8) (n : Int) : Int := if fileOk l n then l.length else n

theorem specSure_w (l : List UInt8) (n : Int) (v : Value) (w : World) (h : Sl w l v) (hlen : l.length ≤ 1099511627776) :
    Calls Try.prog 20 #[.agg #[v, .int .i64 n]] w (RetF l (sureN l n) w) := by
  obtain ⟨a, c, rfl, hl, _⟩ := h.open
  unfold sureN
  by_cases hok : fileOk l n = true
  all_goals
    go_enter Try.func20, Try.ntmps20
    go_wp2_with fail
    refine (specCopyFile_w l n _ _ (h.to (by simp (maxDischargeDepth := 9))) hlen).mono ?_
    rintro e w1 ⟨a', c', fp', rfl, ho, hf, hb⟩
    have h5 := via (w0 := w) (by simp (maxDischargeDepth := 9)) hb
    obtain ⟨hc, hfz⟩ := bcell (B := w.heap.size + 2) (hb.mono (by simp))
    have hm := ho.rng hf (lo := w.heap.size + 2) (by simp)
    have z := hb.size
    simp only [World.size_alloc] at z
    have z0 : w.heap.size < w1.heap.size := by omega
    have z1 : w.heap.size + 1 < w1.heap.size := by omega
    go_wp2_with fail
    refine (specFileOk_w l n _ _ (h.to (by simp (maxDischargeDepth := 9) [h5]))).mono ?_
    rintro e w2 ⟨rfl, hb2⟩
    have h6 := via (w0 := w) (by simp (maxDischargeDepth := 9) [h5]) hb2
    obtain ⟨hc2, hfz2⟩ := bcell hb2
    go_wp2
  · refine ret_mk (.agg #[.slice a' l.length c', .int .i64 l.length]) (by simp [results, Try.results20, go_sem, hc2, hc, z0, z1]) rfl ⟨a', c', fp', ?_, ?_, hf.mono (by simp; omega), ?_⟩
    · simp
    · exact ((((ho.alloc _).below hb2).out hm (by simp) _).out hm (by simp) _).out hm (by simp) _
    · simp (maxDischargeDepth := 9) [bl_le, h6, Nat.le_of_lt z0]
  · refine ret_mk (.agg #[.slice a' l.length c', .int .i64 n]) (by simp [results, Try.results20, go_sem, hc2, hc, z0, z1]) rfl ⟨a', c', fp', ?_, ?_, hf.mono (by simp; omega), ?_⟩
    · simp
    · exact (((ho.alloc _).below hb2).out hm (by simp) _).out hm (by simp) _
    · simp (maxDischargeDepth := 9) [bl_le, h6]

theorem implSure_w (l : List UInt8) (n : Int) (v : Value) (w : World) (h : Sl w l v) (hlen : l.length ≤ 1099511627776) :
    Calls Try.prog 21 #[.agg #[v, .int .i64 n]] w (RetF l (sureN l n) w) := by
  obtain ⟨a, c, rfl, hl, _⟩ := h.open
  unfold sureN
  by_cases hok : fileOk l n = true
  all_goals
    go_enter Try.func21, Try.ntmps21
    go_wp2_with fail
    refine (implCopyFile_w l n _ _ (h.to (by simp (maxDischargeDepth := 9))) hlen).mono ?_
    rintro e w1 ⟨a', c', fp', rfl, ho, hf, hb⟩
    have B1 := via (w0 := w) (by simp (maxDischargeDepth := 9)) hb
    have X0 : Bx w1 w.heap.size [.slice a l.length c, .int .i64 n] := Bx.via (by simp (maxDischargeDepth := 9)) hb
    have X1 : Bx w1 (w.heap.size + 1) [.slice none 0 0, .int .i64 0] := Bx.via (by simp (maxDischargeDepth := 9)) hb
    have k00 := X0.c 0 _ rfl
    have k01 := X0.c 1 _ rfl
    have hm := ho.rng hf (lo := w.heap.size + 2) (by simp)
    go_wp2_with fail
    refine (implFileOk_w l n _ _ (h.to (by simp (maxDischargeDepth := 9) [B1]))).mono ?_
    rintro e w2 ⟨rfl, hb2⟩
    have B2 := via (w0 := w) (by simp (maxDischargeDepth := 9) [B1]) hb2
    have Y0 : Bx w2 w.heap.size [.slice a l.length c, .int .i64 n] := Bx.via (by simp (maxDischargeDepth := 9) [X0]) hb2
    have Y1 : Bx w2 (w.heap.size + 1) [.slice none 0 0, .int .i64 0] := Bx.via (by simp (maxDischargeDepth := 9) [X1]) hb2
    have Y2 : Bx w2 w1.heap.size [.slice a' l.length c', .int .i64 n] := Bx.via (by simp (maxDischargeDepth := 9)) hb2
    have z1 := X1.lt
    clear X0 X1 k00 k01
    have k00 := Y0.c 0 _ rfl
    have k01 := Y0.c 1 _ rfl
    have k10 := Y1.c 0 _ rfl
    have k11 := Y1.c 1 _ rfl
    have k1z := Y1.z
    have k20 := Y2.c 0 _ rfl
    have k21 := Y2.c 1 _ rfl
    have k2z := Y2.z
    go_wp2
  · refine ret_mk (.agg #[.slice a' l.length c', .int .i64 l.length]) (by simp [results, Try.results21, go_sem, *]) rfl ⟨a', c', fp', ?_, ?_, hf.mono (by simp; omega), ?_⟩
    · simp
    · exact ((((ho.alloc _).below hb2).out hm (by simp) _).out hm (by simp) _).out hm (by simp) _
    · simp (maxDischargeDepth := 9) [bl_le, B2, Nat.le_of_lt (Nat.lt_of_succ_lt z1)]
  · refine ret_mk (.agg #[.slice a' l.length c', .int .i64 n]) (by simp [results, Try.results21, go_sem, *]) rfl ⟨a', c', fp', ?_, ?_, hf.mono (by simp; omega), ?_⟩
    · simp
    · exact (((ho.alloc _).below hb2).out hm (by simp) _).out hm (by simp) _
    · simp (maxDischargeDepth := 9) [bl_le, B2]

end Go.Proofs.Ytojlnmenfikhbaa
