/- Frames as data, and their part of the laws' harness. -/
import Derived.Test.YtojlnmenfikhbaaTypes
import Derived.Test.YtojlnmenfikhbaaHarnB
import Derived.Test.YtojlnmenfikhbaaFile
namespace Go.Proofs.Ytojlnmenfikhbaa
open Go.RowKit
open Cel (rd own rd_len rd_one own_rd own_lt rd_below rd_mono own_keep)

structure FrameD where
  B : List UInt8
instance : Cel FrameD := Cel.iso fun f => f.B

theorem cell_below {w w1 : World} {b o : Nat} {v : Value} (h : Below w.heap.size w w1) (g : b < w.heap.size) (e : w.cell? ⟨b, o, none⟩ = some v) : w1.cell? ⟨b, o, none⟩ = some v := by
  unfold World.cell? at e ⊢
  rw [h.block b g]; exact e

theorem Sl.frame {w : World} {l : List FrameD} {a : Option Addr} {n c : Nat} (h : Sl w l (.slice a n c)) (i : Nat) (hi : i < l.length) :
    ∃ b o v, a = some ⟨b, o, none⟩ ∧ w.cell? ⟨b, o + i, none⟩ = some v ∧ b < w.heap.size ∧ Sl w (l[i]).B v := by
  obtain ⟨b, o, vs, h1, h2, ⟨v, rfl, h4⟩, h3⟩ := h.at i hi
  have hk : Cel.k FrameD = 1 := rfl
  exact ⟨b, o, v, h1, by simpa [hk] using h3 0 (by rw [hk]; decide), h2, h4⟩

theorem eqFrame_w (l : List UInt8) (v1 v2 : Value) (w : World) (h1 : Sl w l v1) (h2 : Sl w l v2) :
    Calls Try.prog 79 #[.agg #[v1], .agg #[v2]] w (RetB true w) := by
  obtain ⟨a1, c1, rfl, hl, _⟩ := h1.open
  obtain ⟨a2, c2, rfl, _⟩ := h2.open
  go_enter Try.func79, Try.ntmps79
  go_wp2_with fail
  refine (eqByteS_w l _ _ _ (h1.to (by simp (maxDischargeDepth := 9))) (h2.to (by simp (maxDischargeDepth := 9)))).mono ?_
  rintro e w1 ⟨rfl, hb1⟩
  have B1 := via (w0 := w) (by simp (maxDischargeDepth := 9)) hb1
  go_wp2
  go_ret
  exact ⟨rfl, by simp [B1]⟩

theorem eqFrameS_w (l : List FrameD) (v1 v2 : Value) (w : World) (h1 : Sl w l v1) (h2 : Sl w l v2) :
    Calls Try.prog 51 #[v1, v2] w (RetB true w) := by
  obtain ⟨a1, c1, rfl, hl, _⟩ := h1.open
  obtain ⟨a2, c2, rfl, _⟩ := h2.open
  go_enter Try.func51, Try.ntmps51
  go_wp2
  go_loopw [5] (fun i wr => Below w.heap.size w wr ∧ ∃ k : Nat, i = .int .i64 k ∧ k ≤ l.length) (fun i _ => l.length - (intOf i).toNat)
  case atStart => exact ⟨Below.refl _ _, 0, rfl, by omega⟩
  case round =>
    obtain ⟨hB, k, rfl, hk⟩ := hrel
    by_cases hlt : k < l.length
    · obtain ⟨b, o, v, rfl, e1, g1, k1⟩ := (h1.to hB).frame k hlt
      obtain ⟨b', o', v', rfl, e2, g2, k2⟩ := (h2.to hB).frame k hlt
      clear h1 h2
      generalize (l[k]).B = x at *
      go_wp2
      go_region_held3 (fun w' => w'.cell? ⟨b, o + k, none⟩ = some v ∧ w'.cell? ⟨b', o' + k, none⟩ = some v') (go_keep)
        (first | (go_at_call 79; refine (eqFrame_w x _ _ _ (k1.to (by simp (maxDischargeDepth := 9))) (k2.to (by simp (maxDischargeDepth := 9)))).mono ?_; rintro e w1 ⟨rfl, hb1⟩; have V1 := via (w0 := wr) (by simp (maxDischargeDepth := 9)) hb1; have r1 := cell_below V1 g1 e1; have r2 := cell_below V1 g2 e2))
      have B1 := via (w0 := w) (by simp (maxDischargeDepth := 9) [hB]) hb1
      go_wp2
      go_roundw
      case rel => exact ⟨by simp [B1], k + 1, by go_num, by omega⟩
      case measure => simp [intOf]; omega
    · go_wp2
      go_ret
      exact ⟨rfl, hB⟩
end Go.Proofs.Ytojlnmenfikhbaa
