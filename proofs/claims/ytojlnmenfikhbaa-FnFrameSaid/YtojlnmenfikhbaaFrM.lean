/- Rows of frames, marked and held. -/
import Derived.Test.YtojlnmenfikhbaaFrT
namespace Go.Proofs.Ytojlnmenfikhbaa
open Go.RowKit
open Cel (rd own rd_len rd_one own_rd own_lt rd_below rd_mono own_keep)

theorem setSame {w : World} {g j : Nat} {cur : Array Value} {e : TypeId} {v : Value} (hg : w.heap[g]? = some (.cells cur e (0, 0))) (hj : j < cur.size) (hv : w.cell? ⟨g, j, none⟩ = some v) :
    (setCells w g j [v]).heap[g]? = w.heap[g]? := by
  rw [setCells_heap g j e [v] w 0 cur hg (by simp; omega), hg]
  have h1 : cur[j]? = some v := by simpa [World.cell?, hg] using hv
  have h2 : cur[j] = v := by simpa [hj] using h1
  congr 2
  apply Array.toList_inj.mp
  apply List.ext_getElem?
  intro i
  subst h2
  rcases Nat.lt_trichotomy i j with h | h | h
  · rw [List.append_assoc, List.getElem?_append_left (by simp; omega)]
    simp [h]
  · subst h; simp [hj, Nat.min_eq_left (Nat.le_of_lt hj)]
  · rw [List.getElem?_append_right (by simp; omega)]
    simp [Nat.min_eq_left (Nat.le_of_lt hj)]
    congr 1; omega

theorem OwnS.frame {w : World} {l : List FrameD} {g n c : Nat} {fp : List Nat} (h : OwnS w l (.slice (some ⟨g, 0, none⟩) n c) fp) (hn : fp.Nodup) (i : Nat) (hi : i < l.length) :
    ∃ v f, w.cell? ⟨g, i, none⟩ = some v ∧ OwnS w (l[i]).B v f ∧ f.Nodup ∧ (∀ b ∈ f, b ∈ fp) ∧
      ∀ w' x, OwnS w' x v f → Chg f w w' → OwnS w' (l.set i ⟨x⟩) (.slice (some ⟨g, 0, none⟩) n c) fp := by
  obtain ⟨vs, f, ⟨v, rfl, h1⟩, h2, h3, h4, h5, h6, h7⟩ := h.upd hn i hi
  have hk : Cel.k FrameD = 1 := rfl
  have e1 : w.cell? ⟨g, i, none⟩ = some v := by simpa [hk] using h2 0 (by rw [hk]; decide)
  refine ⟨v, f, e1, h1, h4, h3, fun w' x hx hc => h7 w' [v] ⟨x⟩ ⟨v, rfl, hx⟩ ?_ fun b hb hbg hbf => hc.block b (h.lt b hb) hbf⟩
  rw [hc.block g (h.lt g h6) h5, hk, Nat.mul_one]
  rcases h with ⟨h, _⟩ | ⟨g', c', cur, e, vss, fps, h, hg, hlc, hcm, hsz, rfl, hl, ht⟩
  · cases h
  · cases h
    rw [hk] at hsz
    exact (setSame hg (by omega) e1).symm

def markF : List FrameD → Nat → List FrameD
  | [], _ => []
  | x :: xs, k => ⟨markB x.B k⟩ :: markF xs (k + x.B.length)
def sumB : List FrameD → Nat
  | [] => 0
  | x :: xs => x.B.length + sumB xs
theorem markF_len (l : List FrameD) : ∀ k, (markF l k).length = l.length := by
  induction l with
  | nil => intro k; rfl
  | cons x xs ih => intro k; simp [markF, ih]
theorem sumB_take : ∀ (l : List FrameD) (i : Nat) (h : i < l.length), sumB (l.take (i + 1)) = sumB (l.take i) + (l[i]).B.length := by
  intro l
  induction l with
  | nil => intro i h; simp at h
  | cons x xs ih =>
    intro i h
    cases i with
    | zero => simp [sumB]
    | succ i => simp only [List.take_succ_cons, sumB, List.getElem_cons_succ]; rw [ih i (by simpa using h)]; omega
theorem sumB_le : ∀ (l : List FrameD) (i : Nat), sumB (l.take i) ≤ sumB l := by
  intro l
  induction l with
  | nil => intro i; simp
  | cons x xs ih =>
    intro i
    cases i with
    | zero => simp [sumB]
    | succ i => simp only [List.take_succ_cons, sumB]; have := ih i; omega
theorem markF_set : ∀ (l : List FrameD) (k i : Nat) (h : i < l.length), ((markF (l.take i) k ++ l.drop i).set i ⟨markB (l[i]).B (k + sumB (l.take i))⟩) = markF (l.take (i + 1)) k ++ l.drop (i + 1) := by
  intro l
  induction l with
  | nil => intro k i h; simp at h
  | cons x xs ih =>
    intro k i h
    cases i with
    | zero => simp [markF, sumB]
    | succ i =>
      have := ih (k + x.B.length) i (by simpa using h)
      simp only [List.take_succ_cons, List.drop_succ_cons, markF, sumB, List.cons_append, List.set_cons_succ, List.getElem_cons_succ]
      rw [← this, Nat.add_assoc]
theorem markF_at (l : List FrameD) (k i : Nat) (h : i < l.length) (h' : i < (markF (l.take i) k ++ l.drop i).length) : (markF (l.take i) k ++ l.drop i)[i] = l[i] := by
  rw [List.getElem_append_right (by rw [markF_len]; simp; omega)]
  simp [markF_len, Nat.min_eq_left (Nat.le_of_lt h)]

theorem markFrameS_w (l : List FrameD) (v : Value) (fp : List Nat) (K : Int) (w : World) (h : OwnS w l v fp) (hn : fp.Nodup) (h0 : 0 ≤ K) (hk : K + sumB l ≤ 1099511627776) (hl : l.length ≤ 1099511627776) :
    Calls Try.prog 52 #[v, .int .i64 K] w fun e w' => e = .returned (.int .i64 (K + sumB l)) ∧ OwnS w' (markF l K.toNat) v fp ∧ Chg fp w w' := by
  obtain ⟨k, rfl⟩ := Int.eq_ofNat_of_zero_le h0
  rw [Int.toNat_natCast]
  obtain ⟨a, c, rfl⟩ := h.open
  go_enter Try.func52, Try.ntmps52
  go_wp2
  go_loopw [1, 5] (fun kk i wr => ∃ j : Nat, i = .int .i64 j ∧ kk = .int .i64 ((k : Int) + sumB (l.take j)) ∧ j ≤ l.length ∧ OwnS wr (markF (l.take j) k ++ l.drop j) (.slice a l.length c) fp ∧ Chg fp w wr) (fun _ i _ => l.length - (intOf i).toNat)
  case atStart => exact ⟨0, rfl, by simp [sumB], by omega, by simpa [markF] using h, Chg.refl _ _⟩
  case round =>
    obtain ⟨j, rfl, rfl, hj, ho, hc⟩ := hrel
    by_cases hlt : j < l.length
    · obtain ⟨g, rfl⟩ := ho.row (by simp [markF_len]; omega)
      obtain ⟨v, f, e1, o1, n1, m1, u1⟩ := ho.frame hn j (by simp [markF_len]; omega)
      rw [markF_at l k j hlt] at o1
      have hs := sumB_take l j hlt
      have hs2 := sumB_le l (j + 1)
      go_wp2_with fail
      refine (markByteS_w _ _ f ((k : Int) + sumB (l.take j)) _ o1 n1 (by omega) (by omega)).mono ?_
      rintro e w1 ⟨rfl, o2, c2⟩
      have hkk : ((k : Int) + sumB (l.take j)).toNat = k + sumB (l.take j) := by omega
      rw [hkk] at o2
      have o3 := u1 w1 _ o2 c2
      rw [markF_set l k j hlt] at o3
      have c3 : Chg fp w w1 := hc.trans ⟨c2.os, c2.tape, c2.output, c2.size, fun b hb hb' => c2.block b hb fun hm => hb' (m1 b hm)⟩
      clear ho h hs2 o1 o2 c2 u1 e1
      go_wp2
      go_roundw
      case rel => exact ⟨j + 1, by go_num, by rw [hs]; congr 1; omega, by omega, o3, c3⟩
      case measure => simp [intOf]; omega
    · go_wp2
      go_ret
      obtain rfl : j = l.length := by omega
      exact ⟨by simp, by simpa using ho, hc⟩

theorem markF_get : ∀ (l : List FrameD) (k i : Nat) (h : i < l.length) (h' : i < (markF l k).length), ((markF l k)[i]).B = markB (l[i]).B (k + sumB (l.take i)) := by
  intro l
  induction l with
  | nil => intro k i h; simp at h
  | cons x xs ih =>
    intro k i h h'
    cases i with
    | zero => simp [markF, sumB]
    | succ i => simp only [markF, List.getElem_cons_succ, List.take_succ_cons, sumB]; rw [ih _ i (by simpa using h)]; congr 1; omega

theorem heldFrameS_w (l : List FrameD) (v : Value) (K : Int) (w : World) (h0 : 0 ≤ K) (h : Sl w (markF l K.toNat) v) (hk : K + sumB l ≤ 1099511627776) (hll : l.length ≤ 1099511627776) :
    Calls Try.prog 53 #[v, .int .i64 K] w (RetI (K + sumB l) w) := by
  obtain ⟨k, rfl⟩ := Int.eq_ofNat_of_zero_le h0
  rw [Int.toNat_natCast] at h
  have hml := markF_len l k
  obtain ⟨a, c, rfl, hl, _⟩ := h.open
  rw [hml] at hl ⊢
  go_enter Try.func53, Try.ntmps53
  go_wp2
  go_loopw [1, 5] (fun kk i wr => Below w.heap.size w wr ∧ ∃ j : Nat, i = .int .i64 j ∧ kk = .int .i64 ((k : Int) + sumB (l.take j)) ∧ j ≤ l.length) (fun _ i _ => l.length - (intOf i).toNat)
  case atStart => exact ⟨Below.refl _ _, 0, rfl, by simp [sumB], by omega⟩
  case round =>
    obtain ⟨hb, j, rfl, rfl, hj⟩ := hrel
    by_cases hlt : j < l.length
    · obtain ⟨b, o, v, rfl, e1, g1, o1⟩ := (h.to hb).frame j (by rw [hml]; exact hlt)
      rw [markF_get l k j hlt] at o1
      have hs := sumB_take l j hlt
      have hs2 := sumB_le l (j + 1)
      have hkk : ((k : Int) + sumB (l.take j)).toNat = k + sumB (l.take j) := by omega
      rw [← hkk] at o1
      have hu : (k : Int) + sumB (l.take (j + 1)) = (k : Int) + sumB (l.take j) + (l[j]).B.length := by rw [hs]; omega
      have hp : 0 ≤ (k : Int) + sumB (l.take j) := by omega
      go_wp2_with fail
      refine (heldByteS_w (l[j]).B _ ((k : Int) + sumB (l.take j)) _ hp o1 (by omega)).mono ?_
      rintro e w1 ⟨rfl, hb1⟩
      have B1 := via (w0 := w) hb hb1
      rw [← hu]
      have hp2 : 0 ≤ (k : Int) + sumB (l.take (j + 1)) := by omega
      replace hu := Lib.hid hu
      clear hs hs2 hkk o1 e1 h
      go_wp2
      go_roundw
      case rel => exact ⟨B1, j + 1, by go_num, rfl, by omega⟩
      case measure => simp [intOf]; omega
    · go_wp2
      go_ret
      obtain rfl : j = l.length := by omega
      exact ⟨by simp, hb⟩
end Go.Proofs.Ytojlnmenfikhbaa
