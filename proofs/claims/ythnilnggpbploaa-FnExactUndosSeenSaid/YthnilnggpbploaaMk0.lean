/- An element of an owned row is changed cell by cell; lists that are marked. No program in sight. -/
import Derived.Test.YthnilnggpbploaaStrS
namespace Go.Proofs.Ythnilnggpbploaa
open Go.RowKit
open Cel (rd own rd_len rd_one own_rd own_lt rd_below rd_mono own_keep)

theorem seg_set {β : Type} (c vs : List β) (o m : Nat) (v : β) (hm : m < vs.length) (hl : o + vs.length ≤ c.length) (hs : ∀ j, j < vs.length → c[o + j]? = vs[j]?) : c.set (o + m) v = c.take o ++ vs.set m v ++ c.drop (o + vs.length) := by
  apply List.ext_getElem?
  intro i
  rw [List.append_assoc]
  have h1 : (c.take o).length = o := by simp; omega
  rcases Nat.lt_or_ge i o with h | h
  · rw [List.getElem?_append_left (by omega), List.getElem?_take, if_pos h, List.getElem?_set_ne (by omega)]
  · rw [List.getElem?_append_right (by omega), h1]
    obtain ⟨j, rfl⟩ : ∃ j, i = o + j := ⟨i - o, by omega⟩
    rw [Nat.add_sub_cancel_left]
    rcases Nat.lt_or_ge j vs.length with h2 | h2
    · rw [List.getElem?_append_left (by simp; omega), List.getElem?_set, List.getElem?_set, ← hs j h2]
      by_cases e : m = j
      · subst e
        rw [if_pos rfl, if_pos rfl, if_pos hm, if_pos (by omega)]
      · rw [if_neg e, if_neg (by omega)]
    · rw [List.getElem?_append_right (by simp; omega), List.getElem?_drop, List.getElem?_set_ne (by omega), List.length_set]
      congr 1; omega
theorem seg_same {β : Type} (c vs : List β) (o : Nat) (hl : o + vs.length ≤ c.length) (hs : ∀ j, j < vs.length → c[o + j]? = vs[j]?) : c.take o ++ vs ++ c.drop (o + vs.length) = c := by
  cases vs with
  | nil => simp
  | cons v vs =>
    have h0 := hs 0 (by simp)
    have := seg_set c (v :: vs) o 0 v (by simp) hl hs
    rw [List.set_cons_zero] at this
    rw [← this]
    simp at h0
    apply List.ext_getElem?
    intro i
    rw [List.getElem?_set]
    split
    · rename_i e; subst e
      simp at hl
      rw [if_pos (by simp; omega), Nat.add_zero, h0]
    · rfl

/-- An element of an owned row: one cell of it is stored anew, or what it owns is changed. -/
theorem OwnS.el {α : Type} [Cel α] {w : World} {l : List α} {g n c : Nat} {fp : List Nat} (h : OwnS w l (.slice (some ⟨g, 0, none⟩) n c) fp) (hn : fp.Nodup) (i : Nat) (hi : i < l.length) :
    ∃ vs f, own w vs l[i] f ∧ (∀ j, j < Cel.k α → w.cell? ⟨g, i * Cel.k α + j, none⟩ = vs[j]?) ∧ (∀ b ∈ f, b ∈ fp) ∧ f.Nodup ∧ g ∉ f ∧ g ∈ fp ∧
      (∀ m v x', m < Cel.k α → own w (vs.set m v) x' f → OwnS (w.setCell ⟨g, i * Cel.k α + m, none⟩ v) (l.set i x') (.slice (some ⟨g, 0, none⟩) n c) fp) ∧
      (∀ w' x', own w' vs x' f → Chg f w w' → OwnS w' (l.set i x') (.slice (some ⟨g, 0, none⟩) n c) fp) := by
  obtain ⟨vs, f, h1, h2, h3, h4, h5, h6, h7⟩ := h.upd hn i hi
  have hlt := h.lt
  have hvl : vs.length = Cel.k α := rd_len (own_rd (B := w.heap.size) h1 (own_lt h1))
  obtain ⟨cur, e, hg, hsz⟩ : ∃ cur e, w.heap[g]? = some (.cells cur e (0, 0)) ∧ l.length * Cel.k α ≤ cur.size := by
    rcases h with ⟨h, _⟩ | ⟨g', c', cur, e, vss, fps, h, hg, hlc, hcm, hsz, rfl, hl, ht⟩
    · cases h
    · cases h
      exact ⟨cur, e, hg, Nat.le_trans (Nat.mul_le_mul_right _ hlc) hsz⟩
  have hk : (i + 1) * Cel.k α ≤ l.length * Cel.k α := Nat.mul_le_mul_right _ hi
  rw [Nat.succ_mul] at hk
  have hs : ∀ j, j < vs.length → cur.toList[i * Cel.k α + j]? = vs[j]? := by
    intro j hj
    rw [← h2 j (by omega)]
    simp [World.cell?, hg]
  refine ⟨vs, f, h1, h2, h3, h4, h5, h6, ?_, ?_⟩
  · intro m v x' hm hx
    refine h7 _ (vs.set m v) x' (own_keep hx fun b hb => Below.heap_setCell w _ v b (fun e : b = g => h5 (e ▸ hb))) ?_ fun b hb hne _ => Below.heap_setCell w _ v b hne
    rw [setCells_heap g (i * Cel.k α) e (vs.set m v) w 0 cur hg (by simp; omega), setCell_eq_setRow w g _ cur e (0, 0) v hg, setRow_heap w g cur _ e _ hg]
    congr 2
    apply Array.ext'
    rw [Array.toList_setIfInBounds, seg_set cur.toList vs _ m v (by omega) (by simp; omega) hs]
    simp
  · intro w' x' hx hc
    have hgw : w'.heap[g]? = w.heap[g]? := hc.block g (hlt g h6) h5
    refine h7 w' vs x' hx ?_ fun b hb _ hbf => hc.block b (hlt b hb) hbf
    rw [setCells_heap g (i * Cel.k α) e vs w 0 cur hg (by omega), hgw, hg]
    congr 2
    apply Array.ext'
    simp only [Nat.add_zero]
    rw [seg_same cur.toList vs _ (by simp; omega) hs]

/-- The marks of a list, one element behind the other. -/
def mkL {α : Type} (mk : Nat → α → α) (cnt : α → Nat) : Nat → List α → List α
  | _, [] => []
  | k, x :: l => mk k x :: mkL mk cnt (k + cnt x) l
def cntL {α : Type} (cnt : α → Nat) (l : List α) : Nat := (l.map cnt).sum
section
variable {α : Type} {mk : Nat → α → α} {cnt : α → Nat}
theorem cntL_step (l : List α) (j : Nat) (h : j < l.length) : cntL cnt (l.take (j + 1)) = cntL cnt (l.take j) + cnt l[j] := by
  unfold cntL; rw [List.take_succ_eq_append_getElem h, List.map_append, List.sum_append]; simp
theorem cntL_le (l : List α) (j : Nat) : cntL cnt (l.take j) ≤ cntL cnt l := by
  unfold cntL
  conv => rhs; rw [← List.take_append_drop j l, List.map_append, List.sum_append]
  omega
theorem mkL_len : ∀ (l : List α) (k : Nat), (mkL mk cnt k l).length = l.length := by
  intro l; induction l with
  | nil => intro k; rfl
  | cons x l ih => intro k; simp [mkL, ih]
theorem mkL_app : ∀ (l : List α) (k : Nat) (x : α), mkL mk cnt k (l ++ [x]) = mkL mk cnt k l ++ [mk (k + cntL cnt l) x] := by
  intro l; induction l with
  | nil => intro k x; simp [mkL, cntL]
  | cons y l ih => intro k x; simp [mkL, ih, cntL, Nat.add_assoc]
theorem mkL_step (l : List α) (k j : Nat) (h : j < l.length) : (mkL mk cnt k (l.take j) ++ l.drop j).set j (mk (k + cntL cnt (l.take j)) l[j]) = mkL mk cnt k (l.take (j + 1)) ++ l.drop (j + 1) := by
  have hl : (mkL mk cnt k (l.take j)).length = j := by rw [mkL_len]; simp; omega
  rw [List.set_append_right _ _ (by omega), hl, Nat.sub_self, List.drop_eq_getElem_cons h, List.set_cons_zero, List.take_succ_eq_append_getElem h, mkL_app, List.append_assoc]; rfl
theorem mkL_start (l : List α) (k j : Nat) (h : j < l.length) : mkL mk cnt k (l.take j) ++ l.drop j = (mkL mk cnt k (l.take j) ++ l.drop j).set j l[j] := by
  have hl : (mkL mk cnt k (l.take j)).length = j := by rw [mkL_len]; simp; omega
  rw [List.set_append_right _ _ (by omega), hl, Nat.sub_self, List.drop_eq_getElem_cons h, List.set_cons_zero]
theorem mkL_mid (l : List α) (k j : Nat) (h : j ≤ l.length) : (mkL mk cnt k (l.take j) ++ l.drop j).length = l.length := by
  rw [List.length_append, mkL_len, List.length_take, List.length_drop]; omega
theorem mkL_get : ∀ (l : List α) (k j : Nat) (h : j < l.length), (mkL mk cnt k l)[j]? = some (mk (k + cntL cnt (l.take j)) l[j]) := by
  intro l; induction l with
  | nil => intro k j h; simp at h
  | cons x l ih =>
    intro k j h
    cases j with
    | zero => simp [mkL, cntL]
    | succ j =>
      rw [mkL, List.getElem?_cons_succ, ih _ j (by simpa using h)]
      simp [cntL, Nat.add_assoc]
theorem cntL_bound {sz : α → Nat} {C : Nat} (h : ∀ x, cnt x ≤ C + C * sz x) : ∀ l : List α, cntL cnt l ≤ C * (l.length + (l.map sz).sum) := by
  intro l; induction l with
  | nil => simp [cntL]
  | cons x l ih =>
    have h1 := h x
    have e : cntL cnt (x :: l) = cnt x + cntL cnt l := by simp [cntL]
    rw [e]
    simp only [List.map_cons, List.sum_cons, List.length_cons]
    rw [show l.length + 1 + (sz x + (l.map sz).sum) = 1 + sz x + (l.length + (l.map sz).sum) by omega, Nat.mul_add, Nat.mul_add]
    omega
end
end Go.Proofs.Ythnilnggpbploaa
