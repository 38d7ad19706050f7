/- Rows that are made whole and filled element by element. -/
import Derived.Test.YthnilnggpbploaaGreatExt
import Derived.Laws.OwnMore
namespace Go.Proofs.YthnilnggpbploaaGreat
open Go.RowKit
open Cel (rd own rd_len rd_one own_rd own_lt rd_below rd_mono own_keep)

theorem nodup_set {f : List Nat} (hf : f.Nodup) : ∀ (fps : List (List Nat)) (i : Nat), fps.flatten.Nodup → (∀ b ∈ f, b ∉ fps.flatten) → (fps.set i f).flatten.Nodup := by
  intro fps
  induction fps with
  | nil => intro i h _; simp
  | cons a fps ih =>
    intro i h hd
    rw [List.flatten_cons, List.nodup_append] at h
    cases i with
    | zero =>
      rw [List.set_cons_zero, List.flatten_cons]
      exact List.nodup_append.2 ⟨hf, h.2.1, fun b hb c hc e => hd b hb (by rw [List.flatten_cons]; exact List.mem_append_right _ (e ▸ hc))⟩
    | succ i =>
      rw [List.set_cons_succ, List.flatten_cons]
      refine List.nodup_append.2 ⟨h.1, ih i h.2.1 fun b hb hc => hd b hb (by rw [List.flatten_cons]; exact List.mem_append_right _ hc), fun b hb c hc e => ?_⟩
      subst e
      obtain ⟨x, hx, hb2⟩ := List.mem_flatten.1 hc
      rcases List.mem_or_eq_of_mem_set hx with hx | rfl
      · exact h.2.2 b hb b (List.mem_flatten.2 ⟨x, hx, hb2⟩) rfl
      · exact hd b hb2 (by rw [List.flatten_cons]; exact List.mem_append_left _ hb)

/-- The i-th element is stored anew, whatever stood there. -/
theorem OwnS.put {α : Type} [Cel α] {w : World} {l : List α} {g n c : Nat} {fp f : List Nat} {vs : List Value} {x : α} (h : OwnS w l (.slice (some ⟨g, 0, none⟩) n c) fp) (hn : fp.Nodup) (i : Nat) (hi : i < l.length)
    (hx : own w vs x f) (hd : ∀ b ∈ f, b ∉ fp) (hf : f.Nodup) :
    ∃ fp', OwnS (setCells w g (i * Cel.k α) vs) (l.set i x) (.slice (some ⟨g, 0, none⟩) n c) fp' ∧ fp'.Nodup ∧ ∀ b ∈ fp', b ∈ fp ∨ b ∈ f := by
  rcases h with ⟨h, _⟩ | ⟨g', c', cur, e, vss, fps, h, hg, hlc, hcm, hsz, rfl, hl, ht⟩
  · cases h
  · cases h
    obtain ⟨vo, fo, h1, h2, h3⟩ := hl.at i l[i] (List.getElem?_eq_getElem hi)
    have hgf := (List.nodup_cons.1 hn).1
    have hgf2 : g ∉ f := fun hm => hd g hm (by simp)
    have hk : (i + 1) * Cel.k α ≤ l.length * Cel.k α := Nat.mul_le_mul_right _ hi
    have hk2 : l.length * Cel.k α ≤ c * Cel.k α := Nat.mul_le_mul_right _ hlc
    rw [Nat.succ_mul] at hk
    have hvl : vs.length = Cel.k α := rd_len (own_rd (B := w.heap.size) hx (own_lt hx))
    have hset := setCells_heap g (i * Cel.k α) e vs w 0 cur hg (by omega)
    refine ⟨g :: (fps.set i f).flatten, .inr ⟨g, c, _, e, vss.set i vs, fps.set i f, by simp, hset, by simpa using hlc, hcm, ?_, rfl, ?_, ?_⟩, ?_, ?_⟩
    · simp; omega
    · exact (hl.keep fun b hb => setCells_other g _ b (fun e => hgf (e ▸ hb)) vs w 0).set (own_keep hx fun b hb => setCells_other g _ b (fun e => hgf2 (e ▸ hb)) vs w 0) i
    · simp only [List.length_set, Nat.add_zero]
      rw [flatten_set hl.flat_len h1, ← ht, hvl]
      exact take_seg _ _ _ _ _ hvl.symm (by omega) (by simp; omega)
    · refine List.nodup_cons.2 ⟨fun hm => ?_, nodup_set hf _ _ (List.nodup_cons.1 hn).2 fun b hb hc => hd b hb (List.mem_cons_of_mem _ hc)⟩
      obtain ⟨y, hy, hm2⟩ := List.mem_flatten.1 hm
      rcases List.mem_or_eq_of_mem_set hy with hy | hy
      · exact hgf (List.mem_flatten.2 ⟨y, hy, hm2⟩)
      · exact hgf2 (hy ▸ hm2)
    · intro b hb
      rcases List.mem_cons.1 hb with rfl | hb
      · left; simp
      · obtain ⟨y, hy, hm⟩ := List.mem_flatten.1 hb
        rcases List.mem_or_eq_of_mem_set hy with hy | rfl
        · left; exact List.mem_cons_of_mem _ (List.mem_flatten.2 ⟨y, hy, hm⟩)
        · right; exact hm

theorem madeCells_flat (z : Array Value) (hz : 0 < z.size) : ∀ n, (madeCells z (n * z.size)).toList = (List.replicate n z.toList).flatten := by
  intro n
  induction n with
  | zero => simp [madeCells]
  | succ n ih =>
    rw [List.replicate_succ', List.flatten_append, ← ih]
    apply List.ext_getElem?
    intro i
    have e : (madeCells z (n * z.size)).toList.length = n * z.size := by simp [madeCells]
    have e2 : ∀ m j, (madeCells z m).toList[j]? = if j < m then some z[j % z.size]! else none := by
      intro m j
      simp only [madeCells, Array.getElem?_toList, Array.getElem?_map, Array.getElem?_range]
      split <;> simp
    by_cases h1 : i < n * z.size
    · rw [List.getElem?_append_left (by omega), e2, e2, if_pos h1, if_pos (by rw [Nat.succ_mul]; omega)]
    · rw [List.getElem?_append_right (by omega), e, e2]
      by_cases h2 : i < (n + 1) * z.size
      · have h3 : i - n * z.size < z.size := by rw [Nat.succ_mul] at h2; omega
        have h4 : i % z.size = i - n * z.size := by
          obtain ⟨j, rfl⟩ : ∃ j, i = n * z.size + j := ⟨i - n * z.size, by omega⟩
          rw [Nat.add_sub_cancel_left, Nat.mul_comm, Nat.mul_add_mod, Nat.mod_eq_of_lt (by omega)]
        rw [if_pos h2, h4]
        simp [h3]
      · rw [if_neg h2]
        rw [Nat.succ_mul] at h2
        simp; omega

/-- A row of zero values. -/
theorem OwnS.zeroed {α : Type} [Cel α] (w : World) (z : Array Value) (t : TypeId) (x : α) (n : Nat) (hm : n ≤ maxLen) (hk : z.size = Cel.k α) (hz : ∀ w, own w z.toList x []) :
    OwnS (α := α) (w.alloc (.cells (madeCells z (n * z.size)) t)) (List.replicate n x) (.slice (some ⟨w.heap.size, 0, none⟩) n n) [w.heap.size] := by
  have hk0 : 0 < z.size := by rw [hk]; exact Cel.kpos
  refine .inr ⟨w.heap.size, n, _, t, List.replicate n z.toList, List.replicate n [], by simp, heap_alloc_new w _, by simp, hm, ?_, ?_, ?_, ?_⟩
  · simp [size_madeCells, hk]
  · simp
  · suffices ∀ w, OwnL w (List.replicate n z.toList) (List.replicate n x) (List.replicate n []) from this _
    intro w
    clear hm
    induction n with
    | zero => trivial
    | succ n ih => exact ⟨hz w, ih⟩
  · rw [madeCells_flat z hk0, List.length_replicate]
    apply List.take_of_length_le
    simp [hk]
theorem fr_app {B C : Nat} {f1 f2 : List Nat} (h1 : Fr B f1) (hlt : ∀ b ∈ f1, b < C) (h2 : Fr C f2) (hBC : B ≤ C) : Fr B (f1 ++ f2) := by
  refine ⟨List.nodup_append.2 ⟨h1.1, h2.1, fun a ha b hb e => by have := hlt a ha; have := h2.2 b hb; omega⟩, fun b hb => ?_⟩
  rcases List.mem_append.1 hb with h | h
  · exact h1.2 b h
  · exact Nat.le_trans hBC (h2.2 b h)
/-- make([]T, n), n a variable. -/
theorem make_row {P : Program} (t e : TypeId) (z : Value) (k bytes : Nat) (hu : P.underlying t = some (.slice e)) (h : (P.info? e).map (fun i => (i.zero, i.size, i.bytes)) = some (some z, k, bytes)) (hk : z.cells.size = k) (m : Int) (n : Nat) (hm : m = n) (hn : n ≤ 1099511627776) (hb : bytes ≤ 256) (w : World) :
    (Instr.makeSlice t (.int .i64 m) (.int .i64 m)).run P w = .ok (.slice (some ⟨w.heap.size, 0, none⟩) n n) (w.alloc (.cells (madeCells z.cells (n * z.cells.size)) e)) := by
  subst hm
  obtain ⟨i, h1, h2, h3, h4⟩ := info_parts h
  have hb' : (i.bytes : Int) * (n : Int) ≤ 281474976710656 := by
    rw [h4]
    have h5 : bytes * n ≤ 256 * 1099511627776 := Nat.mul_le_mul hb hn
    have h6 : ((bytes * n : Nat) : Int) ≤ 281474976710656 := by omega
    rwa [Int.natCast_mul] at h6
  have := run_make (P := P) w t e i z hu h1 h2 .i64 .i64 n n (by omega) (Int.le_refl _) hb' (by omega)
  simpa [h3, hk] using this
theorem set_fill {α : Type} (l : List α) (z : α) (k : Nat) (h : k < l.length) : (l.take k ++ List.replicate (l.length - k) z).set k l[k] = l.take (k + 1) ++ List.replicate (l.length - (k + 1)) z := by
  obtain ⟨m, hm⟩ : ∃ m, l.length - k = m + 1 := ⟨l.length - k - 1, by omega⟩
  have h2 : l.length - (k + 1) = m := by omega
  have h3 : (l.take k).length = k := by simp; omega
  rw [hm, h2, List.replicate_succ, List.set_append_right _ _ (by omega), h3, Nat.sub_self, List.set_cons_zero, List.take_succ_eq_append_getElem h, List.append_assoc]; rfl
end Go.Proofs.YthnilnggpbploaaGreat
