/- Owned rows: made, filled, appended to. -/
import Derived.Test.YthnilnggpbploaaGreatBase
import Derived.WalkSmall
namespace Go.Proofs.YthnilnggpbploaaGreat
open Go.RowKit
open Cel (rd own rd_len rd_one own_rd own_lt rd_below rd_mono own_keep)

/-- Cells stored one behind the other, as the walk writes them. -/
def setCells (w : World) (g o : Nat) : List Value → (i : Nat := 0) → World
  | [], _ => w
  | v :: vs, i => setCells (w.setCell ⟨g, o + i, none⟩ v) g o vs (i + 1)

theorem setCells_size (g o : Nat) : ∀ (vs : List Value) (w : World) (i : Nat), (setCells w g o vs i).heap.size = w.heap.size := by
  intro vs
  induction vs with
  | nil => intro w i; rfl
  | cons v vs ih => intro w i; simp only [setCells]; rw [ih]; simp [World.setCell]

theorem setCells_other (g o b : Nat) (hb : b ≠ g) : ∀ (vs : List Value) (w : World) (i : Nat), (setCells w g o vs i).heap[b]? = w.heap[b]? := by
  intro vs
  induction vs with
  | nil => intro w i; rfl
  | cons v vs ih => intro w i; simp only [setCells]; rw [ih]; exact Below.heap_setCell w _ v b hb

theorem setCells_heap (g o : Nat) (e : TypeId) : ∀ (vs : List Value) (w : World) (i : Nat) (cur : Array Value), w.heap[g]? = some (.cells cur e (0, 0)) → o + i + vs.length ≤ cur.size →
    (setCells w g o vs i).heap[g]? = some (.cells (cur.toList.take (o + i) ++ vs ++ cur.toList.drop (o + i + vs.length)).toArray e (0, 0)) := by
  intro vs
  induction vs with
  | nil => intro w i cur h _; simp [setCells, h]
  | cons v vs ih =>
    intro w i cur h hl
    simp only [List.length_cons] at hl
    have h1 : (w.setCell ⟨g, o + i, none⟩ v).heap[g]? = some (.cells (cur.setIfInBounds (o + i) v) e (0, 0)) := by
      rw [setCell_eq_setRow w g (o + i) cur e (0, 0) v h]; exact setRow_heap w g cur _ e _ h
    have := ih _ (i + 1) _ h1 (by simp; omega)
    simp only [setCells]
    rw [this]
    have e' := list_seg_step cur.toList (o + i) v vs (by simp; omega)
    simp only [Array.toList_setIfInBounds]
    congr 2
    have e2 : o + (i + 1) = o + i + 1 := by omega
    rw [e2, e']
    simp [Nat.add_assoc]

theorem flatten_set {β : Type} {k : Nat} {vs' : List β} : ∀ {vss : List (List β)} {i : Nat} {vs : List β}, (∀ v ∈ vss, v.length = k) → vss[i]? = some vs →
    (vss.set i vs').flatten = vss.flatten.take (i * k) ++ vs' ++ vss.flatten.drop (i * k + k) := by
  intro vss
  induction vss with
  | nil => intro i vs _ h; simp at h
  | cons a vss ih =>
    intro i vs hall h
    have ha : a.length = k := hall a (by simp)
    cases i with
    | zero => simp [← ha]
    | succ i =>
      rw [List.set_cons_succ, List.flatten_cons, ih (fun v hv => hall v (by simp [hv])) (by simpa using h), List.flatten_cons]
      have e1 : (i + 1) * k = a.length + i * k := by rw [Nat.succ_mul, ha]; omega
      have e2 : (i + 1) * k + k = a.length + (i * k + k) := by rw [Nat.succ_mul, ha]; omega
      rw [e2, e1, List.take_length_add_append, List.drop_length_add_append]
      simp

theorem nodup_of_flatten {β : Type} {f : List β} : ∀ {fs : List (List β)}, fs.flatten.Nodup → f ∈ fs → f.Nodup := by
  intro fs
  induction fs with
  | nil => intro _ h; cases h
  | cons a fs ih =>
    intro h hm
    rw [List.flatten_cons, List.nodup_append] at h
    rcases List.mem_cons.1 hm with rfl | hm
    · exact h.1
    · exact ih h.2.1 hm

theorem take_seg {β : Type} (c v : List β) (p m N : Nat) (hv : m = v.length) (h1 : p + m ≤ N) (h2 : N ≤ c.length) :
    (c.take p ++ v ++ c.drop (p + m)).take N = (c.take N).take p ++ v ++ (c.take N).drop (p + m) := by
  subst hv
  have h3 : (c.take p ++ v).length = p + v.length := by rw [List.length_append, List.length_take]; omega
  rw [List.take_append, h3, List.take_of_length_le (by omega), List.take_take, Nat.min_eq_left (by omega), List.drop_take]

section
variable {α : Type} [Cel α] {w w' : World} {B : Nat} {l : List α}

/-- An owned row that has just been made, with room for c elements. -/
theorem OwnS.made (w : World) (cur : Array Value) (e : TypeId) (c : Nat) (hc : c ≤ maxLen) (hs : c * Cel.k α ≤ cur.size) :
    OwnS (α := α) (w.alloc (.cells cur e)) [] (.slice (some ⟨w.heap.size, 0, none⟩) 0 c) [w.heap.size] :=
  .inr ⟨w.heap.size, c, cur, e, [], [], rfl, heap_alloc_new w _, Nat.zero_le _, hc, hs, rfl, trivial, by simp⟩

theorem OwnS.madeAt (w : World) (cur : Array Value) (e : TypeId) (g c : Nat) (hg : w.heap.size = g) (hc : c ≤ maxLen) (hs : c * Cel.k α ≤ cur.size) :
    OwnS (α := α) (w.alloc (.cells cur e)) [] (.slice (some ⟨g, 0, none⟩) 0 c) [g] := by
  subst hg; exact OwnS.made w cur e c hc hs

/-- Where there is room: the cells behind the elements are there; nothing is frozen. -/
theorem OwnS.spare {g n c : Nat} {fp : List Nat} (h : OwnS w l (.slice (some ⟨g, 0, none⟩) n c) fp) :
    n = l.length ∧ g < w.heap.size ∧ (∀ o, w.frozen? ⟨g, o, none⟩ = false) ∧ ∀ i, i < c → ∀ j, j < Cel.k α → ∃ u, w.cell? ⟨g, i * Cel.k α + j, none⟩ = some u := by
  rcases h with ⟨h, _⟩ | ⟨g', c', cur, e, vss, fps, h, hg, hlc, hcm, hsz, rfl, hl, ht⟩
  · cases h
  · cases h
    refine ⟨rfl, (Array.getElem?_eq_some_iff.1 hg).1, fun o => by simp [World.frozen?, hg], fun i hi j hj => ?_⟩
    have hij : i * Cel.k α + j < cur.size := by
      have : (i + 1) * Cel.k α ≤ c * Cel.k α := Nat.mul_le_mul_right _ hi
      rw [Nat.succ_mul] at this; omega
    exact ⟨cur[i * Cel.k α + j], by simp [World.cell?, hg, hij]⟩

/-- The next element is stored into the room behind the elements. -/
theorem OwnS.push {g n c : Nat} {fp f : List Nat} {vs : List Value} {x : α} (h : OwnS w l (.slice (some ⟨g, 0, none⟩) n c) fp) (hlt : n < c)
    (hx : own w vs x f) (hf : g ∉ f) (hn : fp.Nodup) : OwnS (setCells w g (n * Cel.k α) vs) (l ++ [x]) (.slice (some ⟨g, 0, none⟩) (n + 1) c) (fp ++ f) := by
  obtain rfl := h.spare.1
  rcases h with ⟨h, _⟩ | ⟨g', c', cur, e, vss, fps, h, hg, hlc, hcm, hsz, rfl, hl, ht⟩
  · cases h
  · cases h
    have hvl : vs.length = Cel.k α := rd_len (own_rd (B := w.heap.size) hx (own_lt hx))
    have hr : (l.length + 1) * Cel.k α ≤ c * Cel.k α := Nat.mul_le_mul_right _ hlt
    rw [Nat.succ_mul] at hr
    have hset := setCells_heap g (l.length * Cel.k α) e vs w 0 cur hg (by omega)
    have hg2 : g ∉ fps.flatten := (List.nodup_cons.1 hn).1
    refine .inr ⟨g, c, _, e, vss ++ [vs], fps ++ [f], ?_, hset, ?_, hcm, ?_, ?_, ?_, ?_⟩
    · simp
    · simp; omega
    · simp; omega
    · simp
    · refine (hl.keep fun b hb => setCells_other g _ b (fun e => hg2 (e ▸ hb)) vs w 0).app ⟨own_keep hx fun b hb => setCells_other g _ b (fun e => hf (e ▸ hb)) vs w 0, trivial⟩
    · simp only [Nat.add_zero, List.length_append, List.length_cons, List.length_nil, List.flatten_append, List.flatten_cons, List.flatten_nil, List.append_nil, Nat.add_mul, Nat.one_mul]
      rw [ht]
      have h1 : vss.flatten.length = l.length * Cel.k α := by
        rw [← ht, List.length_take]; simp; omega
      rw [List.take_left' (by rw [List.length_append, h1, hvl]; simp)]

theorem below_setCells {a : World} (h : Below B a w) {g : Nat} (hg : B ≤ g) (o : Nat) (vs : List Value) : Below B a (setCells w g o vs) := by
  suffices ∀ (vs : List Value) (w : World) (i : Nat), Below B a w → Below B a (@_root_.Go.Proofs.YthnilnggpbploaaGreat.setCells w g o vs i) from this vs w 0 h
  intro vs
  induction vs with
  | nil => intro w i h; exact h
  | cons v vs ih => intro w i h; exact ih _ _ (h.setCell hg v)

/-- The whole of what an append leaves. -/
def Grew (B : Nat) (w0 w : World) (l : List α) (v : Value) (fp : List Nat) : Prop := OwnS w l v fp ∧ Fr B fp ∧ Below B w0 w

end

section
variable {α : Type} [Cel α] {P : Program} {w : World} {B : Nat} {l l2 : List α}

theorem run_firstCells_any (size n : Nat) (x : Value) (ad : Option Addr) (c : Nat) (hx : x = .slice ad n c) (news : List Value) (hl : news.length = n * size) (hn : ad = none → n = 0)
    (hnews : ∀ a, ad = some a → ∀ j u, news[j]? = some u → w.cell? (a.add j) = some u) : (Builtin.firstCells size n x).run P w = .ok news.toArray w := by
  subst hx
  cases ad with
  | none =>
    have := hn rfl; subst this
    have : news = [] := List.eq_nil_of_length_eq_zero (by simpa using hl)
    subst this
    rfl
  | some a => exact run_firstCells_some (P := P) w size n a n c news hl (hnews a rfl)

/-- append onto an owned row: what is appended is read ahead of the call out of whatever memory, and is owned behind it by itself. -/
theorem run_append_S (t ty e : TypeId) (i : TypeInfo) (z : Value) (size bytes : Nat) (ht : P.underlying t = some (.slice e)) (hi : P.info? e = some i) (hz : i.zero = some z)
    (hsize : i.size = size) (hby : i.bytes = bytes) (hk : size = Cel.k α) (hzs : z.cells.size = size)
    (v : Value) (fp : List Nat) (h : OwnS w l v fp) (hn : fp.Nodup)
    (ad : Option Addr) (m c : Nat) (vss : List (List Value)) (f2 : List (List Nat)) (hm : m = l2.length) (had : ad = none → m = 0)
    (hnews : ∀ a, ad = some a → ∀ j u, vss.flatten[j]? = some u → w.cell? (a.add j) = some u)
    (h2 : OwnL w vss l2 f2) (hd : ∀ b ∈ f2.flatten, b ∉ fp)
    (hbytes : (l.length + m) * bytes ≤ 140737488355328) (h63 : l.length + m ≤ maxLen) :
    ∃ a' c' w' fp', (Builtin.append_ #[t, t] ty #[v, .slice ad m c]).run P w = .ok (.slice a' (l ++ l2).length c') w' ∧ OwnS w' (l ++ l2) (.slice a' (l ++ l2).length c') (fp' ++ f2.flatten) ∧
      w.grownBy w' v.ownBlock ∧ fp'.Nodup ∧ (∀ b ∈ fp', b ∈ fp ∨ b = w.heap.size) := by
  subst hsize hby hm
  have hvl := h2.flat_len
  have hfl : vss.flatten.length = l2.length * i.size := by
    rw [hk, ← h2.len.1]; clear hnews h2 hd
    induction vss with
    | nil => simp
    | cons a vss ih => simp only [List.flatten_cons, List.length_append, List.length_cons]; rw [ih (fun vs hv => hvl vs (by simp [hv])), hvl a (by simp), Nat.succ_mul]; omega
  have h1 : ∀ u ∈ vss.flatten, u.oneCell' = true := by
    intro u hu
    obtain ⟨vs, hvs, hu⟩ := List.mem_flatten.1 hu
    obtain ⟨n, hn'⟩ := List.mem_iff_getElem?.1 hvs
    have hlt : n < l2.length := by have := (List.getElem?_eq_some_iff.1 hn').1; rw [h2.len.1] at this; exact this
    obtain ⟨vs', f, e1, _, e3⟩ := h2.at n l2[n] (List.getElem?_eq_getElem hlt)
    rw [hn'] at e1; cases e1
    exact rd_one (own_rd (B := w.heap.size) e3 (own_lt e3)) u hu
  have hsmall : l.length + l2.length ≤ 9223372036854775807 := by simp only [maxLen] at h63; omega
  have hcap : ∀ old, l.length + l2.length ≤ grownCap w (l.length + l2.length) old e := fun old => grownCap_ge w _ _ e
  have hcm : ∀ old, grownCap w (l.length + l2.length) old e ≤ maxLen := fun old => grownCap_le_maxLen w _ old e h63
  rcases h with ⟨rfl, rfl, rfl⟩ | ⟨g, cp, cur, e', vs1, fps, rfl, hg, hlc, hcm', hsz, rfl, hl, hta⟩
  · by_cases h0 : l2.length = 0
    · have : l2 = [] := List.eq_nil_of_length_eq_zero h0
      subst this
      have hv0 : vss = [] := List.eq_nil_of_length_eq_zero (by simpa using h2.len.1)
      have hf0 : f2 = [] := List.eq_nil_of_length_eq_zero (by simpa using h2.len.2)
      subst hv0 hf0
      refine ⟨none, 0, w, [], ?_, OwnS.nil w, ⟨rfl, rfl, rfl, Nat.le_refl _, fun _ _ _ => rfl⟩, List.nodup_nil, by simp⟩
      have hf := run_firstCells_any (P := P) (w := w) i.size 0 (.slice ad 0 c) ad c rfl [] (by simp) (fun _ => rfl) (by intro a _ j u hu; simp at hu)
      simp [Builtin.append_, run_underlying ht, sizeOf, typeInfo, hi, Builtin.lenOf, hf]
    · cases ad with
      | none => exact absurd (had rfl) h0
      | some a =>
        have hr := run_append_nil (P := P) w t ty e i z ht hi hz a l2.length c vss.flatten hfl (hnews a rfl) (by omega) (by simp only [List.length_nil, Nat.zero_add] at hsmall; omega) (by simp only [List.length_nil, Nat.zero_add] at hbytes; omega)
        simp only [List.length_nil, Nat.zero_add] at hcap hcm
        refine ⟨_, _, _, [w.heap.size], hr, ?_, ⟨rfl, rfl, rfl, by simp, fun k hk _ => Below.heap_alloc w.drew _ k hk⟩, by simp, by simp⟩
        refine .inr ⟨w.heap.size, _, _, e, vss, f2, rfl, heap_alloc_new w.drew _, hcap 0, hcm 0, ?_, rfl, ?_, ?_⟩
        · simp only [Array.size_append, List.size_toArray, size_zeroCells, hzs, hfl, ← Nat.add_mul, ← hk]
          exact Nat.mul_le_mul_right _ (by have := hcap 0; omega)
        · exact h2.keep fun b hb => Below.heap_alloc w.drew _ b (h2.lt b hb)
        · simp only [List.nil_append, Array.toList_append]
          rw [← hk, ← hfl]; exact List.take_left
  · have hgf : g ∉ fps.flatten := (List.nodup_cons.1 hn).1
    have hgf2 : g ∉ f2.flatten := fun hb => hd g hb (by simp)
    have hll : vs1.flatten.length = l.length * i.size := by rw [← hta, List.length_take]; simp; rw [hk]; have := Nat.mul_le_mul_right (Cel.k α) hlc; omega
    by_cases hroom : l.length + l2.length ≤ cp
    · have hfit : l.length * i.size + vss.flatten.length ≤ cur.size := by
        rw [hfl, ← Nat.add_mul, hk]; exact Nat.le_trans (Nat.mul_le_mul_right _ hroom) hsz
      have hf := run_firstCells_any (P := P) (w := w) i.size l2.length (.slice ad l2.length c) ad c rfl vss.flatten hfl had hnews
      have hst := run_storeCells_at P g (l.length * i.size) e' vss.flatten 0 cur w hg (by simpa using hfit) h1
      simp only [Nat.add_zero] at hst
      have hr : (Builtin.append_ #[t, t] ty #[.slice (some ⟨g, 0, none⟩) l.length cp, .slice ad l2.length c]).run P w =
          .ok (.slice (some ⟨g, 0, none⟩) (l.length + l2.length) cp) (w.setRow g (cur.toList.take (l.length * i.size) ++ vss.flatten ++ cur.toList.drop (l.length * i.size + vss.flatten.length)).toArray) := by
        simp [Builtin.append_, run_underlying ht, sizeOf, typeInfo, hi, Builtin.lenOf, hroom, hf, Addr.add_lit, hst]
      rw [← List.length_append] at hr
      refine ⟨_, _, _, g :: fps.flatten, hr, ?_, ⟨rfl, rfl, rfl, by simp, fun k _ hk => setRow_other w g k _ (fun e => hk (by simp [Value.ownBlock, e]))⟩, hn, fun b hb => .inl hb⟩
      refine .inr ⟨g, cp, _, e', vs1 ++ vss, fps ++ f2, rfl, setRow_heap w g cur _ e' _ hg, by simpa using hroom, hcm', ?_, by simp, ?_, ?_⟩
      · simp only [List.size_toArray, List.length_append, List.length_take, List.length_drop, Array.length_toList]
        omega
      · exact (hl.keep fun b hb => setRow_other w g b _ (fun e => hgf (e ▸ hb))).app (h2.keep fun b hb => setRow_other w g b _ (fun e => hgf2 (e ▸ hb)))
      · simp only [List.flatten_append, List.length_append]
        rw [hk, hta]
        have : (vs1.flatten ++ vss.flatten).length = (l.length + l2.length) * Cel.k α := by rw [List.length_append, hll, hfl, hk, ← Nat.add_mul]
        rw [← this]; exact List.take_left
    · have hl2 : l2.length ≠ 0 := by omega
      cases ad with
      | none => exact absurd (had rfl) hl2
      | some a =>
        have holds : ∀ j u, vs1.flatten[j]? = some u → w.cell? ((⟨g, 0, none⟩ : Addr).add j) = some u := by
          intro j u hu
          have hadd : (⟨g, 0, none⟩ : Addr).add j = ⟨g, j, none⟩ := by unfold Addr.add; split <;> simp_all
          rw [hadd]
          rw [← hta, List.getElem?_take] at hu
          split at hu
          · simp [World.cell?, hg]; simpa using hu
          · cases hu
        have hr := run_append_grow (P := P) w t ty e i z ht hi hz ⟨g, 0, none⟩ l.length cp vs1.flatten hll holds a l2.length c vss.flatten hfl (hnews a rfl) (by omega) (by omega) (growslice_fits (by omega) hbytes)
        rw [← List.length_append] at hr
        refine ⟨_, _, _, w.heap.size :: fps.flatten, hr, ?_, ⟨rfl, rfl, rfl, by simp, fun k hk _ => Below.heap_alloc w.drew _ k hk⟩, ?_, ?_⟩
        · rw [List.length_append]
          refine .inr ⟨w.heap.size, _, _, e, vs1 ++ vss, fps ++ f2, by simp, heap_alloc_new w.drew _, by simpa using hcap cp, hcm cp, ?_, by simp, ?_, ?_⟩
          · simp only [Array.size_append, List.size_toArray, size_zeroCells, hzs, hll, hfl, ← Nat.add_mul, ← hk]
            exact Nat.mul_le_mul_right _ (by have := hcap cp; omega)
          · exact (hl.keep fun b hb => Below.heap_alloc w.drew _ b (hl.lt b hb)).app (h2.keep fun b hb => Below.heap_alloc w.drew _ b (h2.lt b hb))
          · simp only [Array.toList_append, List.append_assoc, List.flatten_append, List.length_append]
            have : (vs1.flatten ++ vss.flatten).length = (l.length + l2.length) * Cel.k α := by rw [List.length_append, hll, hfl, hk, ← Nat.add_mul]
            rw [← List.append_assoc, ← this]; exact List.take_left
        · exact List.nodup_cons.2 ⟨fun hb => Nat.lt_irrefl _ (hl.lt _ hb), (List.nodup_cons.1 hn).2⟩
        · intro b hb
          rcases List.mem_cons.1 hb with rfl | hb
          · exact .inr rfl
          · exact .inl (List.mem_cons_of_mem _ hb)
end

/-- What a slice type is: cells and bytes of an element. -/
def SlT (P : Program) (t : TypeId) (k bytes : Nat) : Prop :=
  ∃ e i z, P.underlying t = some (.slice e) ∧ P.info? e = some i ∧ i.zero = some z ∧ i.size = k ∧ i.bytes = bytes ∧ z.cells.size = k

theorem SlT.mk {P : Program} {t e : TypeId} {k bytes : Nat} {z : Value} (hu : P.underlying t = some (.slice e)) (h : (P.info? e).map (fun i => (i.zero, i.size, i.bytes)) = some (some z, k, bytes)) (hz : z.cells.size = k) : SlT P t k bytes := by
  obtain ⟨i, h1, h2, h3, h4⟩ := info_parts h
  exact ⟨e, i, z, hu, h1, h2, h3, h4, hz⟩

section
variable {α : Type} {P : Program} {w : World} {B : Nat} {l l2 : List α}

theorem Fr.swap {fp f2 fp' : List Nat} (h : Fr B (fp ++ f2)) (hB : B ≤ w.heap.size) (hlt : ∀ b ∈ f2, b < w.heap.size) (hn : fp'.Nodup) (hm : ∀ b ∈ fp', b ∈ fp ∨ b = w.heap.size) : Fr B (fp' ++ f2) := by
  obtain ⟨h1, h2⟩ := h
  rw [List.nodup_append] at h1
  refine ⟨List.nodup_append.2 ⟨hn, h1.2.1, fun a ha b hb e => ?_⟩, fun b hb => ?_⟩
  · subst e
    rcases hm a ha with h | h
    · exact h1.2.2 a h a hb rfl
    · have := hlt a hb; omega
  · rcases List.mem_append.1 hb with h | h
    · rcases hm b h with h | h
      · exact h2 b (List.mem_append_left _ h)
      · omega
    · exact h2 b (List.mem_append_right _ h)

theorem OwnS.block_mem [Cel α] {v : Value} {fp : List Nat} (h : OwnS w l v fp) {k : Nat} (hk : v.ownBlock = some k) : k ∈ fp := by
  rcases h with ⟨rfl, _⟩ | ⟨g, c, cur, e, vss, fps, rfl, hg, _, _, _, rfl, _⟩
  · simp [Value.ownBlock] at hk
  · simp [Value.ownBlock] at hk; subst hk; simp

theorem wp_append_any [Cel α] {o : Oper} {a : Act} {K : Act → World → Prop} {Q : Exit → Act → World → Prop} (s x : Operand) (t : TypeId) {bytes : Nat}
    (ho : o.op = .call { callee := .builtin .append, args := #[s, x], argTypes := #[t, t] }) (hT : SlT P t (Cel.k α) bytes) {v : Value} (hs : a.eval s = v) {fp : List Nat} (h : OwnS w l v fp)
    {ad : Option Addr} {m c : Nat} (hx : a.eval x = .slice ad m c) {vss : List (List Value)} {f2 : List (List Nat)} (hm : m = l2.length) (had : ad = none → m = 0)
    (hnews : ∀ a, ad = some a → ∀ j u, vss.flatten[j]? = some u → w.cell? (a.add j) = some u)
    (h2 : OwnL w vss l2 f2) (hfr : Fr B (fp ++ f2.flatten)) (hle : B ≤ w.heap.size)
    (hbytes : (l.length + m) * bytes ≤ 140737488355328) (h63 : l.length + m ≤ maxLen)
    (hK : ∀ a' c' w' fp', OwnS w' (l ++ l2) (.slice a' (l.length + l2.length) c') fp' → Fr B fp' → w.grownBy w' v.ownBlock → Below B w w' → (∀ b ∈ fp', b ∈ fp ∨ b ∈ f2.flatten ∨ b = w.heap.size) → K (a.put o.dst (.slice a' (l.length + l2.length) c')) w') : o.wp P a w K Q := by
  obtain ⟨e, i, z, ht, hi, hz, h3, h4, h5⟩ := hT
  have hnd := List.nodup_append.1 hfr.1
  obtain ⟨a', c', w', fp', hr, g1, g2, g3, g4⟩ := run_append_S (P := P) (w := w) t o.type e i z (Cel.k α) bytes ht hi hz h3 h4 rfl h5 v fp h hnd.1 ad m c vss f2 hm had hnews h2 (fun b hb hb' => hnd.2.2 b hb' b hb rfl) hbytes h63
  rw [List.length_append] at hr g1
  unfold Oper.wp execOp
  simp only [ho, resolve, invoke, builtin, Sem.run_bind, Sem.run_pure, Result.andThen_ok, List.map_toArray, List.map_cons, List.map_nil, hs, hx, hr]
  refine hK a' c' w' _ g1 (hfr.swap hle h2.lt g3 g4) g2 ((Below.refl B w).grown g2 hle fun k hk => ?_) fun b hb => ?_
  · exact hfr.2 k (List.mem_append_left _ (h.block_mem hk))
  · rcases List.mem_append.1 hb with hb | hb
    · rcases g4 b hb with hb | hb
      · exact .inl hb
      · exact .inr (.inr hb)
    · exact .inr (.inl hb)

theorem step_of_wp {o : Oper} {a : Act} {K : Act → World → Prop} {Q : Exit → Act → World → Prop} {ops : Array Oper} {E : Prop} (hg : o.guard = none) (h : o.wp P a w K Q) :
    if Region.wanted o (yielded ops a.tmps) = true then o.wp P a w K Q else E := by
  rw [if_pos (by simp [Region.wanted, hg])]; exact h

/-- append(s, x): one element, which lies in a block of its own. -/
theorem wp_append1 [Cel α] {o : Oper} {a : Act} {K : Act → World → Prop} {Q : Exit → Act → World → Prop} (s x : Operand) (t : TypeId) {bytes : Nat}
    (ho : o.op = .call { callee := .builtin .append, args := #[s, x], argTypes := #[t, t] }) (hT : SlT P t (Cel.k α) bytes) {v : Value} (hs : a.eval s = v) {fp f : List Nat} (h : OwnS w l v fp)
    {g c : Nat} (hx : a.eval x = .slice (some ⟨g, 0, none⟩) 1 c) {vs : List Value} {y : α} (hnews : ∀ j u, vs[j]? = some u → w.cell? ((⟨g, 0, none⟩ : Addr).add j) = some u)
    (h2 : own w vs y f) (hfr : Fr B (fp ++ f)) (hle : B ≤ w.heap.size) (hbytes : (l.length + 1) * bytes ≤ 140737488355328) (h63 : l.length + 1 ≤ maxLen)
    (hK : ∀ a' c' w' fp', OwnS w' (l ++ [y]) (.slice a' (l.length + 1) c') fp' → Fr B fp' → w.grownBy w' v.ownBlock → Below B w w' → (∀ b ∈ fp', b ∈ fp ∨ b ∈ f ∨ b = w.heap.size) → K (a.put o.dst (.slice a' (l.length + 1) c')) w') : o.wp P a w K Q :=
  wp_append_any s x t ho hT hs h (l2 := [y]) (vss := [vs]) (f2 := [f]) hx rfl (fun h => by cases h) (by intro a e j u hu; cases e; exact hnews j u (by simpa using hu)) ⟨h2, trivial⟩ (by simpa using hfr) hle hbytes h63 fun a' c' w' fp' g1 g2 g3 g4 g5 => hK a' c' w' fp' g1 g2 g3 g4 (by simpa using g5)

theorem wpList_append1 [Cel α] {ops : Array Oper} {rest : List Oper} {o : Oper} {a : Act} {Q : Exit → Act → World → Prop} (hgd : o.guard = none) (s x : Operand) (t : TypeId) {bytes : Nat}
    (ho : o.op = .call { callee := .builtin .append, args := #[s, x], argTypes := #[t, t] }) (hT : SlT P t (Cel.k α) bytes) {v : Value} (hs : a.eval s = v) {fp f : List Nat} (h : OwnS w l v fp)
    {g c : Nat} (hx : a.eval x = .slice (some ⟨g, 0, none⟩) 1 c) {vs : List Value} {y : α} (hnews : ∀ j u, vs[j]? = some u → w.cell? ((⟨g, 0, none⟩ : Addr).add j) = some u)
    (h2 : own w vs y f) (hfr : Fr B (fp ++ f)) (hle : B ≤ w.heap.size) (hbytes : (l.length + 1) * bytes ≤ 140737488355328) (h63 : l.length + 1 ≤ maxLen)
    (hK : ∀ a' c' w' fp', OwnS w' (l ++ [y]) (.slice a' (l.length + 1) c') fp' → Fr B fp' → w.grownBy w' v.ownBlock → Below B w w' → (∀ b ∈ fp', b ∈ fp ∨ b ∈ f ∨ b = w.heap.size) → wpList P ops Q rest (a.put o.dst (.slice a' (l.length + 1) c')) w') : wpList P ops Q (o :: rest) a w :=
  wpList_plain hgd fun _ hK' => wp_append1 s x t ho hT hs h hx hnews h2 hfr hle hbytes h63 fun a' c' w' fp' g1 g2 g3 g4 g5 => hK' _ _ (hK a' c' w' fp' g1 g2 g3 g4 g5)

theorem news_alloc (w : World) (cs : List Value) (e : TypeId) : ∀ j u, cs[j]? = some u → (w.alloc (.cells cs.toArray e)).cell? ((⟨w.heap.size, 0, none⟩ : Addr).add j) = some u := by
  intro j u hu
  have hadd : (⟨w.heap.size, 0, none⟩ : Addr).add j = ⟨w.heap.size, j, none⟩ := by unfold Addr.add; split <;> simp_all
  rw [hadd]
  have := heap_alloc_new w (.cells cs.toArray e)
  unfold World.cell?
  rw [this]
  simpa using hu

/-- The cells of a slice of a flat type, as they are owned by nobody. -/
theorem RdS.cells [Flat α] {B : Nat} {ad : Option Addr} {n c : Nat} (h : RdS B w l (.slice ad n c)) : ∃ vss, OwnL w vss l (l.map fun _ => []) ∧
    ∀ a, ad = some a → ∀ j u, vss.flatten[j]? = some u → w.cell? (a.add j) = some u := by
  obtain ⟨a', c', e, _, _, _, h3⟩ := h
  cases e
  rcases h3 with rfl | ⟨b, o, rfl, hlt, h4⟩
  · exact ⟨[], trivial, by intro a _ j u hu; simp at hu⟩
  · suffices ∀ (l : List α) (o : Nat), RdL B w b o l → ∃ vss, OwnL w vss l (l.map fun _ => []) ∧ ∀ j u, vss.flatten[j]? = some u → w.cell? ⟨b, o + j, none⟩ = some u by
      obtain ⟨vss, g1, g2⟩ := this l o h4
      refine ⟨vss, g1, ?_⟩
      intro a e j u hu
      cases e
      have hadd : (⟨b, o, none⟩ : Addr).add j = ⟨b, o + j, none⟩ := by unfold Addr.add; split <;> simp_all
      rw [hadd]; exact g2 j u hu
    clear h4 hlt
    intro l
    induction l with
    | nil => intro o _; exact ⟨[], trivial, by intro j u hu; simp at hu⟩
    | cons x xs ih =>
      intro o h4
      obtain ⟨vs, h5, h6⟩ := h4 0 x rfl
      obtain ⟨vss, g1, g2⟩ := ih (o + Cel.k α) (by
        intro i y hy
        obtain ⟨vs, e1, e2⟩ := h4 (i + 1) y (by simpa using hy)
        refine ⟨vs, e1, fun j hj => ?_⟩
        rw [← e2 j hj]; congr 2; rw [Nat.succ_mul]; omega)
      refine ⟨vs :: vss, ⟨Flat.flat h5, g1⟩, ?_⟩
      intro j u hu
      have hl := rd_len h5
      by_cases hj : j < Cel.k α
      · rw [List.flatten_cons, List.getElem?_append_left (by omega)] at hu
        rw [← hu, ← h6 j hj]; simp
      · rw [List.flatten_cons, List.getElem?_append_right (by omega), hl] at hu
        have := g2 _ u hu
        rw [← this]; congr 2; omega

theorem flatten_nils {β : Type} (l : List β) : (l.map fun _ => ([] : List Nat)).flatten = [] := by
  induction l with
  | nil => rfl
  | cons x xs ih => simp

/-- append(s, l...) of a flat type. -/
theorem wp_appendF [Flat α] {o : Oper} {a : Act} {K : Act → World → Prop} {Q : Exit → Act → World → Prop} (s x : Operand) (t : TypeId) {bytes : Nat}
    (ho : o.op = .call { callee := .builtin .append, args := #[s, x], argTypes := #[t, t] }) (hT : SlT P t (Cel.k α) bytes) {v : Value} (hs : a.eval s = v) {fp : List Nat} (h : OwnS w l v fp)
    {B2 : Nat} {v2 : Value} (hx : a.eval x = v2) (h2 : RdS B2 w l2 v2) (hfr : Fr B fp) (hle : B ≤ w.heap.size)
    (hbytes : (l.length + l2.length) * bytes ≤ 140737488355328) (h63 : l.length + l2.length ≤ maxLen)
    (hK : ∀ a' c' w' fp', OwnS w' (l ++ l2) (.slice a' (l.length + l2.length) c') fp' → Fr B fp' → w.grownBy w' v.ownBlock → Below B w w' → (∀ b ∈ fp', b ∈ fp ∨ b = w.heap.size) → K (a.put o.dst (.slice a' (l.length + l2.length) c')) w') : o.wp P a w K Q := by
  obtain ⟨ad, c, rfl, _, _, hlc, hc⟩ := h2.open
  obtain ⟨vss, g1, g2⟩ := h2.cells
  refine wp_append_any s x t ho hT hs h hx rfl (fun e => by have := hc e; omega) g2 g1 ?_ hle hbytes h63 fun a' c' w' fp' k1 k2 k3 k4 k5 => hK a' c' w' fp' k1 k2 k3 k4 fun b hb => ?_
  · rw [flatten_nils, List.append_nil]; exact hfr
  · rcases k5 b hb with h | h | h
    · exact .inl h
    · rw [flatten_nils] at h; cases h
    · exact .inr h

theorem wpList_appendF [Flat α] {ops : Array Oper} {rest : List Oper} {o : Oper} {a : Act} {Q : Exit → Act → World → Prop} (hgd : o.guard = none) (s x : Operand) (t : TypeId) {bytes : Nat}
    (ho : o.op = .call { callee := .builtin .append, args := #[s, x], argTypes := #[t, t] }) (hT : SlT P t (Cel.k α) bytes) {v : Value} (hs : a.eval s = v) {fp : List Nat} (h : OwnS w l v fp)
    {B2 : Nat} {v2 : Value} (hx : a.eval x = v2) (h2 : RdS B2 w l2 v2) (hfr : Fr B fp) (hle : B ≤ w.heap.size)
    (hbytes : (l.length + l2.length) * bytes ≤ 140737488355328) (h63 : l.length + l2.length ≤ maxLen)
    (hK : ∀ a' c' w' fp', OwnS w' (l ++ l2) (.slice a' (l.length + l2.length) c') fp' → Fr B fp' → w.grownBy w' v.ownBlock → Below B w w' → (∀ b ∈ fp', b ∈ fp ∨ b = w.heap.size) → wpList P ops Q rest (a.put o.dst (.slice a' (l.length + l2.length) c')) w') : wpList P ops Q (o :: rest) a w :=
  wpList_plain hgd fun _ hK' => wp_appendF s x t ho hT hs h hx h2 hfr hle hbytes h63 fun a' c' w' fp' g1 g2 g3 g4 g5 => hK' _ _ (hK a' c' w' fp' g1 g2 g3 g4 g5)

theorem step_appendF [Flat α] {o : Oper} {a : Act} {K : Act → World → Prop} {Q : Exit → Act → World → Prop} {ops : Array Oper} {E : Prop} (hgd : o.guard = none) (s x : Operand) (t : TypeId) {bytes : Nat}
    (ho : o.op = .call { callee := .builtin .append, args := #[s, x], argTypes := #[t, t] }) (hT : SlT P t (Cel.k α) bytes) {v : Value} (hs : a.eval s = v) {fp : List Nat} (h : OwnS w l v fp)
    {B2 : Nat} {v2 : Value} (hx : a.eval x = v2) (h2 : RdS B2 w l2 v2) (hfr : Fr B fp) (hle : B ≤ w.heap.size)
    (hbytes : (l.length + l2.length) * bytes ≤ 140737488355328) (h63 : l.length + l2.length ≤ maxLen)
    (hK : ∀ a' c' w' fp', OwnS w' (l ++ l2) (.slice a' (l.length + l2.length) c') fp' → Fr B fp' → w.grownBy w' v.ownBlock → Below B w w' → (∀ b ∈ fp', b ∈ fp ∨ b = w.heap.size) → K (a.put o.dst (.slice a' (l.length + l2.length) c')) w') :
    if Region.wanted o (yielded ops a.tmps) = true then o.wp P a w K Q else E := by
  rw [if_pos (by simp [Region.wanted, hgd])]
  exact wp_appendF s x t ho hT hs h hx h2 hfr hle hbytes h63 hK

theorem step_append1 [Cel α] {o : Oper} {a : Act} {K : Act → World → Prop} {Q : Exit → Act → World → Prop} {ops : Array Oper} {E : Prop} (hgd : o.guard = none) (s x : Operand) (t : TypeId) {bytes : Nat}
    (ho : o.op = .call { callee := .builtin .append, args := #[s, x], argTypes := #[t, t] }) (hT : SlT P t (Cel.k α) bytes) {v : Value} (hs : a.eval s = v) {fp f : List Nat} (h : OwnS w l v fp)
    {g c : Nat} (hx : a.eval x = .slice (some ⟨g, 0, none⟩) 1 c) {vs : List Value} {y : α} (hnews : ∀ j u, vs[j]? = some u → w.cell? ((⟨g, 0, none⟩ : Addr).add j) = some u)
    (h2 : own w vs y f) (hfr : Fr B (fp ++ f)) (hle : B ≤ w.heap.size) (hbytes : (l.length + 1) * bytes ≤ 140737488355328) (h63 : l.length + 1 ≤ maxLen)
    (hK : ∀ a' c' w' fp', OwnS w' (l ++ [y]) (.slice a' (l.length + 1) c') fp' → Fr B fp' → w.grownBy w' v.ownBlock → Below B w w' → (∀ b ∈ fp', b ∈ fp ∨ b ∈ f ∨ b = w.heap.size) → K (a.put o.dst (.slice a' (l.length + 1) c')) w') :
    if Region.wanted o (yielded ops a.tmps) = true then o.wp P a w K Q else E := by
  rw [if_pos (by simp [Region.wanted, hgd])]
  exact wp_append1 s x t ho hT hs h hx hnews h2 hfr hle hbytes h63 hK

theorem Fr.nodup {fp : List Nat} (h : Fr B fp) : fp.Nodup := h.1

/-- The i-th element of an owned row: its cells, its own blocks; and what it means to change it. -/
theorem OwnS.upd [Cel α] {g n c : Nat} {fp : List Nat} (h : OwnS w l (.slice (some ⟨g, 0, none⟩) n c) fp) (hn : fp.Nodup) (i : Nat) (hi : i < l.length) :
    ∃ vs f, own w vs l[i] f ∧ (∀ j, j < Cel.k α → w.cell? ⟨g, i * Cel.k α + j, none⟩ = vs[j]?) ∧ (∀ b ∈ f, b ∈ fp) ∧ f.Nodup ∧ g ∉ f ∧ g ∈ fp ∧
      ∀ (w' : World) (vs' : List Value) (x' : α), own w' vs' x' f → w'.heap[g]? = (setCells w g (i * Cel.k α) vs').heap[g]? → (∀ b ∈ fp, b ≠ g → b ∉ f → w'.heap[b]? = w.heap[b]?) →
        OwnS w' (l.set i x') (.slice (some ⟨g, 0, none⟩) n c) fp := by
  rcases h with ⟨h, _⟩ | ⟨g', c', cur, e, vss, fps, h, hg, hlc, hcm, hsz, rfl, hl, ht⟩
  · cases h
  · cases h
    obtain ⟨vs, f, h1, h2, h3⟩ := hl.at i l[i] (List.getElem?_eq_getElem hi)
    have hgf := (List.nodup_cons.1 hn).1
    have hfm : ∀ b ∈ f, b ∈ fps.flatten := fun b hb => List.mem_flatten.2 ⟨f, List.mem_of_getElem? h2, hb⟩
    have hk : (i + 1) * Cel.k α ≤ l.length * Cel.k α := Nat.mul_le_mul_right _ hi
    have hk2 : l.length * Cel.k α ≤ c * Cel.k α := Nat.mul_le_mul_right _ hlc
    rw [Nat.succ_mul] at hk
    have hfn : f.Nodup := nodup_of_flatten (List.nodup_cons.1 hn).2 (List.mem_of_getElem? h2)
    refine ⟨vs, f, h3, ?_, fun b hb => List.mem_cons_of_mem _ (hfm b hb), hfn, fun hb => hgf (hfm g hb), by simp, ?_⟩
    · intro j hj
      have h4 := flatten_at vss hl.flat_len i j vs h1 hj
      rw [← ht, List.getElem?_take, if_pos (by omega)] at h4
      rw [← h4]; simp [World.cell?, hg]
    · intro w' vs' x' hx' hg' hk'
      have hvl : vs'.length = Cel.k α := rd_len (own_rd (B := w'.heap.size) hx' (own_lt hx'))
      have hset := setCells_heap g (i * Cel.k α) e vs' w 0 cur hg (by omega)
      rw [← hg'] at hset
      refine .inr ⟨g, c, _, e, vss.set i vs', fps, by simp, hset, by simpa using hlc, hcm, ?_, rfl, ?_, ?_⟩
      · simp; omega
      · have hfi : fps.set i f = fps := by
          apply List.ext_getElem?; intro j
          rw [List.getElem?_set]; split
          · rename_i e; subst e; split
            · exact h2.symm
            · rename_i hlt; rw [List.getElem?_eq_none (by omega)]
          · rfl
        rw [← hfi]
        -- every other element keeps its blocks
        suffices ∀ (vss : List (List Value)) (fps : List (List Nat)) (l : List α) (i : Nat), OwnL w vss l fps → fps.flatten.Nodup → fps[i]? = some f → (∀ b ∈ fps.flatten, b ∉ f → w'.heap[b]? = w.heap[b]?) →
            OwnL w' (vss.set i vs') (l.set i x') (fps.set i f) from
          this vss fps l i hl (List.nodup_cons.1 hn).2 h2 fun b hb hbf => hk' b (List.mem_cons_of_mem _ hb) (fun e => hgf (e ▸ hb)) hbf
        intro vss
        induction vss with
        | nil => intro fps l i hl _ hf _; cases l <;> cases fps <;> simp_all [OwnL]
        | cons a vss ih =>
          intro fps l i hl hnd hf hk
          cases l with
          | nil => cases fps <;> simp_all [OwnL]
          | cons y ys =>
            cases fps with
            | nil => simp_all
            | cons f0 fs =>
              rw [List.flatten_cons, List.nodup_append] at hnd
              cases i with
              | zero =>
                simp at hf; subst hf
                exact ⟨hx', hl.2.keep fun b hb => hk b (by rw [List.flatten_cons]; exact List.mem_append_right _ hb) fun hb' => hnd.2.2 b hb' b hb rfl⟩
              | succ i =>
                have hf' : fs[i]? = some f := by simpa using hf
                refine ⟨own_keep hl.1 fun b hb => hk b (by simp [hb]) fun hb' => hnd.2.2 b hb b (List.mem_flatten.2 ⟨f, List.mem_of_getElem? hf', hb'⟩) rfl, ?_⟩
                exact ih fs ys i hl.2 hnd.2.1 hf' fun b hb => hk b (by rw [List.flatten_cons]; exact List.mem_append_right _ hb)
      · simp only [List.length_set, Nat.add_zero]
        rw [flatten_set hl.flat_len h1, ← ht, hvl]
        exact take_seg _ _ _ _ _ hvl.symm (by omega) (by simp; omega)

/-- Outside of these blocks nothing has turned. -/
structure Chg (fp : List Nat) (w w' : World) : Prop where
  os : w'.os = w.os
  tape : w'.tape = w.tape
  output : w'.output = w.output
  size : w.heap.size ≤ w'.heap.size
  block : ∀ b, b < w.heap.size → b ∉ fp → w'.heap[b]? = w.heap[b]?

theorem Chg.refl (fp : List Nat) (w : World) : Chg fp w w := ⟨rfl, rfl, rfl, Nat.le_refl _, fun _ _ _ => rfl⟩
theorem Chg.trans {fp : List Nat} {a b c : World} (h : Chg fp a b) (k : Chg fp b c) : Chg fp a c :=
  ⟨k.os.trans h.os, k.tape.trans h.tape, k.output.trans h.output, Nat.le_trans h.size k.size, fun i hi hf => (k.block i (Nat.lt_of_lt_of_le hi h.size) hf).trans (h.block i hi hf)⟩
theorem Chg.mono {f1 f2 : List Nat} {w w' : World} (h : Chg f1 w w') (hs : ∀ b ∈ f1, b ∈ f2) : Chg f2 w w' :=
  ⟨h.os, h.tape, h.output, h.size, fun b hb hf => h.block b hb fun hf' => hf (hs b hf')⟩
theorem Chg.below {fp : List Nat} {B : Nat} {w0 w w' : World} (h : Chg fp w w') (hb : Below B w0 w) (hf : ∀ b ∈ fp, B ≤ b) (hB : B ≤ w.heap.size) : Below B w0 w' :=
  hb.trans ⟨h.os, h.tape, h.output, h.size, fun b hb => h.block b (by omega) fun hm => by have := hf b hm; omega⟩
theorem chgB {fp : List Nat} {w0 W w' : World} (hb : Below w0.heap.size w0 W) (hc : Chg fp W w') (hf : ∀ b ∈ fp, w0.heap.size ≤ b) : Below w0.heap.size w0 w' := hc.below hb hf hb.size
theorem Chg.of_below {fp : List Nat} {w w' : World} (h : Below w.heap.size w w') : Chg fp w w' := ⟨h.os, h.tape, h.output, h.size, fun b hb _ => h.block b hb⟩
theorem Chg.alloc {fp : List Nat} {w w' : World} (h : Chg fp w w') (o : Obj) : Chg fp w (w'.alloc o) := h.trans ⟨rfl, rfl, rfl, by simp, fun b hb _ => Below.heap_alloc _ _ _ hb⟩
theorem Chg.setCells {fp : List Nat} {w w' : World} (h : Chg fp w w') {g : Nat} (hg : g ∈ fp) (o : Nat) (vs : List Value) : Chg fp w (setCells w' g o vs) := by
  suffices ∀ (vs : List Value) (w1 : World) (i : Nat), Chg fp w w1 → Chg fp w (@_root_.Go.Proofs.YthnilnggpbploaaGreat.setCells w1 g o vs i) from this vs w' 0 h
  intro vs
  induction vs with
  | nil => intro w1 i h; exact h
  | cons v vs ih =>
    intro w1 i h
    refine ih _ _ (h.trans ⟨rfl, rfl, rfl, by simp [World.setCell], fun b _ hf => Below.heap_setCell _ _ _ _ (fun e => hf (e ▸ hg))⟩)
theorem OwnS.chg [Cel α] {v : Value} {fp f2 : List Nat} {w' : World} (h : OwnS w l v fp) (hc : Chg f2 w w') (hd : ∀ b ∈ fp, b ∉ f2) : OwnS w' l v fp :=
  h.keep fun b hb => hc.block b (h.lt b hb) (hd b hb)

/-- A slice that can be read at this world: all that it is reached by is there. -/
def Sl [Cel α] (w : World) (l : List α) (v : Value) : Prop := RdS w.heap.size w l v

theorem Sl.to [Cel α] {w' : World} {v : Value} (h : Sl w l v) (hb : Below w.heap.size w w') : Sl w' l v := (RdS.below h hb).mono hb.size
theorem OwnS.sl [Cel α] {v : Value} {fp : List Nat} (h : OwnS w l v fp) : Sl w l v := h.read
theorem RdS.sl [Cel α] {v : Value} (h : RdS B w l v) (hB : B ≤ w.heap.size) : Sl w l v := h.mono hB
theorem Sl.open [Cel α] {v : Value} (h : Sl w l v) : ∃ a c, v = .slice a l.length c ∧ (l.length : Int) ≤ 9223372036854775807 ∧ (c : Int) ≤ 9223372036854775807 ∧ l.length ≤ c ∧ (a = none → c = 0) := RdS.open h
theorem Sl.at [Cel α] {a : Option Addr} {n c : Nat} (h : Sl w l (.slice a n c)) (i : Nat) (hi : i < l.length) :
    ∃ b o vs, a = some ⟨b, o, none⟩ ∧ b < w.heap.size ∧ rd w.heap.size w vs l[i] ∧ ∀ j, j < Cel.k α → w.cell? ⟨b, o + i * Cel.k α + j, none⟩ = vs[j]? := RdS.at h i hi
theorem Sl.byte {w : World} {l : List UInt8} {a : Option Addr} {n c : Nat} (h : Sl w l (.slice a n c)) (i : Nat) (hi : i < l.length) :
    ∃ b o, a = some ⟨b, o, none⟩ ∧ w.cell? ⟨b, o + i, none⟩ = some (.int .u8 (l[i]).toNat) := by
  obtain ⟨b, o, vs, h1, _, rfl, h3⟩ := h.at i hi
  exact ⟨b, o, h1, by simpa [Cel.k] using h3 0 (by decide)⟩

theorem OwnS.low [Cel α] {v : Value} {fp : List Nat} (h : OwnS w l v fp) (hf : Fr B fp) {p : Addr} (hp : p.block < B) (u : Value) : OwnS (w.setCell p u) l v fp :=
  h.setCell (fun hm => by have := hf.2 _ hm; omega) u

/-- A variable's own block. -/
def Bx (w : World) (b : Nat) (cs : List Value) : Prop := ∃ e, w.heap[b]? = some (.cells cs.toArray e (0, 0))
theorem Bx.lt {w : World} {b : Nat} {cs : List Value} (h : Bx w b cs) : b < w.heap.size := by
  obtain ⟨e, h⟩ := h; exact (Array.getElem?_eq_some_iff.1 h).1
theorem Bx.c {w : World} {b : Nat} {cs : List Value} (h : Bx w b cs) (j : Nat) (v : Value) (hv : cs[j]? = some v) : w.cell? ⟨b, j, none⟩ = some v := by
  obtain ⟨e, h⟩ := h
  unfold World.cell?; rw [h]; simpa using hv
theorem Bx.z {w : World} {b : Nat} {cs : List Value} (h : Bx w b cs) (o : Nat) : w.frozen? ⟨b, o, none⟩ = false := by
  obtain ⟨e, h⟩ := h; simp [World.frozen?, h]
theorem Bx.via {w w' : World} {b : Nat} {cs : List Value} (h : Bx w b cs) (hb : Below w.heap.size w w') : Bx w' b cs := by
  have := h.lt
  obtain ⟨e, h⟩ := h
  exact ⟨e, by rw [hb.block b this]; exact h⟩
theorem Bx.block {w w' : World} {b : Nat} {cs : List Value} (h : Bx w b cs) (hb : w'.heap[b]? = w.heap[b]?) : Bx w' b cs := by
  obtain ⟨e, h⟩ := h; exact ⟨e, hb.trans h⟩
theorem Bx.chg {w w' : World} {b : Nat} {cs : List Value} {fp : List Nat} (h : Bx w b cs) (hc : Chg fp w w') (hn : b ∉ fp) : Bx w' b cs := by
  have := h.lt
  obtain ⟨e, h⟩ := h
  exact ⟨e, by rw [hc.block b this hn]; exact h⟩
@[simp] theorem bx_alloc {w : World} {b : Nat} {cs : List Value} (h : Bx w b cs) (o : Obj) : Bx (w.alloc o) b cs := by
  have := h.lt
  obtain ⟨e, h⟩ := h
  exact ⟨e, by rw [Below.heap_alloc w o b this]; exact h⟩
@[simp] theorem bx_new (w : World) (cs : List Value) (e : TypeId) {b : Nat} (h : b = w.heap.size) : Bx (w.alloc (.cells cs.toArray e)) b cs := ⟨e, by subst h; exact heap_alloc_new w _⟩
@[simp] theorem bx_drew {w : World} {b : Nat} {cs : List Value} (h : Bx w b cs) : Bx w.drew b cs := h
@[simp] theorem bx_drewN {w : World} {b : Nat} {cs : List Value} (h : Bx w b cs) (n : Nat) : Bx (w.drewN n) b cs := h
@[simp] theorem bx_other {w : World} {b : Nat} {cs : List Value} (h : Bx w b cs) {p : Addr} (hp : ¬ b = p.block) (v : Value) : Bx (w.setCell p v) b cs := by
  obtain ⟨e, h⟩ := h
  exact ⟨e, by rw [Below.heap_setCell w p v b hp]; exact h⟩
theorem Bx.set {w : World} {b : Nat} {cs : List Value} (h : Bx w b cs) (j : Nat) (v : Value) : Bx (w.setCell ⟨b, j, none⟩ v) b (cs.set j v) := by
  obtain ⟨e, h⟩ := h
  refine ⟨e, ?_⟩
  rw [setCell_eq_setRow w b j cs.toArray e (0, 0) v h, setRow_heap w b _ _ e _ h]
  simp

theorem _root_.Go.RowKit.Below.open1 [Cel α] {B : Nat} {w0 : World} (_ : Below B w0 w) {a : Option Addr} {n c : Nat} {fp : List Nat} (h : OwnS w l (.slice a n c) fp) :
    n = l.length ∧ (a = none → c = 0) ∧ n ≤ c ∧ (c : Int) ≤ 9223372036854775807 ∧ True := by
  obtain ⟨a', c', e, _, h2, h3, h4⟩ := h.read.open
  cases e; exact ⟨rfl, h4, h3, h2, trivial⟩

/-- What is made later shares nothing with what was made ahead. -/
theorem disj {f1 f2 : List Nat} {w1 W : World} (h1 : ∀ b ∈ f1, b < w1.heap.size) (hb : Below w1.heap.size w1 W) (h2 : Fr W.heap.size f2) : ∀ b ∈ f2, b ∉ f1 :=
  fun b hb2 hb1 => by have := h1 b hb1; have := h2.2 b hb2; have := hb.size; omega

/-- Blocks from lo up to hi. -/
def Rng (lo hi : Nat) (fp : List Nat) : Prop := ∀ b ∈ fp, lo ≤ b ∧ b < hi
theorem OwnS.rng [Cel α] {v : Value} {fp : List Nat} (h : OwnS w l v fp) (hf : Fr B fp) {lo : Nat} (hlo : lo ≤ B) : Rng lo w.heap.size fp :=
  fun b hb => ⟨Nat.le_trans hlo (hf.2 b hb), h.lt b hb⟩
theorem OwnS.out [Cel α] {v : Value} {fp : List Nat} (h : OwnS w l v fp) {lo hi : Nat} (hm : Rng lo hi fp) {p : Addr} (hp : p.block < lo ∨ hi ≤ p.block) (u : Value) : OwnS (w.setCell p u) l v fp :=
  h.setCell (fun m => by have := hm _ m; omega) u

@[simp] theorem bl_refl (w : World) : Below w.heap.size w w := Below.refl _ _
@[simp] theorem bl_alloc {a w : World} (h : Below a.heap.size a w) (o : Obj) : Below a.heap.size a (w.alloc o) := h.alloc h.size o
@[simp] theorem bl_drew {a w : World} {B : Nat} (h : Below B a w) : Below B a w.drew := h.drew
@[simp] theorem bl_drewN {a w : World} {B : Nat} (h : Below B a w) (n : Nat) : Below B a (w.drewN n) := h.trans ⟨rfl, rfl, rfl, Nat.le_refl _, fun _ _ => rfl⟩
@[simp] theorem bl_setCell {a w : World} {B : Nat} (h : Below B a w) {p : Addr} (hp : B ≤ p.block) (u : Value) : Below B a (w.setCell p u) := h.setCell hp u
theorem bl_le {a b : Nat} (h : a ≤ b) : a ≤ b + 1 := Nat.le_succ_of_le h
/-- Behind a call. -/
theorem via {w0 W w1 : World} (h : Below w0.heap.size w0 W) (hb : Below W.heap.size W w1) : Below w0.heap.size w0 w1 := h.trans (hb.mono h.size)

theorem ret_mk {P : Program} {fn : Func} {R : Ending → World → Prop} {a : Act} {w : World} (v : Value) (hr : (results fn a.tmps).run P w = .ok v w) (hd : a.defers = []) (hR : R (.returned v) w) : bodyPost P fn R .ret a w := bodyPost_ret hr hd hR

theorem OwnL.flat_nil [Flat α] : ∀ {vss : List (List Value)} {l : List α} {fps : List (List Nat)}, OwnL w vss l fps → fps.flatten = [] := by
  intro vss
  induction vss with
  | nil => intro l fps h; cases l <;> cases fps <;> simp_all [OwnL]
  | cons a vss ih =>
    intro l fps h
    cases l with
    | nil => cases fps <;> simp_all [OwnL]
    | cons x xs =>
      cases fps with
      | nil => simp_all [OwnL]
      | cons f fs => rw [List.flatten_cons, Flat.flat_fp h.1, ih h.2]; rfl

theorem OwnL.take [Cel α] : ∀ {vss : List (List Value)} {l : List α} {fps : List (List Nat)} (m : Nat), OwnL w vss l fps → OwnL w (vss.take m) (l.take m) (fps.take m) := by
  intro vss
  induction vss with
  | nil => intro l fps m h; cases l <;> cases fps <;> simp_all [OwnL]
  | cons a vss ih =>
    intro l fps m h
    cases l with
    | nil => cases fps <;> simp_all [OwnL]
    | cons x xs =>
      cases fps with
      | nil => simp_all [OwnL]
      | cons f fs =>
        cases m with
        | zero => simp [OwnL]
        | succ m => exact ⟨h.1, ih m h.2⟩

theorem flatten_take {β : Type} {k : Nat} : ∀ {vss : List (List β)} (m : Nat), (∀ v ∈ vss, v.length = k) → (vss.take m).flatten = vss.flatten.take (m * k) := by
  intro vss
  induction vss with
  | nil => intro m _; simp
  | cons a vss ih =>
    intro m h
    cases m with
    | zero => simp
    | succ m =>
      have ha : a.length = k := h a (by simp)
      rw [List.take_succ_cons, List.flatten_cons, ih m (fun v hv => h v (by simp [hv])), List.flatten_cons, Nat.succ_mul, Nat.add_comm, ← ha, List.take_length_add_append]

/-- The first elements of an own row of a flat type. -/
theorem OwnS.takeF [Flat α] {a : Option Addr} {n c : Nat} {fp : List Nat} (h : OwnS w l (.slice a n c) fp) (m c' : Nat) (hm : m ≤ l.length) (h1 : m ≤ c') (h2 : c' ≤ c) : OwnS w (l.take m) (.slice a m c') fp := by
  rcases h with ⟨h, rfl, rfl⟩ | ⟨g, c0, cur, e, vss, fps, h, hg, hlc, hcm, hsz, rfl, hl, ht⟩
  · cases h
    have : m = 0 := by simpa using hm
    have : c' = 0 := by omega
    subst m; subst c'
    exact .inl ⟨rfl, by simp, rfl⟩
  · cases h
    have h3 : c' * Cel.k α ≤ c * Cel.k α := Nat.mul_le_mul_right _ h2
    have h4 : m * Cel.k α ≤ l.length * Cel.k α := Nat.mul_le_mul_right _ hm
    have e1 : (l.take m).length = m := by rw [List.length_take]; omega
    refine .inr ⟨g, c', cur, e, vss.take m, fps.take m, by rw [e1], hg, by omega, by omega, by omega, ?_, hl.take m, ?_⟩
    · rw [hl.flat_nil, (hl.take m).flat_nil]
    · rw [e1, flatten_take m hl.flat_len, ← ht, List.take_take, Nat.min_eq_left h4]

end
end Go.Proofs.YthnilnggpbploaaGreat
