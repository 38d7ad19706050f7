/- Parts of a proof. -/
import Derived.Test.YtipbfgknaihifaaGreatZa
namespace Go.Proofs.YtipbfgknaihifaaGreat
open Go.RowKit
section
variable {P : Program} {ρ ρ' : ye} {Z Z' : Zs} {w w' : World} {H H' : List Ob} {o : Oper} {ev : Operand → V}
theorem zQW {v : V} {x : Value} (h : Cn ρ Z w v x) (hl : zIO v = true) : x.oneCell' = true := by
 cases h <;> simp_all [zIO, Value.oneCell']
theorem zP1 {q : Nat} : ∀ (t : Ty) (x : El t), ∀ u ∈ enc q t x, zIO u = true
 | .int, _ => by simp [enc, zIO, Value.oneCell']
 | .u8, _ => by simp [enc, zIO, Value.oneCell']
 | .bool, _ => by simp [enc, zIO, Value.oneCell']
 | .str, _ => by simp [enc, zIO, Value.oneCell']
 | .lst _, _ => by simp [enc, zIO]
 | .pr a b, x => by
  intro u hu
  simp only [enc, List.mem_append] at hu
  rcases hu with h | h
  ·exact zP1 a _ u h
  ·exact zP1 b _ u h
theorem zY2 (w : World) (g : Nat) (cs : Array Value) : (w.setRow g cs).heap.size = w.heap.size := by simp [World.setRow]
theorem TrO.one : ∀ {s : OT} {x : El s.ty} {vs : List Value} {fp : Nat → Prop}, TrO Z w s x vs fp → ∀ v ∈ vs, v.oneCell' = true
 | .d t, x, vs, fp, h, v, hv => by
  obtain ⟨j, hj⟩ := List.mem_iff_getElem?.1 hv
  have hlt : j < zc t := by rw [← h.2.1]; exact (List.getElem?_eq_some_iff.1 hj).1
  have hu : (Go.Proofs.YtipbfgknaihifaaGreat.enc 0 t x)[j]? = some ((Go.Proofs.YtipbfgknaihifaaGreat.enc 0 t x)[j]'(by rw [yL]; exact hlt)) := List.getElem?_eq_getElem _
  exact zQW (h.2.2 j _ v hu hj) (zP1 t x _ (List.mem_of_getElem? hu))
 | .o s, x, vs, fp, h, v, hv => by
  obtain ⟨y, b, rfl, h⟩ := h
  simp at hv; subst hv
  rcases h with ⟨⟨a, rfl⟩, _⟩ | ⟨_, _, _, _, h⟩
  ·rfl
  ·rw [h.hv]; rfl
 | .pr a b, x, vs, fp, h, v, hv => by
  obtain ⟨f, g, h1, h2, _, _⟩ := h
  rw [← List.take_append_drop (zc a.ty) vs] at hv
  rcases List.mem_append.1 hv with hv | hv
  ·exact h1.one v hv
  ·exact h2.one v hv
theorem zgm {q : Nat} {t : Ty} {l : List (El t)} {b off : Nat} {ys : Nat → Nat → Value} (h5 : ∀ i j, i < l.length → j < zc t → w.cell? ⟨b, off + i * zc t + j, none⟩ = some (ys i j))
  (h6 : ∀ (i : Nat) (x : El t) (j : Nat) (u : V), l[i]? = some x → (enc q t x)[j]? = some u → Cn ρ Z w u (ys i j)) :
  ∃ news : List Value, news.length = l.length * zc t ∧ (∀ j u, news[j]? = some u → w.cell? ⟨b, off + j, none⟩ = some u) ∧ (∀ u ∈ news, u.oneCell' = true) ∧
   ∀ (i : Nat) (x : El t) (j : Nat) (u : V), l[i]? = some x → (enc q t x)[j]? = some u → ∃ y, news[i * zc t + j]? = some y ∧ Cn ρ Z w u y := by
 have hk := zB0 t
 have one : ∀ i j, i < l.length → j < zc t → (ys i j).oneCell' = true := by
  intro i j hi hj
  have hjl : j < (enc q t l[i]).length := by rw [yL]; exact hj
  have hu : (enc q t l[i])[j]? = some (enc q t l[i])[j] := List.getElem?_eq_getElem hjl
  have hc := h6 i l[i] j _ (List.getElem?_eq_getElem hi) hu
  have hm := zP1 t l[i] _ (List.mem_of_getElem? hu)
  exact zQW hc hm
 refine ⟨(List.range (l.length * zc t)).map fun m => ys (m / zc t) (m % zc t), by simp, fun j u hu => ?_, fun u hu => ?_, fun i x j u hx hu => ?_⟩
 ·simp only [List.getElem?_map, Option.map_eq_some_iff] at hu
  obtain ⟨m, h1, rfl⟩ := hu
  have hlt : j < l.length * zc t := by have := (List.getElem?_eq_some_iff.1 h1).1; simpa using this
  rw [List.getElem?_range hlt] at h1
  cases h1
  have hd : j / zc t < l.length := by rw [Nat.div_lt_iff_lt_mul hk]; exact hlt
  rw [← h5 _ _ hd (Nat.mod_lt _ hk)]
  congr 2
  rw [Nat.add_assoc, Nat.div_add_mod']
 ·simp only [List.mem_map, List.mem_range] at hu
  obtain ⟨m, h1, rfl⟩ := hu
  exact one _ _ (by rw [Nat.div_lt_iff_lt_mul hk]; exact h1) (Nat.mod_lt _ hk)
 ·have hi : i < l.length := (List.getElem?_eq_some_iff.1 hx).1
  have hj : j < zc t := by rw [← yL (q := q) t x]; exact (List.getElem?_eq_some_iff.1 hu).1
  have hlt : i * zc t + j < l.length * zc t := by
   have : (i + 1) * zc t ≤ l.length * zc t := Nat.mul_le_mul_right _ hi
   rw [Nat.succ_mul] at this; omega
  refine ⟨ys i j, ?_, h6 i x j u hx hu⟩
  rw [List.getElem?_map, List.getElem?_range hlt, Option.map_some]
  have e1 : (i * zc t + j) / zc t = i := by rw [Nat.mul_comm, Nat.mul_add_div hk, Nat.div_eq_of_lt hj]; rfl
  have e2 : (i * zc t + j) % zc t = j := by rw [Nat.mul_comm, Nat.mul_add_mod, Nat.mod_eq_of_lt hj]
  rw [e1, e2]
def zmF (w : World) (k n : Nat) (ad : Option Addr) (news : List Value) : Prop :=
 (ad = none → n = 0) ∧ news.length = n * k ∧ (∀ a, ad = some a → ∀ (j : Nat) (u : Value), news[j]? = some u → w.cell? (a.add j) = some u) ∧ (∀ u ∈ news, u.oneCell' = true)
structure Src (ρ : ye) (Z : Zs) (H : List Ob) (w : World) (s : OT) (l : List (El s.ty)) (os : List Nat) (x : Value) (ad : Option Addr) (c : Nat) (news : List Value) (fs : Nat → Nat → Prop) : Prop where
 hx : x = .slice ad l.length c
 row : zmF w (zc s.ty) l.length ad news
 tr : ∀ i x, l[i]? = some x → TrO Z w s x ((news.drop (i * zc s.ty)).take (zc s.ty)) (fs i)
 dj : ∀ i j b, i < l.length → j < l.length → fs i b → fs j b → i = j
 fr : ∀ i b, i < l.length → fs i b → zIg ρ H os b
 ar : ∀ o, o ∈ os → ∃ s l, H[o]? = some (.arr s l)
theorem Src.nil {s : OT} {os : List Nat} {a : Option Addr} {c : Nat} (h : ∀ o, o ∈ os → ∃ s l, H[o]? = some (.arr s l)) : Src ρ Z H w s [] os (.slice a 0 c) a c [] fun _ => zA2 :=
 ⟨rfl, ⟨fun _ => rfl, by simp, by intro a _ j u h; simp at h, by simp⟩, by intro i x h; simp at h, by intro i j b h; simp at h, by intro i b h; simp at h, h⟩
theorem zQf {q : Nat} : ∀ (t : Ty) (x : El t), zE4 t = true → enc q t x = enc 0 t x
 | .int, _, _ => rfl
 | .u8, _, _ => rfl
 | .bool, _, _ => rfl
 | .str, _, _ => rfl
 | .lst _, _, h => by simp [zE4] at h
 | .pr a b, x, h => by
  simp only [zE4, Bool.and_eq_true] at h
  simp only [enc, zQf a x.1 h.1, zQf b x.2 h.2]
theorem zYb {t : Ty} {v : V} {l : List (El t)} {x : Value} (hr : HR ρ Z H w) (h : Cn ρ Z w v x) (hd : zjU H t v = some l) : ∃ ad c news, Src ρ Z H w (.d t) l [] x ad c news fun _ => zA2 := by
 have none_ : ∀ o, o ∈ ([] : List Nat) → ∃ s l, H[o]? = some (.arr s l) := fun o h => by cases h
 have ext : ∀ {ρ' : ye} {q : Nat} (x : Value), (q = 0 ∨ zE4 t = true) → Cn ρ' Z w (.ext q t l) x → ∃ ad c news, Src ρ Z H w (.d t) l [] x ad c news fun _ => zA2 := by
  intro ρ' q x hq h
  obtain ⟨ad, c, b, off, ys, rfl, h0, h1, h2, h3, h4, h5, h6⟩ := h.ext_inv
  rcases h4 with rfl | ⟨rfl, h4⟩
  ·exact ⟨ad, c, [], Src.nil none_⟩
  ·obtain ⟨news, g1, g2, g3, g4⟩ := zgm h5 h6
   refine ⟨_, c, news, rfl, ⟨(by intro h; cases h), g1, fun a e j u hu => by cases e; rw [zHM]; exact g2 j u hu, g3⟩, fun i x hx => ⟨fun _ h => h, ?_, fun j u y hu hy => ?_⟩, fun _ _ _ _ _ h => h.elim, fun _ _ _ h => h.elim, none_⟩
   ·have hi := (List.getElem?_eq_some_iff.1 hx).1
    have : (i + 1) * zc t ≤ l.length * zc t := Nat.mul_le_mul_right _ hi
    rw [Nat.succ_mul] at this
    show ((news.drop (i * zc t)).take (zc t)).length = zc t
    rw [List.length_take, List.length_drop]; omega
   ·have hj : j < zc t := by rw [← yL (q := 0) t x]; exact (List.getElem?_eq_some_iff.1 hu).1
    have hu' : (enc q t x)[j]? = some ((enc q t x)[j]'(by rw [yL]; exact hj)) := List.getElem?_eq_getElem _
    obtain ⟨y', k1, k2⟩ := g4 i x j _ hx hu'
    have hy : news[i * zc t + j]? = some y := by
     have : ((news.drop (i * zc t)).take (zc t))[j]? = some y := hy
     rwa [List.getElem?_take, if_pos hj, List.getElem?_drop] at this
    rw [hy] at k1; cases k1
    rcases hq with rfl | hf
    ·rw [hu] at hu'; cases hu'
     exact k2.clF (zFW t x _ (List.mem_of_getElem? hu)) (fun _ h => h) (fun _ _ => rfl)
    ·have e := zQf (q := q) t x hf
     have : some u = some ((enc q t x)[j]'(by rw [yL]; exact hj)) := by rw [← hu', ← hu, e]
     cases this
     obtain ⟨c', hc⟩ := zV5 (x := x) hf _ (List.mem_of_getElem? hu)
     rw [hc] at k2 ⊢
     rw [vG k2]; exact .c _ (zIU k2)
 unfold zjU at hd
 split at hd
 ·rename_i q t' l'
  split at hd
  ·rename_i hq
   split at hd
   ·rename_i e _
    obtain rfl := e.down
    rw [zFU] at hd
    cases hd; exact ext x (by simpa using hq) h
   ·cases hd
  ·cases hd
 ·rename_i ob
  obtain ⟨p, g, rfl⟩ := h.obj_inv
  split at hd
  ·rename_i t' l' e
   split at hd
   ·rename_i e' _
    obtain rfl := e'.down
    rw [zFU] at hd
    cases hd
    rcases hr.ob ob p _ g e with ⟨⟨a, k1⟩, rfl, _⟩ | ⟨cur, e', c, fs, k⟩
    ·rw [k1]; exact ⟨a, 0, [], Src.nil none_⟩
    ·have hlen : ∀ i, i < l'.length → ((cur.toList.take (l'.length * zc t')).drop (i * zc t')).take (zc t') = yr cur (zc t') i := by
      intro i hi
      have : (i + 1) * zc t' ≤ l'.length * zc t' := Nat.mul_le_mul_right _ hi
      rw [Nat.succ_mul] at this
      simp only [yr]
      rw [List.drop_take, List.take_take]
      congr 1; omega
     have hsz : l'.length * zc t' ≤ cur.size := Nat.le_trans (Nat.mul_le_mul_right _ k.hc) k.hs
     have htr : ∀ i x, l'[i]? = some x → TrO Z w (.d t') x (yr cur (zc t') i) (fs i) := k.ht
     refine ⟨_, c, cur.toList.take (l'.length * zc t'), k.hv, ⟨(by intro h; cases h), (show (cur.toList.take (l'.length * zc t')).length = l'.length * zc t' by rw [List.length_take, Nat.min_eq_left (by rw [Array.length_toList]; exact hsz)]), fun a e j u hu => ?_, fun u hu => ?_⟩, fun i x hx => ?_, fun _ _ _ _ _ h => h.elim, fun _ _ _ h => h.elim, none_⟩
     ·cases e
      rw [zHM]
      rw [List.getElem?_take] at hu
      split at hu
      ·simp only [Nat.zero_add, World.cell?, k.hw, Option.isSome_none, Bool.false_eq_true, if_false]; simpa using hu
      ·cases hu
     ·obtain ⟨j, hj⟩ := List.mem_iff_getElem?.1 hu
      rw [List.getElem?_take] at hj
      split at hj
      ·rename_i hlt
       have hk := zB0 t'
       have hi : j / zc t' < l'.length := by rw [Nat.div_lt_iff_lt_mul hk]; exact hlt
       refine (htr _ _ (List.getElem?_eq_getElem hi)).one u (List.mem_of_getElem? (i := j % zc t') ?_)
       rw [zA4 (Nat.mod_lt _ hk), Nat.div_add_mod']; simpa using hj
      ·cases hj
     ·have hi := (List.getElem?_eq_some_iff.1 hx).1
      have ht := htr i x hx
      have : ((cur.toList.take (l'.length * zc t')).drop (i * zc t')).take (zc t') = yr cur (zc t') i := hlen i hi
      show TrO Z w (.d t') x (((cur.toList.take (l'.length * zc t')).drop (i * zc t')).take (zc t')) zA2
      rw [this]
      exact ⟨fun _ h => h, ht.2.1, ht.2.2⟩
   ·cases hd
  ·rename_i t' l' e
   split at hd
   ·rename_i e' _
    obtain rfl := e'.down
    rw [zFU] at hd
    cases hd
    exact ext _ (.inl rfl) (hr.ob ob p _ g e).1
   ·cases hd
  ·cases hd
 ·cases hd
  rw [vG h]
  exact ⟨none, 0, [], Src.nil none_⟩
 ·cases hd
  cases h
  exact ⟨_, 0, [], Src.nil none_⟩
 ·cases hd
theorem zdj {s : OT} {v : V} {l : List (El s.ty)} {x : Value} (hr : HR ρ Z H w) (h : Cn ρ Z w v x) (hd : zRx H s v = some l) : ∃ ad c news fs, Src ρ Z H w s l (match v with | .obj o => [o] | _ => []) x ad c news fs := by
 unfold zRx at hd
 split at hd
 ·rename_i ob
  obtain ⟨p, g, rfl⟩ := h.obj_inv
  split at hd
  ·rename_i s' l' e
   split at hd
   ·rename_i e' _
    obtain rfl := e'.down
    rw [zHN] at hd
    cases hd
    have har : ∀ o, o ∈ [ob] → ∃ s l, H[o]? = some (.arr s l) := fun o h => by simp at h; subst h; exact ⟨_, _, e⟩
    rcases hr.ob ob p _ g e with ⟨⟨a, k1⟩, rfl, _⟩ | ⟨cur, e', c, fs, k⟩
    ·rw [k1]; exact ⟨a, 0, [], _, Src.nil har⟩
    ·have hlen : ∀ i, i < l'.length → ((cur.toList.take (l'.length * zc s'.ty)).drop (i * zc s'.ty)).take (zc s'.ty) = yr cur (zc s'.ty) i := by
      intro i hi
      have : (i + 1) * zc s'.ty ≤ l'.length * zc s'.ty := Nat.mul_le_mul_right _ hi
      rw [Nat.succ_mul] at this
      simp only [yr]
      rw [List.drop_take, List.take_take]
      congr 1; omega
     have hsz : l'.length * zc s'.ty ≤ cur.size := Nat.le_trans (Nat.mul_le_mul_right _ k.hc) k.hs
     refine ⟨_, c, cur.toList.take (l'.length * zc s'.ty), fs, k.hv, ⟨(by intro h; cases h), by simp; omega, fun a e j u hu => ?_, fun u hu => ?_⟩, fun i x hx => ?_, k.hd, fun i b hi hb => ⟨ob, p, _, by simp, g, e, (k.hf b).2 (.inr ⟨i, hi, hb⟩)⟩, har⟩
     ·cases e
      rw [zHM]
      rw [List.getElem?_take] at hu
      split at hu
      ·simp only [Nat.zero_add, World.cell?, k.hw, Option.isSome_none, Bool.false_eq_true, if_false]; simpa using hu
      ·cases hu
     ·obtain ⟨j, hj⟩ := List.mem_iff_getElem?.1 hu
      rw [List.getElem?_take] at hj
      split at hj
      ·rename_i hlt
       have hk := zB0 s'.ty
       have hi : j / zc s'.ty < l'.length := by rw [Nat.div_lt_iff_lt_mul hk]; exact hlt
       refine (k.ht _ _ (List.getElem?_eq_getElem hi)).one u (List.mem_of_getElem? (i := j % zc s'.ty) ?_)
       rw [zA4 (Nat.mod_lt _ hk), Nat.div_add_mod']; simpa using hj
      ·cases hj
     ·rw [hlen i (List.getElem?_eq_some_iff.1 hx).1]
      exact k.ht i x hx
   ·cases hd
  ·cases hd
 ·cases hd
  rw [vG h]
  exact ⟨none, 0, [], _, Src.nil (fun o h => by cases h)⟩
 ·cases hd
  cases h
  exact ⟨_, 0, [], _, Src.nil (fun o h => by cases h)⟩
 ·cases hd
theorem zQN {s : OT} {v : V} {l : List (El s.ty)} {os : List Nat} {x : Value} (hr : HR ρ Z H w) (h : Cn ρ Z w v x) (hd : zQO H s v = some (l, os)) : ∃ ad c news fs, Src ρ Z H w s l os x ad c news fs := by
 unfold zQO at hd
 split at hd
 ·simp only [Option.map_eq_some_iff] at hd
  obtain ⟨l', h1, h2⟩ := hd
  cases h2
  obtain ⟨ad, c, news, g⟩ := zYb hr h h1
  exact ⟨ad, c, news, _, g⟩
 ·simp only [Option.map_eq_some_iff] at hd
  obtain ⟨l', h1, h2⟩ := hd
  cases h2
  exact zdj hr h h1
 ·rename_i hno
  simp only [Option.map_eq_some_iff] at hd
  obtain ⟨l', h1, h2⟩ := hd
  cases h2
  have := zdj hr h h1
  split at this
  ·exact absurd rfl (hno _)
  ·exact this
theorem zYB {t e : TypeId} {i : TypeInfo} {z : Value} {k : Nat} (ht : P.underlying t = some (.slice e)) (hi : P.info? e = some i) (hz : i.zero = some z) (hk : i.size = k) (hzs : z.cells.size = k) (hb : i.bytes ≤ 8388608)
    (ty : TypeId) (a0 : Option Addr) {m : Nat} {ad : Option Addr} {c : Nat} {news : List Value} (hr : zmF w k m ad news) (hm : m ≤ 16777216) :
    ((m = 0 ∧ (Builtin.append_ #[t, t] ty #[.slice a0 0 0, .slice ad m c]).run P w = .ok (.slice a0 0 0) w) ∨
     ∃ cur c', (Builtin.append_ #[t, t] ty #[.slice a0 0 0, .slice ad m c]).run P w = .ok (.slice (some ⟨w.heap.size, 0, none⟩) m c') (w.drew.alloc (.cells cur e)) ∧ m ≤ c' ∧ c' ≤ maxLen ∧ c' * k ≤ cur.size ∧
       ∀ (j : Nat) (u : Value), news[j]? = some u → cur[j]? = some u) := by
  obtain ⟨h1, h2, h3, h4⟩ := hr
  by_cases h0 : m = 0
  · subst h0
    refine .inl ⟨rfl, ?_⟩
    have hf : (Builtin.firstCells i.size 0 (.slice ad 0 c)).run P w = .ok #[] w := by
      cases ad with
      | none => exact run_firstCells_none w _ _ _ _
      | some a => exact run_firstCells_some (P := P) w i.size 0 a 0 c [] (by simp) (by intro j v h; simp at h)
    cases a0 <;> simp [Builtin.append_, run_underlying ht, sizeOf, typeInfo, hi, Builtin.lenOf, hf, storeCells]
  · right
    cases ad with
    | none => exact absurd (h1 rfl) h0
    | some a =>
      have hby : m * i.bytes ≤ 140737488355328 := Nat.le_trans (Nat.mul_le_mul hm hb) (by decide)
      have hml : m ≤ maxLen := by simp only [maxLen]; omega
      have hge := grownCap_ge w m 0 e
      have hle := grownCap_le_maxLen w m 0 e hml
      cases a0 with
      | none =>
        have hrun := run_append_nil (P := P) w t ty e i z ht hi hz a m c news (by rw [h2, hk]) (h3 a rfl) (by omega) (by omega) (by omega)
        refine ⟨_, _, hrun, hge, hle, ?_, fun j u hu => ?_⟩
        · simp only [Array.size_append, List.size_toArray, size_zeroCells, hzs, h2, ← Nat.add_mul]
          exact Nat.mul_le_mul_right _ (by omega)
        · rw [Array.getElem?_append_left (by simpa using (List.getElem?_eq_some_iff.1 hu).1)]
          simpa using hu
      | some b =>
        have hrun := run_append_grow (P := P) w t ty e i z ht hi hz b 0 0 [] (by simp) (by intro j v h; simp at h) a m c news (by rw [h2, hk]) (h3 a rfl) (by omega) (by omega) (growslice_fits (by omega) (by rw [Nat.zero_add]; exact hby))
        simp only [Nat.zero_add] at hrun
        refine ⟨_, _, hrun, hge, hle, ?_, fun j u hu => ?_⟩
        · simp only [Array.size_append, List.size_toArray, size_zeroCells, hzs, h2, ← Nat.add_mul, List.length_nil, Nat.zero_add]
          exact Nat.mul_le_mul_right _ (by omega)
        · have hlt := (List.getElem?_eq_some_iff.1 hu).1
          rw [Array.getElem?_append_left (by simp; omega)]
          simpa using hu
theorem zkH {t e : TypeId} {i : TypeInfo} {z : Value} {k : Nat} (ht : P.underlying t = some (.slice e)) (hi : P.info? e = some i) (hz : i.zero = some z) (hk : i.size = k) (hzs : z.cells.size = k) (hb : i.bytes ≤ 8388608)
  (ty : TypeId) {g n cp e' : Nat} {cur : Array Value} (hg : w.heap[g]? = some (.cells cur e' (0, 0))) (hn : n ≤ cp) (hcp : cp ≤ maxLen) (hsz : cp * k ≤ cur.size)
  {m : Nat} {ad : Option Addr} {c : Nat} {news : List Value} (hr : zmF w k m ad news) (hm : n + m ≤ 16777216) :
  ∃ b cur' e2 c' w', (Builtin.append_ #[t, t] ty #[.slice (some ⟨g, 0, none⟩) n cp, .slice ad m c]).run P w = .ok (.slice (some ⟨b, 0, none⟩) (n + m) c') w' ∧ w'.heap[b]? = some (.cells cur' e2 (0, 0)) ∧
   (b = g ∨ b = w.heap.size) ∧ Gr w w' ∧ (∀ b', b' < w.heap.size → b' ≠ g → w'.heap[b']? = w.heap[b']?) ∧ n + m ≤ c' ∧ c' ≤ maxLen ∧ c' * k ≤ cur'.size ∧
   (∀ (j : Nat) (u : Value), (cur.toList.take (n * k) ++ news)[j]? = some u → cur'[j]? = some u) := by
 obtain ⟨h1, h2, h3, h4⟩ := hr
 have hnk : n * k ≤ cur.size := Nat.le_trans (Nat.mul_le_mul_right _ hn) hsz
 have hf : (Builtin.firstCells i.size m (.slice ad m c)).run P w = .ok news.toArray w := by
  cases ad with
  | none =>
   have h0 := h1 rfl
   have : news = [] := List.eq_nil_of_length_eq_zero (by rw [h2, h0, Nat.zero_mul])
   subst this
   rw [h0]
   exact run_firstCells_none w _ _ _ _
  | some a => exact run_firstCells_some (P := P) w i.size m a _ c news (by rw [h2, hk]) (h3 a rfl)
 by_cases hroom : n + m ≤ cp
 ·have hfit : n * i.size + news.length ≤ cur.size := by
   rw [h2, hk, ← Nat.add_mul]; exact Nat.le_trans (Nat.mul_le_mul_right _ hroom) hsz
  have hst := run_storeCells_at P g (n * i.size) e' news 0 cur w hg (by simpa using hfit) h4
  simp only [Nat.add_zero] at hst
  refine ⟨g, (cur.toList.take (n * i.size) ++ news ++ cur.toList.drop (n * i.size + news.length)).toArray, e', cp, _, ?_, setRow_heap w g cur _ e' _ hg, .inl rfl, Gr.setRow w _ _, fun b' _ hb' => setRow_other w g b' _ hb', hroom, hcp, ?_, fun j u hu => ?_⟩
  ·simp [Builtin.append_, run_underlying ht, sizeOf, typeInfo, hi, Builtin.lenOf, hroom, hf, zHM, hst]
  ·simp only [List.size_toArray, List.length_append, List.length_take, List.length_drop, Array.length_toList]
   omega
  ·rw [← hk] at hu
   rw [List.getElem?_toArray, List.getElem?_append_left (List.getElem?_eq_some_iff.1 hu).1]
   exact hu
 ·have h0 : m ≠ 0 := by omega
  cases ad with
  | none => exact absurd (h1 rfl) h0
  | some a =>
   have hby : (n + m) * i.bytes ≤ 140737488355328 := Nat.le_trans (Nat.mul_le_mul hm hb) (by decide)
   have hml : n + m ≤ maxLen := by simp only [maxLen]; omega
   have hge := grownCap_ge w (n + m) cp e
   have hle := grownCap_le_maxLen w (n + m) cp e hml
   have hol : (cur.toList.take (n * k)).length = n * i.size := by rw [List.length_take, hk]; simp; omega
   have hrun := run_append_grow (P := P) w t ty e i z ht hi hz ⟨g, 0, none⟩ n cp (cur.toList.take (n * k)) hol (fun j v hv => by
     rw [zHM, Nat.zero_add]
     rw [List.getElem?_take] at hv
     split at hv
     ·simp only [World.cell?, hg, Option.isSome_none, Bool.false_eq_true, if_false]; simpa using hv
     ·cases hv) a m c news (by rw [h2, hk]) (h3 a rfl) (by omega) (by omega) (growslice_fits (by omega) (by omega))
   refine ⟨w.heap.size, _, e, _, _, hrun, heap_alloc_new w.drew _, .inr rfl, Gr.dalloc w _, fun b' hb' _ => Below.heap_alloc w.drew _ b' hb', hge, hle, ?_, fun j u hu => ?_⟩
   ·simp only [Array.size_append, List.size_toArray, size_zeroCells, hzs, h2, hol, hk, ← Nat.add_mul]
    exact Nat.mul_le_mul_right _ (by omega)
   ·have hlt := (List.getElem?_eq_some_iff.1 hu).1
    rw [Array.getElem?_append_left (by simp at hlt ⊢; omega)]
    simpa using hu
end
end Go.Proofs.YtipbfgknaihifaaGreat
namespace Go.Proofs.YtipbfgknaihifaaGreat
open Go.RowKit
section
variable {P : Program} {ρ ρ' : ye} {Z Z' : Zs} {w w' : World} {H H' : List Ob} {o : Oper} {ev : Operand → V}
def kq : List Nat → Nat
 | [] => 1
 | o :: os => xt (o :: os)
theorem HR.moveOnly (hr : HR ρ Z H w) (os : List Nat) (har : ∀ o, o ∈ os → ∃ s l, H[o]? = some (.arr s l)) {q : Nat} (hq : q = kq os) :
  Post q ρ Z H w (ρ.del os) Z (yK H os q) w ∧ (q < 2 → os = []) ∧ ∀ o, zAq q o = os.contains o := by
 have h1 : ∀ o, zAq q o = os.contains o ∧ zDT q o = os.contains o := by
  intro o
  subst hq
  cases os with
  | nil => exact ⟨zWz (by decide), zOO (by decide)⟩
  | cons a l => exact ⟨zJ1 _ _, zJa _ _⟩
 have h2 : os = [] → q < 3 := fun e => by subst e; subst hq; decide
 have h3 : q < 2 → os = [] := fun h => by
  subst hq
  cases os with
  | nil => rfl
  | cons a l => simp only [kq, xt] at h; omega
 obtain ⟨Z1, _, _, p, e⟩ := hr.move [] os h1 h2 (fun h => ⟨rfl, h3 h⟩) (fun o cs e hm => by
  obtain ⟨s, l, e'⟩ := har o hm
  rw [e] at e'; cases e')
 rw [e rfl] at p
 exact ⟨p, h3, fun o => (h1 o).1⟩
theorem zik (hr : HR ρ Z H w) (os : List Nat) : (ρ.del os) H.length = none := by
 cases e : (ρ.del os) H.length with
 | none => rfl
 | some p => have := hr.dom _ _ (ye.del_some e).2; omega
theorem zlV (K : List Ob) (x : Ob) (i : Nat) (hi : i ≠ K.length) : (K ++ [x])[i]? = K[i]? := by
 by_cases hlt : i < K.length
 ·rw [List.getElem?_append_left hlt]
 ·rw [List.getElem?_eq_none (by simp; omega), List.getElem?_eq_none (by omega)]
theorem zlS {s : OT} {os : List Nat} {q : Nat} (hr : HR ρ Z H w) (post : Post q ρ Z H w (ρ.del os) Z (yK H os q) w) (a0 : Option Addr) :
  ∃ ρ2, Post q ρ Z H w ρ2 Z (yK H os q ++ [.arr s []]) w ∧ Cn ρ2 Z w (.obj H.length) (.slice a0 0 0) := by
 have hbl : (yK H os q).length = H.length := x9 _ _ _
 refine ⟨(ρ.del os).upd H.length ⟨0, .slice a0 0 0, 0, zA2⟩, ?_, .obj (p := ⟨0, .slice a0 0 0, 0, zA2⟩) (ye.upd_self _ _ _) rfl⟩
 exact Post.place (f0 := zA2) hr post (M := zA2) (x := .arr s []) (zik hr os) (fun i hi => zlV _ _ i (by omega)) (by rw [← hbl]; simp) (fun b h => h.elim) (fun b k h => h.elim) (fun _ _ _ _ _ _ _ h => h.elim) (Gr.refl w) (fun _ _ _ => rfl) (.inl ⟨⟨a0, rfl⟩, rfl, fun b h => h⟩) (fun b h => h.elim)
  (fun cs h => by rw [List.getElem?_eq_none (by omega)] at h; cases h) (.inr (.inl (by omega))) (fun _ => ⟨hbl.symm, fun b h => h⟩)
theorem zm6 {s : OT} {t e : TypeId} {i : TypeInfo} {z : Value} (ht : P.underlying t = some (.slice e)) (hi : P.info? e = some i) (hz : i.zero = some z) (hk : i.size = zc s.ty) (hzs : z.cells.size = zc s.ty) (hb : i.bytes ≤ 8388608)
  (ty : TypeId) (a0 : Option Addr) {l2 : List (El s.ty)} {os : List Nat} {x : Value} {ad : Option Addr} {c : Nat} {news : List Value} {fs : Nat → Nat → Prop} (hr : HR ρ Z H w) (hsrc : Src ρ Z H w s l2 os x ad c news fs) (hm : l2.length ≤ 16777216) {q : Nat} (hq : q = kq os) :
  ∃ y w' ρ2, (Builtin.append_ #[t, t] ty #[.slice a0 0 0, x]).run P w = .ok y w' ∧ Post q ρ Z H w ρ2 Z (yK H os q ++ [.arr s l2]) w' ∧ Cn ρ2 Z w' (.obj H.length) y := by
 obtain ⟨post, hq2, _⟩ := hr.moveOnly os hsrc.ar hq
 rw [hsrc.hx]
 rcases zYB (w := w) ht hi hz hk hzs hb ty a0 (c := c) hsrc.row hm with ⟨h0, hrun⟩ | ⟨cur, c', hrun, g1, g2, g3, g4⟩
 ·obtain rfl : l2 = [] := List.eq_nil_of_length_eq_zero h0
  obtain ⟨ρ2, p1, p2⟩ := zlS (s := s) hr post a0
  exact ⟨_, _, ρ2, hrun, p1, p2⟩
 ·have hnl := hsrc.row.2.1
  obtain ⟨ρ2, p1, p2⟩ := zaA (w' := w.drew.alloc (.cells cur e)) (H1 := H) (cur := cur) (e := e) (c := c') (b0 := w.heap.size) (ys := news) hr rfl (rfl : l2.length = l2.length) hr post hsrc.tr hsrc.dj hsrc.fr
   (fun o ho => by obtain ⟨s, l, h⟩ := hsrc.ar o ho; exact ⟨s, l, h, h⟩) hq2 (Gr.dalloc w _) (fun b hb => Below.heap_alloc w.drew _ b hb) (Nat.le_refl _) (heap_alloc_new w.drew _) g1 g2 g3 hm (fun j hj => by
    apply List.ext_getElem?
    intro m
    by_cases hmk : m < zc s.ty
    ·have hlt : j * zc s.ty + m < news.length := by
      rw [hnl]
      have : (j + 1) * zc s.ty ≤ l2.length * zc s.ty := Nat.mul_le_mul_right _ hj
      rw [Nat.succ_mul] at this; omega
     rw [zA4 hmk, List.getElem?_take, if_pos hmk, List.getElem?_drop, g4 _ _ (List.getElem?_eq_getElem hlt)]
     exact (List.getElem?_eq_getElem hlt).symm
    ·rw [List.getElem?_eq_none (by simp [yr]; omega), List.getElem?_eq_none (by simp; omega)])
  exact ⟨_, _, ρ2, hrun, p1, p2⟩
theorem zm9 {s : OT} {t e : TypeId} {i : TypeInfo} {z : Value} (ht : P.underlying t = some (.slice e)) (hi : P.info? e = some i) (hz : i.zero = some z) (hk : i.size = zc s.ty) (hzs : z.cells.size = zc s.ty) (hb : i.bytes ≤ 8388608)
  (ty : TypeId) {ob : Nat} {p : Pl} {l l2 : List (El s.ty)} (g : ρ ob = some p) (e6 : H[ob]? = some (.arr s l)) {os : List Nat} (hos : ob ∉ os) {x : Value} {ad : Option Addr} {c : Nat} {news : List Value} {fs : Nat → Nat → Prop} (hr : HR ρ Z H w) (hsrc : Src ρ Z H w s l2 os x ad c news fs) (hm : l.length + l2.length ≤ 16777216) :
  ∃ y w' ρ2, (Builtin.append_ #[t, t] ty #[p.x, x]).run P w = .ok y w' ∧ Post (xt (ob :: os)) ρ Z H w ρ2 Z ((yK H (ob :: os) (xt (ob :: os))).set ob (.arr s (l ++ l2))) w' ∧ Cn ρ2 Z w' (.obj ob) y := by
 have hkp := zB0 s.ty
 have har : ∀ o, o ∈ ob :: os → ∃ s l, H[o]? = some (.arr s l) := fun o ho => by
  rcases List.mem_cons.1 ho with rfl | ho
  ·exact ⟨_, _, e6⟩
  ·exact hsrc.ar o ho
 obtain ⟨post, _, hhit⟩ := hr.moveOnly (ob :: os) har (q := xt (ob :: os)) rfl
 have hlt : ob < H.length := hr.dom ob p g
 have hbl : (yK H (ob :: os) (xt (ob :: os))).length = H.length := x9 _ _ _
 have hset : ∀ (x : Ob), ((yK H (ob :: os) (xt (ob :: os))).set ob x)[ob]? = some x := fun x => List.getElem?_set_self (by omega)
 have hother : ∀ (x : Ob) i, i ≠ ob → ((yK H (ob :: os) (xt (ob :: os))).set ob x)[i]? = (yK H (ob :: os) (xt (ob :: os)))[i]? := fun x i hi => List.getElem?_set_ne (Ne.symm hi)
 have hbx : ∀ cs, H[ob]? ≠ some (.box cs) := fun cs h => by rw [e6] at h; cases h
 have hh : zAq (xt (ob :: os)) ob = true := by rw [hhit]; simp
 have lm : ∀ n, n ≤ 16777216 → n ≤ lim s.ty := fun n hn => by cases s.ty <;> simp only [lim, maxLen] <;> omega
 have fr2 : ∀ i b, i < l2.length → fs i b → zIg ρ H (ob :: os) b := fun i b hi hb => by
  obtain ⟨o0, p0, x0, g0, g1⟩ := hsrc.fr i b hi hb
  exact ⟨o0, p0, x0, List.mem_cons_of_mem _ g0, g1⟩
 have hfin : ∀ {p' : Pl} {w' : World} {x' : Ob}, Gr w w' → (∀ b, b < w.heap.size → ¬ zIg ρ H (ob :: os) b → w'.heap[b]? = w.heap[b]?) → ObR ((ρ.del (ob :: os)).upd ob p') Z w' x' p' → (∀ b, Own x' p' b → w.heap.size ≤ b ∨ zIg ρ H (ob :: os) b) →
   Post (xt (ob :: os)) ρ Z H w ((ρ.del (ob :: os)).upd ob p') Z ((yK H (ob :: os) (xt (ob :: os))).set ob x') w' := fun gr hs hx hb =>
  Post.place (f0 := zA2) hr post (M := zIg ρ H (ob :: os)) (ye.del_in (by simp)) (fun i hi => hother _ i hi) (hset _) (fun b h => by
   obtain ⟨o0, p0, x0, _, g1⟩ := h
   exact ⟨o0, p0, x0, g1⟩) (fun b k h => (h.facts (q := xt (ob :: os)) hr).1 k) (fun o' p' x' b e1 e2 e3 h => (h.facts (q := xt (ob :: os)) hr).2.2 o' p' x' e1 e2 e3) gr hs hx hb hbx (.inl ⟨hh, p, g⟩) (fun h => by simp only [xt] at h; omega)
 rw [hsrc.hx]
 rcases hr.ob ob p _ g e6 with ⟨⟨a0, k1⟩, rfl, knf⟩ | ⟨cur, e', cp, fo, k⟩
 ·rw [k1]
  simp only [List.length_nil, Nat.zero_add] at hm
  simp only [List.nil_append]
  rcases zYB (w := w) ht hi hz hk hzs hb ty a0 (c := c) hsrc.row hm with ⟨h0, hrun⟩ | ⟨cur, c', hrun, g1, g2, g3, g4⟩
  ·obtain rfl : l2 = [] := List.eq_nil_of_length_eq_zero h0
   exact ⟨_, _, _, hrun, hfin (p' := ⟨0, .slice a0 0 0, 0, zA2⟩) (Gr.refl w) (fun _ _ _ => rfl) (.inl ⟨⟨a0, rfl⟩, rfl, fun b h => h⟩) (fun b h => h.elim), .obj (p := ⟨0, .slice a0 0 0, 0, zA2⟩) (ye.upd_self _ _ _) rfl⟩
  ·have hnl := hsrc.row.2.1
   have hs : ∀ b, b < w.heap.size → (w.drew.alloc (.cells cur e)).heap[b]? = w.heap[b]? := fun b hb => Below.heap_alloc w.drew _ b hb
   refine ⟨_, _, _, hrun, hfin (p' := ⟨w.heap.size, .slice (some ⟨w.heap.size, 0, none⟩) l2.length c', 0, fun b => b = w.heap.size ∨ ∃ i, i < l2.length ∧ fs i b⟩) (Gr.dalloc w _) (fun b hb _ => hs b hb) (.inr ⟨cur, e, c', fs, ⟨rfl, heap_alloc_new w.drew _, fun q hq => Nat.lt_irrefl _ (hr.zl q _ hq), g1, g2, lm _ hm, g3, fun b => Iff.rfl, fun i hi h => ?_, hsrc.dj, fun i x hx => ?_⟩⟩) (fun b h => ?_), .obj (p := ⟨w.heap.size, .slice (some ⟨w.heap.size, 0, none⟩) l2.length c', 0, fun b => b = w.heap.size ∨ ∃ i, i < l2.length ∧ fs i b⟩) (ye.upd_self _ _ _) rfl⟩
   ·exact Nat.lt_irrefl _ ((fr2 i _ hi h).facts (q := xt (ob :: os)) hr).2.1
   ·have hi := (List.getElem?_eq_some_iff.1 hx).1
    have : yr cur (zc s.ty) i = (news.drop (i * zc s.ty)).take (zc s.ty) := by
     apply List.ext_getElem?
     intro m
     by_cases hmk : m < zc s.ty
     ·have hlt : i * zc s.ty + m < news.length := by
       rw [hnl]
       have : (i + 1) * zc s.ty ≤ l2.length * zc s.ty := Nat.mul_le_mul_right _ hi
       rw [Nat.succ_mul] at this; omega
      rw [zA4 hmk, List.getElem?_take, if_pos hmk, List.getElem?_drop, g4 _ _ (List.getElem?_eq_getElem hlt)]
      exact (List.getElem?_eq_getElem hlt).symm
     ·rw [List.getElem?_eq_none (by simp [yr]; omega), List.getElem?_eq_none (by simp; omega)]
    rw [this]
    exact (hsrc.tr i x hx).mono (fun _ _ h => h) (fun k b h => hs b (hr.zl k b h)) (fun b h => hs b ((fr2 i b hi h).facts (q := xt (ob :: os)) hr).2.1) (fun b k h => ((fr2 i b hi h).facts (q := xt (ob :: os)) hr).1 k)
   ·rcases h with rfl | ⟨i, hi, h⟩
    ·exact .inl (Nat.le_refl _)
    ·exact .inr (fr2 i b hi h)
 ·have hgb : p.fp p.b := (k.hf p.b).2 (.inl rfl)
  have fpM : ∀ b, p.fp b → zIg ρ H (ob :: os) b := fun b h => ⟨ob, p, _, by simp, g, e6, h⟩
  obtain ⟨b, cur', e2', c', w', hrun, g1, g2, g3, g4, g5, g6, g7, g8⟩ := zkH (w := w) ht hi hz hk hzs hb ty k.hw k.hc k.hm k.hs (c := c) hsrc.row hm
  have hnl := hsrc.row.2.1
  have hsz : l.length * zc s.ty ≤ cur.size := Nat.le_trans (Nat.mul_le_mul_right _ k.hc) k.hs
  have hlo : (cur.toList.take (l.length * zc s.ty)).length = l.length * zc s.ty := by rw [List.length_take, Nat.min_eq_left (by rw [Array.length_toList]; exact hsz)]
  rw [k.hv]
  have c1 : ∀ i, i < l.length → yr cur' (zc s.ty) i = yr cur (zc s.ty) i := fun i hi => by
   apply List.ext_getElem?
   intro m
   by_cases hmk : m < zc s.ty
   ·have hlt : i * zc s.ty + m < l.length * zc s.ty := by
     have : (i + 1) * zc s.ty ≤ l.length * zc s.ty := Nat.mul_le_mul_right _ hi
     rw [Nat.succ_mul] at this; omega
    have hc : cur[i * zc s.ty + m]? = some (cur[i * zc s.ty + m]'(by omega)) := Array.getElem?_eq_getElem _
    rw [zA4 hmk, zA4 hmk, hc]
    refine g8 _ _ ?_
    rw [List.getElem?_append_left (by omega), List.getElem?_take, if_pos hlt, Array.getElem?_toList]; exact hc
   ·rw [List.getElem?_eq_none (by simp [yr]; omega), List.getElem?_eq_none (by simp [yr]; omega)]
  have c2 : ∀ i, i < l2.length → yr cur' (zc s.ty) (l.length + i) = (news.drop (i * zc s.ty)).take (zc s.ty) := fun i hi => by
   apply List.ext_getElem?
   intro m
   by_cases hmk : m < zc s.ty
   ·have hlt : i * zc s.ty + m < news.length := by
     rw [hnl]
     have : (i + 1) * zc s.ty ≤ l2.length * zc s.ty := Nat.mul_le_mul_right _ hi
     rw [Nat.succ_mul] at this; omega
    rw [zA4 hmk, List.getElem?_take, if_pos hmk, List.getElem?_drop, List.getElem?_eq_getElem hlt]
    refine g8 _ _ ?_
    rw [Nat.add_mul, List.getElem?_append_right (by omega), hlo, show l.length * zc s.ty + i * zc s.ty + m - l.length * zc s.ty = i * zc s.ty + m by omega]
    exact List.getElem?_eq_getElem hlt
   ·rw [List.getElem?_eq_none (by simp [yr]; omega), List.getElem?_eq_none (by simp; omega)]
  let ff : Nat → Nat → Prop := fun i b => if i < l.length then fo i b else fs (i - l.length) b
  have ff1 : ∀ i b, i < l.length → (ff i b ↔ fo i b) := fun i b hi => by simp only [ff, if_pos hi]
  have ff2 : ∀ i b, ¬ i < l.length → (ff i b ↔ fs (i - l.length) b) := fun i b hi => by simp only [ff, if_neg hi]
  have fM : ∀ i b, i < l.length + l2.length → ff i b → zIg ρ H (ob :: os) b := fun i b hi h => by
   by_cases h1 : i < l.length
   ·exact fpM b ((k.hf b).2 (.inr ⟨i, h1, (ff1 i b h1).1 h⟩))
   ·exact fr2 _ b (by omega) ((ff2 i b h1).1 h)
  have fne : ∀ i b', i < l.length + l2.length → ff i b' → b' ≠ p.b := fun i b' hi h e => by
   subst e
   by_cases h1 : i < l.length
   ·exact k.hn i h1 ((ff1 i _ h1).1 h)
   ·obtain ⟨o0, p0, x0, g0, m1, m2, m3⟩ := hsrc.fr _ _ (by omega) ((ff2 i _ h1).1 h)
    have := hr.dj o0 ob p0 p x0 _ p.b m1 g m2 e6 m3 hgb
    exact hos (this ▸ g0)
  have hbz : ∀ q, ¬ Z q b := fun q hq => by
   rcases g2 with rfl | rfl
   ·exact k.hz q hq
   ·exact Nat.lt_irrefl _ (hr.zl q _ hq)
  have hfb : ∀ i b', i < l.length + l2.length → ff i b' → b' ≠ b := fun i b' hi h e => by
   rcases g2 with rfl | rfl
   ·exact fne i b' hi h e
   ·have := ((fM i b' hi h).facts (q := xt (ob :: os)) hr).2.1; omega
  have hsame : ∀ b', b' < w.heap.size → ¬ zIg ρ H (ob :: os) b' → w'.heap[b']? = w.heap[b']? := fun b' hb' hn => g4 b' hb' fun e => hn (e ▸ fpM _ hgb)
  have hzk : ∀ q b', Z q b' → w'.heap[b']? = w.heap[b']? := fun q b' h => g4 b' (hr.zl q b' h) fun e => k.hz q (e ▸ h)
  have mono : ∀ i x vs, i < l.length + l2.length → TrO Z w s x vs (ff i) → TrO Z w' s x vs (ff i) := fun i x vs hi ht =>
   ht.mono (fun _ _ h => h) hzk (fun b' h => g4 b' ((fM i b' hi h).facts (q := xt (ob :: os)) hr).2.1 (fne i b' hi h)) (fun b' q h => ((fM i b' hi h).facts (q := xt (ob :: os)) hr).1 q)
  refine ⟨_, _, _, hrun, hfin (p' := ⟨b, .slice (some ⟨b, 0, none⟩) (l.length + l2.length) c', 0, fun b' => b' = b ∨ ∃ i, i < l.length + l2.length ∧ ff i b'⟩) g3 hsame (.inr ⟨cur', e2', c', ff, ⟨by rw [List.length_append], g1, hbz, by rw [List.length_append]; exact g5, g6, by rw [List.length_append]; exact lm _ hm, g7, fun b' => by rw [List.length_append], fun i hi h => hfb i _ (by rwa [List.length_append] at hi) h rfl, fun i j b' hi hj h1 h2 => ?_, fun i x hx => ?_⟩⟩) (fun b' h => ?_),
   .obj (p := ⟨b, .slice (some ⟨b, 0, none⟩) (l.length + l2.length) c', 0, fun b' => b' = b ∨ ∃ i, i < l.length + l2.length ∧ ff i b'⟩) (ye.upd_self _ _ _) rfl⟩
  ·rw [List.length_append] at hi hj
   have cross : ∀ i j, i < l.length → ¬ j < l.length → j < l.length + l2.length → ff i b' → ff j b' → False := fun i j hi hj hj2 h1 h2 => by
    obtain ⟨o0, p0, x0, g0, m1, m2, m3⟩ := hsrc.fr _ b' (by omega) ((ff2 j b' hj).1 h2)
    have := hr.dj o0 ob p0 p x0 _ b' m1 g m2 e6 m3 ((k.hf b').2 (.inr ⟨i, hi, (ff1 i b' hi).1 h1⟩))
    exact hos (this ▸ g0)
   by_cases hi' : i < l.length
   ·by_cases hj' : j < l.length
    ·exact k.hd i j b' hi' hj' ((ff1 i b' hi').1 h1) ((ff1 j b' hj').1 h2)
    ·exact (cross i j hi' hj' hj h1 h2).elim
   ·by_cases hj' : j < l.length
    ·exact (cross j i hj' hi' hi h2 h1).elim
    ·have := hsrc.dj (i - l.length) (j - l.length) b' (by omega) (by omega) ((ff2 i b' hi').1 h1) ((ff2 j b' hj').1 h2)
     omega
  ·have hi : i < l.length + l2.length := by have := (List.getElem?_eq_some_iff.1 hx).1; rwa [List.length_append] at this
   by_cases hi' : i < l.length
   ·rw [List.getElem?_append_left hi'] at hx
    rw [c1 i hi']
    refine mono i x _ hi ?_
    have : ff i = fo i := funext fun b => propext (ff1 i b hi')
    rw [this]; exact k.ht i x hx
   ·rw [List.getElem?_append_right (by omega)] at hx
    have hc := c2 (i - l.length) (by omega)
    rw [show l.length + (i - l.length) = i by omega] at hc
    rw [hc]
    refine mono i x _ hi ?_
    have : ff i = fs (i - l.length) := funext fun b => propext (ff2 i b hi')
    rw [this]; exact hsrc.tr _ x hx
  ·rcases h with rfl | ⟨i, hi, h⟩
   ·rcases g2 with rfl | rfl
    ·exact .inr (fpM _ hgb)
    ·exact .inl (Nat.le_refl _)
   ·exact .inr (fM i b' hi h)
theorem znh {g : Gv} {args : Array Operand} {argTypes : Array TypeId} {x y : Operand} {t : TypeId} (ho : o.op = .call { callee := .builtin .append, args, argTypes }) (ha : args.toList = [x, y]) (ht : argTypes.toList = [t, t])
  {q : Nat} {ok : Option Prop} {v : V} (h : zYf P g t (ev x) (ev y) H = .mk q ok v H') : OpS P o ev H (.mk q ok v H') := by
 obtain rfl : args = #[x, y] := Array.toList_inj.1 (by simpa using ha)
 obtain rfl : argTypes = #[t, t] := Array.toList_inj.1 (by simpa using ht)
 have hexec : ∀ (a : Act) (w w' : World) (v : Value), (Builtin.append_ #[t, t] o.type #[a.eval x, a.eval y]).run P w = .ok v w' → (execOp a.eval o).run P w = .ok (.value v) w' := by
  intro a w w' v h
  simp only [execOp, ho, resolve, invoke, builtin, Sem.run_bind, Sem.run_pure, Result.andThen_ok, List.map_toArray, List.map_cons, List.map_nil, h]
 unfold zYf at h
 split at h
 rotate_left
 ·cases h
 rename_i e e1
 split at h
 rotate_left
 ·cases h
 rename_i s0 zs e2 e3
 obtain ⟨i, z, i1, i2, _, rfl, _⟩ := zDP e3
 split at h
 rotate_left
 ·cases h
 rename_i hk
 obtain ⟨hzs, hby⟩ := hk
 have hsz : vw P e = i.size := by unfold vw; rw [i1]
 have hzs : z.cells.size = i.size := by rw [← hsz]; simpa using hzs
 have hby : i.bytes ≤ 8388608 := by unfold zWn at hby; rw [i1] at hby; exact hby
 split at h
 ·rename_i ob e5
  split at h
  rotate_left
  ·cases h
  rename_i s' l e6
  split at h
  rotate_left
  ·cases h
  rename_i hks
  rw [hsz] at hks
  split at h
  rotate_left
  ·cases h
  rename_i l2 os e7
  split at h
  ·cases h
  rename_i hos
  have hos : ob ∉ os := fun hm => by rw [List.contains_iff_mem.2 hm] at hos; exact hos rfl
  cases h
  intro ρ Z w a hr hx hok K Q hK
  have c1 := hx x (by simp [ho, Op.operands, Call.operands])
  have c2 := hx y (by simp [ho, Op.operands, Call.operands])
  rw [e5] at c1
  simp only [okP] at hok
  obtain ⟨p, g, ex⟩ := c1.obj_inv
  obtain ⟨ad, c, news, fs, hsrc⟩ := zQN hr c2 e7
  obtain ⟨v, w', ρ2, hrun, p1, p2⟩ := zm9 e1 i1 i2 hks.symm (by omega) hby o.type g e6 hos hr hsrc (by omega)
  unfold Oper.wp
  rw [hexec a w _ _ (by rw [ex]; exact hrun)]
  exact hK _ Z _ _ p1 p2
 ·rename_i hno
  split at h
  rotate_left
  ·cases h
  rename_i hk
  obtain ⟨hks, hnil⟩ := hk
  rw [hsz] at hks
  have hnil' : ∀ ρ Z w (a : Act), Cn ρ Z w (ev x) (a.eval x) → ∃ a0, a.eval x = .slice a0 0 0 := by
   intro ρ Z w a hc
   unfold zlx at hnil
   split at hnil
   ·rename_i e; rw [e] at hc; generalize a.eval x = z at hc; cases hc; exact ⟨_, rfl⟩
   ·rename_i e; rw [e] at hc; exact ⟨none, vG hc⟩
   ·cases hnil
  have main : ∀ l2 os, zQO H s0 (ev y) = some (l2, os) → ∀ q, q = kq os → OpS P o ev H (.mk q (some ((l2.length : Int) ≤ 16777216)) (.obj H.length) (yK H os q ++ [.arr s0 l2])) := by
   intro l2 os e7 q hq ρ Z w a hr hx hok K Q hK
   have c1 := hx x (by simp [ho, Op.operands, Call.operands])
   have c2 := hx y (by simp [ho, Op.operands, Call.operands])
   simp only [okP] at hok
   obtain ⟨a0, ex⟩ := hnil' ρ Z w a c1
   obtain ⟨ad, c, news, fs, hsrc⟩ := zQN hr c2 e7
   obtain ⟨v, w', ρ2, hrun, p1, p2⟩ := zm6 e1 i1 i2 hks.symm (by omega) hby o.type a0 hr hsrc (by omega) hq
   unfold Oper.wp
   rw [hexec a w _ _ (by rw [ex]; exact hrun)]
   exact hK _ Z _ _ p1 p2
  split at h
  ·rename_i l2 e7
   cases h
   exact main l2 [] e7 1 rfl
  ·rename_i l2 o1 os e7
   cases h
   exact main l2 (o1 :: os) e7 _ rfl
  ·cases h
end
end Go.Proofs.YtipbfgknaihifaaGreat
namespace Go.Proofs.YtipbfgknaihifaaGreat
open Go.RowKit
section
variable {P : Program} {ρ ρ' ρ1 ρ2 : ye} {Z Z' Z2 : Zs} {w w' : World} {H H' H1 H2 : List Ob} {o : Oper} {ev : Operand → V}
structure LensOk (s : OT) (off k : Nat) (L : Σ s', Lens s s') : Prop where
 kk : zc L.1.ty = k
 le : off + k ≤ zc s.ty
 tr : ∀ (Z : Zs) (w : World) (x : El s.ty) (vs : List Value) (fp : Nat → Prop), TrO Z w s x vs fp → ∃ f g : Nat → Prop, TrO Z w L.1 (L.2.get x) ((vs.drop off).take k) f ∧ (∀ b, fp b ↔ f b ∨ g b) ∧ (∀ b, f b → ¬ g b) ∧
  ∀ (Z' : Zs) (w' : World) (y : El L.1.ty) (vs' : List Value) (f' : Nat → Prop), (∀ b, Z false b → Z' false b) → (∀ b, Z false b → w'.heap[b]? = w.heap[b]?) → (∀ b, g b → w'.heap[b]? = w.heap[b]?) → (∀ b q, g b → ¬ Z' q b) → TrO Z' w' L.1 y vs' f' → (∀ b, f' b → ¬ g b) →
   TrO Z' w' s (L.2.set x y) (vs.take off ++ vs' ++ vs.drop (off + k)) (fun b => f' b ∨ g b)
theorem zLC (s : OT) : LensOk s 0 (zc s.ty) ⟨s, .same rfl⟩ := by
 refine ⟨rfl, by omega, fun Z w x vs fp h => ⟨fp, zA2, ?_, fun b => ⟨.inl, fun h => h.elim id False.elim⟩, fun _ _ h => h, fun Z' w' y vs' f' _ _ _ _ ht _ => ?_⟩⟩
 ·have : (vs.drop 0).take (zc s.ty) = vs := by rw [List.drop_zero, List.take_of_length_le (by rw [h.len]; exact Nat.le_refl _)]
  rw [this]; exact h
 ·have e : vs.take 0 ++ vs' ++ vs.drop (0 + zc s.ty) = vs' := by rw [List.take_zero, List.nil_append, List.drop_of_length_le (by rw [h.len]; omega), List.append_nil]
  have e2 : (fun b => f' b ∨ zA2 b) = f' := funext fun b => propext ⟨fun h => h.elim id False.elim, .inl⟩
  rw [e, e2]; exact ht
theorem zYX {a b : OT} {off k : Nat} {L : Σ s', Lens a s'} (h : LensOk a off k L) : LensOk (.pr a b) off k ⟨L.1, L.2.fst⟩ := by
 refine ⟨h.kk, by have := h.le; simp only [zc]; omega, fun Z w x vs fp ht => ?_⟩
 obtain ⟨fa, gb, t1, t2, t3, t4⟩ := ht
 have l1 := t1.len
 have l2 := t2.len
 have hle := h.le
 simp only [List.length_take, List.length_drop] at l1 l2
 obtain ⟨f, g, k1, k2, k3, k4⟩ := h.tr Z w x.1 _ fa t1
 refine ⟨f, fun b => g b ∨ gb b, ?_, fun b => ?_, fun b h1 h2 => ?_, fun Z' w' y vs' f' hz hw hg hn ht hf => ?_⟩
 ·have : (vs.drop off).take k = ((vs.take (zc a.ty)).drop off).take k := by
   rw [List.drop_take, List.take_take]; congr 1; omega
  rw [this]; exact k1
 ·rw [t3, k2]; exact or_assoc
 ·rcases h2 with h2 | h2
  ·exact k3 b h1 h2
  ·exact t4 b ((k2 b).2 (.inl h1)) h2
 ·have hl' : vs'.length = k := by rw [ht.len]; exact h.kk
  have g1 := k4 Z' w' y vs' f' hz hw (fun b hb => hg b (.inl hb)) (fun b q hb => hn b q (.inl hb)) ht fun b hb h' => hf b hb (.inl h')
  have e1 : (vs.take off ++ vs' ++ vs.drop (off + k)).take (zc a.ty) = (vs.take (zc a.ty)).take off ++ vs' ++ (vs.take (zc a.ty)).drop (off + k) := by
   rw [List.take_take, Nat.min_eq_left (by omega), List.take_append, List.length_append, List.length_take, List.take_of_length_le (by simp; omega)]
   congr 1
   rw [Nat.min_eq_left (by omega), hl', List.drop_take]
  have e2 : (vs.take off ++ vs' ++ vs.drop (off + k)).drop (zc a.ty) = vs.drop (zc a.ty) := by
   rw [List.drop_append, List.drop_of_length_le (by simp; omega), List.nil_append, List.drop_drop]
   congr 1; simp; omega
  refine ⟨fun b => f' b ∨ g b, gb, ?_, ?_, fun b => or_assoc.symm, fun b h1 h2 => ?_⟩
  ·rw [e1]; exact g1
  ·rw [e2]; exact t2.monoF hz hw (fun b hb => hg b (.inr hb)) (fun b q hb => hn b q (.inr hb))
  ·rcases h1 with h1 | h1
   ·exact hf b h1 (.inr h2)
   ·exact t4 b ((k2 b).2 (.inr h1)) h2
theorem zYw {a b : OT} {off k : Nat} {L : Σ s', Lens b s'} (hoff : zc a.ty ≤ off) (h : LensOk b (off - zc a.ty) k L) : LensOk (.pr a b) off k ⟨L.1, L.2.snd⟩ := by
 refine ⟨h.kk, by have := h.le; simp only [zc]; omega, fun Z w x vs fp ht => ?_⟩
 obtain ⟨fa, gb, t1, t2, t3, t4⟩ := ht
 have l1 := t1.len
 have l2 := t2.len
 have hle := h.le
 have hkb := zB0 b.ty
 simp only [List.length_take, List.length_drop] at l1 l2
 obtain ⟨f, g, k1, k2, k3, k4⟩ := h.tr Z w x.2 _ gb t2
 refine ⟨f, fun b => fa b ∨ g b, ?_, fun b => ?_, fun b h1 h2 => ?_, fun Z' w' y vs' f' hz hw hg hn ht hf => ?_⟩
 ·have : (vs.drop off).take k = ((vs.drop (zc a.ty)).drop (off - zc a.ty)).take k := by
   rw [List.drop_drop]; congr 2; omega
  rw [this]; exact k1
 ·rw [t3, k2, ← or_assoc, or_comm (a := fa b), or_assoc]
 ·rcases h2 with h2 | h2
  ·exact t4 b h2 ((k2 b).2 (.inl h1))
  ·exact k3 b h1 h2
 ·have hl' : vs'.length = k := by rw [ht.len]; exact h.kk
  have g1 := k4 Z' w' y vs' f' hz hw (fun b hb => hg b (.inr hb)) (fun b q hb => hn b q (.inr hb)) ht fun b hb h' => hf b hb (.inr h')
  have e1 : (vs.take off ++ vs' ++ vs.drop (off + k)).take (zc a.ty) = vs.take (zc a.ty) := by
   rw [List.append_assoc, List.take_append_of_le_length (by simp; omega), List.take_take, Nat.min_eq_left (by omega)]
  have e2 : (vs.take off ++ vs' ++ vs.drop (off + k)).drop (zc a.ty) = (vs.drop (zc a.ty)).take (off - zc a.ty) ++ vs' ++ (vs.drop (zc a.ty)).drop (off - zc a.ty + k) := by
   rw [List.append_assoc, List.drop_append_of_le_length (by simp; omega), List.drop_take, List.drop_drop, List.append_assoc]
   congr 3; omega
  refine ⟨fa, fun b => f' b ∨ g b, ?_, ?_, fun b => ?_, fun b h1 h2 => ?_⟩
  ·rw [e1]; exact t1.monoF hz hw (fun b hb => hg b (.inl hb)) (fun b q hb => hn b q (.inl hb))
  ·rw [e2]; exact g1
  ·exact or_left_comm
  ·rcases h2 with h2 | h2
   ·exact hf b h2 (.inl h1)
   ·exact t4 b h1 ((k2 b).2 (.inr h2))
theorem TrO.dpr {a b : Ty} {x : El (.pr a b)} {vs : List Value} {fp : Nat → Prop} : TrO Z w (.d (.pr a b)) x vs fp ↔ TrO Z w (.pr (.d a) (.d b)) x vs fp := by
 have hkb := zB0 b
 constructor
 ·rintro ⟨h1, h2, h3⟩
  have h2 : vs.length = zc a + zc b := h2
  refine ⟨zA2, zA2, ⟨fun _ h => h, ?_, fun j u y hu hy => ?_⟩, ⟨fun _ h => h, ?_, fun j u y hu hy => ?_⟩, fun b => ⟨fun h => absurd h (h1 b), fun h => h.elim False.elim False.elim⟩, fun _ h => h.elim⟩
  ·show (vs.take (zc a)).length = zc a
   rw [List.length_take]; omega
  ·have hj : j < zc a := by rw [← yL (q := 0) a x.1]; exact (List.getElem?_eq_some_iff.1 hu).1
   have hy : (vs.take (zc a))[j]? = some y := hy
   rw [List.getElem?_take, if_pos hj] at hy
   exact h3 j u y (by simp only [Go.Proofs.YtipbfgknaihifaaGreat.enc]; rw [List.getElem?_append_left (by rw [yL]; exact hj)]; exact hu) hy
  ·show (vs.drop (zc a)).length = zc b
   rw [List.length_drop]; omega
  ·have hy : (vs.drop (zc a))[j]? = some y := hy
   rw [List.getElem?_drop] at hy
   exact h3 (zc a + j) u y (by simp only [Go.Proofs.YtipbfgknaihifaaGreat.enc]; rw [List.getElem?_append_right (by rw [yL]; omega), yL, Nat.add_sub_cancel_left]; exact hu) hy
 ·rintro ⟨f, g, h1, h2, h3, _⟩
  have l1 : (vs.take (zc a)).length = zc a := h1.2.1
  have l2 : (vs.drop (zc a)).length = zc b := h2.2.1
  rw [List.length_take] at l1
  rw [List.length_drop] at l2
  refine ⟨fun b hb => ((h3 b).1 hb).elim (h1.1 b) (h2.1 b), (by show vs.length = zc a + zc b; omega), fun j u y hu hy => ?_⟩
  simp only [Go.Proofs.YtipbfgknaihifaaGreat.enc] at hu
  by_cases hj : j < zc a
  ·rw [List.getElem?_append_left (by rw [yL]; exact hj)] at hu
   exact h1.2.2 j u y hu (by show (vs.take (zc a))[j]? = some y; rw [List.getElem?_take, if_pos hj]; exact hy)
  ·rw [List.getElem?_append_right (by rw [yL]; omega), yL] at hu
   exact h2.2.2 _ u y hu (by show (vs.drop (zc a))[j - zc a]? = some y; rw [List.getElem?_drop, ← hy]; congr 1; omega)
theorem zi7 {a b : Ty} {off k : Nat} {s' : OT} {l : Lens (.pr (.d a) (.d b)) s'} {l' : Lens (.d (.pr a b)) s'} (hg : ∀ x, l'.get x = l.get x) (hs : ∀ x y, l'.set x y = l.set x y) (h : LensOk (.pr (.d a) (.d b)) off k ⟨s', l⟩) : LensOk (.d (.pr a b)) off k ⟨s', l'⟩ := by
 refine ⟨h.kk, h.le, fun Z w x vs fp ht => ?_⟩
 obtain ⟨f, g, k1, k2, k3, k4⟩ := h.tr Z w x vs fp (TrO.dpr.1 ht)
 refine ⟨f, g, by simp only [hg]; exact k1, k2, k3, fun Z' w' y vs' f' h1 h2 h3 h4 h5 h6 => ?_⟩
 simp only [hs]
 exact TrO.dpr.2 (k4 Z' w' y vs' f' h1 h2 h3 h4 h5 h6)
theorem zi6 (k : Nat) : ∀ (t : Ty) (off : Nat) (L : Σ s', Lens (.d t) s'), zZC k t off = some L → LensOk (.d t) off k L := by
 intro t
 have zIO : ∀ (t : Ty) (off : Nat) (L : Σ s', Lens (.d t) s'), (if off = 0 ∧ k = zc t then some (⟨.d t, .same rfl⟩ : Σ s', Lens (.d t) s') else none) = some L → LensOk (.d t) off k L := by
  intro t off L h
  split at h
  ·rename_i e; obtain ⟨rfl, rfl⟩ := e; cases h; exact zLC (.d t)
  ·cases h
 induction t with
 | pr a b iha ihb =>
  intro off L h
  unfold zZC at h
  split at h
  ·rename_i e; obtain ⟨rfl, rfl⟩ := e; cases h; exact zLC (.d (.pr a b))
  ·split at h
   ·simp only [Option.map_eq_some_iff] at h
    obtain ⟨l, h1, rfl⟩ := h
    exact zi7 (fun _ => rfl) (fun _ _ => rfl) (zYX (b := .d b) (iha off l h1))
   ·split at h
    ·rename_i hle
     simp only [Option.map_eq_some_iff] at h
     obtain ⟨l, h1, rfl⟩ := h
     exact zi7 (fun _ => rfl) (fun _ _ => rfl) (zYw (a := .d a) hle (ihb _ l h1))
    ·cases h
 | int => intro off L h; exact zIO _ off L h
 | u8 => intro off L h; exact zIO _ off L h
 | bool => intro off L h; exact zIO _ off L h
 | str => intro off L h; exact zIO _ off L h
 | lst t _ => intro off L h; exact zIO _ off L h
theorem zjc (k : Nat) : ∀ (s : OT) (off : Nat) (L : Σ s', Lens s s'), zRU k s off = some L → LensOk s off k L := by
 intro s
 induction s with
 | d t => intro off L h; exact zi6 k t off L h
 | o s _ =>
  intro off L h
  unfold zRU at h
  split at h
  ·rename_i e; obtain ⟨rfl, rfl⟩ := e; cases h; exact zLC (.o s)
  ·cases h
 | pr a b iha ihb =>
  intro off L h
  unfold zRU at h
  split at h
  ·rename_i e; obtain ⟨rfl, rfl⟩ := e; cases h; exact zLC (.pr a b)
  ·split at h
   ·simp only [Option.map_eq_some_iff] at h
    obtain ⟨l, h1, rfl⟩ := h
    exact zYX (iha off l h1)
   ·split at h
    ·rename_i hle
     simp only [Option.map_eq_some_iff] at h
     obtain ⟨l, h1, rfl⟩ := h
     exact zYw hle (ihb _ l h1)
    ·cases h
theorem TrO.open : ∀ (s : OT) (x : El s.ty) (vs : List Value) (fp : Nat → Prop), TrO Z w s x vs fp → ∃ ps : List Pl, ps.length = s.n ∧ (∀ (i : Nat) (ob : Ob) (p : Pl), (zGL s x)[i]? = some ob → ps[i]? = some p → (∀ ρ, ObR ρ Z w ob p) ∧ ∃ s l, ob = .arr s l) ∧
   (∀ (i : Nat) (p : Pl) (b : Nat), ps[i]? = some p → p.fp b → fp b) ∧ (∀ (i j : Nat) (p p' : Pl) (b : Nat), ps[i]? = some p → ps[j]? = some p' → p.fp b → p'.fp b → i = j) ∧
   ∀ (ρ2 : ye) (k : Nat), At ρ2 k ps → ∀ (j : Nat) (u : V) (y : Value), (zA8 s x k)[j]? = some u → vs[j]? = some y → Cn ρ2 Z w u y
 | .d t, x, vs, fp, h => ⟨[], rfl, fun i ob p h => by simp [zGL] at h, fun i p b h => by simp at h, fun i j p p' b h => by simp at h, fun ρ2 k _ j u y hu hy => (h.2.2 j u y hu hy).clF (zFW t x u (List.mem_of_getElem? hu)) (fun _ h => h) (fun _ _ => rfl)⟩
 | .o s, l, vs, fp, h => by
  obtain ⟨v, b, rfl, h⟩ := h
  refine ⟨[⟨b, v, 0, fp⟩], rfl, fun i ob p h1 h2 => ?_, fun i p b h1 h2 => ?_, fun i j p p' b h1 h2 _ _ => ?_, fun ρ2 k hk j u y hu hy => ?_⟩
  ·cases i with
   | zero => simp [zGL] at h1 h2; subst h1 h2; exact ⟨fun _ => h, _, _, rfl⟩
   | succ i => simp at h2
  ·cases i with
   | zero => simp at h1; subst h1; exact h2
   | succ i => simp at h1
  ·cases i with
   | zero =>
    cases j with
    | zero => rfl
    | succ j => simp at h2
   | succ i => simp at h1
  ·cases j with
   | zero =>
    simp [zA8] at hu hy; subst hu hy
    have hp : ρ2 k = some ⟨b, v, 0, fp⟩ := hk 0 _ rfl
    have : ∃ a n c, v = .slice a n c := by
     rcases h with ⟨⟨a, e⟩, _⟩ | ⟨_, _, _, _, g⟩
     ·exact ⟨a, 0, 0, e⟩
     ·exact ⟨_, _, _, g.hv⟩
    obtain ⟨a, n, c, rfl⟩ := this
    exact .obj hp rfl
   | succ j => simp at hy
 | .pr a b, x, vs, fp, h => by
  obtain ⟨f, g, h1, h2, h3, h4⟩ := h
  obtain ⟨p1, n1, o1, f1, d1, c1⟩ := TrO.open a x.1 _ f h1
  obtain ⟨p2, n2, o2, f2, d2, c2⟩ := TrO.open b x.2 _ g h2
  have lo : (zGL a x.1).length = a.n := zF4 _ _
  refine ⟨p1 ++ p2, by simp [n1, n2, OT.n], fun i ob p e1 e2 => ?_, fun i p b' e1 e2 => ?_, fun i j p p' b' e1 e2 e3 e4 => ?_, fun ρ2 k hk j u y hu hy => ?_⟩
  ·simp only [zGL] at e1
   by_cases hi : i < a.n
   ·rw [List.getElem?_append_left (by omega)] at e1 e2
    exact o1 i ob p e1 e2
   ·rw [List.getElem?_append_right (by omega)] at e1 e2
    rw [lo] at e1; rw [n1] at e2
    exact o2 _ ob p e1 e2
  ·by_cases hi : i < p1.length
   ·rw [List.getElem?_append_left hi] at e1
    exact (h3 b').2 (.inl (f1 i p b' e1 e2))
   ·rw [List.getElem?_append_right (by omega)] at e1
    exact (h3 b').2 (.inr (f2 _ p b' e1 e2))
  ·by_cases hi : i < p1.length <;> by_cases hj : j < p1.length
   ·rw [List.getElem?_append_left hi] at e1
    rw [List.getElem?_append_left hj] at e2
    exact d1 i j p p' b' e1 e2 e3 e4
   ·rw [List.getElem?_append_left hi] at e1
    rw [List.getElem?_append_right (by omega)] at e2
    exact absurd (f2 _ p' b' e2 e4) (h4 b' (f1 i p b' e1 e3))
   ·rw [List.getElem?_append_right (by omega)] at e1
    rw [List.getElem?_append_left hj] at e2
    exact absurd (f2 _ p b' e1 e3) (h4 b' (f1 j p' b' e2 e4))
   ·rw [List.getElem?_append_right (by omega)] at e1 e2
    have := d2 _ _ p p' b' e1 e2 e3 e4
    omega
  ·simp only [zA8] at hu
   by_cases hj : j < zc a.ty
   ·rw [List.getElem?_append_left (by rw [yZ]; exact hj)] at hu
    exact c1 ρ2 k hk.left j u y hu (by rw [List.getElem?_take, if_pos hj]; exact hy)
   ·rw [List.getElem?_append_right (by rw [yZ]; omega), yZ] at hu
    refine c2 ρ2 (k + a.n) (by rw [← n1]; exact hk.right) _ u y hu ?_
    rw [List.getElem?_drop, ← hy]; congr 1; omega
end
end Go.Proofs.YtipbfgknaihifaaGreat
namespace Go.Proofs.YtipbfgknaihifaaGreat
open Go.RowKit
section
variable {P : Program} {ρ : ye} {Z : Zs} {w : World} {H H1 : List Ob}
theorem zPh {s : OT} {ob : Nat} {i : Int} {off k : Nat} {x : Value} (hf : zVL H s ob i off k = some H1) (hr : HR ρ Z H w) (cx : Cn ρ Z w (.opt s ob i off) x) :
  ∃ ρ1, HR ρ1 Z H1 w ∧ Cn ρ1 Z w (.ptr H.length 0) x ∧ (∀ v y, Cn ρ Z w v y → Cn ρ1 Z w (scrub (zA6 ob []) v) y) ∧
   ∀ q ok v H' q2 ok2 v2 H2, zRP H s ob i off k H.length (.mk q ok v H') = .mk q2 ok2 v2 H2 → ok2 = ok ∧ ∀ ρ' Z' w' y, Post q ρ1 Z H1 w ρ' Z' H' w' → Cn ρ' Z' w' v y → ∃ ρ4 Z4, Post q2 ρ Z H w ρ4 Z4 H2 w' ∧ Cn ρ4 Z4 w' v2 y := by
 unfold zVL at hf
 unfold zRP zVb
 split at hf
 rotate_left
 ·cases hf
 rename_i s1 l e
 split at hf
 rotate_left
 ·cases hf
 rename_i pe hpe
 obtain rfl := pe.down
 rw [zHN] at hf
 split at hf
 rotate_left
 ·cases hf
 rename_i L hL
 cases hf
 simp only [zHN]
 have LK := zjc k s1 off L hL
 cases cx with
 | opt g hx h0 =>
 rename_i n c p
 have hlt : ob < H.length := hr.dom ob p g
 rcases hr.ob ob p _ g e with ⟨⟨ad, k1⟩, _⟩ | ⟨cur, e0, c', fs, hI⟩
 ·rw [hx] at k1; cases k1; omega
 have hn : n = l.length ∧ c = c' := by
  have := hI.hv; rw [hx] at this
  simp only [Value.slice.injEq] at this
  exact ⟨this.2.1, this.2.2⟩
 obtain ⟨rfl, rfl⟩ := hn
 have hi : i.toNat < l.length := by omega
 have ht := hI.ht i.toNat _ (zVq h0)
 obtain ⟨f, g', t1, t2, t3, t4⟩ := LK.tr Z w _ _ _ ht
 obtain ⟨ps, n1, o1, f1, d1, c1⟩ := TrO.open _ _ _ _ t1
 have hK := zB0 s1.ty
 have hkk := LK.kk
 have hle := LK.le
 have hfit : i.toNat * zc s1.ty + zc s1.ty ≤ cur.size := by
  have : (i.toNat + 1) * zc s1.ty ≤ c * zc s1.ty := Nat.mul_le_mul_right _ (by have := hI.hc; omega)
  rw [Nat.succ_mul] at this; have := hI.hs; omega
 generalize hy0 : L.2.get (zB s1.ty l i) = y0 at *
 have lo : (zGL L.1 y0).length = ps.length := by rw [n1]; exact zF4 _ _
 let pn : Pl := ⟨p.b, undef, i.toNat * zc s1.ty + off, zA2⟩
 let ρ1 : ye := fun o' => if o' = ob then some ⟨p.b, p.x, p.off, zA2⟩ else if o' < H.length then ρ o' else (pn :: ps)[o' - H.length]?
 have r_o : ρ1 ob = some ⟨p.b, p.x, p.off, zA2⟩ := if_pos rfl
 have r_old : ∀ o', o' ≠ ob → o' < H.length → ρ1 o' = ρ o' := fun o' h1 h2 => by simp only [ρ1, if_neg h1, if_pos h2]
 have r_old' : ∀ o' p', o' ≠ ob → ρ o' = some p' → ρ1 o' = some p' := fun o' p' h1 h2 => by rw [r_old o' h1 (hr.dom _ _ h2)]; exact h2
 have r_n : ρ1 H.length = some pn := by simp only [ρ1, if_neg (show H.length ≠ ob by omega), Nat.lt_irrefl, if_false, Nat.sub_self, List.getElem?_cons_zero]
 have r_sub : At ρ1 (H.length + 1) ps := fun j p' h => by
  simp only [ρ1, if_neg (show H.length + 1 + j ≠ ob by omega), if_neg (show ¬ H.length + 1 + j < H.length by omega), show H.length + 1 + j - H.length = j + 1 by omega, List.getElem?_cons_succ]; exact h
 generalize hH1 : ((H.set ob .gone).map (zDr (zA6 ob [])) ++ [.box (zA8 L.1 y0 (H.length + 1))] ++ zGL L.1 y0 : List Ob) = H1
 have hH1l : H1.length = H.length + 1 + ps.length := by rw [← hH1]; simp [lo]; omega
 have h_old : ∀ o', o' < H.length → o' ≠ ob → H1[o']? = (H[o']?).map (zDr (zA6 ob [])) := fun o' h1 h2 => by
  rw [← hH1, List.append_assoc, List.getElem?_append_left (by simpa using h1), List.getElem?_map, List.getElem?_set_ne (Ne.symm h2)]
 have h_o : H1[ob]? = some .gone := by
  rw [← hH1, List.append_assoc, List.getElem?_append_left (by simpa using hlt), List.getElem?_map, List.getElem?_set_self hlt]; rfl
 have h_n : H1[H.length]? = some (.box (zA8 L.1 y0 (H.length + 1))) := by
  rw [← hH1, List.append_assoc, List.getElem?_append_right (by simp)]; simp
 have h_sub : ∀ j, H1[H.length + 1 + j]? = (zGL L.1 y0)[j]? := fun j => by
  rw [← hH1, List.getElem?_append_right (by simp)]; simp
 have split1 : ∀ o' p' x', ρ1 o' = some p' → H1[o']? = some x' → (o' = ob ∧ p' = ⟨p.b, p.x, p.off, zA2⟩ ∧ x' = .gone) ∨ (o' ≠ ob ∧ o' < H.length ∧ ρ o' = some p' ∧ ∃ z, H[o']? = some z ∧ x' = zDr (zA6 ob []) z) ∨
   (o' = H.length ∧ p' = pn ∧ x' = .box (zA8 L.1 y0 (H.length + 1))) ∨ ∃ j, o' = H.length + 1 + j ∧ ps[j]? = some p' ∧ (zGL L.1 y0)[j]? = some x' := by
  intro o' p' x' h1 h2
  by_cases ho : o' = ob
  ·subst ho
   rw [r_o] at h1; rw [h_o] at h2; cases h1; cases h2
   exact .inl ⟨rfl, rfl, rfl⟩
  ·by_cases hl : o' < H.length
   ·rw [r_old o' ho hl] at h1
    rw [h_old o' hl ho, Option.map_eq_some_iff] at h2
    obtain ⟨z, h2, h3⟩ := h2
    exact .inr (.inl ⟨ho, hl, h1, z, h2, h3.symm⟩)
   ·by_cases hn : o' = H.length
    ·subst hn
     rw [r_n] at h1; rw [h_n] at h2; cases h1; cases h2
     exact .inr (.inr (.inl ⟨rfl, rfl, rfl⟩))
    ·obtain ⟨j, rfl⟩ : ∃ j, o' = H.length + 1 + j := ⟨o' - (H.length + 1), by omega⟩
     rw [h_sub] at h2
     have hj : j < ps.length := by rw [← lo]; exact (List.getElem?_eq_some_iff.1 h2).1
     have := r_sub j _ (List.getElem?_eq_getElem hj)
     rw [this] at h1
     exact .inr (.inr (.inr ⟨j, rfl, by rw [List.getElem?_eq_getElem hj]; exact h1, h2⟩))
 have fOld : ∀ b, f b → p.fp b ∧ b ≠ p.b := fun b hb => ⟨(hI.hf b).2 (.inr ⟨_, hi, (t2 b).2 (.inl hb)⟩), fun h => hI.hn _ hi (h ▸ (t2 b).2 (.inl hb))⟩
 have hpb : p.fp p.b := (hI.hf p.b).2 (.inl rfl)
 have zKw : ∀ o' p' x' b, ρ1 o' = some p' → H1[o']? = some x' → Own x' p' b → (o' ≠ ob ∧ o' < H.length ∧ ρ o' = some p' ∧ ∃ z, H[o']? = some z ∧ x' = zDr (zA6 ob []) z ∧ Own z p' b) ∨ (o' = H.length ∧ b = p.b) ∨ (f b ∧ ∃ j, o' = H.length + 1 + j ∧ ps[j]? = some p' ∧ p'.fp b) := by
  intro o' p' x' b h1 h2 h3
  rcases split1 o' p' x' h1 h2 with ⟨_, rfl, rfl⟩ | ⟨k1, k2, k3, z, k4, rfl⟩ | ⟨rfl, rfl, rfl⟩ | ⟨j, rfl, k1, k2⟩
  ·exact h3.elim
  ·exact .inl ⟨k1, k2, k3, z, k4, rfl, zDn.1 h3⟩
  ·exact .inr (.inl ⟨rfl, h3⟩)
  ·obtain ⟨_, s, l, rfl⟩ := o1 j x' p' k2 k1
   exact .inr (.inr ⟨f1 j p' b k1 h3, j, rfl, k1, h3⟩)
 have own0 : ∀ o' p' x' b, ρ1 o' = some p' → H1[o']? = some x' → Own x' p' b → ∃ o0 p0 x0, ρ o0 = some p0 ∧ H[o0]? = some x0 ∧ Own x0 p0 b := by
  intro o' p' x' b h1 h2 h3
  rcases zKw o' p' x' b h1 h2 h3 with ⟨_, _, k1, z, k2, _, k3⟩ | ⟨_, rfl⟩ | ⟨hb, _⟩
  ·exact ⟨o', p', z, k1, k2, k3⟩
  ·exact ⟨ob, p, _, g, e, hpb⟩
  ·exact ⟨ob, p, _, g, e, (fOld b hb).1⟩
 have sk : Sk (zA6 ob []) ρ Z w ρ1 Z w := ⟨fun o' p' h k => by
   by_cases ho : o' = ob
   ·subst ho
    rw [g] at h; cases h
    exact ⟨zA2, r_o, fun h => by rw [zGz] at h; simp at h⟩
   ·exact ⟨p'.fp, r_old' o' p' ho h, fun _ => rfl⟩, fun _ _ h => h, fun _ _ _ => rfl, fun _ _ _ _ _ _ => rfl⟩
 have hnz : ∀ q, ¬ Z q p.b := hI.hz
 have hr1 : HR ρ1 Z H1 w := by
  refine ⟨hr.zl, fun o' p' h => ?_, fun o' p' x' h1 h2 => ?_, fun a b p1 p2 x1 x2 bb h1 h2 h3 h4 b1 b2 => ?_⟩
  ·by_cases ho : o' = ob
   ·omega
   ·by_cases hl : o' < H.length
    ·omega
    ·simp only [ρ1, if_neg ho, if_neg hl] at h
     have := (List.getElem?_eq_some_iff.1 h).1
     simp at this; omega
  ·rcases split1 o' p' x' h1 h2 with ⟨_, rfl, rfl⟩ | ⟨k1, k2, k3, z, k4, rfl⟩ | ⟨rfl, rfl, rfl⟩ | ⟨j, rfl, k1, k2⟩
   ·exact fun b h => h
   ·have hob := hr.ob o' p' z k3 k4
    cases z with
    | box cells =>
     obtain ⟨nf, nz, xs, e', m2, m3, m4⟩ := hob
     refine ⟨nf, nz, xs, e', m2, by simpa using m3, fun i u y hu hy => ?_⟩
     rw [List.getElem?_map, Option.map_eq_some_iff] at hu
     obtain ⟨u', h1, rfl⟩ := hu
     exact (m4 i u' y h1 hy).scrub sk
    | arr s l => exact hob
    | frz t l => exact hob
    | gone => exact hob
   ·refine ⟨fun b h => h, hnz, cur, e0, hI.hw, ?_, fun j u y hu hy => ?_⟩
    ·show i.toNat * zc s1.ty + off + (zA8 L.1 y0 (H.length + 1)).length ≤ cur.size
     rw [yZ]; omega
    ·have hj : j < k := by rw [← hkk, ← yZ L.1 y0 (H.length + 1)]; exact (List.getElem?_eq_some_iff.1 hu).1
     refine c1 ρ1 (H.length + 1) r_sub j u y hu ?_
     rw [List.getElem?_take, if_pos hj, List.getElem?_drop]
     unfold yr
     rw [List.getElem?_take, if_pos (by omega), List.getElem?_drop, ← hy, Array.getElem?_toList]
     show cur[i.toNat * zc s1.ty + (off + j)]? = cur[i.toNat * zc s1.ty + off + j]?
     rw [Nat.add_assoc]
   ·exact (o1 j x' p' k2 k1).1 ρ1
  ·have one : ∀ o' p' x', ρ1 o' = some p' → H1[o']? = some x' → Own x' p' bb → o' ≠ ob → o' < H.length → bb ≠ p.b ∧ ¬ f bb := by
    intro o' p' x' h1 h2 h3 h4 h5
    have : ¬ p.fp bb := fun hb => by
     rcases zKw o' p' x' bb h1 h2 h3 with ⟨_, _, k1, z, k2, _, k3⟩ | ⟨k, _⟩ | ⟨_, j, k, _⟩
     ·exact h4 (hr.dj o' ob p' p z _ bb k1 g k2 e k3 hb)
     ·omega
     ·omega
    exact ⟨fun h => this (h ▸ hpb), fun h => this (fOld bb h).1⟩
   have hb1 := zKw a p1 x1 bb h1 h3 b1
   have hb2 := zKw b p2 x2 bb h2 h4 b2
   rcases hb1 with ⟨i1, i2, i3, z1, i4, _, i5⟩ | ⟨i1, i2⟩ | ⟨i1, j1, i2, i3, i4⟩
   ·have := one a p1 x1 h1 h3 b1 i1 i2
    rcases hb2 with ⟨k1, k2, k3, z2, k4, _, k5⟩ | ⟨k1, k2⟩ | ⟨k1, _⟩
    ·exact hr.dj a b p1 p2 z1 z2 bb i3 k3 i4 k4 i5 k5
    ·exact absurd k2 this.1
    ·exact absurd k1 this.2
   ·rcases hb2 with ⟨k1, k2, k3, z2, k4, _, k5⟩ | ⟨k1, k2⟩ | ⟨k1, _⟩
    ·exact absurd i2 (one b p2 x2 h2 h4 b2 k1 k2).1
    ·omega
    ·exact absurd i2 (fOld bb k1).2
   ·rcases hb2 with ⟨k1, k2, k3, z2, k4, _, k5⟩ | ⟨k1, k2⟩ | ⟨k1, j2, k2, k3, k4⟩
    ·exact absurd i1 (one b p2 x2 h2 h4 b2 k1 k2).2
    ·exact absurd k2 (fOld bb i1).2
    ·have := d1 j1 j2 p1 p2 bb i3 k3 i4 k4
     omega
 refine ⟨ρ1, hr1, .ptr (p := pn) r_n, fun v y h => h.scrub sk, fun q ok v H' q2 ok2 v2 H2 hb => ?_⟩
 split at hb
 rotate_left
 ·cases hb
 rename_i hq
 split at hb
 rotate_left
 ·cases hb
 rename_i H3 os hun
 cases hb
 split at hun
 rotate_left
 ·cases hun
 rename_i cs hcs hgo
 split at hun
 rotate_left
 ·cases hun
 rename_i y H2 os' q2 htk
 cases hun
 refine ⟨rfl, fun ρ' Z' w' y' hp cy => ?_⟩
 have hn' : ρ' H.length = some pn := hp.rhoq hq r_n
 obtain ⟨_, nz', xs', e', m2, m3, m4⟩ := hp.hr.ob _ pn _ hn' hcs
 have hcl : cs.length = k := by
  obtain ⟨cs', k1, k2⟩ := hp.bxs _ _ h_n
  rw [hcs] at k1; cases k1
  rw [k2, yZ, hkk]
 obtain ⟨ys, hys, hysl⟩ : ∃ ys : List Value, ys = (xs'.toList.drop (i.toNat * zc s1.ty + off)).take k ∧ ys.length = k := ⟨_, rfl, by
  have : i.toNat * zc s1.ty + off + cs.length ≤ xs'.size := m3
  rw [List.length_take, List.length_drop, Array.length_toList]; omega⟩
 have hysc : ∀ (j : Nat) (u : V) (z : Value), cs[j]? = some u → ys[j]? = some z → Cn ρ' Z' w' u z := fun j u z hu hz => by
  have hj : j < k := by rw [← hysl]; exact (List.getElem?_eq_some_iff.1 hz).1
  rw [hys, List.getElem?_take, if_pos hj, List.getElem?_drop, Array.getElem?_toList] at hz
  exact m4 j u z hu hz
 obtain ⟨a1, _, Z2, fy, a2, a3, post, a4, _, a5, a6, a7, _⟩ := zRT htk hp.hr (ys := ys) (by omega) (by rw [Nat.one_mul]; omega) hysc
 have ty := a4 0 y rfl
 have frY := fun b hb => a5 0 b (by decide) hb
 rw [Nat.zero_mul, List.drop_zero, hkk, List.take_of_length_le (by omega)] at ty
 generalize hfy : fy 0 = f' at ty frY
 have hbl : (yK H2 os q2).length = H'.length := by rw [x9]; exact a1
 have hnl : H.length < H'.length := (List.getElem?_eq_some_iff.1 hcs).1
 have ho' : ρ' ob = some ⟨p.b, p.x, p.off, zA2⟩ := hp.rhoq hq r_o
 have oos : ob ∉ os := fun h => by
  obtain ⟨s, l, _, h⟩ := a6 ob h
  rw [hgo] at h; cases h
 have nos : H.length ∉ os := fun h => by
  obtain ⟨s, l, _, h⟩ := a6 _ h
  rw [hcs] at h; cases h
 have dn : (ρ'.del os) H.length = some pn := by rw [ye.del_ne nos]; exact hn'
 have do' : (ρ'.del os) ob = some ⟨p.b, p.x, p.off, zA2⟩ := by rw [ye.del_ne oos]; exact ho'
 obtain ⟨csn, hbn, _⟩ := post.bxs _ _ hcs
 have ownN : Own (.box csn) pn p.b := rfl
 have nz2 : ∀ q, ¬ Z2 q p.b := (post.hr.own dn hbn ownN).1
 have quiet : ∀ b, p.fp b → b ≠ p.b → ¬ f b → w'.heap[b]? = w.heap[b]? ∧ (∀ k, ¬ Z2 k b) ∧ (∀ o' p' x', ρ' o' = some p' → H'[o']? = some x' → ¬ Own x' p' b) ∧ ∀ o' p' x', (ρ'.del os) o' = some p' → (yK H2 os q2)[o']? = some x' → ¬ Own x' p' b := by
  intro b b1 b2 b3
  obtain ⟨z1, z2⟩ := hr.own g e (b := b) b1
  have n1 : ∀ o' p' x', ρ1 o' = some p' → H1[o']? = some x' → ¬ Own x' p' b := by
   intro o' p' x' h1 h2 h3
   rcases zKw o' p' x' b h1 h2 h3 with ⟨k0, _, k1, z, k2, _, k3⟩ | ⟨_, k⟩ | ⟨k, _⟩
   ·exact k0 (hr.dj o' ob p' p z _ b k1 g k2 e k3 b1)
   ·exact b2 k
   ·exact b3 k
  have n2 : ∀ o' p' x', ρ' o' = some p' → H'[o']? = some x' → ¬ Own x' p' b := by
   intro o' p' x' h1 h2 h3
   rcases hp.newb o' p' x' b h1 h2 h3 with h | ⟨o0, p0, x0, k1, k2, k3⟩
   ·omega
   ·exact n1 o0 p0 x0 k1 k2 k3
  have hsz := hp.size.le
  refine ⟨hp.same b z2 n1, fun k hk => ?_, n2, fun o' p' x' h1 h2 h3 => ?_⟩
  ·rcases post.zn k b hk with h | h | ⟨o0, p0, x0, k1, k2, k3⟩
   ·rcases hp.zn k b h with h | h | ⟨o0, p0, x0, k1, k2, k3⟩
    ·exact z1 k h
    ·omega
    ·exact n1 o0 p0 x0 k1 k2 k3
   ·omega
   ·exact n2 o0 p0 x0 k1 k2 k3
  ·rcases post.newb o' p' x' b h1 h2 h3 with h | ⟨o0, p0, x0, k1, k2, k3⟩
   ·omega
   ·exact n2 o0 p0 x0 k1 k2 k3
 have qg : ∀ b, g' b → p.fp b ∧ b ≠ p.b ∧ ¬ f b := fun b hb => by
  have h1 := (t2 b).2 (.inr hb)
  exact ⟨(hI.hf b).2 (.inr ⟨_, hi, h1⟩), fun h => hI.hn _ hi (h ▸ h1), fun h => t3 b h hb⟩
 have qf : ∀ j b, j < l.length → j ≠ i.toNat → fs j b → p.fp b ∧ b ≠ p.b ∧ ¬ f b := fun j b hj hji hb =>
  ⟨(hI.hf b).2 (.inr ⟨j, hj, hb⟩), fun h => hI.hn j hj (h ▸ hb), fun h => hji (hI.hd j _ b hj hi hb ((t2 b).2 (.inl h)))⟩
 have fyq : ∀ b, f' b → (∃ o0 p0 x0, ρ' o0 = some p0 ∧ H'[o0]? = some x0 ∧ Own x0 p0 b ∧ o0 ∈ os) := by
  intro b hb
  obtain ⟨o0, p0, x0, k0, k1, k2, k3⟩ := frY b hb
  obtain ⟨s, l, k4, k5⟩ := a6 o0 k0
  rw [k4] at k2; cases k2
  exact ⟨o0, p0, _, k1, k5, k3, k0⟩
 have fyb : ∀ b, f' b → b ≠ p.b := by
  rintro b hb rfl
  obtain ⟨o0, p0, x0, k1, k2, k3, k4⟩ := fyq _ hb
  have := hp.hr.dj o0 H.length p0 pn x0 _ p.b k1 hn' k2 hcs k3 rfl
  exact nos (this ▸ k4)
 have zk : ∀ k b, Z k b → Z2 k b := fun k b h => a2 k b (hp.zm k b h)
 have hzs : ∀ k b, Z k b → w'.heap[b]? = w.heap[b]? := hr1.zsame hp
 obtain ⟨xs'', q1, q2', q3⟩ := hp.part H.length pn _ r_n h_n cur e0 hI.hw
 rw [m2] at q1
 simp only [Option.some.injEq, Obj.cells.injEq] at q1
 obtain ⟨rfl, rfl, _⟩ := q1
 rw [yZ, hkk] at q3
 have q3 : ∀ j, (j < i.toNat * zc s1.ty + off ∨ i.toNat * zc s1.ty + off + k ≤ j) → xs'[j]? = cur[j]? := q3
 generalize hl' : l.set i.toNat (L.2.set (zB s1.ty l i) y) = l'
 have hll : l'.length = l.length := by rw [← hl']; simp
 let fs' : Nat → Nat → Prop := fun j b => if j = i.toNat then f' b ∨ g' b else fs j b
 let fp' : Nat → Prop := fun b => b = p.b ∨ ∃ j, j < l'.length ∧ fs' j b
 let p4 : Pl := ⟨p.b, p.x, p.off, fp'⟩
 let ρ4 : ye := (ρ'.del os).upd ob p4
 have hcellO : ∀ j, j ≠ i.toNat → yr xs' (zc s1.ty) j = yr cur (zc s1.ty) j := by
  intro j hj
  unfold yr
  apply List.ext_getElem?
  intro m
  rw [List.getElem?_take, List.getElem?_take]
  split
  ·rename_i hm
   rw [List.getElem?_drop, List.getElem?_drop, Array.getElem?_toList, Array.getElem?_toList]
   apply q3
   rcases Nat.lt_or_gt_of_ne hj with h | h
   ·have : (j + 1) * zc s1.ty ≤ i.toNat * zc s1.ty := Nat.mul_le_mul_right _ (by omega)
    rw [Nat.succ_mul] at this
    exact .inl (by omega)
   ·have : (i.toNat + 1) * zc s1.ty ≤ j * zc s1.ty := Nat.mul_le_mul_right _ (by omega)
    rw [Nat.succ_mul] at this
    exact .inr (by omega)
  ·rfl
 have hcellI : (yr cur (zc s1.ty) i.toNat).take off ++ ys ++ (yr cur (zc s1.ty) i.toNat).drop (off + k) = yr xs' (zc s1.ty) i.toNat := by
  have hxs : xs'.size = cur.size := q2'
  have hc1 : (yr cur (zc s1.ty) i.toNat).length = zc s1.ty := by unfold yr; simp; omega
  have l1 : ((yr cur (zc s1.ty) i.toNat).take off).length = off := by simp; omega
  apply List.ext_getElem?
  intro m
  have hR : (yr xs' (zc s1.ty) i.toNat)[m]? = if m < zc s1.ty then xs'[i.toNat * zc s1.ty + m]? else none := by
   unfold yr; rw [List.getElem?_take]; split
   ·rw [List.getElem?_drop, Array.getElem?_toList]
   ·rfl
  have hC : ∀ m, m < zc s1.ty → (yr cur (zc s1.ty) i.toNat)[m]? = cur[i.toNat * zc s1.ty + m]? := by
   intro m hm
   unfold yr; rw [List.getElem?_take, if_pos hm, List.getElem?_drop, Array.getElem?_toList]
  rw [hR]
  by_cases h1 : m < off
  ·rw [if_pos (by omega), List.append_assoc, List.getElem?_append_left (by omega), List.getElem?_take, if_pos h1, hC m (by omega), q3 _ (.inl (by omega))]
  ·by_cases h2 : m < off + k
   ·rw [if_pos (by omega), List.getElem?_append_left (by simp; omega), List.getElem?_append_right (by omega), l1, hys, List.getElem?_take, if_pos (by omega), List.getElem?_drop, Array.getElem?_toList]
    congr 1; omega
   ·have l2 : ((yr cur (zc s1.ty) i.toNat).take off ++ ys).length = off + k := by simp; omega
    rw [List.getElem?_append_right (by omega), l2, List.getElem?_drop, show off + k + (m - (off + k)) = m by omega]
    by_cases h3 : m < zc s1.ty
    ·rw [if_pos h3, hC m h3, q3 _ (.inr (by omega))]
    ·rw [if_neg h3, List.getElem?_eq_none (by omega)]
 have hx' : ObR ρ4 Z2 w' (.arr s1 l') p4 := by
  refine .inr ⟨xs', e', c, fs', ?_, m2, nz2, by rw [hll]; exact hI.hc, hI.hm, by rw [hll]; exact hI.hl, by rw [q2']; exact hI.hs, fun b => Iff.rfl, fun j hj hb => ?_, fun a b bb ha hb h1 h2 => ?_, fun j x hj => ?_⟩
  ·rw [hll]; exact hI.hv
  ·simp only [fs'] at hb
   split at hb
   ·rcases hb with hb | hb
    ·exact fyb _ hb rfl
    ·exact (qg _ hb).2.1 rfl
   ·exact hI.hn j (by omega) hb
  ·have bad : ∀ j, j < l.length → j ≠ i.toNat → fs j bb → f' bb ∨ g' bb → False := by
    intro j hj hji h1 h2
    have hq := qf j bb hj hji h1
    rcases h2 with h2 | h2
    ·obtain ⟨o0, p0, x0, k1, k2, k3, k4⟩ := fyq _ h2
     exact (quiet bb hq.1 hq.2.1 hq.2.2).2.2.1 o0 p0 x0 k1 k2 k3
    ·exact hji (hI.hd j _ bb hj hi h1 ((t2 bb).2 (.inr h2)))
   simp only [fs'] at h1 h2
   split at h1
   ·split at h2
    ·omega
    ·exact (bad b (by omega) (by assumption) h2 h1).elim
   ·split at h2
    ·exact (bad a (by omega) (by assumption) h1 h2).elim
    ·exact hI.hd a b bb (by omega) (by omega) h1 h2
  ·have hjl : j < l.length := by rw [← hll]; exact (List.getElem?_eq_some_iff.1 hj).1
   rw [← hl'] at hj
   by_cases hji : j = i.toNat
   ·subst hji
    rw [List.getElem?_set_self hi] at hj; cases hj
    have : fs' i.toNat = fun b => f' b ∨ g' b := funext fun b => by simp only [fs', if_true]
    rw [this, ← hcellI]
    exact t4 Z2 w' y ys f' (fun b h => zk _ b h) (fun b h => hzs _ b h) (fun b hb => (quiet b (qg b hb).1 (qg b hb).2.1 (qg b hb).2.2).1) (fun b q hb => (quiet b (qg b hb).1 (qg b hb).2.1 (qg b hb).2.2).2.1 q) ty fun b hb hg => by
     obtain ⟨o0, p0, x0, k1, k2, k3, k4⟩ := fyq _ hb
     exact (quiet b (qg b hg).1 (qg b hg).2.1 (qg b hg).2.2).2.2.1 o0 p0 x0 k1 k2 k3
   ·rw [List.getElem?_set_ne (Ne.symm hji)] at hj
    have : fs' j = fs j := funext fun b => by simp only [fs', if_neg hji]
    rw [this, hcellO j hji]
    have qq := fun b hb => quiet b (qf j b hjl hji hb).1 (qf j b hjl hji hb).2.1 (qf j b hjl hji hb).2.2
    exact (hI.ht j x hj).mono zk hzs (fun b hb => (qq b hb).1) (fun b q hb => (qq b hb).2.1 q)
 have r4 : ρ4 ob = some p4 := ye.upd_self _ _ _
 have r4n : ∀ o', o' ≠ ob → ρ4 o' = (ρ'.del os) o' := fun o' h => ye.upd_ne h
 generalize hH5 : (((yK H2 os q2).set H.length .gone).set ob (.arr s1 l')).map (zDr (zA6 ob os)) = H5
 have g_o : H5[ob]? = some (.arr s1 l') := by
  rw [← hH5, List.getElem?_map, List.getElem?_set_self (by simp; omega)]; rfl
 have g_n : H5[H.length]? = some .gone := by
  rw [← hH5, List.getElem?_map, List.getElem?_set_ne (by omega), List.getElem?_set_self (by omega)]; rfl
 have g_r : ∀ o', o' ≠ ob → o' ≠ H.length → H5[o']? = ((yK H2 os q2)[o']?).map (zDr (zA6 ob os)) := fun o' h1 h2 => by
  rw [← hH5, List.getElem?_map, List.getElem?_set_ne (Ne.symm h1), List.getElem?_set_ne (Ne.symm h2)]
 have g_l : H5.length = H'.length := by rw [← hH5]; simp [hbl]
 have split5 : ∀ o' p' x', ρ4 o' = some p' → H5[o']? = some x' → (o' = ob ∧ p' = p4 ∧ x' = .arr s1 l') ∨ (o' = H.length ∧ p' = pn ∧ x' = .gone) ∨ (o' ≠ ob ∧ o' ≠ H.length ∧ (ρ'.del os) o' = some p' ∧ ∃ z, (yK H2 os q2)[o']? = some z ∧ x' = zDr (zA6 ob os) z) := by
  intro o' p' x' h1 h2
  by_cases ho : o' = ob
  ·subst ho
   rw [r4] at h1; rw [g_o] at h2; cases h1; cases h2
   exact .inl ⟨rfl, rfl, rfl⟩
  ·rw [r4n o' ho] at h1
   by_cases hn : o' = H.length
   ·subst hn
    rw [dn] at h1; rw [g_n] at h2; cases h1; cases h2
    exact .inr (.inl ⟨rfl, rfl, rfl⟩)
   ·rw [g_r o' ho hn, Option.map_eq_some_iff] at h2
    obtain ⟨z, h2, h3⟩ := h2
    exact .inr (.inr ⟨ho, hn, h1, z, h2, h3.symm⟩)
 have sk4 : Sk (zA6 ob os) (ρ'.del os) Z2 w' ρ4 Z2 w' := ⟨fun o' p' h k => by
   by_cases ho : o' = ob
   ·subst ho
    rw [do'] at h; cases h
    exact ⟨fp', r4, fun h => by rw [zGz] at h; simp at h⟩
   ·exact ⟨p'.fp, by rw [r4n o' ho]; exact h, fun _ => rfl⟩, fun _ _ h => h, fun _ _ _ => rfl, fun _ _ _ _ _ _ => rfl⟩
 have sk5 : Sk (zA6 ob os) ρ' Z2 w' ρ4 Z2 w' := ⟨fun o' p' h k => by
   by_cases ho : o' = ob
   ·subst ho
    rw [ho'] at h; cases h
    exact ⟨fp', r4, fun h => by rw [zGz] at h; simp at h⟩
   ·refine ⟨p'.fp, ?_, fun _ => rfl⟩
    rw [r4n o' ho, ye.del_ne fun h => by rw [zQx, List.contains_iff_mem.2 h] at k; cases k]; exact h, fun _ _ h => h, fun _ _ _ => rfl, fun _ _ _ _ _ _ => rfl⟩
 have qo : ∀ o0 p0, ρ o0 = some p0 → o0 ≠ ob → ρ1 o0 = some p0 := fun o0 p0 h1 h2 => r_old' o0 p0 h2 h1
 have own5 : ∀ o' p' x' b, ρ4 o' = some p' → H5[o']? = some x' → Own x' p' b → w.heap.size ≤ b ∨ ∃ o0 p0 x0, ρ o0 = some p0 ∧ H[o0]? = some x0 ∧ Own x0 p0 b := by
  have lift : ∀ o' p' x' b, ρ' o' = some p' → H'[o']? = some x' → Own x' p' b → w.heap.size ≤ b ∨ ∃ o0 p0 x0, ρ o0 = some p0 ∧ H[o0]? = some x0 ∧ Own x0 p0 b := by
   intro o' p' x' b h1 h2 h3
   rcases hp.newb o' p' x' b h1 h2 h3 with h | ⟨o0, p0, x0, k1, k2, k3⟩
   ·exact .inl h
   ·exact .inr (own0 o0 p0 x0 b k1 k2 k3)
  intro o' p' x' b h1 h2 h3
  rcases split5 o' p' x' h1 h2 with ⟨rfl, rfl, rfl⟩ | ⟨rfl, rfl, rfl⟩ | ⟨k0, _, k1, z, k2, rfl⟩
  ·rcases h3 with rfl | ⟨j, hj, hb⟩
   ·exact .inr ⟨_, p, _, g, e, hpb⟩
   ·simp only [fs'] at hb
    split at hb
    ·rcases hb with hb | hb
     ·obtain ⟨o0, p0, x0, k1, k2, k3, k4⟩ := fyq _ hb
      exact lift o0 p0 x0 b k1 k2 k3
     ·exact .inr ⟨_, p, _, g, e, (qg _ hb).1⟩
    ·exact .inr ⟨_, p, _, g, e, (hI.hf b).2 (.inr ⟨j, by omega, hb⟩)⟩
  ·exact h3.elim
  ·rcases post.newb o' p' z b k1 k2 (zDn.1 h3) with h | ⟨o0, p0, x0, m1, m2, m3⟩
   ·have := hp.size.le; exact .inl (by omega)
   ·exact lift o0 p0 x0 b m1 m2 m3
 refine ⟨ρ4, Z2, ?_, (cy.mono (Kp.rz a2)).scrub sk5⟩
 have hbox : ∀ o0 cs0, H[o0]? = some (.box cs0) → o0 ≠ ob ∧ o0 < H.length ∧ H1[o0]? = some (.box (cs0.map (scrub (zA6 ob [])))) := by
  intro o0 cs0 h
  have h1 : o0 ≠ ob := fun h' => by subst h'; rw [e] at h; cases h
  have h2 := (List.getElem?_eq_some_iff.1 h).1
  exact ⟨h1, h2, by rw [h_old o0 h2 h1, h]; rfl⟩
 refine ⟨hp.size, fun o0 p0 h hk => ?_, fun o0 p0 b h hk hb => ?_, fun o0 cs0 h => ?_, fun o0 p0 cs0 h h2 => ?_, fun o0 p0 h => ?_, own5, zk, fun k b hk => ?_, fun b hb hne => ?_, fun h => by simp only [zA6] at h; omega, ?_⟩
 ·by_cases ho : o0 = ob
  ·subst ho
   rw [g] at h; cases h
   refine ⟨fp', r4, fun hk' => ?_⟩
   rcases hk' with hk' | ⟨cs0, hk'⟩
   ·rw [zGz] at hk'; simp at hk'
   ·rw [e] at hk'; cases hk'
  ·have h' := hp.rhoq hq (qo o0 p0 h ho)
   refine ⟨p0.fp, ?_, fun _ => rfl⟩
   rw [r4n o0 ho, ye.del_ne ?_]; exact h'
   rcases hk with hk | ⟨cs0, hk⟩
   ·exact fun hm => by rw [zQx, List.contains_iff_mem.2 hm] at hk; cases hk
   ·intro hm
    obtain ⟨cs1, k1, _⟩ := hp.bxs o0 _ (hbox o0 cs0 hk).2.2
    obtain ⟨s, l, _, k2⟩ := a6 o0 hm
    rw [k1] at k2; cases k2
 ·have ho : o0 ≠ ob := fun h' => by subst h'; rw [zGz] at hk; simp at hk
  exact hp.brw o0 p0 b (qo o0 p0 h ho) (zOO hq) hb
 ·obtain ⟨k1, k2, k3⟩ := hbox o0 cs0 h
  obtain ⟨cs1, m1, m2⟩ := hp.bxs o0 _ k3
  obtain ⟨cs2, m3, m4⟩ := post.bxs o0 _ m1
  refine ⟨cs2.map (scrub (zA6 ob os)), by rw [g_r o0 k1 (by omega), m3]; rfl, ?_⟩
  rw [List.length_map, m4, m2, List.length_map]
 ·obtain ⟨k1, k2, k3⟩ := hbox o0 cs0 h2
  have := hp.part o0 p0 _ (qo o0 p0 h k1) k3
  rwa [List.length_map] at this
 ·by_cases ho : o0 = ob
  ·subst ho; exact .inl ⟨p, g⟩
  ·rw [r4n o0 ho] at h
   rcases hp.dom o0 p0 (ye.del_some h).2 with ⟨p1, h1⟩ | h1
   ·by_cases hl : o0 < H.length
    ·rw [r_old o0 ho hl] at h1; exact .inl ⟨p1, h1⟩
    ·exact .inr (by omega)
   ·exact .inr (by omega)
 ·rcases post.zn k b hk with h | h | ⟨o0, p0, x0, k1, k2, k3⟩
  ·rcases hp.zn k b h with h | h | ⟨o0, p0, x0, k1, k2, k3⟩
   ·exact .inl h
   ·exact .inr (.inl h)
   ·exact .inr (.inr (own0 o0 p0 x0 b k1 k2 k3))
  ·have := hp.size.le; exact .inr (.inl (by omega))
  ·rcases hp.newb o0 p0 x0 b k1 k2 k3 with h | ⟨o1, p1, x1, j1, j2, j3⟩
   ·exact .inr (.inl h)
   ·exact .inr (.inr (own0 o1 p1 x1 b j1 j2 j3))
 ·exact hp.same b hb fun o' p' x' h1 h2 h3 => by
   obtain ⟨o0, p0, x0, k1, k2, k3⟩ := own0 o' p' x' b h1 h2 h3
   exact hne o0 p0 x0 k1 k2 k3
 ·refine ⟨post.hr.zl, fun o' p' h => ?_, fun o' p' x' h1 h2 => ?_, fun a b p1 p2 x1 x2 bb h1 h2 h3 h4 b1 b2 => ?_⟩
  ·by_cases ho : o' = ob
   ·omega
   ·rw [r4n o' ho] at h
    have := post.hr.dom o' p' h
    omega
  ·rcases split5 o' p' x' h1 h2 with ⟨rfl, rfl, rfl⟩ | ⟨rfl, rfl, rfl⟩ | ⟨k0, _, k1, z, k2, rfl⟩
   ·exact hx'
   ·exact fun b h => h
   ·have hob := post.hr.ob o' p' z k1 k2
    cases z with
    | box cells =>
     obtain ⟨nf, nz, xs, e', m2, m3, m4⟩ := hob
     refine ⟨nf, nz, xs, e', m2, by simpa using m3, fun i u y hu hy => ?_⟩
     rw [List.getElem?_map, Option.map_eq_some_iff] at hu
     obtain ⟨u', h1, rfl⟩ := hu
     exact (m4 i u' y h1 hy).scrub sk4
    | arr s l => exact hob
    | frz t l => exact hob
    | gone => exact hob
  ·have new : fp' bb → ∀ o' p' z, o' ≠ ob → o' ≠ H.length → (ρ'.del os) o' = some p' → (yK H2 os q2)[o']? = some z → Own z p' bb → False := by
    intro hb o' p' z k1 k2 k3 k4 k5
    rcases hb with rfl | ⟨j, hj, hb⟩
    ·exact k2 (post.hr.dj o' H.length p' pn z _ _ k3 dn k4 hbn k5 ownN)
    ·simp only [fs'] at hb
     split at hb
     ·rcases hb with hb | hb
      ·exact ((frY bb hb).facts (q := q2) a3).2.2 o' p' z k3 k4 k5
      ·exact (quiet bb (qg _ hb).1 (qg _ hb).2.1 (qg _ hb).2.2).2.2.2 o' p' z k3 k4 k5
     ·rename_i hji
      have hq := qf j bb (by omega) hji hb
      exact (quiet bb hq.1 hq.2.1 hq.2.2).2.2.2 o' p' z k3 k4 k5
   rcases split5 a p1 x1 h1 h3 with ⟨rfl, rfl, rfl⟩ | ⟨rfl, rfl, rfl⟩ | ⟨k0, k0', k1, z, k2, rfl⟩
   ·rcases split5 b p2 x2 h2 h4 with ⟨rfl, rfl, rfl⟩ | ⟨rfl, rfl, rfl⟩ | ⟨j0, j0', j1, z', j2, rfl⟩
    ·rfl
    ·exact b2.elim
    ·exact (new b1 b p2 z' j0 j0' j1 j2 (zDn.1 b2)).elim
   ·exact b1.elim
   ·rcases split5 b p2 x2 h2 h4 with ⟨rfl, rfl, rfl⟩ | ⟨rfl, rfl, rfl⟩ | ⟨j0, j0', j1, z', j2, rfl⟩
    ·exact (new b2 a p1 z k0 k0' k1 k2 (zDn.1 b1)).elim
    ·exact b2.elim
    ·exact post.hr.dj a b p1 p2 z z' bb k1 j1 k2 j2 (zDn.1 b1) (zDn.1 b2)
end
end Go.Proofs.YtipbfgknaihifaaGreat
namespace Go.Proofs.YtipbfgknaihifaaGreat
open Go.RowKit
section
variable {P : Program} {ρ ρ' : ye} {Z Z' : Zs} {w w' : World} {H H' : List Ob} {o : Oper} {ev : Operand → V}
theorem HR.postSet (h : HR ρ Z H w) {ob : Nat} {p : Pl} {cs cs' : List V} (g : ρ ob = some p) (e : H[ob]? = some (.box cs)) (hl : cs'.length = cs.length) (hx : ObR ρ Z w' (.box cs') p) (hz : Gr w w') (hsz : w'.heap.size = w.heap.size)
  (hs : ∀ b, b ≠ p.b → w'.heap[b]? = w.heap[b]?) (hpt : zB7 p.b p.off (p.off + cs.length) w w') : Post 2 ρ Z H w ρ Z (H.set ob (.box cs')) w' := by
 have hnz := (h.own g e (b := p.b) rfl).1
 have hzk : ∀ k b, Z k b → w'.heap[b]? = w.heap[b]? := fun k b hb => hs b fun e => hnz k (e ▸ hb)
 have hlt : ob < H.length := h.dom ob p g
 have zB5 : ∀ o q x b, ρ o = some q → H[o]? = some x → Own x q b → o ≠ ob → b ≠ p.b := fun o q x b e1 e2 e3 ho hb => ho (h.dj o ob q p x _ b e1 g e2 e e3 hb)
 have hfp : ∀ o q b, ρ o = some q → q.fp b → w'.heap[b]? = w.heap[b]? := fun o q b e1 hb => by
  rcases h.fpz e1 hb with ⟨x, e2, e3⟩ | hz
  ·by_cases ho : o = ob
   ·subst ho
    rw [g] at e1; cases e1
    exact absurd hb ((h.ob o p _ g e).1 b)
   ·exact hs b (zB5 o q x b e1 e2 e3 ho)
  ·exact hzk _ b hz
 have old : ∀ (o : Nat) (q : Pl) (y : Ob), ρ o = some q → (H.set ob (.box cs'))[o]? = some y → (o = ob ∧ q = p ∧ y = .box cs') ∨ (o ≠ ob ∧ H[o]? = some y) := by
  intro o q y e1 e2
  by_cases ho : o = ob
  ·subst ho
   rw [g] at e1; cases e1
   rw [List.getElem?_set_self hlt] at e2; cases e2
   exact .inl ⟨rfl, rfl, rfl⟩
  ·rw [List.getElem?_set_ne (Ne.symm ho)] at e2; exact .inr ⟨ho, e2⟩
 have kp : Kp ρ Z w ρ Z w' := ⟨fun _ _ h => h, fun _ _ h => h, hzk, hfp⟩
 refine ⟨hz, fun _ q h _ => ⟨q.fp, h, fun _ => rfl⟩, fun o q b e1 _ hb => hfp o q b e1 hb, fun o cs0 e' => ?_, fun o q cs0 e1 e2 => ?_, fun o q e => .inl ⟨q, e⟩, fun o q y b e1 e2 e3 => ?_, fun _ _ h => h, fun _ _ h => .inl h, fun b _ hne => hs b fun e' => hne ob p _ g e e', fun h => by omega, ?_⟩
 ·by_cases ho : o = ob
  ·subst ho
   rw [e] at e'; cases e'
   exact ⟨cs', by rw [List.getElem?_set_self hlt], hl⟩
  ·exact ⟨cs0, by rw [List.getElem?_set_ne (Ne.symm ho)]; exact e', rfl⟩
 ·by_cases ho : o = ob
  ·subst ho
   rw [g] at e1; cases e1
   rw [e] at e2; cases e2
   exact hpt
  ·exact zB7.same (hs _ (zB5 o q _ _ e1 e2 rfl ho))
 ·rcases old o q y e1 e2 with ⟨rfl, rfl, rfl⟩ | ⟨ho, e2⟩
  ·exact .inr ⟨o, q, _, e1, e, e3⟩
  ·exact .inr ⟨o, q, y, e1, e2, e3⟩
 ·refine ⟨fun k b hb => by rw [hsz]; exact h.zl k b hb, fun o q e' => by rw [List.length_set]; exact h.dom o q e', fun o q y e1 e2 => ?_, fun a1 b1 p1 q1 x1 y1 bb h5 h6 h7 h8 hb1 hb2 => ?_⟩
  ·rcases old o q y e1 e2 with ⟨rfl, rfl, rfl⟩ | ⟨ho, e2⟩
   ·exact hx
   ·exact (h.ob o q y e1 e2).mono kp fun b hb' => ⟨(h.own e1 e2 hb').1, hs _ (zB5 o q y b e1 e2 hb' ho)⟩
  ·have key : ∀ c q y, ρ c = some q → (H.set ob (.box cs'))[c]? = some y → Own y q bb → ∃ y', H[c]? = some y' ∧ Own y' q bb := by
    intro c q y k1 k2 k3
    rcases old c q y k1 k2 with ⟨rfl, rfl, rfl⟩ | ⟨_, k2⟩
    ·exact ⟨_, e, k3⟩
    ·exact ⟨y, k2, k3⟩
   obtain ⟨y1', k1, k2⟩ := key a1 p1 x1 h5 h7 hb1
   obtain ⟨y2', k3, k4⟩ := key b1 q1 y1 h6 h8 hb2
   exact h.dj a1 b1 p1 q1 _ _ bb h5 h6 k1 k3 k2 k4
theorem zlO {cs vs : List V} {off base : Nat} {xs : List Value} {ys : List Value} (h1 : off + vs.length ≤ cs.length) (h2 : ys.length = vs.length) (h3 : base + cs.length ≤ xs.length)
  (hc : ∀ (i : Nat) (u : V) (y : Value), cs[i]? = some u → xs[base + i]? = some y → Cn ρ Z w u y) (hv : ∀ (i : Nat) (u : V) (y : Value), vs[i]? = some u → ys[i]? = some y → Cn ρ Z w u y) :
  ∀ (i : Nat) (u : V) (y : Value), (cs.take off ++ vs ++ cs.drop (off + vs.length))[i]? = some u → (xs.take (base + off) ++ ys ++ xs.drop (base + off + ys.length))[base + i]? = some y → Cn ρ Z w u y := by
 intro i u y hu hy
 have e6 : (cs.take off).length = off := by simp; omega
 have e7 : (xs.take (base + off)).length = base + off := by simp; omega
 by_cases i1 : i < off
 ·rw [List.append_assoc, List.getElem?_append_left (by omega), List.getElem?_take, if_pos i1] at hu
  rw [List.append_assoc, List.getElem?_append_left (by omega), List.getElem?_take, if_pos (by omega)] at hy
  exact hc i u y hu hy
 ·by_cases i2 : i < off + vs.length
  ·rw [List.getElem?_append_left (by simp; omega), List.getElem?_append_right (by omega), e6] at hu
   rw [List.getElem?_append_left (by simp; omega), List.getElem?_append_right (by omega), e7, show base + i - (base + off) = i - off by omega] at hy
   exact hv _ u y hu hy
  ·have e8 : (cs.take off ++ vs).length = off + vs.length := by simp; omega
   have e9 : (xs.take (base + off) ++ ys).length = base + off + vs.length := by simp; omega
   rw [List.getElem?_append_right (by omega), e8, List.getElem?_drop] at hu
   rw [List.getElem?_append_right (by omega), e9, List.getElem?_drop, h2] at hy
   refine hc _ u y hu ?_
   rw [← hy]; congr 1; omega
theorem zNt {t : TypeId} {x y : Operand} (ho : o.op = .store t x y) {ob off : Nat} {vs : List V} {q : Nat} {ok : Option Prop} {v : V} (h : zJt P t ob off vs H = .mk q ok v H') {a : Act} (hr : HR ρ Z H w) (cx : Cn ρ Z w (.ptr ob off) (a.eval x))
  (s1 : (a.eval y).cells.size = vs.length) (s2 : ∀ (i : Nat) (u : V) (z : Value), vs[i]? = some u → (a.eval y).cells[i]? = some z → Cn ρ Z w u z) :
  ok = none ∧ ∃ w', (execOp a.eval o).run P w = .ok .skip w' ∧ Post q ρ Z H w ρ Z H' w' ∧ Cn ρ Z w' v undef := by
 unfold zJt at h
 split at h
 ·rename_i cs e3
  split at h
  ·rename_i hle
   cases h
   obtain ⟨l1, l2, l3, l4⟩ := hle
   have hone : ∀ u ∈ (a.eval y).cells.toList, u.oneCell' = true := by
    intro u hu
    obtain ⟨i, hi⟩ := List.mem_iff_getElem?.1 hu
    have hlt : i < vs.length := by
     have := (List.getElem?_eq_some_iff.1 hi).1
     simp at this; omega
    have hv : vs[i]? = some vs[i] := List.getElem?_eq_getElem hlt
    exact zQW (s2 i _ u hv (by simpa using hi)) (List.all_eq_true.1 l3 _ (List.mem_of_getElem? hv))
   refine ⟨rfl, ?_⟩
   generalize ea : a.eval x = z at cx
   cases cx with
   | ptr g =>
    rename_i p
    obtain ⟨hnf, hnz, xs, e, h2, h3, h4⟩ := hr.ob ob p _ g e3
    have hst := run_storeCells_at P p.b (p.off + off) e (a.eval y).cells.toList 0 xs w h2 (by simp; omega) hone
    simp only [Nat.add_zero, Array.length_toList] at hst
    have hsz : (sizeOf t).run P w = .ok (vw P t) w := zOk l4 w
    have hrun : (execOp a.eval o).run P w = .ok .skip (w.setRow p.b (xs.toList.take (p.off + off) ++ (a.eval y).cells.toList ++ xs.toList.drop (p.off + off + (a.eval y).cells.size)).toArray) := by
     have hn : ¬ ((a.eval y).cells.size ≠ vw P t) := by omega
     simp only [execOp, ho, Instr.storeAt, ea, Instr.sureAddr, storeVar, Sem.run_bind, Sem.run_pure, Result.andThen_ok, hsz, hn, if_false, hst]
    refine ⟨_, hrun, ?_, .any _⟩
    have hother : ∀ b, b ≠ p.b → (w.setRow p.b (xs.toList.take (p.off + off) ++ (a.eval y).cells.toList ++ xs.toList.drop (p.off + off + (a.eval y).cells.size)).toArray).heap[b]? = w.heap[b]? := fun b hb => setRow_other w p.b b _ hb
    have hz : ∀ k b, Z k b → (w.setRow p.b (xs.toList.take (p.off + off) ++ (a.eval y).cells.toList ++ xs.toList.drop (p.off + off + (a.eval y).cells.size)).toArray).heap[b]? = w.heap[b]? := fun k b hb => hother b fun e => hnz k (e ▸ hb)
    have hfp : ∀ o q b, ρ o = some q → q.fp b → (w.setRow p.b (xs.toList.take (p.off + off) ++ (a.eval y).cells.toList ++ xs.toList.drop (p.off + off + (a.eval y).cells.size)).toArray).heap[b]? = w.heap[b]? := fun o q b e1 hb => by
     rcases hr.fpz e1 hb with ⟨x, e2, k3⟩ | hzz
     ·by_cases ho : o = ob
      ·subst ho
       rw [g] at e1; cases e1
       exact absurd hb (hnf b)
      ·exact hother b fun hbb => ho (hr.dj o ob q p x _ b e1 g e2 e3 k3 hbb)
     ·exact hz _ b hzz
    have hnew := setRow_heap w p.b xs (xs.toList.take (p.off + off) ++ (a.eval y).cells.toList ++ xs.toList.drop (p.off + off + (a.eval y).cells.size)).toArray e _ h2
    have hov := zlO (ρ := ρ) (Z := Z) (w := w) (base := p.off) (xs := xs.toList) (ys := (a.eval y).cells.toList) l2 (by simp; omega) (by simp; omega) (fun i u y a b => h4 i u y a (by simpa using b)) (fun i u y a b => s2 i u y a (by simpa using b))
    refine hr.postSet g e3 (by simp; omega) ⟨hnf, hnz, _, e, hnew, by simp; omega, fun i u y' hu hy => (hov i u y' hu (by simpa using hy)).mono ⟨fun _ _ h => h, fun _ _ h => h, hz, hfp⟩⟩ (Gr.setRow w _ _) (zY2 w _ _) hother fun xs0 e0 h0 => ?_
    rw [h2] at h0; cases h0
    refine ⟨_, hnew, by simp; omega, fun j hj => ?_⟩
    rw [List.getElem?_toArray]
    rcases hj with hj | hj
    ·rw [List.append_assoc, List.getElem?_append_left (by simp; omega), List.getElem?_take, if_pos (by omega)]; simp
    ·rw [List.getElem?_append_right (by simp; omega), List.getElem?_drop]
     simp only [List.length_append, List.length_take, Array.length_toList]
     rw [← Array.getElem?_toList]
     congr 1; omega
  ·cases h
 ·cases h
theorem zkg {t : TypeId} {x y : Operand} (ho : o.op = .store t x y) {q : Nat} {ok : Option Prop} {v : V} (h : zKl P t (ev x) (ev y) H = .mk q ok v H') : OpS P o ev H (.mk q ok v H') := by
 unfold zKl at h
 split at h
 ·rename_i ob off e1
  split at h
  ·rename_i vs e2
   intro ρ Z w a hr hx _ K Q hK
   have c1 := hx x (by simp [ho, Op.operands])
   have c2 := hx y (by simp [ho, Op.operands])
   rw [e1] at c1
   obtain ⟨s1, s2⟩ := zGU c2 e2
   obtain ⟨_, w', hrun, post, cv⟩ := zNt ho h hr c1 s1 s2
   unfold Oper.wp
   rw [hrun]
   exact hK ρ Z w' _ post cv
  ·cases h
 ·rename_i s ob i off e1
  split at h
  ·rename_i H1 vs ef e2
   intro ρ Z w a hr hx hok K Q hK
   have c1 := hx x (by simp [ho, Op.operands])
   have c2 := hx y (by simp [ho, Op.operands])
   rw [e1] at c1
   obtain ⟨ρ1, hr1, cp, cs, zRP⟩ := zPh ef hr c1
   obtain ⟨s1, s2⟩ := zGU (cs _ _ c2) e2
   cases es : zJt P t H.length 0 vs H1 with
   | bad => rw [es] at h; cases h
   | mk q1 ok1 v1 H2 =>
    rw [es] at h
    obtain ⟨_, w', hrun, post, cv⟩ := zNt ho es hr1 cp s1 s2
    obtain ⟨_, bk⟩ := zRP _ _ _ _ _ _ _ _ h
    obtain ⟨ρ4, Z4, post4, cv4⟩ := bk _ _ _ _ post cv
    unfold Oper.wp
    rw [hrun]
    exact hK ρ4 Z4 w' _ post4 cv4
  ·cases h
 ·cases h
theorem zd3 : ∀ (vs : List V) (j0 j : Nat) (s : OT) (ob : Nat) (i : Int) (off : Nat), zMm vs j0 = some (j, s, ob, i, off) → j0 ≤ j ∧ vs[j - j0]? = some (.opt s ob i off) := by
 intro vs
 induction vs with
 | nil => intro j0 j s ob i off h; simp [zMm] at h
 | cons v vs ih =>
  intro j0 j s ob i off h
  have next : zMm vs (j0 + 1) = some (j, s, ob, i, off) → j0 ≤ j ∧ (v :: vs)[j - j0]? = some (.opt s ob i off) := fun h => by
   obtain ⟨k1, k2⟩ := ih (j0 + 1) j s ob i off h
   exact ⟨by omega, by rw [show j - j0 = (j - (j0 + 1)) + 1 by omega, List.getElem?_cons_succ]; exact k2⟩
  cases v with
  | opt s' o' i' off' =>
   simp only [zMm, Option.some.injEq, Prod.mk.injEq] at h
   obtain ⟨rfl, rfl, rfl, rfl, rfl⟩ := h
   exact ⟨Nat.le_refl _, by simp⟩
  | _ => exact next h
theorem zPY {fid : Nat} : ∀ {l : List FnD}, (∀ d ∈ l, FnOk P fid d) → ∀ {vs : List V} {q : Nat} {ok : Option Prop} {v : V}, zIs l vs H = .mk q ok v H' → HR ρ Z H w → ∀ {xs : List Value}, xs.length = vs.length →
  (∀ (i : Nat) (u : V) (y : Value), vs[i]? = some u → xs[i]? = some y → Cn ρ Z w u y) → okP ok → Calls P fid xs.toArray w (fun e w' => ∃ x ρ' Z', e = .returned x ∧ Post q ρ Z H w ρ' Z' H' w' ∧ Cn ρ' Z' w' v x) := by
 intro l
 induction l with
 | nil => intro _ vs q ok v h; cases h
 | cons d l ih =>
  intro hd vs q ok v h hr xs hl hc hok
  unfold zIs at h
  split at h
  ·rename_i e he
   subst h
   exact zef (hd d List.mem_cons_self) he hr hl hc hok
  ·exact ih (fun d h => hd d (List.mem_cons_of_mem _ h)) h hr hl hc hok
theorem zZ1 {fid : Nat} {l : List FnD} (hd : ∀ d ∈ l, FnOk P fid d) {vs : List V} {q : Nat} {ok : Option Prop} {v : V} (h : zMs l vs H = .mk q ok v H') (hr : HR ρ Z H w) {xs : List Value} (hl : xs.length = vs.length)
  (hc : ∀ (i : Nat) (u : V) (y : Value), vs[i]? = some u → xs[i]? = some y → Cn ρ Z w u y) (hok : okP ok) : Calls P fid xs.toArray w (fun e w' => ∃ x ρ' Z', e = .returned x ∧ Post q ρ Z H w ρ' Z' H' w' ∧ Cn ρ' Z' w' v x) := by
 unfold zMs at h
 split at h
 ·exact zPY hd h hr hl hc hok
 ·rename_i j s ob i off e1
  obtain ⟨_, e1⟩ := zd3 _ _ _ _ _ _ _ e1
  rw [Nat.sub_zero] at e1
  have hj : j < vs.length := (List.getElem?_eq_some_iff.1 e1).1
  have cj := hc j _ _ e1 (List.getElem?_eq_getElem (by omega))
  split at h
  ·cases h
  ·rename_i k ek
   split at h
   ·rename_i H1 ef
    obtain ⟨ρ1, hr1, cp, cs, zRP⟩ := zPh ef hr cj
    cases es : zIs l ((vs.map (scrub (zA6 ob []))).set j (.ptr H.length 0)) H1 with
    | bad => rw [es] at h; cases h
    | mk q1 ok1 v1 H2 =>
     rw [es] at h
     obtain ⟨eo, bk⟩ := zRP _ _ _ _ _ _ _ _ h
     subst eo
     refine (zPY hd es hr1 (xs := xs) (by simpa using hl) (fun i u y hu hy => ?_) hok).mono ?_
     ·by_cases hi : i = j
      ·subst hi
       rw [List.getElem?_set_self (by simpa using hj)] at hu; cases hu
       rw [List.getElem?_eq_getElem (by omega)] at hy; cases hy
       exact cp
      ·rw [List.getElem?_set_ne (Ne.symm hi), List.getElem?_map, Option.map_eq_some_iff] at hu
       obtain ⟨u', h1, rfl⟩ := hu
       exact cs _ _ (hc i u' y h1 hy)
     ·rintro e w' ⟨x, ρ', Z', rfl, post, cv⟩
      obtain ⟨ρ4, Z4, post4, cv4⟩ := bk _ _ _ _ post cv
      exact ⟨x, ρ4, Z4, rfl, post4, cv4⟩
   ·cases h
theorem zmo {E : Env} (hE : zHu P E) {f : Operand} {args : Array Operand} {argTypes : Array TypeId} (ho : o.op = .call { callee := .value f, args, argTypes }) {fid : Nat} {caps : List V} (h1 : ev f = .fn fid caps)
  {q : Nat} {ok : Option Prop} {v : V} (h : zMs (E.fn fid) (args.toList.map ev ++ caps) H = .mk q ok v H') : OpS P o ev H (.mk q ok v H') := by
 intro ρ Z w act hr hx hpre K Q hK
 have cf := hx f (by simp [ho, Op.operands, Call.operands])
 rw [h1] at cf
 have cargs : ∀ x ∈ args, Cn ρ Z w (ev x) (act.eval x) := fun x hm => hx x (by simp [ho, Op.operands, Call.operands, hm])
 generalize ef : act.eval f = z at cf
 cases cf with
 | fn c0 c1 =>
  rename_i cs
  have hys : (args.toList.map act.eval ++ cs).length = (args.toList.map ev ++ caps).length := by simp [c0]
  have hall0 : ∀ (i : Nat) (u : V) (y : Value), (args.toList.map ev ++ caps)[i]? = some u → (args.toList.map act.eval ++ cs)[i]? = some y → Cn ρ Z w u y := by
   intro i u y hu hy
   by_cases hi : i < args.toList.length
   ·rw [List.getElem?_append_left (by simpa using hi)] at hu hy
    simp only [List.getElem?_map, Option.map_eq_some_iff] at hu hy
    obtain ⟨x1, g1, rfl⟩ := hu
    obtain ⟨x2, g2, rfl⟩ := hy
    rw [g1] at g2; cases g2
    exact cargs x1 (by have := List.mem_of_getElem? g1; simpa using this)
   ·rw [List.getElem?_append_right (by simpa using hi)] at hu hy
    simp only [List.length_map] at hu hy
    exact c1 _ u y hu hy
  have hne : E.fn fid ≠ [] := by
   intro he
   rw [he] at h
   unfold zMs at h
   split at h
   ·cases h
   ·simp at h
  obtain ⟨d0, hd0⟩ := List.exists_mem_of_ne_nil _ hne
  have henter := (hE fid d0 hd0).enter
  have hc := zZ1 (hE fid) h hr hys hall0 hpre
  have hrun : (execOp act.eval o).run P w = .ok (.enter fid (args.toList.map act.eval ++ cs).toArray) w := by
   have e2 : args.map act.eval = (args.toList.map act.eval).toArray := by apply Array.toList_inj.1; simp
   simp only [execOp, ho, resolve, Deferred.ofValue, ef, invoke, Sem.run_bind, Sem.run_pure, Result.andThen_ok, e2]
   rw [← henter]
   congr 2
   simp
  unfold Oper.wp
  rw [hrun]
  show Calls P fid _ w _
  refine hc.mono ?_
  rintro e w' ⟨x, ρ', Z', rfl, post, cv⟩
  exact hK ρ' Z' w' x post cv
end
end Go.Proofs.YtipbfgknaihifaaGreat
namespace Go.Proofs.YtipbfgknaihifaaGreat
open Go.RowKit
theorem zfq (P : Program) (g : Gv) (o : Oper) (ev : Operand → V) (H : List Ob) : OpS P o ev H (xr P g ev H o.op) := by
 have bad : OpS P o ev H .bad := trivial
 obtain ⟨op, ho⟩ : ∃ op, o.op = op := ⟨_, rfl⟩
 rw [ho]
 cases op with
 | move x => exact ziU (.inl ho)
 | assign x => exact ziU (.inr ho)
 | pick c x y =>
  simp only [xr]
  split
  ·rename_i b e; exact zmn ho e
  ·exact bad
 | alloc t =>
  simp only [xr]
  split
  ·rename_i z e; exact zlr ho e
  ·exact bad
 | box t x =>
  simp only [xr]
  split
  ·rename_i z e; exact znj ho e
  ·exact bad
 | build t parts =>
  simp only [xr]
  cases e : zKo P t (parts.toList.map fun p => (p.1, ev p.2)) H with
  | bad => exact bad
  | mk q ok v H' => exact zlu ho e
 | buildSlice t n parts =>
  simp only [xr]
  cases e : zZV P g t n (parts.toList.map fun p => (p.1, ev p.2)) H with
  | bad => exact bad
  | mk q ok v H' => exact znf ho e
 | load t x =>
  simp only [xr]
  split
  ·rename_i cs off e
   split
   ·rename_i v e'; exact zmC ho e e'
   ·exact bad
  ·exact bad
 | store t x y =>
  simp only [xr]
  cases e : zKl P t (ev x) (ev y) H with
  | bad => exact bad
  | mk q ok v H' => exact zkg ho e
 | nilCheck x =>
  have key : ∀ v, xr P g ev H (.nilCheck x) = .mk 0 none v H → OpS P o ev H (xr P g ev H (.nilCheck x)) := fun v e => by rw [e]; exact znT ho e
  cases e : ev x with
  | ptr ob off => exact key (.ptr ob off) (by simp only [xr, e])
  | bx cs off => exact key (.bx cs off) (by simp only [xr, e])
  | ept q t l i off => exact key (.ept q t l i off) (by simp only [xr, e])
  | opt t ob i off => exact key (.opt t ob i off) (by simp only [xr, e])
  | _ => simp only [xr, e]; exact bad
 | binOp op t x y u =>
  simp only [xr]
  cases e : zOd P g.wr op t (ev x) (ev y) H with
  | bad => exact bad
  | mk q ok v H' => exact znQ ho e
 | unOp op t x =>
  simp only [xr]
  cases e : unV op (ev x) H with
  | bad => exact bad
  | mk q ok v H' => exact zn0 ho e
 | convert s d x =>
  simp only [xr]
  cases e : zPU P s d (ev x) H with
  | bad => exact bad
  | mk q ok v H' => exact zmX ho e
 | makeFunc fn first caps =>
  cases fn with
  | func f =>
   simp only [xr]
   split
   ·rename_i e; exact zaF ho e
   ·exact bad
  | _ => exact bad
 | makeSlice t x y =>
  simp only [xr]
  cases e : zO9 P g t (ev x) (ev y) H with
  | bad => exact bad
  | mk q ok v H' => exact znH ho e
 | slice t x lo hi mx =>
  cases mx with
  | none =>
   simp only [xr]
   cases e : zJN P t (ev x) (lo.map ev) (hi.map ev) H with
   | bad => exact bad
   | mk q ok v H' => exact zlU ho e
  | some m => exact bad
 | fieldAddr t x f =>
  simp only [xr]
  split
  ·rename_i off u e
   split
   ·exact bad
   ·rename_i hs
    split
    ·rename_i v e'; exact zX1 ho e hs e'
    ·exact bad
  ·exact bad
 | field t x f =>
  simp only [xr]
  split
  ·rename_i off u cs e1 e2
   split
   ·rename_i v e'; exact zka ho e1 e2 e'
   ·exact bad
  ·exact bad
 | indexAddr t x y =>
  simp only [xr]
  cases e : zCG P t (ev x) (ev y) H with
  | bad => exact bad
  | mk q ok v H' => exact zeQ ho e
 | index t x y =>
  simp only [xr]
  cases e : zY1 P t (ev x) (ev y) H with
  | bad => exact bad
  | mk q ok v H' => exact zkW ho e
 | extract x i =>
  simp only [xr]
  split
  ·rename_i vs e
   split
   ·rename_i v e'; exact zeV ho e e'
   ·exact bad
  ·exact bad
 | call c =>
  obtain ⟨callee, args, argTypes⟩ := c
  cases callee with
  | builtin b =>
   cases b with
   | len =>
    simp only [xr]
    split
    ·rename_i x t e1 e2
     cases e : zM2 P t H (ev x) with
     | bad => exact bad
     | mk q ok v H' => exact zng ho e1 e2 e
    ·exact bad
   | append =>
    simp only [xr]
    split
    ·rename_i x y t t' e1 e2
     split
     ·rename_i ht
      subst ht
      cases e : zYf P g t' (ev x) (ev y) H with
      | bad => exact bad
      | mk q ok v H' => exact znh ho e1 e2 e
     ·exact bad
    ·exact bad
   | _ => exact bad
  | _ => exact bad
 | _ => exact bad
def zSO (ρ : ye) (Z : Zs) (w : World) (r : List V) (a : Act) : Prop :=
 r.length = a.tmps.size ∧ ∀ (t : Nat) (v : V), r[t]? = some v → Cn ρ Z w v (a.tmps.getD t undef)
theorem zSO.ev {ρ : ye} {Z : Zs} {w : World} {s : S} {a : Act} (h : zSO ρ Z w s.r a) (x : Operand) : Cn ρ Z w (s.ev x) (a.eval x) := by
 cases x with
 | tmp t =>
  show Cn ρ Z w (s.r.getD t .any) (a.tmps.getD t undef)
  cases e : s.r[t]? with
  | none => rw [List.getD_eq_getElem?_getD, e]; exact .any _
  | some v => rw [List.getD_eq_getElem?_getD, e]; exact h.2 t v e
 | const x =>
  show Cn ρ Z w (zOp x) x
  unfold zOp
  split
  ·rename_i e; exact .c x (zRs e)
  ·exact .any _
 | global g => exact .any _
 | func f => exact Cn.fn (vs := []) (xs := []) rfl (by intro i u y h; simp at h)
theorem zSO.put {ρ : ye} {Z : Zs} {w : World} {r : List V} {a : Act} (h : zSO ρ Z w r a) (d : Option Tmp) {v : V} {x : Value} (hv : Cn ρ Z w v x) (H : List Ob) : zSO ρ Z w (({ r := r, h := H } : S).put d v).r (a.put d x) := by
 cases d with
 | none => exact h
 | some d =>
  refine ⟨by simp [S.put, Act.put, h.1], fun t u hu => ?_⟩
  simp only [S.put, Act.put] at hu ⊢
  by_cases e : d = t
  ·subst e
   have hlt : d < r.length := by have := (List.getElem?_eq_some_iff.1 hu).1; simpa using this
   rw [List.getElem?_set_self hlt] at hu
   cases hu
   have : d < a.tmps.size := by rw [← h.1]; exact hlt
   rw [Array.getD_eq_getD_getElem?, Array.getElem?_setIfInBounds_self_of_lt this]
   exact hv
  ·rw [List.getElem?_set_ne e] at hu
   rw [Array.getD_eq_getD_getElem?, Array.getElem?_setIfInBounds_ne e, ← Array.getD_eq_getD_getElem?]
   exact h.2 t u hu
theorem zSO.post {ρ ρ' : ye} {Z Z' : Zs} {w w' : World} {H H' : List Ob} {s : S} {a : Act} {q : Nat} (h : zSO ρ Z w s.r a) (hp : Post q ρ Z H w ρ' Z' H' w') (hr : HR ρ Z H w) : zSO ρ' Z' w' (s.upd q H').r a := by
 unfold S.upd
 split
 ·rename_i hq
  exact ⟨h.1, fun t v hv => (h.2 t v hv).mono (hp.kp hr hq)⟩
 ·refine ⟨by simp [h.1], fun t v hv => ?_⟩
  simp only [List.getElem?_map, Option.map_eq_some_iff] at hv
  obtain ⟨u, h1, rfl⟩ := hv
  exact (h.2 t u h1).scrub (hp.sk hr)
end Go.Proofs.YtipbfgknaihifaaGreat
namespace Go.Proofs.YtipbfgknaihifaaGreat
open Go.RowKit
structure En where
 z : Zs
 m : Nat → Prop
 r : List (Pl × Nat)
structure Frm (w0 : World) (Z0 : En) (ρ : ye) (Z : Zs) (H : List Ob) (w : World) : Prop where
 size : Gr w0 w
 same : ∀ b, b < w0.heap.size → ¬ Z0.m b → w.heap[b]? = w0.heap[b]?
 own : ∀ o p x b, ρ o = some p → H[o]? = some x → Own x p b → w0.heap.size ≤ b ∨ Z0.m b
 zs : ∀ b, Z false b → Z0.z false b ∨ w0.heap.size ≤ b ∨ Z0.m b
 refs : ∀ (i : Nat) (p : Pl) (n : Nat), Z0.r[i]? = some (p, n) → ρ i = some p ∧ (∃ cs, H[i]? = some (.box cs) ∧ cs.length = n) ∧ zB7 p.b p.off (p.off + n) w0 w
theorem Frm.post {w0 : World} {Z0 : En} {ρ ρ' : ye} {Z Z' : Zs} {H H' : List Ob} {w w' : World} {q : Nat} (h : Frm w0 Z0 ρ Z H w) (hp : Post q ρ Z H w ρ' Z' H' w') : Frm w0 Z0 ρ' Z' H' w' where
 size := h.size.trans hp.size
 same b hb hm := by
  rw [hp.same b (Nat.lt_of_lt_of_le hb h.size.le) fun o p x h1 h2 h3 => by
   rcases h.own o p x b h1 h2 h3 with h4 | h4
   ·omega
   ·exact hm h4]
  exact h.same b hb hm
 own o p x b h1 h2 h3 := by
  rcases hp.newb o p x b h1 h2 h3 with h4 | ⟨o0, p0, x0, g1, g2, g3⟩
  ·exact .inl (Nat.le_trans h.size.le h4)
  ·exact h.own o0 p0 x0 b g1 g2 g3
 zs b hb := by
  rcases hp.zn false b hb with h4 | h4 | ⟨o0, p0, x0, g1, g2, g3⟩
  ·exact h.zs b h4
  ·exact .inr (.inl (Nat.le_trans h.size.le h4))
  ·exact .inr (h.own o0 p0 x0 b g1 g2 g3)
 refs i p n e := by
  obtain ⟨h1, ⟨cs, h2, h3⟩, h4⟩ := h.refs i p n e
  obtain ⟨cs', k1, k2⟩ := hp.bxs i cs h2
  obtain ⟨f, m1, m2⟩ := hp.rho i p h1 (.inr ⟨cs, h2⟩)
  rw [m2 (.inr ⟨cs, h2⟩)] at m1
  refine ⟨m1, ⟨cs', k1, by omega⟩, h4.trans ?_⟩
  have := hp.part i p cs h1 h2
  rwa [h3] at this
def Rel (w0 : World) (Z0 : En) (s : S) (a : Act) (w : World) : Prop :=
 ∃ ρ Z, zSO ρ Z w s.r a ∧ HR ρ Z s.h w ∧ Frm w0 Z0 ρ Z s.h w ∧ a.defers = []
section
variable {P : Program} {E : Env} {w0 : World} {Z0 : En}
theorem zUF (hE : zHu P E) (o : Oper) (ev : Operand → V) (H : List Ob) : OpS P o ev H (opV P E ev H o.op) := by
 have other := zfq P E.g o ev H
 obtain ⟨op, ho⟩ : ∃ op, o.op = op := ⟨_, rfl⟩
 rw [ho] at other ⊢
 cases op with
 | call c =>
  obtain ⟨callee, args, argTypes⟩ := c
  cases callee with
  | value f =>
   simp only [opV]
   split
   ·rename_i fid caps e1
    cases e : zMs (E.fn fid) (args.toList.map ev ++ caps) H with
    | bad => trivial
    | mk q ok v H' => exact zmo hE ho e1 e
   ·trivial
  | _ => exact other
 | _ => exact other
theorem zD5 (a : Act) (d : Option Tmp) (v : Value) : (a.put d v).defers = a.defers := by cases d <;> rfl
theorem S.put_h (s : S) (d : Option Tmp) (v : V) : (s.put d v).h = s.h := by cases d <;> rfl
theorem S.upd_h (s : S) (q : Nat) (H : List Ob) : (s.upd q H).h = H := by unfold S.upd; split <;> rfl
theorem zkL (hE : zHu P E) {o : Oper} {s : S} {q : Nat} {ok : Option Prop} {v : V} {H' : List Ob} (h : opV P E s.ev s.h o.op = .mk q ok v H') (hok : okP ok) {a : Act} {w : World} (hr : Rel w0 Z0 s a w)
  {K : Act → World → Prop} {Q : Exit → Act → World → Prop} (hK : ∀ x w', Rel w0 Z0 ((s.upd q H').put o.dst v) (a.put o.dst x) w' → K (a.put o.dst x) w') : o.wp P a w K Q := by
 obtain ⟨ρ, Z, h1, h2, h3, h4⟩ := hr
 have hs := zUF hE o s.ev s.h
 rw [h] at hs
 refine hs ρ Z w a h2 (fun x _ => h1.ev x) hok K Q fun ρ' Z' w' x hp hv => hK x w' ⟨ρ', Z', ?_, ?_, ?_, by rw [zD5]; exact h4⟩
 ·have := (h1.post hp h2).put o.dst hv H'
  have e : ({ r := (s.upd q H').r, h := H' } : S) = s.upd q H' := by unfold S.upd; split <;> rfl
  rw [e] at this; exact this
 ·have e : ((s.upd q H').put o.dst v).h = H' := by rw [S.put_h, S.upd_h]
  rw [e]; exact hp.hr
 ·have e : ((s.upd q H').put o.dst v).h = H' := by rw [S.put_h, S.upd_h]
  rw [e]; exact h3.post hp
theorem ziL {s : S} {a : Act} {w : World} (hr : Rel w0 Z0 s a w) (d : Option Tmp) : Rel w0 Z0 (s.put d (.c undef)) (a.put d undef) w := by
 obtain ⟨ρ, Z, h1, h2, h3, h4⟩ := hr
 have e : (s.put d (.c undef)).h = s.h := by cases d <;> rfl
 refine ⟨ρ, Z, ?_, by rw [e]; exact h2, by rw [e]; exact h3, by rw [zD5]; exact h4⟩
 have := h1.put d (v := .c undef) (.c undef trivial) s.h
 exact this
theorem zhb {s : S} {a : Act} {w : World} (hr : Rel w0 Z0 s a w) {t : Nat} {b : Bool} (h : s.r.getD t .any = .c (.bool b)) : Rel w0 Z0 { s with r := s.r.set t (.c (.bool b)) } a w ∧ a.tmps[t]? = some (.bool b) := by
 obtain ⟨ρ, Z, h1, h2, h3, h4⟩ := hr
 have hv : s.r[t]? = some (.c (.bool b)) := by
  rw [List.getD_eq_getElem?_getD] at h
  cases e : s.r[t]? with
  | none => rw [e] at h; cases h
  | some v => rw [e] at h; simp at h; rw [h]
 have hc := vG (h1.2 t _ hv)
 have hlt : t < a.tmps.size := by rw [← h1.1]; exact (List.getElem?_eq_some_iff.1 hv).1
 have hget : a.tmps[t]? = some (.bool b) := by
  rw [Array.getD_eq_getD_getElem?, Array.getElem?_eq_getElem hlt, Option.getD_some] at hc
  rw [Array.getElem?_eq_getElem hlt, hc]
 refine ⟨⟨ρ, Z, ⟨by simp [h1.1], fun t' v hv' => ?_⟩, h2, h3, h4⟩, hget⟩
 by_cases e : t = t'
 ·subst e
  simp only at hv'
  rw [List.getElem?_set_self (by rw [h1.1]; exact hlt)] at hv'
  cases hv'
  rw [Array.getD_eq_getD_getElem?, hget]
  exact .c _ trivial
 ·simp only at hv'
  rw [List.getElem?_set_ne e] at hv'
  exact h1.2 t' v hv'
theorem zhI {s : S} {a : Act} {w : World} (hr : Rel w0 Z0 s a w) {t : Nat} {vs : Array Value} (h : s.r.getD t .any = .c (.tuple vs)) : a.tmps.getD t undef = .tuple vs := by
 obtain ⟨ρ, Z, h1, h2, h3, h4⟩ := hr
 have hv : s.r[t]? = some (.c (.tuple vs)) := by
  rw [List.getD_eq_getElem?_getD] at h
  cases e : s.r[t]? with
  | none => rw [e] at h; cases h
  | some v => rw [e] at h; simp at h; rw [h]
 exact vG (h1.2 t _ hv)
theorem zdA {s : S} {a : Act} {w : World} (hr : Rel w0 Z0 s a w) {ops : Array Oper} {g t : Nat} {b : Bool} (ht : (ops[g]?).bind (·.dst) = some t) (h : s.r.getD t .any = .c (.bool b)) :
  Rel w0 Z0 { s with r := s.r.set t (.c (.bool b)) } a w ∧ yielded ops a.tmps g = some b := by
 obtain ⟨h1, h2⟩ := zhb hr h
 exact ⟨h1, by simp [yielded, ht, h2]⟩
theorem zbS (hE : zHu P E) (ops : Array Oper) (Q : Exit → Act → World → Prop) : ∀ (l : List Oper) (i : Nat) (ks : List Kr) (kn : List (Nat × Bool)) (s : S) (kS : List Kr → S → Prop),
  yY P E mdS ops i l ks kn s kS → ∀ (a : Act) (w : World), Rel w0 Z0 s a w →
  (∀ ks' s' a' w', kS ks' s' → (∀ (R : Type) [Inhabited R] (k : List Kr → S → R), yY P E (mdV R) ops i l ks kn s k = k ks' s') → Rel w0 Z0 s' a' w' → Q .normal a' w') → wpList P ops Q l a w := by
 intro l
 induction l with
 | nil =>
  intro i ks kn s kS h a w hr hq
  exact hq ks s a w h (fun R _ k => rfl) hr
 | cons o rest ih =>
  intro i ks kn s kS h a w hr hq
  have run : ∀ (kn : List (Nat × Bool)) (s : S), Rel w0 Z0 s a w → Region.wanted o (yielded ops a.tmps) = true → (match opV P E s.ev s.h o.op with
     | .bad => False
     | .mk q ok v H => mdS.chk ok (yY P E mdS ops (i + 1) rest (zKN i q o.op s.ev s.h v :: ks) kn ((s.upd q H).put o.dst v) kS)) →
    (∀ ks' s' a' w', kS ks' s' → (∀ (R : Type) [Inhabited R] (k : List Kr → S → R), (match opV P E s.ev s.h o.op with
     | .bad => default
     | .mk q ok v H => yY P E (mdV R) ops (i + 1) rest (zKN i q o.op s.ev s.h v :: ks) kn ((s.upd q H).put o.dst v) k) = k ks' s') → Rel w0 Z0 s' a' w' → Q .normal a' w') →
    (if Region.wanted o (yielded ops a.tmps) = true then o.wp P a w (wpList P ops Q rest) Q ∨ (o.asks P a w ∧ LetsOut Q) else wpList P ops Q rest (a.put o.dst undef) w) := by
   intro kn s hr hw h hq
   rw [if_pos hw]
   left
   cases e : opV P E s.ev s.h o.op with
   | bad => rw [e] at h; exact h.elim
   | mk q ok v H' =>
    rw [e] at h
    simp only at h
    have hok : okP ok ∧ yY P E mdS ops (i + 1) rest (zKN i q o.op s.ev s.h v :: ks) kn ((s.upd q H').put o.dst v) kS := by
     cases ok with
     | none => exact ⟨trivial, h⟩
     | some p => exact h
    refine zkL hE e hok.1 hr fun x w' hr' => ih (i + 1) _ kn _ kS hok.2 _ w' hr' fun ks' s' a' w'' h1 h2 h3 => hq ks' s' a' w'' h1 (fun R _ k => ?_) h3
    rw [e]
    exact h2 R k
  have skip : ∀ (kn : List (Nat × Bool)) (s : S), Rel w0 Z0 s a w → ¬ Region.wanted o (yielded ops a.tmps) = true → yY P E mdS ops (i + 1) rest ks kn (s.put o.dst (.c undef)) kS →
    (∀ ks' s' a' w', kS ks' s' → (∀ (R : Type) [Inhabited R] (k : List Kr → S → R), yY P E (mdV R) ops (i + 1) rest ks kn (s.put o.dst (.c undef)) k = k ks' s') → Rel w0 Z0 s' a' w' → Q .normal a' w') →
    (if Region.wanted o (yielded ops a.tmps) = true then o.wp P a w (wpList P ops Q rest) Q ∨ (o.asks P a w ∧ LetsOut Q) else wpList P ops Q rest (a.put o.dst undef) w) := by
   intro kn s hr hw h hq
   rw [if_neg hw]
   exact ih (i + 1) ks kn _ kS h _ w (ziL hr o.dst) hq
  unfold wpList
  simp only [yY] at h
  cases hg : o.guard with
  | none =>
   rw [hg] at h
   simp only at h
   exact run kn s hr (by simp [Region.wanted, hg]) h fun ks' s' a' w' h1 h2 h3 => hq ks' s' a' w' h1 (fun R _ k => by simp only [yY, hg]; exact h2 R k) h3
  | some gw =>
   obtain ⟨g, want⟩ := gw
   rw [hg] at h
   simp only at h
   cases ht : (ops[g]?).bind (·.dst) with
   | none => rw [ht] at h; exact h.elim
   | some t =>
    rw [ht] at h
    simp only at h
    have yes : yielded ops a.tmps g = some want → Region.wanted o (yielded ops a.tmps) = true := by intro e; simp [Region.wanted, hg, e]
    have no : yielded ops a.tmps g ≠ some want → ¬ Region.wanted o (yielded ops a.tmps) = true := by intro e; simp [Region.wanted, hg]; exact e
    cases hv : s.r.getD t .any with
    | c x =>
     rw [hv] at h
     cases x with
     | bool b =>
      obtain ⟨hk, hy⟩ := zdA hr ht hv
      have open_ : (match (generalizing := false) want with
        | true => mdS.cnd b (match opV P E ({ s with r := s.r.set t (.c (.bool true)) } : S).ev s.h o.op with
          | .bad => mdS.bad
          | .mk q ok v H => mdS.chk ok (yY P E mdS ops (i + 1) rest (zKN i q o.op ({ s with r := s.r.set t (.c (.bool true)) } : S).ev s.h v :: ks) ((t, true) :: kn) ((({ s with r := s.r.set t (.c (.bool true)) } : S).upd q H).put o.dst v) kS)) (yY P E mdS ops (i + 1) rest ks ((t, false) :: kn) (({ s with r := s.r.set t (.c (.bool false)) } : S).put o.dst (.c undef)) kS)
        | false => mdS.cnd b (yY P E mdS ops (i + 1) rest ks ((t, true) :: kn) (({ s with r := s.r.set t (.c (.bool true)) } : S).put o.dst (.c undef)) kS) (match opV P E ({ s with r := s.r.set t (.c (.bool false)) } : S).ev s.h o.op with
          | .bad => mdS.bad
          | .mk q ok v H => mdS.chk ok (yY P E mdS ops (i + 1) rest (zKN i q o.op ({ s with r := s.r.set t (.c (.bool false)) } : S).ev s.h v :: ks) ((t, false) :: kn) ((({ s with r := s.r.set t (.c (.bool false)) } : S).upd q H).put o.dst v) kS))) →
        (∀ ks' s' a' w', kS ks' s' → (∀ (R : Type) [Inhabited R] (k : List Kr → S → R), (match (generalizing := false) want with
        | true => (mdV R).cnd b (match opV P E ({ s with r := s.r.set t (.c (.bool true)) } : S).ev s.h o.op with
          | .bad => (mdV R).bad
          | .mk q ok v H => (mdV R).chk ok (yY P E (mdV R) ops (i + 1) rest (zKN i q o.op ({ s with r := s.r.set t (.c (.bool true)) } : S).ev s.h v :: ks) ((t, true) :: kn) ((({ s with r := s.r.set t (.c (.bool true)) } : S).upd q H).put o.dst v) k)) (yY P E (mdV R) ops (i + 1) rest ks ((t, false) :: kn) (({ s with r := s.r.set t (.c (.bool false)) } : S).put o.dst (.c undef)) k)
        | false => (mdV R).cnd b (yY P E (mdV R) ops (i + 1) rest ks ((t, true) :: kn) (({ s with r := s.r.set t (.c (.bool true)) } : S).put o.dst (.c undef)) k) (match opV P E ({ s with r := s.r.set t (.c (.bool false)) } : S).ev s.h o.op with
          | .bad => (mdV R).bad
          | .mk q ok v H => (mdV R).chk ok (yY P E (mdV R) ops (i + 1) rest (zKN i q o.op ({ s with r := s.r.set t (.c (.bool false)) } : S).ev s.h v :: ks) ((t, false) :: kn) ((({ s with r := s.r.set t (.c (.bool false)) } : S).upd q H).put o.dst v) k))) = k ks' s') → Rel w0 Z0 s' a' w' → Q .normal a' w') →
        (if Region.wanted o (yielded ops a.tmps) = true then o.wp P a w (wpList P ops Q rest) Q ∨ (o.asks P a w ∧ LetsOut Q) else wpList P ops Q rest (a.put o.dst undef) w) := by
       intro h hq
       cases want <;> cases b <;> simp only [mdS, cond_true, cond_false] at h
       ·exact run _ _ hk (yes hy) h fun ks' s' a' w' h1 h2 h3 => hq ks' s' a' w' h1 (fun R _ k => h2 R k) h3
       ·exact skip _ _ hk (no (by rw [hy]; simp)) h fun ks' s' a' w' h1 h2 h3 => hq ks' s' a' w' h1 (fun R _ k => h2 R k) h3
       ·exact skip _ _ hk (no (by rw [hy]; simp)) h fun ks' s' a' w' h1 h2 h3 => hq ks' s' a' w' h1 (fun R _ k => h2 R k) h3
       ·exact run _ _ hk (yes hy) h fun ks' s' a' w' h1 h2 h3 => hq ks' s' a' w' h1 (fun R _ k => h2 R k) h3
      cases hkn : zPu kn t with
      | none =>
       rw [hkn] at h
       exact open_ h fun ks' s' a' w' h1 h2 h3 => hq ks' s' a' w' h1 (fun R _ k => by simp only [yY, hg, ht, hv, hkn]; exact h2 R k) h3
      | some c =>
       rw [hkn] at h
       cases c <;> cases b
       ·cases want <;> simp only at h
        ·exact run kn s hr (yes hy) h fun ks' s' a' w' h1 h2 h3 => hq ks' s' a' w' h1 (fun R _ k => by simp only [yY, hg, ht, hv, hkn]; exact h2 R k) h3
        ·exact skip kn s hr (no (by rw [hy]; simp)) h fun ks' s' a' w' h1 h2 h3 => hq ks' s' a' w' h1 (fun R _ k => by simp only [yY, hg, ht, hv, hkn]; exact h2 R k) h3
       ·exact open_ h fun ks' s' a' w' h1 h2 h3 => hq ks' s' a' w' h1 (fun R _ k => by simp only [yY, hg, ht, hv, hkn]; exact h2 R k) h3
       ·exact open_ h fun ks' s' a' w' h1 h2 h3 => hq ks' s' a' w' h1 (fun R _ k => by simp only [yY, hg, ht, hv, hkn]; exact h2 R k) h3
       ·cases want <;> simp only at h
        ·exact skip kn s hr (no (by rw [hy]; simp)) h fun ks' s' a' w' h1 h2 h3 => hq ks' s' a' w' h1 (fun R _ k => by simp only [yY, hg, ht, hv, hkn]; exact h2 R k) h3
        ·exact run kn s hr (yes hy) h fun ks' s' a' w' h1 h2 h3 => hq ks' s' a' w' h1 (fun R _ k => by simp only [yY, hg, ht, hv, hkn]; exact h2 R k) h3
     | tuple vs =>
      have hu := zhI hr hv
      have hy : yielded ops a.tmps g ≠ some want := by
       simp only [yielded, ht, Option.bind_some]
       intro e
       split at e
       ·rename_i b hb
        rw [Array.getD_eq_getD_getElem?, hb] at hu
        cases hu
       ·cases e
      have h' : yY P E mdS ops (i + 1) rest ks kn (s.put o.dst (.c undef)) kS := by
       cases hkn : zPu kn t with
       | none => rw [hkn] at h; exact h
       | some c => rw [hkn] at h; cases c <;> exact h
      refine skip kn s hr (no hy) h' fun ks' s' a' w' h1 h2 h3 => hq ks' s' a' w' h1 (fun R _ k => ?_) h3
      simp only [yY, hg, ht, hv]
      cases hkn : zPu kn t with
      | none => exact h2 R k
      | some c => cases c <;> exact h2 R k
     | _ => cases hkn : zPu kn t <;> rw [hkn] at h <;> first | exact h.elim | (rename_i c; cases c <;> exact h.elim)
    | _ => rw [hv] at h; cases hkn : zPu kn t <;> rw [hkn] at h <;> first | exact h.elim | (rename_i c; cases c <;> exact h.elim)
end
end Go.Proofs.YtipbfgknaihifaaGreat
namespace Go.Proofs.YtipbfgknaihifaaGreat
open Go.RowKit
def Ex.out : Ex → Exit
 | .nrm => .normal
 | .exit id => .exit id
 | .ret => .ret
def zj0 (P : Program) (w0 : World) (Z0 : En) (c : Code) (lp : LP) : Prop :=
 ∀ s a w, okP (lp.safe s) → Rel w0 Z0 s a w → ∀ Q : Exit → Act → World → Prop,
  (∀ e s' a' w', (∀ (R : Type) (k : Ex → S → R), lp.el s R k = k e s') → Rel w0 Z0 s' a' w' → Q e.out a' w') → (Code.loop c).wp P Q a w
def zGg (P : Program) (E : Env) (w0 : World) (Z0 : En) : Code → Nat → Prop
 | .seq a b, n => zGg P E w0 Z0 a n ∧ zGg P E w0 Z0 b (n + xU a)
 | .cond _ a b, n => zGg P E w0 Z0 a n ∧ zGg P E w0 Z0 b (n + xU a)
 | .block _ c, n => zGg P E w0 Z0 c n
 | .loop c, n => ∀ lp, E.lp n = some lp → zj0 P w0 Z0 c lp
 | _, _ => True
def zZG (P : Program) (E : Env) (w0 : World) (Z0 : En) : Prop :=
 ∀ (id : Nat) (ops : Array Oper) (s : S) (kS : S → Prop), yY P E mdS ops 0 ops.toList [] [] s (fun ks s' => if (!zNY ops.toList ks) = true then False else kS s') → ∀ a w, Rel w0 Z0 s a w →
  ∀ Q : Exit → Act → World → Prop, (∀ s' a' w', kS s' → (∀ (R : Type) [Inhabited R] (k : S → R), yY P E (mdV R) ops 0 ops.toList [] [] s (fun ks s' => if (!zNY ops.toList ks) = true then default else k s') = k s') →
   Rel w0 Z0 s' a' w' → Q .normal a' w') → (Code.region id ops true).wp P Q a w
theorem zOf {P : Program} {E : Env} {w0 : World} {Z0 : En} (hE : zHu P E) (hD : zZG P E w0 Z0) : ∀ (c : Code) (n : Nat) (s : S) (kS : Ex → S → Prop), zGg P E w0 Z0 c n → evC P E mdS c n s kS → ∀ a w, Rel w0 Z0 s a w →
  ∀ Q : Exit → Act → World → Prop, (∀ e s' a' w', kS e s' → (∀ (R : Type) [Inhabited R] (k : Ex → S → R), evC P E (mdV R) c n s k = k e s') → Rel w0 Z0 s' a' w' → Q e.out a' w') → c.wp P Q a w := by
 intro c
 induction c with
 | skip => intro n s kS _ h a w hr Q hq; exact wp_skip (hq .nrm s a w h (fun R _ k => rfl) hr)
 | ret => intro n s kS _ h a w hr Q hq; exact wp_ret (hq .ret s a w h (fun R _ k => rfl) hr)
 | exit id => intro n s kS _ h a w hr Q hq; exact wp_exit (hq (.exit id) s a w h (fun R _ k => rfl) hr)
 | seq x y ihx ihy =>
  intro n s kS hl h a w hr Q hq
  refine wp_seq (ihx n s _ hl.1 h a w hr _ fun e s' a' w' h1 h2 h3 => ?_)
  cases e with
  | nrm => exact ihy _ s' kS hl.2 h1 a' w' h3 Q fun e s'' a'' w'' g1 g2 g3 => hq e s'' a'' w'' g1 (fun R _ k => (h2 R _).trans (g2 R k)) g3
  | exit id => exact hq (.exit id) s' a' w' h1 (fun R _ k => h2 R _) h3
  | ret => exact hq .ret s' a' w' h1 (fun R _ k => h2 R _) h3
 | cond c x y ihx ihy =>
  intro n s kS hl h a w hr Q hq
  simp only [evC] at h
  cases hv : s.ev c with
  | c x' =>
   rw [hv] at h
   cases x' with
   | bool b =>
    have hc : a.eval c = .bool b := by
     obtain ⟨ρ, Z, h1, _⟩ := hr
     have := h1.ev c
     rw [hv] at this
     exact vG this
    cases b with
    | true =>
     simp only [mdS, cond_true] at h
     exact wp_cond_true hc (ihx n s kS hl.1 h a w hr Q fun e s' a' w' h1 h2 h3 => hq e s' a' w' h1 (fun R _ k => by simp only [evC, hv]; exact h2 R k) h3)
    | false =>
     simp only [mdS, cond_false] at h
     exact wp_cond_false hc (ihy _ s kS hl.2 h a w hr Q fun e s' a' w' h1 h2 h3 => hq e s' a' w' h1 (fun R _ k => by simp only [evC, hv]; exact h2 R k) h3)
   | _ => exact h.elim
  | _ => rw [hv] at h; exact h.elim
 | block id c ih =>
  intro n s kS hl h a w hr Q hq
  refine wp_block (ih n s _ hl h a w hr _ fun e s' a' w' h1 h2 h3 => ?_)
  cases e with
  | nrm => exact hq .nrm s' a' w' h1 (fun R _ k => h2 R _) h3
  | ret => exact hq .ret s' a' w' h1 (fun R _ k => h2 R _) h3
  | exit i =>
   show if i = id then Q .normal a' w' else Q (.exit i) a' w'
   simp only at h1
   split
   ·rename_i e
    rw [if_pos e] at h1
    exact hq .nrm s' a' w' h1 (fun R _ k => (h2 R _).trans (by simp only; rw [if_pos e])) h3
   ·rename_i e
    rw [if_neg e] at h1
    exact hq (.exit i) s' a' w' h1 (fun R _ k => (h2 R _).trans (by simp only; rw [if_neg e])) h3
 | loop c ih =>
  intro n s kS hl h a w hr Q hq
  simp only [evC] at h
  cases hlp : E.lp n with
  | none => rw [hlp] at h; exact h.elim
  | some lp =>
   rw [hlp] at h
   have h' : okP (lp.safe s) ∧ lp.el s Prop kS := by
    cases hs : lp.safe s with
    | none => simp only [mdS, hs] at h; exact ⟨trivial, h⟩
    | some p => simp only [mdS, hs] at h; exact h
   refine hl lp hlp s a w h'.1 hr Q fun e s' a' w' h1 h2 => hq e s' a' w' ?_ (fun R _ k => ?_) h2
   ·rw [← h1 Prop kS]; exact h'.2
   ·simp only [evC, hlp]
    exact h1 R k
 | region id ops draw =>
  intro n s kS _ h a w hr Q hq
  cases draw with
  | false =>
   refine wp_region_list (zbS hE ops Q ops.toList 0 [] [] s _ h a w hr fun ks' s' a' w' h1 h2 h3 => ?_)
   exact hq .nrm s' a' w' h1 (fun R _ k => h2 R _) h3
  | true =>
   have e : ∀ ks, (true && !zNY ops.toList ks) = (!zNY ops.toList ks) := fun ks => rfl
   exact hD id ops s (kS .nrm) h a w hr Q fun s' a' w' h1 h2 h3 => hq .nrm s' a' w' h1 (fun R _ k => h2 R (k .nrm)) h3
 | _ => intro n s kS _ h; exact h.elim
end Go.Proofs.YtipbfgknaihifaaGreat
namespace Go.Proofs.YtipbfgknaihifaaGreat
open Go.RowKit
section
variable {P : Program} {E : Env} {R R' : Type} {md : Md R} {md' : Md R'} (r : R → R' → Prop) (hb : r md.bad md'.bad) (hc : ∀ p x y, r x y → r (md.chk p x) (md'.chk p y))
 (hn : ∀ (b : Bool) x x' y y', (b = true → r x x') → (b = false → r y y') → r (md.cnd b x y) (md'.cnd b x' y'))
include hb hc hn
theorem zet (ops : Array Oper) : ∀ (l : List Oper) (i : Nat) (ks : List Kr) (kn : List (Nat × Bool)) (s : S) (k : List Kr → S → R) (k' : List Kr → S → R'), (∀ ks s, r (k ks s) (k' ks s)) →
  r (yY P E md ops i l ks kn s k) (yY P E md' ops i l ks kn s k') := by
 intro l
 induction l with
 | nil => intro i ks kn s k k' hk; exact hk _ _
 | cons o rest ih =>
  intro i ks kn s k k' hk
  have run : ∀ (kn : List (Nat × Bool)) (s : S), r (match opV P E s.ev s.h o.op with
     | .bad => md.bad
     | .mk q ok v H => md.chk ok (yY P E md ops (i + 1) rest (zKN i q o.op s.ev s.h v :: ks) kn ((s.upd q H).put o.dst v) k)) (match opV P E s.ev s.h o.op with
     | .bad => md'.bad
     | .mk q ok v H => md'.chk ok (yY P E md' ops (i + 1) rest (zKN i q o.op s.ev s.h v :: ks) kn ((s.upd q H).put o.dst v) k')) := by
   intro kn s
   cases opV P E s.ev s.h o.op with
   | bad => exact hb
   | mk q ok v H => exact hc _ _ _ (ih _ _ _ _ _ _ hk)
  simp only [yY]
  cases hg : o.guard with
  | none => exact run kn s
  | some gw =>
   obtain ⟨g, want⟩ := gw
   simp only
   cases ht : (ops[g]?).bind (·.dst) with
   | none => exact hb
   | some t =>
    simp only
    cases hkn : zPu kn t with
    | none =>
     cases hv : s.r.getD t .any with
     | c x =>
      cases x with
      | bool b =>
       simp only
       cases want with
       | true => exact hn _ _ _ _ _ (fun _ => run _ _) (fun _ => ih _ _ _ _ _ _ hk)
       | false => exact hn _ _ _ _ _ (fun _ => ih _ _ _ _ _ _ hk) (fun _ => run _ _)
      | tuple vs => exact ih _ _ _ _ _ _ hk
      | _ => exact hb
     | _ => exact hb
    | some c =>
     cases hv : s.r.getD t .any with
     | c x =>
      cases x with
      | bool b =>
       cases c <;> cases b <;> cases want <;> simp only
       all_goals first
        | exact run _ _
        | exact ih _ _ _ _ _ _ hk
        | exact hn _ _ _ _ _ (fun _ => run _ _) (fun _ => ih _ _ _ _ _ _ hk)
        | exact hn _ _ _ _ _ (fun _ => ih _ _ _ _ _ _ hk) (fun _ => run _ _)
      | tuple vs => cases c <;> exact ih _ _ _ _ _ _ hk
      | _ => cases c <;> exact hb
     | _ => cases c <;> exact hb
theorem zdf : ∀ (c : Code) (n : Nat) (s : S) (k : Ex → S → R) (k' : Ex → S → R'), (∀ e s, r (k e s) (k' e s)) → r (evC P E md c n s k) (evC P E md' c n s k') := by
 intro c
 induction c with
 | skip => intro n s k k' hk; exact hk _ _
 | ret => intro n s k k' hk; exact hk _ _
 | exit id => intro n s k k' hk; exact hk _ _
 | seq x y ihx ihy =>
  intro n s k k' hk
  refine ihx n s _ _ fun e s' => ?_
  cases e with
  | nrm => exact ihy _ _ _ _ hk
  | exit id => exact hk _ _
  | ret => exact hk _ _
 | cond c x y ihx ihy =>
  intro n s k k' hk
  simp only [evC]
  cases hv : s.ev c with
  | c x' =>
   cases x' with
   | bool b => exact hn _ _ _ _ _ (fun _ => ihx _ _ _ _ hk) (fun _ => ihy _ _ _ _ hk)
   | _ => exact hb
  | _ => exact hb
 | block id c ih =>
  intro n s k k' hk
  refine ih n s _ _ fun e s' => ?_
  cases e with
  | nrm => exact hk _ _
  | ret => exact hk _ _
  | exit i => simp only; split <;> exact hk _ _
 | loop c ih =>
  intro n s k k' hk
  simp only [evC]
  cases hlp : E.lp n with
  | none => exact hb
  | some lp =>
   simp only
   obtain ⟨p, hp⟩ := lp.par s
   rw [hp, hp]
   exact hc _ _ _ (hk _ _)
 | region id ops draw =>
  intro n s k k' hk
  refine zet r hb hc hn ops _ _ _ _ _ _ _ fun ks s' => ?_
  split
  ·exact hb
  ·exact hk _ _
 | _ => intro n s k k' hk; exact hb
end
section
variable {P : Program} {E : Env}
theorem zcZ {X : Type} (c : Code) (n : Nat) (s : S) (k : Ex → S → Tr X) (kS : Ex → S → Prop) (hk : ∀ e s, (k e s).ok → kS e s) (h : (evC P E (mdT X) c n s k).ok) : evC P E mdS c n s kS :=
 zdf (md := mdT X) (md' := mdS) (fun t p => t.ok → p) (fun h => h) (fun p x y h => by cases p with
  | none => exact h
  | some p => exact fun g => ⟨g.1, h g.2⟩) (fun b x x' y y' h1 h2 => by cases b with
  | true => exact h1 rfl
  | false => exact h2 rfl) c n s k kS hk h
theorem zWk {X : Type} [Inhabited X] (c : Code) (n : Nat) (s : S) (k : Ex → S → Tr X) : (evC P E (mdT X) c n s k).val = evC P E (mdV X) c n s (fun e s => (k e s).val) :=
 zdf (md := mdT X) (md' := mdV X) (fun t p => t.val = p) rfl (fun p x y h => by cases p <;> exact h) (fun b x x' y y' h1 h2 => by cases b with
  | true => exact h1 rfl
  | false => exact h2 rfl) c n s k _ (fun _ _ => rfl)
end
end Go.Proofs.YtipbfgknaihifaaGreat
namespace Go.Proofs.YtipbfgknaihifaaGreat
open Go.RowKit
def vm (H : List Ob) : Eff → Prop
 | .bad => True
 | .mk q _ _ H' => H.length ≤ H'.length ∧ (q < 2 → ∃ obs, H' = H ++ obs) ∧ (q = 0 → H' = H)
def Eff.k0 : Eff → Prop
 | .bad => False
 | .mk q _ _ _ => q = 0
theorem vm.refl (H : List Ob) (q : Nat) (ok : Option Prop) (v : V) : vm H (.mk q ok v H) := ⟨Nat.le_refl _, fun _ => ⟨[], by simp⟩, fun _ => rfl⟩
theorem vm.app (H : List Ob) (q : Nat) (ok : Option Prop) (v : V) (x : Ob) (hq : q ≠ 0) : vm H (.mk q ok v (H ++ [x])) := ⟨by simp, fun _ => ⟨[x], rfl⟩, fun e => absurd e hq⟩
theorem zkh (wr : Bool) (op : BinOp) (k : IntKind) (a b : Int) (H : List Ob) : vm H (zPq wr op k a b H) := by
 have r := vm.refl H
 unfold zPq zVa
 cases op <;> cases wr <;> simp only [ze7, if_true, Bool.false_eq_true, if_false] <;> first | exact r _ _ _ | trivial
theorem zj3 (op : BinOp) (k : IntKind) (a b : Int) (H : List Ob) : vm H (shV op k a b H) := by
 have r := vm.refl H
 unfold shV
 cases op <;> first | exact r _ _ _ | trivial
theorem zkf (op : BinOp) (a b : ByteArray) (H : List Ob) : vm H (match zaY op a b with
   | some r => .mk 0 none (.c (.bool r)) H
   | none => .bad) := by
 have r := vm.refl H
 cases op <;> simp only [zaY] <;> first | exact r _ _ _ | trivial
theorem zkY (P : Program) (wr : Bool) (op : BinOp) (t : TypeId) (x y : V) (H : List Ob) : vm H (zOd P wr op t x y H) := by
 have r := vm.refl H
 unfold zOd
 split
 ·split
  ·exact zj3 _ _ _ _ _
  ·exact zj3 _ _ _ _ _
  ·split
   ·exact zkh _ _ _ _ _ _
   ·trivial
 ·split
  ·exact r _ _ _
  ·exact zkf _ _ _ _
 ·unfold eqV
  split
  ·trivial
  ·split
   ·cases op <;> first | exact r _ _ _ | trivial
   ·trivial
theorem zYz {s : OT} {n : Nat} {cs : List V} {H H1 : List Ob} {xs : List (El s.ty)} {os : List Nat} {q : Nat} (h : zPV s n cs H = some (xs, H1, os, q)) : H1.length = H.length ∧ (q < 2 → H1 = H ∧ os = []) ∧ q ≠ 0 := by
 unfold zPV at h
 split at h
 ·rename_i a H1' os' bs hp
  cases h
  unfold zOv at hp
  simp only at hp
  split at hp
  ·split at hp
   ·simp only [Option.some.injEq, Prod.mk.injEq] at hp
    obtain ⟨_, h1, h2, _⟩ := hp
    refine ⟨by rw [← h1, zF2], fun hq => ?_, ?_⟩
    ·obtain ⟨k1, k2⟩ := zj2.2 hq
     refine ⟨?_, k2⟩
     rw [List.isEmpty_iff] at k1
     rw [← h1, k1]; rfl
    ·unfold zFb
     split
     ·split
      ·cases (zGO false H (List.replicate n (.val true s)) (zDy (zc s.ty) n cs)).isEmpty <;> simp
      ·simp
     ·simp [xt]
   ·cases hp
  ·cases hp
 ·cases h
theorem zWy (P : Program) (g : Gv) (t : TypeId) (n : Nat) (parts : List (Nat × V)) (H : List Ob) : vm H (zZV P g t n parts H) ∧ ¬ (zZV P g t n parts H).k0 := by
 have bad : vm H .bad ∧ ¬ (Eff.bad).k0 := ⟨trivial, fun h => h⟩
 unfold zZV
 split
 ·split
  ·split
   ·exact ⟨vm.refl _ _ _ _, fun h => by simp [Eff.k0] at h⟩
   ·split
    ·split
     ·rename_i cs _
      split
      ·rename_i xs H1 os q htk
       obtain ⟨h1, h2, h3⟩ := zYz htk
       refine ⟨⟨by simp [x9, h1], fun hq => ?_, fun hq => absurd hq h3⟩, h3⟩
       obtain ⟨rfl, rfl⟩ := h2 hq
       exact ⟨_, rfl⟩
      ·exact bad
     ·exact bad
    ·exact bad
  ·exact bad
 ·exact bad
theorem zVw (P : Program) (g : Gv) (t : TypeId) (s x : V) (H : List Ob) : vm H (zYf P g t s x H) ∧ ¬ (zYf P g t s x H).k0 := by
 have bad : vm H .bad ∧ ¬ (Eff.bad).k0 := ⟨trivial, fun h => h⟩
 unfold zYf
 split
 ·split
  ·split
   ·split
    ·split
     ·split
      ·split
       ·split
        ·exact bad
        ·exact ⟨⟨by simp [x9], fun hq => by simp only [xt] at hq; omega, fun hq => by simp only [xt] at hq; omega⟩, fun h => by simp only [Eff.k0, xt] at h; omega⟩
       ·exact bad
      ·exact bad
     ·exact bad
    ·split
     ·split
      ·exact ⟨vm.app _ _ _ _ _ (by decide), fun h => by simp [Eff.k0] at h⟩
      ·exact ⟨⟨by simp [x9], fun hq => by simp only [xt] at hq; omega, fun hq => by simp only [xt] at hq; omega⟩, fun h => by simp only [Eff.k0, xt] at h; omega⟩
      ·exact bad
     ·exact bad
   ·exact bad
  ·exact bad
 ·exact bad
theorem zUz {H H1 : List Ob} {s : OT} {o : Nat} {i : Int} {off k : Nat} (h : zVL H s o i off k = some H1) : H.length ≤ H1.length := by
 unfold zVL at h
 split at h
 ·split at h
  ·split at h
   ·cases h; simp
   ·cases h
  ·cases h
 ·cases h
theorem zdZ {H H1 : List Ob} {s : OT} {o : Nat} {i : Int} {off k n : Nat} {e : Eff} (h1 : H.length ≤ H1.length) (h : vm H1 e) : vm H (zRP H s o i off k n e) ∧ ¬ (zRP H s o i off k n e).k0 := by
 have bad : vm H .bad ∧ ¬ (Eff.bad).k0 := ⟨trivial, fun h => h⟩
 unfold zRP
 split
 ·exact bad
 ·rename_i q ok v H'
  split
  ·split
   ·rename_i H2 os hu
    refine ⟨⟨?_, fun hq => by simp only [zA6] at hq; omega, fun hq => by simp only [zA6] at hq; omega⟩, fun h => by simp only [Eff.k0, zA6] at h; omega⟩
    have : H2.length = H'.length := by
     unfold zVb at hu
     split at hu
     ·split at hu
      ·split at hu
       ·split at hu
        ·split at hu
         ·rename_i htk
          cases hu
          simp [x9, (zYz htk).1]
         ·cases hu
        ·cases hu
       ·cases hu
      ·cases hu
     ·cases hu
    rw [List.length_map, this]
    exact Nat.le_trans h1 h.1
   ·exact bad
  ·exact bad
theorem zUc (P : Program) (t : TypeId) (o off : Nat) (vs : List V) (H : List Ob) : vm H (zJt P t o off vs H) ∧ ¬ (zJt P t o off vs H).k0 := by
 have bad : vm H .bad ∧ ¬ (Eff.bad).k0 := ⟨trivial, fun h => h⟩
 unfold zJt
 split
 ·split
  ·exact ⟨⟨by simp, fun hq => by omega, fun hq => by omega⟩, fun h => by simp [Eff.k0] at h⟩
  ·exact bad
 ·exact bad
theorem zO5 (P : Program) (t : TypeId) (x y : V) (H : List Ob) : vm H (zKl P t x y H) ∧ ¬ (zKl P t x y H).k0 := by
 have bad : vm H .bad ∧ ¬ (Eff.bad).k0 := ⟨trivial, fun h => h⟩
 unfold zKl
 split
 ·split
  ·exact zUc _ _ _ _ _ _
  ·exact bad
 ·split
  ·rename_i H1 vs hf _
   exact zdZ (zUz hf) (zUc _ _ _ _ _ _).1
  ·exact bad
 ·exact bad
theorem ziG {d : FnD} {args : List V} {H : List Ob} {e : Eff} (h : zO7 d args H = some e) : vm H e ∧ ¬ e = .bad := by
 unfold zO7 at h
 split at h
 ·cases h
 ·rename_i a H1 os bs hp
  unfold zOv at hp
  simp only at hp
  split at hp
  ·split at hp
   ·simp only [Option.some.injEq, Prod.mk.injEq] at hp
    obtain ⟨_, h1, h2, h3⟩ := hp
    simp only [Option.some.injEq] at h
    subst h
    refine ⟨⟨?_, fun hq => ?_, fun hq => ?_⟩, by simp⟩
    ·rw [List.length_append, zNV, x9, ← h1, zF2]; exact Nat.le_add_right _ _
    ·unfold zFb at hq
     cases os with
     | cons x l => simp only [xt] at hq; omega
     | nil =>
      cases bs with
      | cons x l => simp only at hq; omega
      | nil =>
       simp only at hq
       cases hz : zGO d.flat H d.args args with
       | cons x l => rw [hz] at hq; simp at hq
       | nil =>
        rw [hz] at h1
        have : H1 = H := h1.symm
        subst this
        exact ⟨zEU d.res (d.F a), by simp only [zEk, yK]⟩
    ·unfold zFb at hq
     cases os with
     | cons x l => simp only [xt] at hq; omega
     | nil =>
      cases bs with
      | cons x l => simp only at hq; omega
      | nil =>
       simp only at hq
       cases hz : (zGO d.flat H d.args args).isEmpty <;> rw [hz] at hq <;> simp at hq
   ·cases hp
  ·cases hp
theorem zZo : ∀ (l : List FnD) (args : List V) (H : List Ob), vm H (zIs l args H) := by
 intro l
 induction l with
 | nil => intro args H; trivial
 | cons d l ih =>
  intro args H
  simp only [zIs]
  split
  ·rename_i e h; exact (ziG h).1
  ·exact ih args H
theorem zi9 : ∀ (l : List FnD) (args : List V) (H : List Ob) (ok : Option Prop) (v : V) (H' : List Ob), zIs l args H ≠ .mk 0 ok v H' := by
 intro l
 induction l with
 | nil => intro args H ok v H' h; cases h
 | cons d l ih =>
  intro args H ok v H' h
  simp only [zIs] at h
  split at h
  ·rename_i e hc
   subst h
   unfold zO7 at hc
   split at hc
   ·cases hc
   ·simp only [Option.some.injEq, Eff.mk.injEq] at hc
    obtain ⟨hq, _⟩ := hc
    unfold zFb at hq
    split at hq
    ·split at hq
     ·cases hz : (zGO d.flat H d.args args).isEmpty <;> rw [hz] at hq <;> simp at hq
     ·omega
    ·simp only [xt] at hq; omega
  ·exact ih args H ok v H' h
theorem zQ8 (l : List FnD) (args : List V) (H : List Ob) : vm H (zMs l args H) ∧ ¬ (zMs l args H).k0 := by
 have bad : vm H .bad ∧ ¬ (Eff.bad).k0 := ⟨trivial, fun h => h⟩
 unfold zMs
 split
 ·refine ⟨zZo _ _ _, fun h => ?_⟩
  cases e : zIs l args H with
  | bad => rw [e] at h; exact h
  | mk q ok v H' =>
   rw [e] at h
   have : q = 0 := h
   subst this
   exact zi9 _ _ _ _ _ _ e
 ·split
  ·exact bad
  ·split
   ·rename_i H1 hf
    exact zdZ (zUz hf) (zZo _ _ _)
   ·exact bad
theorem zmI (P : Program) (g : Gv) (ev : Operand → V) (H : List Ob) (op : Op) : vm H (xr P g ev H op) := by
 have r := vm.refl H
 cases op with
 | move x => exact r _ _ _
 | assign x => exact r _ _ _
 | pick c x y => simp only [xr]; split; exact r _ _ _; trivial
 | alloc t => simp only [xr]; split; exact vm.app _ _ _ _ _ (by decide); trivial
 | box t x => simp only [xr]; split; exact vm.app _ _ _ _ _ (by decide); trivial
 | build t parts =>
  simp only [xr, zKo]
  split
  ·split
   ·split
    ·exact r _ _ _
    ·trivial
   ·trivial
  ·trivial
 | buildSlice t n parts => exact (zWy _ _ _ _ _ _).1
 | load t x =>
  simp only [xr]
  split
  ·split
   ·exact r _ _ _
   ·trivial
  ·trivial
 | store t x y => exact (zO5 _ _ _ _ _).1
 | nilCheck x => simp only [xr]; split <;> first | exact r _ _ _ | trivial
 | binOp op t x y u => exact zkY _ _ _ _ _ _ _
 | unOp op t x => simp only [xr, unV]; split <;> first | exact r _ _ _ | trivial
 | convert s d x => simp only [xr, zPU]; split <;> first | exact r _ _ _ | trivial
 | makeFunc fn first caps =>
  cases fn with
  | func f => simp only [xr]; split; exact r _ _ _; trivial
  | _ => trivial
 | makeSlice t x y =>
  simp only [xr, zO9]
  split
  ·split
   ·split
    ·split
     ·exact vm.app _ _ _ _ _ (by decide)
     ·trivial
    ·trivial
   ·trivial
  ·trivial
 | slice t x lo hi mx =>
  cases mx with
  | none =>
   simp only [xr, zJN]
   split
   ·split
    ·split
     ·exact r _ _ _
     ·trivial
    ·trivial
   ·split
    ·split
     ·split
      ·exact r _ _ _
      ·trivial
     ·trivial
    ·trivial
   ·trivial
  | some m => trivial
 | fieldAddr t x f =>
  simp only [xr]
  split
  ·split
   ·trivial
   ·split
    ·exact r _ _ _
    ·trivial
  ·trivial
 | field t x f =>
  simp only [xr]
  split
  ·split
   ·exact r _ _ _
   ·trivial
  ·trivial
 | indexAddr t x y =>
  simp only [xr, zCG]
  split
  ·split
   ·exact r _ _ _
   ·trivial
  ·split
   ·split
    ·exact r _ _ _
    ·trivial
   ·split
    ·exact r _ _ _
    ·trivial
   ·trivial
  ·trivial
 | index t x y => simp only [xr, zY1]; split <;> first | exact r _ _ _ | trivial
 | extract x i =>
  simp only [xr]
  split
  ·split
   ·exact r _ _ _
   ·trivial
  ·trivial
 | call c =>
  obtain ⟨callee, args, argTypes⟩ := c
  cases callee with
  | builtin b =>
   cases b with
   | len =>
    simp only [xr]
    split
    ·unfold zM2
     split
     ·exact r _ _ _
     ·exact r _ _ _
     ·exact r _ _ _
     ·exact r _ _ _
     ·split
      ·exact r _ _ _
      ·exact r _ _ _
      ·trivial
     ·trivial
    ·trivial
   | append =>
    simp only [xr]
    split
    ·split
     ·exact (zVw _ _ _ _ _ _).1
     ·trivial
    ·trivial
   | _ => trivial
  | _ => trivial
 | _ => trivial
theorem zXB (P : Program) (E : Env) (ev : Operand → V) (H : List Ob) (op : Op) : vm H (opV P E ev H op) := by
 have other := zmI P E.g ev H op
 cases op with
 | call c =>
  obtain ⟨callee, args, argTypes⟩ := c
  cases callee with
  | value f =>
   simp only [opV]
   split
   ·exact (zQ8 _ _ _).1
   ·trivial
  | _ => exact other
 | _ => exact other
def Eff.setH (H2 : List Ob) : Eff → Eff
 | .bad => .bad
 | .mk q ok v _ => .mk q ok v H2
theorem zhz (wr : Bool) (op : BinOp) (k : IntKind) (a b : Int) (H H2 : List Ob) : zPq wr op k a b H2 = (zPq wr op k a b H).setH H2 := by
 unfold zPq zVa
 cases op <;> cases wr <;> simp only [ze7, if_true, Bool.false_eq_true, if_false] <;> rfl
theorem zj5 (op : BinOp) (a b : ByteArray) (H H2 : List Ob) : (match zaY op a b with
   | some r => Eff.mk 0 none (.c (.bool r)) H2
   | none => .bad) = (match zaY op a b with
   | some r => Eff.mk 0 none (.c (.bool r)) H
   | none => .bad).setH H2 := by
 cases op <;> simp only [zaY] <;> rfl
theorem zj9 (P : Program) (wr : Bool) (op : BinOp) (t : TypeId) (x y : V) (H H2 : List Ob) : zOd P wr op t x y H2 = (zOd P wr op t x y H).setH H2 := by
 unfold zOd
 split
 ·split
  ·rfl
  ·rfl
  ·split
   ·exact zhz _ _ _ _ _ _ _
   ·rfl
 ·split
  ·rfl
  ·exact zj5 _ _ _ _ _
 ·unfold eqV
  split
  ·rfl
  ·split
   ·cases op <;> rfl
   ·rfl
theorem ziK {P : Program} {g : Gv} {ev : Operand → V} {H H2 : List Ob} {op : Op} (h : (xr P g ev H op).k0) : xr P g ev H2 op = (xr P g ev H op).setH H2 := by
 cases op with
 | move x => rfl
 | assign x => rfl
 | pick c x y => simp only [xr]; split <;> rfl
 | alloc t => simp only [xr] at h; split at h <;> first | exact h.elim | (simp [Eff.k0] at h)
 | box t x => simp only [xr] at h; split at h <;> first | exact h.elim | (simp [Eff.k0] at h)
 | build t parts =>
  simp only [xr, zKo]
  split
  ·split
   ·split <;> rfl
   ·rfl
  ·rfl
 | buildSlice t n parts => exact absurd h (zWy _ _ _ _ _ _).2
 | load t x =>
  simp only [xr] at h
  split at h
  ·split at h
   ·simp [Eff.k0] at h
   ·exact h.elim
  ·exact h.elim
 | store t x y => exact absurd h (zO5 _ _ _ _ _).2
 | nilCheck x => simp only [xr]; split <;> rfl
 | binOp op t x y u => exact zj9 _ _ _ _ _ _ _ _
 | unOp op t x => simp only [xr, unV]; split <;> rfl
 | convert s d x => simp only [xr, zPU]; split <;> rfl
 | makeFunc fn first caps =>
  cases fn with
  | func f => simp only [xr]; split <;> rfl
  | _ => rfl
 | makeSlice t x y =>
  simp only [xr, zO9] at h
  split at h
  ·split at h
   ·split at h
    ·split at h
     ·simp [Eff.k0] at h
     ·exact h.elim
    ·exact h.elim
   ·exact h.elim
  ·exact h.elim
 | slice t x lo hi mx =>
  cases mx with
  | none =>
   simp only [xr, zJN]
   split
   ·split
    ·split <;> rfl
    ·rfl
   ·split
    ·split
     ·split <;> rfl
     ·rfl
    ·rfl
   ·rfl
  | some m => rfl
 | fieldAddr t x f =>
  simp only [xr]
  split
  ·split
   ·rfl
   ·split <;> rfl
  ·rfl
 | field t x f =>
  simp only [xr]
  split
  ·split <;> rfl
  ·rfl
 | indexAddr t x y =>
  simp only [xr, zCG] at h
  split at h
  ·split at h
   ·simp [Eff.k0] at h
   ·exact h.elim
  ·split at h
   ·split at h
    ·simp [Eff.k0] at h
    ·exact h.elim
   ·split at h
    ·simp [Eff.k0] at h
    ·exact h.elim
   ·exact h.elim
  ·exact h.elim
 | index t x y => simp only [xr, zY1]; split <;> rfl
 | extract x i =>
  simp only [xr]
  split
  ·split <;> rfl
  ·rfl
 | call c =>
  obtain ⟨callee, args, argTypes⟩ := c
  cases callee with
  | builtin b =>
   cases b with
   | len =>
    simp only [xr] at h ⊢
    split at h
    ·rename_i x t e1 e2
     unfold zM2 at h ⊢
     split at h
     ·rename_i e3 e4; first | rfl | (simp only [e3, e4]; rfl)
     ·simp [Eff.k0] at h
     ·rename_i e3 e4; first | rfl | (simp only [e3, e4]; rfl)
     ·rename_i e3 e4; first | rfl | (simp only [e3, e4]; rfl)
     ·split at h
      ·simp [Eff.k0] at h
      ·simp [Eff.k0] at h
      ·exact h.elim
     ·exact h.elim
    ·exact h.elim
   | append =>
    simp only [xr] at h
    split at h
    ·split at h
     ·exact absurd h (zVw _ _ _ _ _ _).2
     ·exact h.elim
    ·exact h.elim
   | _ => rfl
  | _ => rfl
 | _ => rfl
theorem zQV {P : Program} {E : Env} {ev : Operand → V} {H H2 H' : List Ob} {op : Op} {ok : Option Prop} {v : V} (h : opV P E ev H op = .mk 0 ok v H') : opV P E ev H2 op = .mk 0 ok v H2 := by
 have other : xr P E.g ev H op = .mk 0 ok v H' → xr P E.g ev H2 op = .mk 0 ok v H2 := by
  intro h
  have := ziK (H2 := H2) (P := P) (g := E.g) (ev := ev) (H := H) (op := op) (by rw [h]; rfl)
  rw [this, h]; rfl
 cases op with
 | call c =>
  obtain ⟨callee, args, argTypes⟩ := c
  cases callee with
  | value f =>
   simp only [opV] at h
   split at h
   ·rename_i f caps _
    have := (zQ8 (E.fn f) (args.toList.map ev ++ caps) H).2
    rw [h] at this
    exact absurd rfl this
   ·cases h
  | _ => exact other h
 | _ => exact other h
end Go.Proofs.YtipbfgknaihifaaGreat
namespace Go.Proofs.YtipbfgknaihifaaGreat
open Go.RowKit
def zMa (ops : Array Oper) (i : Nat) : List Nat := (zar ops.toList []).getD i []
def Clo (ops : Array Oper) (A : Nat → Prop) : Prop := ∀ (i : Nat) (o : Oper), ops[i]? = some o → A i → ∀ e ∈ o.after, Region.binds .any e = true → A e.on
theorem zcK {ops : Array Oper} {A : Nat → Prop} (hA : Clo ops A) : ∀ (l : List Oper) (acc : List (List Nat)), (∀ k, l[k]? = ops[acc.length + k]?) →
  (∀ (i : Nat) (b : List Nat), acc[i]? = some b → ∀ o, ops[i]? = some o → (∀ e ∈ o.after, Region.binds .any e = true → A e.on) → ∀ j ∈ b, A j) →
  ∀ (i : Nat) (b : List Nat), (zar l acc)[i]? = some b → ∀ o, ops[i]? = some o → (∀ e ∈ o.after, Region.binds .any e = true → A e.on) → ∀ j ∈ b, A j := by
 intro l
 induction l with
 | nil => intro acc _ h; exact h
 | cons o rest ih =>
  intro acc hl h
  simp only [zar]
  refine ih _ (fun k => ?_) (fun i b hb o' ho' hp j hj => ?_)
  ·have := hl (k + 1)
   simp only [List.getElem?_cons_succ] at this
   rw [this, List.length_append]
   congr 1
   simp; omega
  ·by_cases hi : i < acc.length
   ·rw [List.getElem?_append_left hi] at hb
    exact h i b hb o' ho' hp j hj
   ·have hlt := (List.getElem?_eq_some_iff.1 hb).1
    simp at hlt
    obtain rfl : i = acc.length := by omega
    rw [List.getElem?_append_right (Nat.le_refl _)] at hb
    simp at hb
    subst hb
    have ho : ops[acc.length]? = some o := by have := hl 0; simpa using this.symm
    rw [ho] at ho'; cases ho'
    rw [List.mem_flatMap] at hj
    obtain ⟨e, he, hj⟩ := hj
    rw [List.mem_filter] at he
    have hm : e ∈ o.after := by simpa using he.1
    have hAe := hp e hm he.2
    rcases List.mem_cons.1 hj with rfl | hj
    ·exact hAe
    ·cases hb : acc[e.on]? with
     | none => rw [hb] at hj; simp at hj
     | some b =>
      rw [hb] at hj
      have hlt := (List.getElem?_eq_some_iff.1 hb).1
      have hs : acc.length < ops.size := (Array.getElem?_eq_some_iff.1 ho).1
      have he : ops[e.on]? = some ops[e.on] := Array.getElem?_eq_getElem (by omega)
      exact h e.on b hb _ he (hA e.on _ he hAe) j hj
theorem zRE {ops : Array Oper} {A : Nat → Prop} (hA : Clo ops A) {i : Nat} {o : Oper} (ho : ops[i]? = some o) (hp : ∀ e ∈ o.after, Region.binds .any e = true → A e.on) : ∀ j ∈ zMa ops i, A j := by
 intro j hj
 unfold zMa at hj
 rw [List.getD_eq_getElem?_getD] at hj
 cases hb : (zar ops.toList [])[i]? with
 | none => rw [hb] at hj; simp at hj
 | some b =>
  rw [hb] at hj
  exact zcK hA ops.toList [] (fun k => by simp) (fun i b h => by simp at h) i b hb o ho hp j hj
structure Ord (ops : Array Oper) (ks : List Kr) : Prop where
 dst : ∀ (i j : Nat) (o o' : Oper) (d : Tmp), ops[i]? = some o → ops[j]? = some o' → o'.dst = some d → (o.dst = some d → i = j) ∧ (d ∈ o.looksAt ops → (j < i ∧ j ∈ zMa ops i) ∨ (i < j ∧ i ∈ zMa ops j))
 on : ∀ (i : Nat) (o : Oper), ops[i]? = some o → ∀ e ∈ o.after, Region.binds .any e = true → e.on < i
 bar : ∀ j ∈ ks, 2 ≤ j.q → ∀ r ∈ ks, r.i = j.i ∨ (r.i < j.i ∧ r.i ∈ zMa ops j.i) ∨ (j.i < r.i ∧ j.i ∈ zMa ops r.i) ∨ zB5 r j = true
theorem zYN {ops : Array Oper} {ks : List Kr} (h : zNY ops.toList ks = true) : Ord ops ks := by
 unfold zNY at h
 simp only [Bool.and_eq_true ((ops.toList.zipIdx.all _) && _), Bool.and_eq_true (ops.toList.zipIdx.all _)] at h
 obtain ⟨⟨h1, h2⟩, h3⟩ := h
 have hzip : ∀ (i : Nat) (o : Oper), ops[i]? = some o → (o, i) ∈ ops.toList.zipIdx := by
  intro i o ho
  rw [List.mem_iff_getElem?]
  exact ⟨i, by rw [List.getElem?_zipIdx]; simp [ho]⟩
 have ord : ∀ i j : Nat, (decide (i < j) && ((zar ops.toList []).getD j []).contains i) = true → i < j ∧ i ∈ zMa ops j := by
  intro i j h
  simpa [zMa] using h
 refine ⟨fun i j o o' d ho ho' hd => ?_, fun i o ho e he hb => ?_, fun j hj hk r hr => ?_⟩
 ·have k1 := List.all_eq_true.1 h1 (o, i) (hzip i o ho)
  have k2 := List.all_eq_true.1 k1 (d, j) (by
   rw [List.mem_filterMap]
   exact ⟨(o', j), hzip j o' ho', by simp [hd]⟩)
  rw [Bool.and_eq_true, Bool.or_eq_true, Bool.or_eq_true, Bool.or_eq_true] at k2
  refine ⟨fun e => ?_, fun e => ?_⟩
  ·rcases k2.1 with k | k
   ·rw [e] at k; simp at k
   ·simpa using k
  ·rcases k2.2 with (k | k) | k
   ·have : (o.looksAt ops).contains d = true := by simpa using e
    rw [this] at k; cases k
   ·exact .inl (ord _ _ k)
   ·exact .inr (ord _ _ k)
 ·have k1 := List.all_eq_true.1 h2 (o, i) (hzip i o ho)
  have k2 := List.all_eq_true.1 k1 e (by simpa using he)
  simp only [Bool.or_eq_true, Bool.not_eq_true', decide_eq_true_eq] at k2
  exact k2.resolve_left (by rw [hb]; simp)
 ·have k1 := List.all_eq_true.1 h3 j hj
  rw [Bool.or_eq_true, decide_eq_true_eq] at k1
  have k2 := List.all_eq_true.1 (k1.resolve_left (by omega)) r hr
  rw [Bool.or_eq_true, Bool.or_eq_true, Bool.or_eq_true] at k2
  rcases k2 with ((k | k) | k) | k
  ·exact .inl (by simpa using k)
  ·exact .inr (.inl (ord _ _ k))
  ·exact .inr (.inr (.inl (ord _ _ k)))
  ·exact .inr (.inr (.inr k))
def gw (ops : Array Oper) (s : S) (o : Oper) : Option Bool := match o.guard with
 | none => some true
 | some (g, want) => match (ops[g]?).bind (·.dst) with
  | none => none
  | some t => match s.r.getD t .any with
   | .c (.bool b) => some (b == want)
   | .c (.tuple _) => some false
   | _ => none
def zmQ (P : Program) (E : Env) (ops : Array Oper) (i : Nat) (o : Oper) (s s' : S) (x : Option Kr) : Prop :=
 (∃ q ok v H, x = some (zKN i q o.op s.ev s.h v) ∧ gw ops s o = some true ∧ opV P E s.ev s.h o.op = .mk q ok v H ∧ okP ok ∧ s' = (s.upd q H).put o.dst v) ∨
 (x = none ∧ gw ops s o = some false ∧ s' = s.put o.dst (.c undef))
theorem zj4 {s : S} {t : Nat} {x : Value} (h : s.r.getD t .any = .c x) : ({ s with r := s.r.set t (.c x) } : S) = s := by
 have hv : s.r[t]? = some (.c x) := by
  rw [List.getD_eq_getElem?_getD] at h
  cases e : s.r[t]? with
  | none => rw [e] at h; cases h
  | some v => rw [e] at h; simp at h; rw [h]
 obtain ⟨r, hh⟩ := s
 simp only at hv ⊢
 congr 1
 apply List.ext_getElem?
 intro i
 by_cases e : t = i
 ·subst e
  rw [List.getElem?_set_self (List.getElem?_eq_some_iff.1 hv).1, hv]
 ·rw [List.getElem?_set_ne e]
section
variable {P : Program} {E : Env} {w0 : World} {Z0 : En}
def zP4 (P : Program) (E : Env) (ops : Array Oper) (i : Nat) (l : List Oper) (ks : List Kr) (kn : List (Nat × Bool)) (s : S) (kS : List Kr → S → Prop) : Prop :=
 ∃ (st : Nat → S) (info : Nat → Option Kr) (ks' : List Kr), st i = s ∧ (∀ (k : Nat) (o : Oper), l[k]? = some o → zmQ P E ops (i + k) o (st (i + k)) (st (i + k + 1)) (info (i + k))) ∧ kS ks' (st (i + l.length)) ∧
  (∀ (R : Type) [Inhabited R] (k : List Kr → S → R), yY P E (mdV R) ops i l ks kn s k = k ks' (st (i + l.length))) ∧ (∀ p ∈ ks, p ∈ ks') ∧ (∀ (k : Nat) (r : Kr), k < l.length → info (i + k) = some r → r ∈ ks')
theorem chain (ops : Array Oper) : ∀ (l : List Oper) (i : Nat) (ks : List Kr) (kn : List (Nat × Bool)) (s : S) (kS : List Kr → S → Prop), yY P E mdS ops i l ks kn s kS → zP4 P E ops i l ks kn s kS := by
  intro l
  induction l with
  | nil =>
    intro i ks kn s kS h
    exact ⟨fun _ => s, fun _ => none, ks, rfl, by intro k o h; simp at h, h, fun R _ k => rfl, fun p h => h, by intro k q h; simp at h⟩
  | cons o rest ih =>
    intro i ks kn s kS h
    have cons : ∀ (s1 : S) (x : Option Kr) (ks1 : List Kr) (kn1 : List (Nat × Bool)), zmQ P E ops i o s s1 x → (∀ p ∈ ks, p ∈ ks1) → (∀ q, x = some q → q ∈ ks1) → yY P E mdS ops (i + 1) rest ks1 kn1 s1 kS →
        (∀ (R : Type) [Inhabited R] (k : List Kr → S → R), yY P E (mdV R) ops i (o :: rest) ks kn s k = yY P E (mdV R) ops (i + 1) rest ks1 kn1 s1 k) →
        zP4 P E ops i (o :: rest) ks kn s kS := by
      intro s1 x ks1 kn1 hs h1 h2 he hv
      obtain ⟨st, info, ks', g1, g2, g3, g4, g5, g6⟩ := ih (i + 1) ks1 kn1 s1 kS he
      have hst : ∀ m, i < m → (if m ≤ i then s else st m) = st m := fun m hm => by rw [if_neg (by omega)]
      have hin : ∀ m, i < m → (if m ≤ i then x else info m) = info m := fun m hm => by rw [if_neg (by omega)]
      have hlen : i + (o :: rest).length = i + 1 + rest.length := by simp; omega
      refine ⟨fun m => if m ≤ i then s else st m, fun m => if m ≤ i then x else info m, ks', by simp, fun k o' hk => ?_, ?_, fun R _ k => ?_, fun p hp => g5 p (h1 p hp), fun k q hk hq => ?_⟩
      · cases k with
        | zero =>
          simp at hk
          subst hk
          simp only [Nat.add_zero, Nat.le_refl, if_true]
          rw [hst (i + 1) (by omega), g1]
          exact hs
        | succ k =>
          have := g2 k o' (by simpa using hk)
          simp only
          rw [hst (i + (k + 1)) (by omega), hst (i + (k + 1) + 1) (by omega), hin (i + (k + 1)) (by omega)]
          rwa [show i + 1 + k = i + (k + 1) by omega] at this
      · simp only
        rw [hst _ (by simp), hlen]; exact g3
      · simp only
        rw [hst _ (by simp), hlen, hv R k, g4 R k]
      · cases k with
        | zero =>
          simp only [Nat.add_zero, Nat.le_refl, if_true] at hq
          exact g5 _ (h2 q hq)
        | succ k =>
          simp only at hq
          rw [hin (i + (k + 1)) (by omega)] at hq
          exact g6 k q (by simpa using hk) (by rwa [show i + 1 + k = i + (k + 1) by omega])
    have run : ∀ (kn1 : List (Nat × Bool)), gw ops s o = some true → (match opV P E s.ev s.h o.op with
          | .bad => False
          | .mk q ok v H => mdS.chk ok (yY P E mdS ops (i + 1) rest (zKN i q o.op s.ev s.h v :: ks) kn1 ((s.upd q H).put o.dst v) kS)) →
        (∀ (R : Type) [Inhabited R] (k : List Kr → S → R), yY P E (mdV R) ops i (o :: rest) ks kn s k = (match opV P E s.ev s.h o.op with
          | .bad => default
          | .mk q ok v H => yY P E (mdV R) ops (i + 1) rest (zKN i q o.op s.ev s.h v :: ks) kn1 ((s.upd q H).put o.dst v) k)) → zP4 P E ops i (o :: rest) ks kn s kS := by
      intro kn1 hg h hv
      cases e : opV P E s.ev s.h o.op with
      | bad => rw [e] at h; exact h.elim
      | mk q ok v H =>
        rw [e] at h
        simp only at h
        have hok : okP ok ∧ yY P E mdS ops (i + 1) rest (zKN i q o.op s.ev s.h v :: ks) kn1 ((s.upd q H).put o.dst v) kS := by
          cases ok with
          | none => exact ⟨trivial, h⟩
          | some p => exact h
        exact cons _ (some (zKN i q o.op s.ev s.h v)) (zKN i q o.op s.ev s.h v :: ks) kn1 (.inl ⟨q, ok, v, H, rfl, hg, e, hok.1, rfl⟩) (fun p hp => List.mem_cons_of_mem _ hp) (fun q' e' => by cases e'; simp) hok.2 (fun R _ k => by rw [hv R k, e])
    have skip : ∀ (kn1 : List (Nat × Bool)), gw ops s o = some false → yY P E mdS ops (i + 1) rest ks kn1 (s.put o.dst (.c undef)) kS →
        (∀ (R : Type) [Inhabited R] (k : List Kr → S → R), yY P E (mdV R) ops i (o :: rest) ks kn s k = yY P E (mdV R) ops (i + 1) rest ks kn1 (s.put o.dst (.c undef)) k) → zP4 P E ops i (o :: rest) ks kn s kS :=
      fun kn1 hg h hv => cons _ none ks kn1 (.inr ⟨rfl, hg, rfl⟩) (fun p hp => hp) (fun q e => by cases e) h hv
    simp only [yY] at h
    cases hg : o.guard with
    | none =>
      rw [hg] at h
      simp only at h
      exact run kn (by simp [gw, hg]) h fun R _ k => by simp only [yY, hg]; rfl
    | some p =>
      obtain ⟨g, want⟩ := p
      rw [hg] at h
      simp only at h
      cases ht : (ops[g]?).bind (·.dst) with
      | none => rw [ht] at h; exact h.elim
      | some t =>
        rw [ht] at h
        simp only at h
        cases hv : s.r.getD t .any with
        | c x =>
          rw [hv] at h
          cases x with
          | bool b =>
            have hgw : gw ops s o = some (b == want) := by simp only [gw, hg, ht, hv]
            have hsame := zj4 hv
            cases hkn : zPu kn t with
            | none =>
              rw [hkn] at h
              cases want <;> cases b <;> simp only [mdS, cond_true, cond_false] at h
              · rw [hsame] at h
                exact run _ hgw h fun R _ k => by simp only [yY, hg, ht, hv, hkn, mdV, cond_false, hsame]; rfl
              · rw [hsame] at h
                exact skip _ hgw h fun R _ k => by simp only [yY, hg, ht, hv, hkn, mdV, cond_true, hsame]
              · rw [hsame] at h
                exact skip _ hgw h fun R _ k => by simp only [yY, hg, ht, hv, hkn, mdV, cond_false, hsame]
              · rw [hsame] at h
                exact run _ hgw h fun R _ k => by simp only [yY, hg, ht, hv, hkn, mdV, cond_true, hsame]; rfl
            | some c =>
              rw [hkn] at h
              cases c <;> cases want <;> cases b <;> simp only [mdS, cond_true, cond_false] at h <;> first
                | (rw [hsame] at h
                   exact run _ hgw h fun R _ k => by simp only [yY, hg, ht, hv, hkn, mdV, cond_true, cond_false, hsame]; rfl)
                | (rw [hsame] at h
                   exact skip _ hgw h fun R _ k => by simp only [yY, hg, ht, hv, hkn, mdV, cond_true, cond_false, hsame])
                | exact run _ hgw h fun R _ k => by simp only [yY, hg, ht, hv, hkn]; rfl
                | exact skip _ hgw h fun R _ k => by simp only [yY, hg, ht, hv, hkn]
          | tuple vs =>
            have hgw : gw ops s o = some false := by simp only [gw, hg, ht, hv]
            have h' : yY P E mdS ops (i + 1) rest ks kn (s.put o.dst (.c undef)) kS := by
              cases hkn : zPu kn t with
              | none => rw [hkn] at h; exact h
              | some c => rw [hkn] at h; cases c <;> exact h
            refine skip kn hgw h' fun R _ k => ?_
            simp only [yY, hg, ht, hv]
          | _ => cases hkn : zPu kn t <;> rw [hkn] at h <;> first | exact h.elim | (rename_i c; cases c <;> exact h.elim)
        | _ => rw [hv] at h; cases hkn : zPu kn t <;> rw [hkn] at h <;> first | exact h.elim | (rename_i c; cases c <;> exact h.elim)
end
end Go.Proofs.YtipbfgknaihifaaGreat
namespace Go.Proofs.YtipbfgknaihifaaGreat
open Go.RowKit
def ye.upto (ρ : ye) (m : Nat) : ye := fun o => if o < m then ρ o else none
theorem ye.upto_le {ρ : ye} {m : Nat} : ∀ o p, (ρ.upto m) o = some p → ρ o = some p := by
 intro o p e; unfold ye.upto at e; split at e; exact e; cases e
theorem ye.upto_lt {ρ : ye} {m o : Nat} {p : Pl} (h : ρ o = some p) (hm : o < m) : (ρ.upto m) o = some p := by unfold ye.upto; rw [if_pos hm]; exact h
theorem ye.upto_dom {ρ : ye} {m o : Nat} {p : Pl} (h : (ρ.upto m) o = some p) : o < m := by unfold ye.upto at h; split at h; assumption; cases h
inductive Wf (m : Nat) : V → Prop
 | any : Wf m .any
 | c (x : Value) : Wf m (.c x)
 | nil0 : Wf m .nil0
 | ext {q : Nat} (t : Ty) (l : List (El t)) (h : q ≤ m) : Wf m (.ext q t l)
 | ept {q : Nat} (t : Ty) (l : List (El t)) (i : Int) (off : Nat) (h : q ≤ m) : Wf m (.ept q t l i off)
 | ptr {o off : Nat} (h : o < m) : Wf m (.ptr o off)
 | obj {o : Nat} (h : o < m) : Wf m (.obj o)
 | opt {s : OT} {o off : Nat} {i : Int} (h : o < m) : Wf m (.opt s o i off)
 | agg {vs : List V} (h : ∀ u ∈ vs, Wf m u) : Wf m (.agg vs)
 | tup {vs : List V} (h : ∀ u ∈ vs, Wf m u) : Wf m (.tup vs)
 | fn {f : Nat} {vs : List V} (h : ∀ u ∈ vs, Wf m u) : Wf m (.fn f vs)
 | bx {vs : List V} {off : Nat} (h : ∀ u ∈ vs, Wf m u) : Wf m (.bx vs off)
theorem Wf.mono {m n : Nat} {v : V} (h : Wf m v) (hm : m ≤ n) : Wf n v := by
 induction h with
 | any => exact .any
 | c x => exact .c x
 | nil0 => exact .nil0
 | ext t l h => exact .ext t l (by omega)
 | ept t l i off h => exact .ept t l i off (by omega)
 | ptr h => exact .ptr (by omega)
 | obj h => exact .obj (by omega)
 | opt h => exact .opt (by omega)
 | agg _ ih => exact .agg ih
 | tup _ ih => exact .tup ih
 | fn _ ih => exact .fn ih
 | bx _ ih => exact .bx ih
section
variable {P : Program} {E : Env} {ρ ρ' ρ0 : ye} {Z Z' : Zs} {H H' Hs : List Ob} {w w' w0 : World} {Z0 : En}
theorem zKi {vs : List V} {xs : List Value} {p : V → Value → Prop} (hl : xs.length = vs.length) (h : ∀ (i : Nat) (u : V) (y : Value), vs[i]? = some u → xs[i]? = some y → p u y) : ∀ u ∈ vs, ∃ y, p u y := by
 intro u hu
 obtain ⟨i, hi⟩ := List.mem_iff_getElem?.1 hu
 have hlt : i < xs.length := by rw [hl]; exact (List.getElem?_eq_some_iff.1 hi).1
 exact ⟨_, h i u _ hi (List.getElem?_eq_getElem hlt)⟩
theorem Qk.wf {q m : Nat} (h : Qk ρ q) (hd : ∀ o p, ρ o = some p → o < m) : q ≤ m := by
 cases q with
 | zero => omega
 | succ o => obtain ⟨p, e⟩ := h o rfl; have := hd o p e; omega
theorem Qk.upto {q m : Nat} (h : Qk ρ q) (hm : q ≤ m) : Qk (ρ.upto m) q := by
 intro o e
 obtain ⟨p, g⟩ := h o e
 exact ⟨p, ye.upto_lt g (by omega)⟩
theorem Bk.upto {q m b : Nat} (h : Bk ρ Z q b) (hm : q ≤ m) : Bk (ρ.upto m) Z q b := by
 rcases h with h | ⟨o, p, e, g, k⟩
 ·exact .inl h
 ·exact .inr ⟨o, p, e, ye.upto_lt g (by omega), k⟩
theorem Cn.wf {v : V} {x : Value} {m : Nat} (h : Cn ρ Z w v x) (hd : ∀ o p, ρ o = some p → o < m) : Wf m v := by
 induction h with
 | any x => exact .any
 | c x => exact .c x
 | nil0 a => exact .nil0
 | ext ys hq => exact .ext _ _ (hq.wf hd)
 | ept ys hq => exact .ept _ _ _ _ (hq.wf hd)
 | ptr h => exact .ptr (hd _ _ h)
 | obj h _ => exact .obj (hd _ _ h)
 | opt h _ _ => exact .opt (hd _ _ h)
 | agg h0 _ ih => exact .agg fun u hu => (zKi h0 ih u hu).elim fun _ h => h
 | tup h0 _ ih => exact .tup fun u hu => (zKi h0 ih u hu).elim fun _ h => h
 | fn h0 _ ih => exact .fn fun u hu => (zKi h0 ih u hu).elim fun _ h => h
 | bx h0 h1 h2 _ ih =>
  rename_i xs _
  refine .bx fun u hu => ?_
  obtain ⟨i, hi⟩ := List.mem_iff_getElem?.1 hu
  have hlt := (List.getElem?_eq_some_iff.1 hi).1
  exact ih i u _ hi (Array.getElem?_eq_getElem (by omega))
theorem zVc {q m : Nat} (hm : q ≤ m) : ∀ (t : Ty) (x : El t), ∀ u ∈ enc q t x, Wf m u
 | .int, _, u, h => by simp [enc] at h; subst h; exact .c _
 | .u8, _, u, h => by simp [enc] at h; subst h; exact .c _
 | .bool, _, u, h => by simp [enc] at h; subst h; exact .c _
 | .str, _, u, h => by simp [enc] at h; subst h; exact .c _
 | .lst t, l, u, h => by simp [enc] at h; subst h; exact .ext t l hm
 | .pr a b, x, u, h => by
  simp only [enc, List.mem_append] at h
  rcases h with h | h
  ·exact zVc hm a x.1 u h
  ·exact zVc hm b x.2 u h
theorem Cn.upto {v : V} {x : Value} {m : Nat} (h : Cn ρ Z w v x) (hw : Wf m v) : Cn (ρ.upto m) Z w v x := by
 induction h with
 | any x => exact .any x
 | c x h => exact .c x h
 | nil0 a => exact .nil0 a
 | ext ys hq h0 h1 h2 h3 h4 h5 h6 ih => cases hw with | ext _ _ hm => exact .ext ys (hq.upto hm) h0 h1 h2 h3 (h4.imp id fun h => ⟨h.1, h.2.upto hm⟩) h5 fun i x j u hx hu => ih i x j u hx hu (zVc hm _ _ u (List.mem_of_getElem? hu))
 | ept ys hq h0 h4 h5 h6 ih => cases hw with | ept _ _ _ _ hm => exact .ept ys (hq.upto hm) h0 (h4.upto hm) h5 fun i x j u hx hu => ih i x j u hx hu (zVc hm _ _ u (List.mem_of_getElem? hu))
 | ptr h => cases hw with | ptr hm => exact .ptr (ye.upto_lt h hm)
 | obj h hx => cases hw with | obj hm => exact .obj (ye.upto_lt h hm) hx
 | opt h hx h0 => cases hw with | opt hm => exact .opt (ye.upto_lt h hm) hx h0
 | agg h0 _ ih => cases hw with | agg hm => exact .agg h0 fun i u y hu hy => ih i u y hu hy (hm u (List.mem_of_getElem? hu))
 | tup h0 _ ih => cases hw with | tup hm => exact .tup h0 fun i u y hu hy => ih i u y hu hy (hm u (List.mem_of_getElem? hu))
 | fn h0 _ ih => cases hw with | fn hm => exact .fn h0 fun i u y hu hy => ih i u y hu hy (hm u (List.mem_of_getElem? hu))
 | bx h0 h1 h2 _ ih => cases hw with | bx hm => exact .bx h0 h1 h2 fun i u y hu hy => ih i u y hu hy (hm u (List.mem_of_getElem? hu))
theorem Wf.scrub0 {m o : Nat} {v : V} (h : Wf m v) : Wf m (scrub0 o v) := by
 cases h with
 | c x => exact .c x
 | nil0 => exact .nil0
 | any => exact .any
 | ext t l h =>
  rename_i q
  cases q with
  | zero => exact .ext t l h
  | succ q => simp only [Go.Proofs.YtipbfgknaihifaaGreat.scrub0]; split; exact .any; exact .ext t l h
 | ptr h => simp only [Go.Proofs.YtipbfgknaihifaaGreat.scrub0]; split; exact .any; exact .ptr h
 | obj h => simp only [Go.Proofs.YtipbfgknaihifaaGreat.scrub0]; split; exact .any; exact .obj h
 | opt h => simp only [Go.Proofs.YtipbfgknaihifaaGreat.scrub0]; split; exact .any; exact .opt h
 | _ => exact .any
theorem Wf.scrub {m o : Nat} {v : V} (h : Wf m v) : Wf m (scrub o v) := by
 have inner : ∀ vs : List V, (∀ u ∈ vs, Wf m u) → ∀ u ∈ vs.map (Go.Proofs.YtipbfgknaihifaaGreat.scrub0 o), Wf m u := by
  intro vs h u hu
  obtain ⟨u', h1, rfl⟩ := List.mem_map.1 hu
  exact (h u' h1).scrub0
 cases h with
 | agg h => exact .agg (inner _ h)
 | tup h => exact .tup (inner _ h)
 | fn h => exact .fn (inner _ h)
 | bx h => exact .bx (inner _ h)
 | c x => exact Wf.scrub0 (o := o) (.c x)
 | nil0 => exact Wf.scrub0 (o := o) .nil0
 | any => exact Wf.scrub0 (o := o) .any
 | ext t l h => exact Wf.scrub0 (o := o) (.ext t l h)
 | ept => exact .any
 | ptr h => exact Wf.scrub0 (o := o) (.ptr h)
 | obj h => exact Wf.scrub0 (o := o) (.obj h)
 | opt h => exact Wf.scrub0 (o := o) (.opt h)
theorem zdz {m : Nat} {v : V} {vs : List V} (h : Wf m v) (hv : zIL v = some vs) : ∀ u ∈ vs, Wf m u := by
 unfold zIL at hv
 split at hv
 ·cases hv; cases h with | agg h => exact h
 ·cases hv
  intro u hu
  obtain ⟨x, _, rfl⟩ := List.mem_map.1 hu
  exact .c x
 ·split at hv
  ·cases hv; intro u hu; simp at hu; subst hu; exact h
  ·cases hv
theorem ziO {m : Nat} (place : Nat → Option (Nat × Nat)) : ∀ (parts : List (Nat × V)) (zs cs : List V), (∀ u ∈ zs, Wf m u) → (∀ p ∈ parts, Wf m p.2) → zK8 place zs parts = some cs → ∀ u ∈ cs, Wf m u := by
 intro parts
 induction parts with
 | nil => intro zs cs h _ e; cases e; exact h
 | cons p parts ih =>
  intro zs cs h hp e
  obtain ⟨i, v⟩ := p
  simp only [zK8] at e
  split at e
  ·rename_i off size vs e1 e2
   split at e
   ·refine ih _ cs (fun u hu => ?_) (fun p hp' => hp p (List.mem_cons_of_mem _ hp')) e
    rcases List.mem_append.1 hu with hu | hu
    ·rcases List.mem_append.1 hu with hu | hu
     ·exact h u (List.mem_of_mem_take hu)
     ·exact zdz (hp (i, v) (by simp)) e2 u hu
    ·exact h u (List.mem_of_mem_drop hu)
   ·cases e
  ·cases e
theorem zh7 {m : Nat} {t : TypeId} {cs : List V} {off : Nat} {v : V} (h : ∀ u ∈ cs, Wf m u) (hp : zI7 P t cs off = some v) : Wf m v := by
 unfold zI7 at hp
 split at hp
 ·split at hp
  ·cases hp; exact .agg fun u hu => h u (List.mem_of_mem_drop (List.mem_of_mem_take hu))
  ·cases hp
 ·exact h v (List.mem_of_getElem? hp)
 ·cases hp
theorem zmR {wr : Bool} {op : BinOp} {t : TypeId} {x y : V} {q : Nat} {ok : Option Prop} {v : V} {m : Nat} (h : zOd P wr op t x y H = .mk q ok v H') : Wf m v := by
 have hi : ∀ {op : BinOp} {k : IntKind} {a b : Int}, zPq wr op k a b H = .mk q ok v H' → Wf m v := by
  intro op k a b h
  unfold zPq zVa at h
  cases op <;> cases wr <;> simp only [ze7, if_true, Bool.false_eq_true, if_false] at h <;> cases h <;> exact .c _
 unfold zOd at h
 split at h
 ·split at h
  ·simp only [shV] at h; cases h; exact .c _
  ·simp only [shV] at h; cases h; exact .c _
  ·split at h
   ·exact hi h
   ·cases h
 ·split at h
  ·cases h; exact .c _
  ·split at h
   ·cases h; exact .c _
   ·cases h
 ·unfold eqV at h
  split at h
  ·cases h
  ·split at h
   ·cases op <;> simp only at h <;> first | (cases h; exact .c _) | cases h
   ·cases h
theorem zmW {ev : Operand → V} {op : Op} {ok : Option Prop} {v : V} {m : Nat} (h : opV P E ev H op = .mk 0 ok v H') (hx : ∀ x ∈ op.operands, Wf m (ev x)) : Wf m v := by
 have other : xr P E.g ev H op = .mk 0 ok v H' → Wf m v := by
  intro h
  have hk : (xr P E.g ev H op).k0 := by rw [h]; rfl
  cases op with
  | move x => cases h; exact hx x (by simp [Op.operands])
  | assign x => cases h; exact hx x (by simp [Op.operands])
  | pick c x y =>
   simp only [xr] at h
   split at h
   ·rename_i q _
    cases h
    have h1 := hx x (by simp [Op.operands])
    have h2 := hx y (by simp [Op.operands])
    unfold zkS
    split
    ·split
     ·exact .c _
     ·cases q <;> exact .c _
    ·exact .c _
    ·exact .c _
    ·cases q
     ·exact h2
     ·exact h1
   ·cases h
  | build t parts =>
   simp only [xr, zKo] at h
   split at h
   ·split at h
    ·rename_i e3 _
     obtain ⟨_, z, _, _, _, rfl, _⟩ := zDP e3
     split at h
     ·rename_i cs e
      cases h
      refine .agg (ziO _ _ _ cs (fun u hu => ?_) (fun p hp => ?_) e)
      ·obtain ⟨x, _, rfl⟩ := List.mem_map.1 hu
       exact .c x
      ·obtain ⟨q, hq, rfl⟩ := List.mem_map.1 hp
       exact hx q.2 (by simp only [Op.operands]; simp; exact ⟨q.1, by simpa using hq⟩)
     ·cases h
    ·cases h
   ·cases h
  | nilCheck x =>
   have h1 := hx x (by simp [Op.operands])
   simp only [xr] at h
   split at h
   ·rename_i e; cases h; rw [e] at h1; exact h1
   ·rename_i e; cases h; rw [e] at h1; exact h1
   ·rename_i e; cases h; rw [e] at h1; exact h1
   ·rename_i e; cases h; rw [e] at h1; exact h1
   ·cases h
  | binOp op t x y u =>
   simp only [xr] at h
   exact zmR h
  | unOp op t x => simp only [xr, unV] at h; split at h <;> cases h <;> exact .c _
  | convert s d x => simp only [xr, zPU] at h; split at h <;> cases h <;> exact .c _
  | makeFunc fn first caps =>
   cases fn with
   | func f =>
    simp only [xr] at h
    split at h
    ·cases h
     refine .fn fun u hu => ?_
     obtain ⟨x, hx', rfl⟩ := List.mem_map.1 hu
     exact hx x (by simp only [Op.operands]; simp; exact .inr (by simpa using hx'))
    ·cases h
   | _ => cases h
  | slice t x lo hi mx =>
   cases mx with
   | none =>
    simp only [xr, zJN] at h
    split at h
    ·split at h
     ·split at h
      ·cases h; exact .c _
      ·cases h
     ·cases h
    ·split at h
     ·split at h
      ·split at h
       ·cases h
       ·cases h
      ·cases h
     ·cases h
    ·cases h
   | some m => cases h
  | fieldAddr t x f =>
   have h1 := hx x (by simp [Op.operands])
   simp only [xr] at h
   split at h
   ·split at h
    ·cases h
    ·split at h
     ·rename_i u e
      cases h
      generalize ev x = y at h1 e
      cases h1 with
      | ptr hm => cases e; exact .ptr hm
      | bx hm => cases e; exact .bx hm
      | ept _ _ _ _ hm => cases e; exact .ept _ _ _ _ hm
      | opt hm => cases e; exact .opt hm
      | _ => cases e
     ·cases h
   ·cases h
  | field t x f =>
   have h1 := hx x (by simp [Op.operands])
   simp only [xr] at h
   split at h
   ·rename_i off u cs e1 e2
    split at h
    ·rename_i v' e3
     cases h
     rw [e2] at h1
     cases h1 with
     | agg h1 => exact zh7 h1 e3
    ·cases h
   ·cases h
  | index t x y => simp only [xr, zY1] at h; split at h <;> cases h <;> exact .c _
  | extract x i =>
   have h1 := hx x (by simp [Op.operands])
   simp only [xr] at h
   split at h
   ·rename_i vs e
    split at h
    ·rename_i v' e'
     cases h
     rw [e] at h1
     cases h1 with
     | tup h1 => exact h1 _ (List.mem_of_getElem? e')
    ·cases h
   ·cases h
  | call c =>
   obtain ⟨callee, args, argTypes⟩ := c
   cases callee with
   | builtin b =>
    cases b with
    | len =>
     simp only [xr] at h
     split at h
     ·unfold zM2 at h
      split at h
      ·cases h; exact .c _
      ·cases h
      ·cases h; exact .c _
      ·cases h; exact .c _
      ·split at h <;> cases h
      ·cases h
     ·cases h
    | append =>
     simp only [xr] at hk
     split at hk
     ·split at hk
      ·exact absurd hk (zVw _ _ _ _ _ _).2
      ·exact hk.elim
     ·exact hk.elim
    | _ => cases h
   | _ => cases h
  | alloc t => simp only [xr] at h; split at h <;> cases h
  | box t x => simp only [xr] at h; split at h <;> cases h
  | buildSlice t n parts => exact absurd hk (zWy _ _ _ _ _ _).2
  | load t x => simp only [xr] at h; split at h; split at h <;> cases h; cases h
  | store t x y => exact absurd hk (zO5 _ _ _ _ _).2
  | makeSlice t x y =>
   simp only [xr, zO9] at h
   split at h
   ·split at h
    ·split at h
     ·split at h <;> cases h
     ·cases h
    ·cases h
   ·cases h
  | indexAddr t x y =>
   simp only [xr, zCG] at h
   split at h
   ·split at h <;> cases h
   ·split at h
    ·split at h <;> cases h
    ·split at h <;> cases h
    ·cases h
   ·cases h
  | _ => cases h
 cases op with
 | call c =>
  obtain ⟨callee, args, argTypes⟩ := c
  cases callee with
  | value f =>
   have := zQV (H2 := H) h
   simp only [opV] at h
   split at h
   ·rename_i f caps _
    have := (zQ8 (E.fn f) (args.toList.map ev ++ caps) H).2
    rw [h] at this
    exact absurd rfl this
   ·cases h
  | _ => exact other h
 | _ => exact other h
end
end Go.Proofs.YtipbfgknaihifaaGreat
namespace Go.Proofs.YtipbfgknaihifaaGreat
open Go.RowKit
section
variable {P : Program} {E : Env}
theorem zXk {H H2 : List Ob} {v : V} (h : ∀ o ∈ names v, H2[o]? = H[o]?) : zFi H2 v = zFi H v := by
 cases v with
 | ptr o off => simp only [zFi]; rw [h o (by simp [names, names1, names0])]
 | opt s o i off => simp only [zFi]; rw [h o (by simp [names, names1, names0])]
 | _ => rfl
theorem ziu {ev : Operand → V} {op : Op} {H H' : List Ob} {q : Nat} {ok : Option Prop} {v : V} (h : opV P E ev H op = .mk q ok v H') (hr : rdr q op = true) : H' = H ∧ ∀ H2, (∀ x ∈ op.operands, ∀ o ∈ names (ev x), H2[o]? = H[o]?) → opV P E ev H2 op = .mk q ok v H2 := by
 have zero : q = 0 → H' = H ∧ ∀ H2, (∀ x ∈ op.operands, ∀ o ∈ names (ev x), H2[o]? = H[o]?) → opV P E ev H2 op = .mk q ok v H2 := by
  intro hq
  subst hq
  have hk := zXB P E ev H op
  rw [h] at hk
  exact ⟨hk.2.2 rfl, fun H2 _ => zQV h⟩
 cases op with
 | load t a =>
  simp only [opV, xr] at h
  split at h
  ·rename_i cs off e
   split at h
   ·rename_i w e2
    cases h
    refine ⟨rfl, fun H2 hs => ?_⟩
    simp only [opV, xr]
    rw [zXk (hs a (by simp [Op.operands])), e]
    simp only [e2]
   ·cases h
  ·cases h
 | indexAddr t x i =>
  simp only [opV, xr] at h
  unfold zCG at h
  split at h
  ·rename_i e1 e2 e3
   split at h
   ·rename_i e4
    cases h
    refine ⟨rfl, fun H2 hs => ?_⟩
    simp only [opV, xr, zCG, e1, e2, e3, if_pos e4]
   ·cases h
  ·rename_i e o i' e1 e2 e3
   split at h
   ·rename_i s l e4
    split at h
    ·rename_i e5
     cases h
     refine ⟨rfl, fun H2 hs => ?_⟩
     have := hs x (by simp [Op.operands]) o (by rw [e2]; simp [names, names1, names0])
     simp only [opV, xr, zCG, e1, e2, e3, this, e4, if_pos e5]
    ·cases h
   ·rename_i τ l e4
    split at h
    ·rename_i e5
     cases h
     refine ⟨rfl, fun H2 hs => ?_⟩
     have := hs x (by simp [Op.operands]) o (by rw [e2]; simp [names, names1, names0])
     simp only [opV, xr, zCG, e1, e2, e3, this, e4, if_pos e5]
    ·cases h
   ·cases h
  ·cases h
 | slice t x lo hi mx =>
  cases mx with
  | some m => cases h
  | none =>
   have hset : ∀ H2, opV P E ev H2 (.slice t x lo hi none) = (opV P E ev H (.slice t x lo hi none)).setH H2 := by
    intro H2
    simp only [opV, xr, zJN]
    split
    ·split
     ·split <;> rfl
     ·rfl
    ·split
     ·split
      ·split <;> rfl
      ·rfl
     ·rfl
    ·rfl
   have hH : H' = H := by
    have := hset H
    rw [h] at this
    simp only [Eff.setH, Eff.mk.injEq] at this
    exact this.2.2.2
   exact ⟨hH, fun H2 _ => by rw [hset, h]; rfl⟩
 | call c =>
  obtain ⟨callee, args, argTypes⟩ := c
  cases callee with
  | builtin b =>
   cases b with
   | len =>
    simp only [opV, xr] at h
    split at h
    ·rename_i x t e1 e2
     have hx : x ∈ args := by
      have : x ∈ args.toList := by rw [e1]; simp
      simpa using this
     unfold zM2 at h
     split at h
     ·rename_i e3 e4
      cases h
      exact ⟨rfl, fun H2 _ => by simp only [opV, xr, e1, e2, zM2, e3, e4]⟩
     ·rename_i e3 e4
      cases h
      exact ⟨rfl, fun H2 _ => by simp only [opV, xr, e1, e2, zM2, e3, e4]⟩
     ·rename_i e3 e4
      cases h
      exact ⟨rfl, fun H2 _ => by simp only [opV, xr, e1, e2, zM2, e3, e4]⟩
     ·rename_i e3 e4
      cases h
      exact ⟨rfl, fun H2 _ => by simp only [opV, xr, e1, e2, zM2, e3, e4]⟩
     ·rename_i o e3 e4
      have hn : ∀ H2 : List Ob, (∀ x ∈ (Op.call { callee := .builtin .len, args := args, argTypes := argTypes }).operands, ∀ o ∈ names (ev x), H2[o]? = H[o]?) → H2[o]? = H[o]? := fun H2 hs => hs x (by simp [Op.operands, Call.operands, hx]) o (by rw [e4]; simp [names, names1, names0])
      split at h
      ·rename_i e5
       cases h
       exact ⟨rfl, fun H2 hs => by simp only [opV, xr, e1, e2, zM2, e3, e4, hn H2 hs, e5]⟩
      ·rename_i e5
       cases h
       exact ⟨rfl, fun H2 hs => by simp only [opV, xr, e1, e2, zM2, e3, e4, hn H2 hs, e5]⟩
      ·cases h
     ·cases h
    ·cases h
   | _ => exact zero (by simpa [rdr] using hr)
  | _ => exact zero (by simpa [rdr] using hr)
 | _ => exact zero (by simpa [rdr] using hr)
end
end Go.Proofs.YtipbfgknaihifaaGreat
namespace Go.Proofs.YtipbfgknaihifaaGreat
open Go.RowKit
section
variable {P : Program} {E : Env} {H H1 H' : List Ob} {R : List Nat}
theorem zYs {q : Nat} {v : V} (hk : zEi R v = true) (hq : ∀ o, zAq q o = true ∨ zDT q o = true → o ∈ R) : scrub q v = v := by
 have hh : ∀ o, R.contains o = false → zAq q o = false ∧ zDT q o = false := by
  intro o h
  constructor
  ·cases e : zAq q o with
   | false => rfl
   | true => rw [List.contains_iff_mem.2 (hq o (.inl e))] at h; cases h
  ·cases e : zDT q o with
   | false => rfl
   | true => rw [List.contains_iff_mem.2 (hq o (.inr e))] at h; cases h
 cases v with
 | c x => rfl
 | nil0 => rfl
 | ext k t l =>
  cases k with
  | zero => rfl
  | succ o => simp only [zEi, Bool.not_eq_true'] at hk; simp [scrub, scrub0, (hh o hk).2]
 | obj o => simp only [zEi, Bool.not_eq_true'] at hk; simp [scrub, scrub0, (hh o hk).1]
 | opt s o i off => simp only [zEi, Bool.not_eq_true'] at hk; simp [scrub, scrub0, (hh o hk).1]
 | ptr o off => simp only [zEi, Bool.not_eq_true'] at hk; simp [scrub, scrub0, (hh o hk).1]
 | _ => simp [zEi] at hk
theorem zYU {q : Nat} {x : Ob} (hk : zR2 R x = true) (hq : ∀ o, zAq q o = true ∨ zDT q o = true → o ∈ R) : zDr q x = x := by
 cases x with
 | box cs =>
  simp only [zR2, List.all_eq_true] at hk
  simp only [zDr, Ob.box.injEq]
  conv => rhs; rw [← List.map_id cs]
  exact List.map_congr_left fun v hv => zYs (hk v hv) hq
 | _ => rfl
theorem zH4 {fz : List Nat} : ∀ {H : List Ob} {o : Nat}, o ∉ fz → (freezeL H fz)[o]? = H[o]? := by
 induction fz with
 | nil => intro H o _; rfl
 | cons a fz ih =>
  intro H o h
  simp only [List.mem_cons, not_or] at h
  show (freezeL (freeze1 H a) fz)[o]? = _
  rw [ih h.2]
  unfold freeze1
  split
  ·rw [List.getElem?_set_ne (Ne.symm h.1)]
  ·rfl
theorem zIH {os : List Nat} {q o : Nat} (ho : o < H1.length) (hn : o ∉ R) (hk : zR2 R (H1.getD o .gone) = true) (hos : ∀ x, x ∈ os → x ∈ R) (hq : ∀ o, zAq q o = true ∨ zDT q o = true → o ∈ R) : (yK H1 os q)[o]? = H1[o]? := by
 unfold yK
 split
 ·rfl
 ·rename_i a l
  have e : H1[o]? = some H1[o] := List.getElem?_eq_getElem ho
  rw [List.getElem?_map, zGi, e]
  have hc : (a :: l).contains o = false := by
   cases e : (a :: l).contains o with
   | false => rfl
   | true => exact absurd (hos o (List.contains_iff_mem.1 e)) hn
  simp only [Option.map_some, hc, cond_false, Option.some.injEq]
  rw [List.getD_eq_getElem?_getD, e, Option.getD_some] at hk
  exact zYU hk hq
theorem zM6 : ∀ {cs : List V} {o : Nat}, o ∈ zKu cs → V.obj o ∈ cs
 | [], _, h => by simp [zKu] at h
 | v :: cs, o, h => by
  have tail : o ∈ zKu cs → V.obj o ∈ v :: cs := fun h => List.mem_cons_of_mem _ (zM6 h)
  cases v with
  | obj o' =>
   simp only [zKu, List.mem_cons] at h
   rcases h with rfl | h
   ·exact List.mem_cons_self
   ·exact tail h
  | _ => exact tail h
theorem zK9 : ∀ {s : OT} {vs : List V} {o : Nat}, o ∈ zau s vs → V.obj o ∈ vs
 | .d t, vs, o, h => zM6 h
 | .o s, vs, o, h => by simp [zau] at h
 | .pr a b, vs, o, h => by
  simp only [zau, List.mem_append] at h
  rcases h with h | h
  ·exact List.mem_of_mem_take (zK9 h)
  ·exact List.mem_of_mem_drop (zK9 h)
theorem zkU {vs : List V} {o : Nat} (h : id1 vs = some o) : V.obj o ∈ vs := by
 unfold id1 at h
 split at h
 ·cases h; exact List.mem_cons_self
 ·cases h
theorem zKg : ∀ {s : OT} {vs : List V} {o : Nat}, some o ∈ zIP s vs → V.obj o ∈ vs
 | .d t, vs, o, h => by simp [zIP] at h
 | .o s, vs, o, h => by
  simp only [zIP, List.mem_singleton] at h
  exact zkU h.symm
 | .pr a b, vs, o, h => by
  simp only [zIP, List.mem_append] at h
  rcases h with h | h
  ·exact List.mem_of_mem_take (zKg h)
  ·exact List.mem_of_mem_drop (zKg h)
theorem zMu {agg : Bool} {v : V} {o : Nat} (h : V.obj o ∈ (cellsOf agg v).getD []) : o ∈ names1 v := by
 unfold cellsOf at h
 split at h
 ·split at h
  ·rename_i vs
   simp only [Option.getD_some] at h
   simp only [names1, List.mem_flatMap]
   exact ⟨_, h, by simp [names0]⟩
  ·simp at h
 ·simp only [Option.getD_some, List.mem_singleton] at h
  rw [← h]; simp [names1, names0]
theorem zOo {H : List Ob} {vs : List V} {v : V} {o : Nat} (hv : v ∈ vs) (h : o ∈ names v) : o ∈ v9 H (vs.flatMap names) :=
 List.mem_append_left _ (List.mem_flatMap.2 ⟨v, hv, h⟩)
def In1 (R : List Nat) (v : V) : Prop := ∀ o ∈ names1 v, o ∈ R
theorem zbd {H : List Ob} {v : V} {o : Nat} (hv : In1 R v) (h : o ∈ names1 v) : o ∈ v9 H R := List.mem_append_left _ (hv o h)
theorem zVR {H : List Ob} {v : V} {b o : Nat} {cs : List V} (hv : In1 R v) (h : b ∈ names1 v) (hb : H[b]? = some (.box cs)) (ho : V.obj o ∈ cs) : o ∈ v9 H R := by
 refine List.mem_append_right _ (List.mem_flatMap.2 ⟨b, hv b h, ?_⟩)
 rw [hb]
 exact List.mem_flatMap.2 ⟨_, ho, by simp [names, names1, names0]⟩
theorem zQ9 {H : List Ob} {n : Nat} {v : V} {u : V} (h : u ∈ (zNG H n v).getD []) : ∃ b off cs, v = .ptr b off ∧ H[b]? = some (.box cs) ∧ u ∈ cs := by
 unfold zNG at h
 split at h
 ·rename_i b off
  split at h
  ·rename_i cs e
   split at h
   ·exact ⟨b, off, cs, rfl, e, List.mem_of_mem_drop (List.mem_of_mem_take h)⟩
   ·simp at h
  ·simp at h
 ·simp at h
theorem zgZ {fl : Bool} {H : List Ob} {d : AD} {v : V} (hv : In1 R v) {o : Nat} (h : o ∈ d.frz fl H v) : o ∈ v9 H R := by
 cases d with
 | val agg s =>
  simp only [AD.frz] at h
  cases fl with
  | true => simp at h
  | false => exact zbd hv (zMu (zK9 h))
 | ref s =>
  simp only [AD.frz] at h
  obtain ⟨b, off, cs, rfl, e, hc⟩ := zQ9 (zK9 h)
  exact zVR hv (by simp [names1, names0]) e hc
 | bx t off =>
  simp only [AD.frz] at h
  cases fl with
  | true => simp at h
  | false =>
   simp only [cond_false, zl3] at h
   split at h
   ·rename_i b off'
    split at h
    ·rename_i cs e; exact zVR hv (by simp [names1, names0]) e (zM6 h)
    ·simp at h
   ·simp at h
 | _ => simp [AD.frz] at h
theorem zSH {fl : Bool} {H : List Ob} : ∀ {ds : List AD} {vs : List V}, (∀ v ∈ vs, In1 R v) → ∀ {o : Nat}, o ∈ zGO fl H ds vs → o ∈ v9 H R
 | [], vs, _, o, h => by cases vs <;> simp [zGO] at h
 | d :: ds, [], _, o, h => by simp [zGO] at h
 | d :: ds, v :: vs, hu, o, h => by
  simp only [zGO, List.mem_append] at h
  rcases h with h | h
  ·exact zgZ (hu v List.mem_cons_self) h
  ·exact zSH (fun v hv => hu v (List.mem_cons_of_mem _ hv)) h
theorem zRe {fz : List Nat} {H : List Ob} : ∀ {ds : List AD} {vs : List V}, (∀ v ∈ vs, In1 R v) → ∀ {o : Nat}, some o ∈ zBO (freezeL H fz) ds vs → o ∈ v9 H R
 | [], vs, _, o, h => by cases vs <;> simp [zBO] at h
 | d :: ds, [], _, o, h => by simp [zBO] at h
 | d :: ds, v :: vs, hu, o, h => by
  simp only [zBO, List.mem_append] at h
  rcases h with h | h
  ·have hv := hu v List.mem_cons_self
   cases d with
   | val agg s => exact zbd hv (zMu (zKg h))
   | ref s =>
    obtain ⟨b, off, cs, rfl, e, hc⟩ := zQ9 (zKg h)
    exact zVR hv (by simp [names1, names0]) (zY3 (p0 := ⟨b, undef, 0, zA2⟩) (b := b) e rfl) hc
   | _ => simp [AD.ids] at h
  ·exact zRe (fun v hv => hu v (List.mem_cons_of_mem _ hv)) h
theorem zSQ {H : List Ob} : ∀ {ds : List AD} {vs : List V}, (∀ v ∈ vs, In1 R v) → ∀ {o : Nat}, o ∈ vz ds vs → o ∈ v9 H R
 | [], vs, _, o, h => by cases vs <;> simp [vz] at h
 | d :: ds, [], _, o, h => by simp [vz] at h
 | d :: ds, v :: vs, hu, o, h => by
  simp only [vz, List.mem_append] at h
  rcases h with h | h
  ·cases d with
   | ref s =>
    simp only [AD.bxs, zlX] at h
    split at h
    ·simp only [List.mem_singleton] at h; subst h; exact zbd (hu _ List.mem_cons_self) (by simp [names1, names0])
    ·simp at h
   | _ => simp [AD.bxs] at h
  ·exact zSQ (fun v hv => hu v (List.mem_cons_of_mem _ hv)) h
theorem zRH {l : List (Option Nat)} {o : Nat} : o ∈ xg l → some o ∈ l := by
 induction l with
 | nil => intro h; simp [xg] at h
 | cons a l ih =>
  intro h
  cases a with
  | none => exact List.mem_cons_of_mem _ (ih h)
  | some b =>
   simp only [xg, List.mem_cons] at h
   rcases h with rfl | h
   ·exact List.mem_cons_self
   ·exact List.mem_cons_of_mem _ (ih h)
theorem zf5 {d : FnD} {vs : List V} {H H' : List Ob} {q : Nat} {ok : Option Prop} {v : V} (h : zO7 d vs H = some (.mk q ok v H')) (hu : ∀ v ∈ vs, In1 R v) {o : Nat} (ho : o < H.length) (h1 : o ∉ v9 H R) (h2 : zR2 (v9 H R) (H.getD o .gone) = true) : H'[o]? = H[o]? := by
 unfold zO7 at h
 split at h
 ·cases h
 rename_i a H1 os bs hp
 unfold zOv at hp
 simp only at hp
 split at hp
 rotate_left
 ·cases hp
 split at hp
 rotate_left
 ·cases hp
 simp only [Option.some.injEq, Prod.mk.injEq] at hp
 obtain ⟨_, rfl, rfl, rfl⟩ := hp
 simp only [Option.some.injEq, Eff.mk.injEq] at h
 obtain ⟨hq, _, _, rfl⟩ := h
 have hf : o ∉ zGO d.flat H d.args vs := fun hm => h1 (zSH hu hm)
 have hos : ∀ x, x ∈ xg (zBO (freezeL H (zGO d.flat H d.args vs)) d.args vs) → x ∈ v9 H R := fun x hx => zRe hu (zRH hx)
 have hl : (freezeL H (zGO d.flat H d.args vs)).length = H.length := zF2 _ _
 rw [List.getElem?_append_left (by rw [zNV, x9, hl]; exact ho), zG7 _ _ _ _ _ (fun hm => h1 (zSQ hu hm)), zIH (R := v9 H R) (by omega) h1 ?_ hos ?_, zH4 hf]
 ·rw [List.getD_eq_getElem?_getD, zH4 hf, ← List.getD_eq_getElem?_getD]; exact h2
 ·intro x hx
  have := zI3 (hem := (zGO d.flat H d.args vs).isEmpty) (os := xg (zBO (freezeL H (zGO d.flat H d.args vs)) d.args vs)) (bs := vz d.args vs) x
  rw [this.1, this.2] at hx
  exact hos x (List.contains_iff_mem.1 (hx.elim id id))
theorem zhL {H H' : List Ob} {o : Nat} (ho : o < H.length) (h1 : o ∉ v9 H R) (h2 : zR2 (v9 H R) (H.getD o .gone) = true) : ∀ {l : List FnD} {vs : List V} {q : Nat} {ok : Option Prop} {v : V}, zIs l vs H = .mk q ok v H' → (∀ v ∈ vs, In1 R v) → H'[o]? = H[o]? := by
 intro l
 induction l with
 | nil => intro vs q ok v h; cases h
 | cons d l ih =>
  intro vs q ok v h hu
  unfold zIs at h
  split at h
  ·rename_i e he
   subst h
   exact zf5 he hu ho h1 h2
  ·exact ih h hu
theorem zRo : ∀ {vs : List V} {j : Nat} {r : Nat × OT × Nat × Int × Nat}, zMm vs j = some r → vs.any zOr = true
 | [], _, _, h => by simp [zMm] at h
 | v :: vs, j, r, h => by
  cases v with
  | opt s o i off => simp [zOr]
  | _ =>
   rw [List.any_cons, zRo (vs := vs) (j := j + 1) (r := r) h, Bool.or_true]
theorem zVH {place : Nat → Option (Nat × Nat)} {us : List V} {o : Nat} (hu : ∀ v ∈ us, o ∉ names v) : ∀ {parts : List (Nat × V)} {zs cs : List V}, (∀ p ∈ parts, p.2 ∈ us) → V.obj o ∉ zs → zK8 place zs parts = some cs → V.obj o ∉ cs
 | [], zs, cs, _, hz, h => by cases h; exact hz
 | (i, v) :: parts, zs, cs, hp, hz, h => by
  simp only [zK8] at h
  split at h
  ·rename_i off size vs e1 e2
   split at h
   ·refine zVH hu (fun p hp' => hp p (List.mem_cons_of_mem _ hp')) (fun hm => ?_) h
    rcases List.mem_append.1 hm with hm | hm
    ·rcases List.mem_append.1 hm with hm | hm
     ·exact hz (List.mem_of_mem_take hm)
     ·have hv := hu v (hp (i, v) List.mem_cons_self)
      unfold zIL at e2
      split at e2
      ·cases e2
       exact hv (by simp only [names, names1, List.mem_flatMap]; exact ⟨_, hm, by simp [names0]⟩)
      ·cases e2
       obtain ⟨x, _, hx⟩ := List.mem_map.1 hm
       cases hx
      ·split at e2
       ·cases e2
        simp only [List.mem_singleton] at hm
        exact hv (by rw [← hm]; simp [names, names1, names0])
       ·cases e2
    ·exact hz (List.mem_of_mem_drop hm)
   ·cases h
  ·cases h
termination_by parts => parts.length
theorem zT6 {k : Nat} : ∀ {n : Nat} {cs : List V} {v : V}, v ∈ zDy k n cs → ∃ l : List V, v = .agg l ∧ ∀ u ∈ l, u ∈ cs
 | 0, _, _, h => by simp [zDy] at h
 | n + 1, cs, v, h => by
  simp only [zDy, List.mem_cons] at h
  rcases h with rfl | h
  ·exact ⟨_, rfl, fun u hu => List.mem_of_mem_take hu⟩
  ·obtain ⟨l, e, g⟩ := zT6 h
   exact ⟨l, e, fun u hu => List.mem_of_mem_drop (g u hu)⟩
theorem zUV {s : OT} {H : List Ob} : ∀ {n : Nat} {vs : List V} {o : Nat}, o ∈ zGO false H (List.replicate n (.val true s)) vs → ∃ v ∈ vs, V.obj o ∈ (cellsOf true v).getD []
 | 0, vs, o, h => by cases vs <;> simp [zGO] at h
 | n + 1, [], o, h => by simp [List.replicate, zGO] at h
 | n + 1, v :: vs, o, h => by
  simp only [List.replicate, zGO, List.mem_append, AD.frz, cond_false] at h
  rcases h with h | h
  ·exact ⟨v, List.mem_cons_self, zK9 h⟩
  ·obtain ⟨u, h1, h2⟩ := zUV h
   exact ⟨u, List.mem_cons_of_mem _ h1, h2⟩
theorem zUZ {s : OT} {H : List Ob} : ∀ {n : Nat} {vs : List V} {o : Nat}, some o ∈ zBO H (List.replicate n (.val true s)) vs → ∃ v ∈ vs, V.obj o ∈ (cellsOf true v).getD []
 | 0, vs, o, h => by cases vs <;> simp [zBO] at h
 | n + 1, [], o, h => by simp [List.replicate, zBO] at h
 | n + 1, v :: vs, o, h => by
  simp only [List.replicate, zBO, List.mem_append, AD.ids] at h
  rcases h with h | h
  ·exact ⟨v, List.mem_cons_self, zKg h⟩
  ·obtain ⟨u, h1, h2⟩ := zUZ h
   exact ⟨u, List.mem_cons_of_mem _ h1, h2⟩
theorem zhZ {s : OT} {n : Nat} {cs : List V} {H H1 : List Ob} {xs : List (El s.ty)} {os : List Nat} {q : Nat} (h : zPV s n cs H = some (xs, H1, os, q)) : ∃ fz : List Nat, H1 = freezeL H fz ∧ (∀ o ∈ fz, V.obj o ∈ cs) ∧ (∀ o ∈ os, V.obj o ∈ cs) ∧ ∀ o, zAq q o = os.contains o ∧ zDT q o = os.contains o := by
 have inn : ∀ {v : V} {o : Nat}, v ∈ zDy (zc s.ty) n cs → V.obj o ∈ (cellsOf true v).getD [] → V.obj o ∈ cs := by
  intro v o hv ho
  obtain ⟨l, rfl, g⟩ := zT6 hv
  simp only [cellsOf, if_true, Option.getD_some] at ho
  exact g _ ho
 unfold zPV at h
 split at h
 ·rename_i a H1' os' bs hp
  cases h
  unfold zOv at hp
  simp only at hp
  split at hp
  ·split at hp
   ·simp only [Option.some.injEq, Prod.mk.injEq] at hp
    obtain ⟨_, rfl, rfl, _⟩ := hp
    refine ⟨_, rfl, fun o ho => ?_, fun o ho => ?_, fun o => zI3 o⟩
    ·obtain ⟨v, h1, h2⟩ := zUV ho; exact inn h1 h2
    ·obtain ⟨v, h1, h2⟩ := zUZ (zRH ho); exact inn h1 h2
   ·cases hp
  ·cases hp
 ·cases h
theorem zXt {H : List Ob} {s : OT} {x : V} {l : List (El s.ty)} {os : List Nat} (h : zQO H s x = some (l, os)) : ∀ o ∈ os, x = .obj o := by
 intro o ho
 cases s with
 | d t => simp only [zQO, Option.map_eq_some_iff] at h; obtain ⟨_, _, e⟩ := h; cases e; cases ho
 | o s =>
  cases x with
  | obj b => simp only [zQO, Option.map_eq_some_iff] at h; obtain ⟨_, _, e⟩ := h; cases e; simp only [List.mem_singleton] at ho; rw [ho]
  | _ => simp only [zQO, Option.map_eq_some_iff] at h; obtain ⟨_, _, e⟩ := h; cases e; cases ho
 | pr a b =>
  cases x with
  | obj b => simp only [zQO, Option.map_eq_some_iff] at h; obtain ⟨_, _, e⟩ := h; cases e; simp only [List.mem_singleton] at ho; rw [ho]
  | _ => simp only [zQO, Option.map_eq_some_iff] at h; obtain ⟨_, _, e⟩ := h; cases e; cases ho
end
end Go.Proofs.YtipbfgknaihifaaGreat
namespace Go.Proofs.YtipbfgknaihifaaGreat
open Go.RowKit
section
variable {P : Program} {E : Env} {H H1 H' : List Ob} {R : List Nat}
theorem zjn {vs : List V} {o : Nat} (ho : o < H.length) (h : o ∉ zlp H vs) : vs.any zPW = false ∧ o ∉ v9 H (vs.flatMap names) ∧ zR2 (v9 H (vs.flatMap names)) (H.getD o .gone) = true := by
 unfold zlp at h
 split at h
 ·exact absurd (List.mem_range.2 ho) h
 ·rename_i h0
  simp only [List.mem_filter, List.mem_range, not_and, Bool.or_eq_true, not_or, Bool.not_eq_true', Bool.not_eq_true] at h
  have := h ho
  refine ⟨by simpa using h0, fun hm => ?_, by simpa using this.2⟩
  rw [List.contains_iff_mem.2 hm] at this
  exact absurd this.1 (by simp)
theorem zmz {wr : Bool} {op : BinOp} {t : TypeId} {x y : V} {q : Nat} {ok : Option Prop} {v : V} (h : zOd P wr op t x y H = .mk q ok v H') : q = 0 := by
 have hi : ∀ {op : BinOp} {k : IntKind} {a b : Int}, zPq wr op k a b H = .mk q ok v H' → q = 0 := by
  intro op k a b h
  unfold zPq zVa at h
  cases op <;> cases wr <;> simp only [ze7, if_true, Bool.false_eq_true, if_false] at h <;> cases h <;> rfl
 unfold zOd at h
 split at h
 ·split at h
  ·simp only [shV] at h; cases h; rfl
  ·simp only [shV] at h; cases h; rfl
  ·split at h
   ·exact hi h
   ·cases h
 ·split at h
  ·cases h; rfl
  ·split at h
   ·cases h; rfl
   ·cases h
 ·unfold eqV at h
  split at h
  ·cases h
  ·split at h
   ·cases op <;> simp only at h <;> first | (cases h; rfl) | cases h
   ·cases h
theorem zki {ev : Operand → V} {op : Op} {q : Nat} {ok : Option Prop} {v : V} (h : opV P E ev H op = .mk q ok v H') {o : Nat} (ho : o < H.length) (hn : o ∉ zlp H (op.operands.toList.map ev)) : H'[o]? = H[o]? := by
 by_cases hq : q < 2
 ·have hk := zXB P E ev H op
  rw [h] at hk
  obtain ⟨obs, e⟩ := hk.2.1 hq
  rw [e, List.getElem?_append_left ho]
 obtain ⟨n0, n1, n2⟩ := zjn ho hn
 have hop : ∀ x ∈ op.operands, zPW (ev x) = false ∧ ev x ∈ op.operands.toList.map ev := fun x hx => by
  have hm : ev x ∈ op.operands.toList.map ev := List.mem_map.2 ⟨x, by simpa using hx, rfl⟩
  refine ⟨?_, hm⟩
  cases e : zPW (ev x) with
  | false => rfl
  | true => rw [List.any_eq_true.2 ⟨_, hm, e⟩] at n0; cases n0
 have nm : ∀ x ∈ op.operands, o ∉ names (ev x) := fun x hx hm => n1 (zOo (hop x hx).2 hm)
 have small : ∀ {q' : Nat} {ok' : Option Prop} {v' : V} {H2 : List Ob}, Eff.mk q' ok' v' H2 = Eff.mk q ok v H' → q' < 2 → H'[o]? = H[o]? := fun e hlt => by
  simp only [Eff.mk.injEq] at e
  omega
 cases op with
 | store t a x =>
  simp only [opV, xr] at h
  unfold zKl at h
  split at h
  ·rename_i ob off e1
   have hne : o ≠ ob := fun e => nm a (by simp [Op.operands]) (by rw [e1, e]; simp [names, names1, names0])
   split at h
   ·unfold zJt at h
    split at h
    ·split at h
     ·cases h; rw [List.getElem?_set_ne (Ne.symm hne)]
     ·cases h
    ·cases h
   ·cases h
  ·rename_i e1
   have := (hop a (by simp [Op.operands])).1
   rw [e1] at this; simp [zPW, zOr] at this
  ·cases h
 | buildSlice t n parts =>
  simp only [opV, xr] at h
  unfold zZV at h
  split at h
  ·split at h
   ·rename_i s z e2 e3
    split at h
    ·exact small h (by decide)
    ·split at h
     ·split at h
      ·rename_i cs e4
       split at h
       ·rename_i xs H1 os q' e5
        cases h
        obtain ⟨fz, rfl, f1, f2, f3⟩ := zhZ e5
        obtain ⟨_, z', _, _, _, rfl, _⟩ := zDP e3
        have hobj : ∀ b, V.obj b ∈ cs → b ∈ v9 H ((Op.buildSlice t n parts).operands.toList.map ev |>.flatMap names) := by
         intro b hb
         apply Classical.byContradiction
         intro hc
         refine zVH (o := b) (us := (Op.buildSlice t n parts).operands.toList.map ev) (fun v hv hm => hc (zOo hv hm)) (fun p hp => ?_) (fun hm => ?_) e4 hb
         ·obtain ⟨r, hr, rfl⟩ := List.mem_map.1 hp
          exact (hop r.2 (by simp only [Op.operands]; simp; exact ⟨r.1, by simpa using hr⟩)).2
         ·obtain ⟨i, _, hi⟩ := List.mem_map.1 hm
          rw [List.getD_eq_getElem?_getD, List.getElem?_map] at hi
          cases ez : z'.cells.toList[i % zc s.ty]? with
          | none => rw [ez] at hi; simp at hi
          | some y => rw [ez] at hi; simp at hi
        have hl : (freezeL H fz).length = H.length := zF2 _ _
        have hf : o ∉ fz := fun hm => n1 (hobj o (f1 o hm))
        rw [List.getElem?_append_left (by rw [x9, hl]; exact ho), zIH (R := v9 H ((Op.buildSlice t n parts).operands.toList.map ev |>.flatMap names)) (by omega) n1 ?_ (fun x hx => hobj x (f2 x hx)) (fun x hx => ?_), zH4 hf]
        ·rw [List.getD_eq_getElem?_getD, zH4 hf, ← List.getD_eq_getElem?_getD]; exact n2
        ·rw [(f3 x).1, (f3 x).2] at hx
         exact hobj x (f2 x (List.contains_iff_mem.1 (hx.elim id id)))
       ·cases h
      ·cases h
     ·cases h
   ·cases h
  ·cases h
 | call c =>
  obtain ⟨callee, args, argTypes⟩ := c
  cases callee with
  | value f =>
   simp only [opV] at h
   split at h
   ·rename_i fid caps e1
    have hf := hop f (by simp [Op.operands, Call.operands])
    have hargs : ∀ x ∈ args, zPW (ev x) = false ∧ ev x ∈ (Op.call { callee := .value f, args := args, argTypes := argTypes }).operands.toList.map ev := fun x hx => hop x (by simp [Op.operands, Call.operands, hx])
    unfold zMs at h
    have hno : zMm (args.toList.map ev ++ caps) 0 = none := by
     cases e : zMm (args.toList.map ev ++ caps) 0 with
     | none => rfl
     | some r =>
      have := zRo e
      rw [List.any_append, Bool.or_eq_true] at this
      rcases this with h' | h'
      ·obtain ⟨u, hu, hu2⟩ := List.any_eq_true.1 h'
       obtain ⟨x, hx, rfl⟩ := List.mem_map.1 hu
       have g := (hargs x (by simpa using hx)).1
       cases ex : ev x <;> rw [ex] at hu2 g <;> simp_all [zPW, zOr]
      ·have := hf.1
       rw [e1] at this
       simp only [zPW] at this
       rw [h'] at this; cases this
    rw [hno] at h
    have hsub : ∀ (u : V) (b : Nat), b ∈ names1 u → b ∈ names u := by
     intro u b hb
     cases u with
     | fn f us => simp [names1, names0] at hb
     | _ => exact hb
    refine zhL (R := ((Op.call { callee := .value f, args := args, argTypes := argTypes }).operands.toList.map ev).flatMap names) ho n1 n2 h (fun u hu b hb => ?_)
    rcases List.mem_append.1 hu with hu | hu
    ·obtain ⟨x, hx, rfl⟩ := List.mem_map.1 hu
     exact List.mem_flatMap.2 ⟨_, (hargs x (by simpa using hx)).2, hsub _ _ hb⟩
    ·refine List.mem_flatMap.2 ⟨_, hf.2, ?_⟩
     rw [e1]
     exact List.mem_flatMap.2 ⟨u, hu, hb⟩
   ·cases h
  | builtin b =>
   cases b with
   | append =>
    simp only [opV, xr] at h
    split at h
    ·rename_i s x t t' e1 e2
     have hs : s ∈ args := by
      have : s ∈ args.toList := by rw [e1]; simp
      simpa using this
     have hx : x ∈ args := by
      have : x ∈ args.toList := by rw [e1]; simp
      simpa using this
     have hin : ∀ y, y ∈ args → ∀ b, ev y = .obj b → b ∈ v9 H (((Op.call { callee := .builtin .append, args := args, argTypes := argTypes }).operands.toList.map ev).flatMap names) := fun y hy b e =>
      zOo (hop y (by simp [Op.operands, Call.operands, hy])).2 (by rw [e]; simp [names, names1, names0])
     split at h
     ·unfold zYf at h
      split at h
      ·split at h
       ·split at h
        ·split at h
         ·rename_i ob es
          have hne : o ≠ ob := fun e => n1 (e ▸ hin s hs ob es)
          split at h
          ·split at h
           ·split at h
            ·rename_i l2 os e3
             split at h
             ·cases h
             ·cases h
              have hos : ∀ b, b ∈ ob :: os → b ∈ v9 H (((Op.call { callee := .builtin .append, args := args, argTypes := argTypes }).operands.toList.map ev).flatMap names) := by
               intro b hb
               rcases List.mem_cons.1 hb with rfl | hb
               ·exact hin s hs _ es
               ·exact hin x hx b (zXt e3 b hb)
              rw [List.getElem?_set_ne (Ne.symm hne), zIH (R := v9 H (((Op.call { callee := .builtin .append, args := args, argTypes := argTypes }).operands.toList.map ev).flatMap names)) ho n1 n2 hos (fun b hb => ?_)]
              rw [zJ1, zJa] at hb
              exact hos b (List.contains_iff_mem.1 (hb.elim id id))
            ·cases h
           ·cases h
          ·cases h
         ·split at h
          ·split at h
           ·exact small h (by decide)
           ·rename_i l2 b os e3
            cases h
            have hos : ∀ c, c ∈ b :: os → c ∈ v9 H (((Op.call { callee := .builtin .append, args := args, argTypes := argTypes }).operands.toList.map ev).flatMap names) := fun c hc => hin x hx c (zXt e3 c hc)
            rw [List.getElem?_append_left (by rw [x9]; exact ho), zIH (R := v9 H (((Op.call { callee := .builtin .append, args := args, argTypes := argTypes }).operands.toList.map ev).flatMap names)) ho n1 n2 hos (fun c hc => ?_)]
            rw [zJ1, zJa] at hc
            exact hos c (List.contains_iff_mem.1 (hc.elim id id))
           ·cases h
          ·cases h
        ·cases h
       ·cases h
      ·cases h
     ·cases h
    ·cases h
   | len =>
    simp only [opV, xr] at h
    split at h
    ·unfold zM2 at h
     split at h
     ·exact small h (by decide)
     ·exact small h (by decide)
     ·exact small h (by decide)
     ·exact small h (by decide)
     ·split at h
      ·exact small h (by decide)
      ·exact small h (by decide)
      ·cases h
     ·cases h
    ·cases h
   | _ => cases h
  | _ => cases h
 | move x => exact small h (by decide)
 | assign x => exact small h (by decide)
 | pick c x y =>
  simp only [opV, xr] at h
  split at h
  ·exact small h (by decide)
  ·cases h
 | alloc t =>
  simp only [opV, xr] at h
  split at h
  ·exact small h (by decide)
  ·cases h
 | box t x =>
  simp only [opV, xr] at h
  split at h
  ·exact small h (by decide)
  ·cases h
 | build t parts =>
  simp only [opV, xr, zKo] at h
  repeat' split at h
  all_goals first | exact small h (by decide) | cases h
 | load t x =>
  simp only [opV, xr] at h
  repeat' split at h
  all_goals first | exact small h (by decide) | cases h
 | nilCheck x =>
  simp only [opV, xr] at h
  split at h
  all_goals first | exact small h (by decide) | cases h
 | binOp op t x y u =>
  simp only [opV, xr] at h
  exact absurd (zmz h) (by omega)
 | unOp op t x =>
  simp only [opV, xr, unV] at h
  split at h
  all_goals first | exact small h (by decide) | cases h
 | convert s d x =>
  simp only [opV, xr, zPU] at h
  split at h
  all_goals first | exact small h (by decide) | cases h
 | makeFunc fn first caps =>
  cases fn with
  | func f =>
   simp only [opV, xr] at h
   split at h
   ·exact small h (by decide)
   ·cases h
  | _ => cases h
 | makeSlice t x y =>
  simp only [opV, xr, zO9] at h
  repeat' split at h
  all_goals first | exact small h (by decide) | cases h
 | slice t x lo hi mx =>
  cases mx with
  | none =>
   simp only [opV, xr, zJN] at h
   repeat' split at h
   all_goals first | exact small h (by decide) | cases h
  | some m => cases h
 | fieldAddr t x f =>
  simp only [opV, xr] at h
  repeat' split at h
  all_goals first | exact small h (by decide) | cases h
 | field t x f =>
  simp only [opV, xr] at h
  repeat' split at h
  all_goals first | exact small h (by decide) | cases h
 | indexAddr t x i =>
  simp only [opV, xr, zCG] at h
  repeat' split at h
  all_goals first | exact small h (by decide) | cases h
 | index t x i =>
  simp only [opV, xr, zY1] at h
  repeat' split at h
  all_goals first | exact small h (by decide) | cases h
 | extract x i =>
  simp only [opV, xr] at h
  repeat' split at h
  all_goals first | exact small h (by decide) | cases h
 | _ => cases h
end
end Go.Proofs.YtipbfgknaihifaaGreat
namespace Go.Proofs.YtipbfgknaihifaaGreat
open Go.RowKit
theorem zl2 {p : Nat → Prop} (h : ∃ n, p n) : ∃ n, p n ∧ ∀ m, p m → n ≤ m := by
 obtain ⟨n, hn⟩ := h
 induction n using Nat.strongRecOn with
 | _ n ih =>
  by_cases hm : ∃ m, m < n ∧ p m
  ·obtain ⟨m, h1, h2⟩ := hm; exact ih m h1 h2
  ·exact ⟨n, hn, fun m h => Nat.le_of_not_lt fun hlt => hm ⟨m, hlt, h⟩⟩
section heaps
variable {ρ ρ' ρ0 : ye} {Z Z' : Zs} {H H' Hs obs : List Ob} {w w' w0 : World} {Z0 : En} {q : Nat}
theorem HR.more (h : HR ρ Z H w) (hp : ∃ obs, Hs = H ++ obs) : HR ρ Z Hs w := by
 obtain ⟨obs, rfl⟩ := hp
 have old : ∀ o p x, ρ o = some p → (H ++ obs)[o]? = some x → H[o]? = some x := fun o p x e hx => by rwa [List.getElem?_append_left (h.dom o p e)] at hx
 exact ⟨h.zl, fun o p e => by have := h.dom o p e; simp; omega, fun o p x e hx => h.ob o p x e (old o p x e hx), fun o o' p p' x x' b e e' hx hx' => h.dj o o' p p' x x' b e e' (old o p x e hx) (old o' p' x' e' hx')⟩
theorem HR.quiet (h : HR ρ Z Hs w) (hp : Post q ρ0 Z H w ρ' Z' H' w') (hq : q < 2) : HR ρ Z' Hs w' := by
 obtain ⟨q1, q2, q3, q4⟩ := hp.quiet hq
 refine ⟨hp.hr.zl, h.dom, fun o p x e hx => ?_, h.dj⟩
 refine (h.ob o p x e hx).mono ⟨fun _ _ h => h, hp.zm, (h.kp q1).h, (h.kp q1).f⟩ fun b hb => ⟨fun k hk => ?_, q1 _ (h.own e hx hb).2⟩
 rcases q2 k _ hk with hk | hk
 ·exact (h.own e hx hb).1 k hk
 ·have := (h.own e hx hb).2; omega
theorem HR.merge (h : HR ρ Z Hs w) (hp : Post q ρ0 Z H w ρ' Z' H' w') (hq : q < 2) (hsub : ∀ o p, ρ0 o = some p → ρ o = some p) (hfree : ∀ o, H.length ≤ o → o < H'.length → ρ o = Option.none)
  (hpre : ∃ obs, Hs = H' ++ obs) : HR (fun o => if H.length ≤ o ∧ o < H'.length then ρ' o else ρ o) Z' Hs w' := by
 obtain ⟨q1, q2, q3, q4⟩ := hp.quiet hq
 have hq' := h.quiet hp hq
 obtain ⟨obs, rfl⟩ := hpre
 have hin : ∀ o p, ρ' o = some p → (fun o => if H.length ≤ o ∧ o < H'.length then ρ' o else ρ o) o = some p := by
  intro o p e
  have hlt := hp.hr.dom o p e
  by_cases ho : H.length ≤ o
  ·simp only [ho, hlt, and_self, if_true]; exact e
  ·rcases hp.dom o p e with ⟨p0, e0⟩ | hge
   ·have := hp.rhoq (show q < 3 by omega) e0
    rw [e] at this; cases this
    simp only [ho, false_and, if_false]; exact hsub o p e0
   ·omega
 have hold : ∀ o p, ρ o = some p → (fun o => if H.length ≤ o ∧ o < H'.length then ρ' o else ρ o) o = some p := by
  intro o p e
  by_cases ho : H.length ≤ o ∧ o < H'.length
  ·rw [hfree o ho.1 ho.2] at e; cases e
  ·simp only [ho, if_false]; exact e
 have split : ∀ o p x, (fun o => if H.length ≤ o ∧ o < H'.length then ρ' o else ρ o) o = some p → (H' ++ obs)[o]? = some x → (H.length ≤ o ∧ ρ' o = some p ∧ H'[o]? = some x) ∨ ρ o = some p := by
  intro o p x e hx
  by_cases ho : H.length ≤ o ∧ o < H'.length
  ·simp only [ho, and_self, if_true] at e
   rw [List.getElem?_append_left ho.2] at hx
   exact .inl ⟨ho.1, e, hx⟩
  ·simp only [ho, if_false] at e; exact .inr e
 have kp1 : Kp ρ' Z' w' (fun o => if H.length ≤ o ∧ o < H'.length then ρ' o else ρ o) Z' w' := ⟨hin, fun _ _ h => h, fun _ _ _ => rfl, fun _ _ _ _ _ => rfl⟩
 have kp2 : Kp ρ Z' w' (fun o => if H.length ≤ o ∧ o < H'.length then ρ' o else ρ o) Z' w' := ⟨hold, fun _ _ h => h, fun _ _ _ => rfl, fun _ _ _ _ _ => rfl⟩
 refine ⟨hp.hr.zl, fun o p e => ?_, fun o p x e hx => ?_, fun a b p p' x y bb e1 e2 h1 h2 hb1 hb2 => ?_⟩
 ·by_cases ho : H.length ≤ o ∧ o < H'.length
  ·simp; omega
  ·simp only [ho, if_false] at e; exact h.dom o p e
 ·rcases split o p x e hx with ⟨g1, g2, g3⟩ | g
  ·exact (hp.hr.ob o p x g2 g3).mono kp1 fun b hb => ⟨(hp.hr.own g2 g3 hb).1, rfl⟩
  ·exact (hq'.ob o p x g hx).mono kp2 fun b hb => ⟨(hq'.own g hx hb).1, rfl⟩
 ·rcases split a p x e1 h1 with ⟨g1, g2, g3⟩ | g
  ·rcases split b p' y e2 h2 with ⟨k1, k2, k3⟩ | k
   ·exact hp.hr.dj a b p p' x y bb g2 k2 g3 k3 hb1 hb2
   ·have m1 := q4 a p x bb g1 g2 g3 hb1
    have m2 := (h.own k h2 hb2).2
    omega
  ·rcases split b p' y e2 h2 with ⟨k1, k2, k3⟩ | k
   ·have m1 := q4 b p' y bb k1 k2 k3 hb2
    have m2 := (h.own g h1 hb1).2
    omega
   ·exact h.dj a b p p' x y bb g k h1 h2 hb1 hb2
theorem Post.into (hp : Post q ρ0 Z H w ρ' Z' H' w') (hq : q < 2) (hsub : ∀ o p, ρ0 o = some p → ρ o = some p) : ∀ o p, ρ' o = some p → (fun o => if H.length ≤ o ∧ o < H'.length then ρ' o else ρ o) o = some p := by
 intro o p e
 have hlt := hp.hr.dom o p e
 by_cases ho : H.length ≤ o
 ·simp only [ho, hlt, and_self, if_true]; exact e
 ·rcases hp.dom o p e with ⟨p0, e0⟩ | hge
  ·have := hp.rhoq (show q < 3 by omega) e0
   rw [e] at this; cases this
   simp only [ho, false_and, if_false]; exact hsub o p e0
  ·omega
end heaps
theorem zPM (q p : Nat) (v : V) : scrub0 q (scrub0 p v) = scrub0 p (scrub0 q v) := by
 cases v with
 | obj o => by_cases h1 : zAq q o = true <;> by_cases h2 : zAq p o = true <;> simp [scrub0, h1, h2]
 | opt s o i off => by_cases h1 : zAq q o = true <;> by_cases h2 : zAq p o = true <;> simp [scrub0, h1, h2]
 | ptr o off => by_cases h1 : zAq q o = true <;> by_cases h2 : zAq p o = true <;> simp [scrub0, h1, h2]
 | ext k t l =>
  cases k with
  | zero => rfl
  | succ o => by_cases h1 : zDT q o = true <;> by_cases h2 : zDT p o = true <;> simp [scrub0, h1, h2]
 | _ => rfl
theorem zM8 (q p : Nat) (u : V) : scrub q (scrub0 p u) = scrub0 q (scrub0 p u) := by
 cases u with
 | obj o => by_cases h : zAq p o = true <;> simp [scrub0, scrub, h]
 | opt s o i off => by_cases h : zAq p o = true <;> simp [scrub0, scrub, h]
 | ptr o off => by_cases h : zAq p o = true <;> simp [scrub0, scrub, h]
 | ext k t l =>
  cases k with
  | zero => rfl
  | succ o => by_cases h : zDT p o = true <;> simp [scrub0, scrub, h]
 | _ => rfl
theorem zPS (q : Nat) (v : V) : scrub0 q (scrub0 q v) = scrub0 q v := by
 cases v with
 | obj o => by_cases h : zAq q o = true <;> simp [scrub0, h]
 | opt s o i off => by_cases h : zAq q o = true <;> simp [scrub0, h]
 | ptr o off => by_cases h : zAq q o = true <;> simp [scrub0, h]
 | ext k t l =>
  cases k with
  | zero => rfl
  | succ o => by_cases h : zDT q o = true <;> simp [scrub0, h]
 | _ => rfl
theorem zRr (q p : Nat) (v : V) : scrub q (scrub p v) = scrub p (scrub q v) := by
 have inner : ∀ vs : List V, (vs.map (scrub0 p)).map (scrub0 q) = (vs.map (scrub0 q)).map (scrub0 p) := by
  intro vs
  rw [List.map_map, List.map_map]
  exact List.map_congr_left fun u _ => zPM q p u
 have zIO : ∀ u : V, scrub p u = scrub0 p u → scrub q u = scrub0 q u → scrub q (scrub p u) = scrub p (scrub q u) := fun u h1 h2 => by
  rw [h1, h2, zM8, zM8, zPM]
 cases v with
 | agg vs => simp only [scrub, inner]
 | tup vs => simp only [scrub, inner]
 | fn f vs => simp only [scrub, inner]
 | bx vs off => simp only [scrub, inner]
 | _ => exact zIO _ rfl rfl
theorem zcX (q : Nat) (v : V) : scrub q (scrub q v) = scrub q v := by
 have inner : ∀ vs : List V, (vs.map (scrub0 q)).map (scrub0 q) = vs.map (scrub0 q) := by
  intro vs
  rw [List.map_map]
  exact List.map_congr_left fun u _ => zPS q u
 have zIO : ∀ u : V, scrub q u = scrub0 q u → scrub q (scrub q u) = scrub q u := fun u h => by
  rw [h, zM8, zPS]
 cases v with
 | agg vs => simp only [scrub, inner]
 | tup vs => simp only [scrub, inner]
 | fn f vs => simp only [scrub, inner]
 | bx vs off => simp only [scrub, inner]
 | _ => exact zIO _ rfl
theorem zGC {q : Nat} {v : V} (hk : zEi [] v = true) (hn : ∀ o ∈ names0 v, zAq q o = false ∧ zDT q o = false) : scrub0 q v = v := by
 cases v with
 | c x => rfl
 | nil0 => rfl
 | ext k t l =>
  cases k with
  | zero => rfl
  | succ o => have := hn o (by simp [names0]); simp [scrub0, this.2]
 | obj o => have := hn o (by simp [names0]); simp [scrub0, this.1]
 | opt s o i off => have := hn o (by simp [names0]); simp [scrub0, this.1]
 | ptr o off => have := hn o (by simp [names0]); simp [scrub0, this.1]
 | _ => simp [zEi] at hk
theorem zPf {q : Nat} {v : V} (hk : zju v = true) (hn : ∀ o ∈ names v, zAq q o = false ∧ zDT q o = false) : scrub q v = v := by
 have inner : ∀ vs : List V, vs.all (zEi []) = true → (∀ u ∈ vs, ∀ o ∈ names0 u, zAq q o = false ∧ zDT q o = false) → vs.map (scrub0 q) = vs := by
  intro vs h g
  conv => rhs; rw [← List.map_id vs]
  exact List.map_congr_left fun u hu => zGC (List.all_eq_true.1 h u hu) (g u hu)
 cases v with
 | agg vs => simp only [scrub]; rw [inner vs hk fun u hu o ho => hn o (by simp only [names, names1, List.mem_flatMap]; exact ⟨u, hu, ho⟩)]
 | tup vs => simp only [scrub]; rw [inner vs hk fun u hu o ho => hn o (by simp only [names, names1, List.mem_flatMap]; exact ⟨u, hu, ho⟩)]
 | bx vs off => simp only [scrub]; rw [inner vs hk fun u hu o ho => hn o (by simp only [names, names1, List.mem_flatMap]; exact ⟨u, hu, ho⟩)]
 | fn f vs =>
  simp only [scrub]
  rw [inner vs hk fun u hu o ho => hn o (by
   simp only [names, List.mem_flatMap]
   refine ⟨u, hu, ?_⟩
   have := List.all_eq_true.1 hk u hu
   cases u with
   | agg us => simp [zEi] at this
   | tup us => simp [zEi] at this
   | bx us off => simp [zEi] at this
   | _ => exact ho)]
 | c x => rfl
 | nil0 => rfl
 | ext k t l => exact zGC (v := .ext k t l) hk hn
 | obj o => exact zGC (v := .obj o) hk hn
 | opt s o i off => exact zGC (v := .opt s o i off) hk hn
 | ptr o off => exact zGC (v := .ptr o off) hk hn
 | _ => simp [zju, zEi] at hk
theorem zmD {m : Nat} {v : V} (h : okN m v = true) : Wf m v := by
 have zero : ∀ u : V, zXh m u = true → Wf m u := by
  intro u h
  cases u with
  | any => exact .any
  | c x => exact .c x
  | nil0 => exact .nil0
  | ext q t l => exact .ext t l (by simpa [zXh] using h)
  | ept q t l i off => exact .ept t l i off (by simpa [zXh] using h)
  | ptr o off => exact .ptr (by simpa [zXh] using h)
  | obj o => exact .obj (by simpa [zXh] using h)
  | opt s o i off => exact .opt (by simpa [zXh] using h)
  | _ => simp [zXh] at h
 cases v with
 | agg vs => exact .agg fun u hu => zero u (List.all_eq_true.1 h u hu)
 | _ => exact zero _ h
theorem Wf.names0 {m : Nat} {v : V} (h : Wf m v) : ∀ o ∈ names0 v, o < m := by
 intro o ho
 cases h with
 | ext t l h =>
  rename_i q
  cases q with
  | zero => simp [Go.Proofs.YtipbfgknaihifaaGreat.names0] at ho
  | succ q => simp [Go.Proofs.YtipbfgknaihifaaGreat.names0] at ho; omega
 | ept t l i off h =>
  rename_i q
  cases q with
  | zero => simp [Go.Proofs.YtipbfgknaihifaaGreat.names0] at ho
  | succ q => simp [Go.Proofs.YtipbfgknaihifaaGreat.names0] at ho; omega
 | ptr h => simp [Go.Proofs.YtipbfgknaihifaaGreat.names0] at ho; omega
 | obj h => simp [Go.Proofs.YtipbfgknaihifaaGreat.names0] at ho; omega
 | opt h => simp [Go.Proofs.YtipbfgknaihifaaGreat.names0] at ho; omega
 | _ => simp [Go.Proofs.YtipbfgknaihifaaGreat.names0] at ho
theorem Wf.names1 {m : Nat} {v : V} (h : Wf m v) : ∀ o ∈ names1 v, o < m := by
 intro o ho
 have list : ∀ vs : List V, (∀ u ∈ vs, Wf m u) → o ∈ vs.flatMap Go.Proofs.YtipbfgknaihifaaGreat.names0 → o < m := by
  intro vs h ho
  obtain ⟨u, hu, ho⟩ := List.mem_flatMap.1 ho
  exact (h u hu).names0 o ho
 cases v with
 | agg vs => cases h with | agg h => exact list vs h ho
 | tup vs => cases h with | tup h => exact list vs h ho
 | bx vs off => cases h with | bx h => exact list vs h ho
 | _ => exact h.names0 o ho
theorem Wf.names {m : Nat} {v : V} (h : Wf m v) : ∀ o ∈ names v, o < m := by
 intro o ho
 cases v with
 | fn f vs =>
  cases h with
  | fn h =>
   obtain ⟨u, hu, ho⟩ := List.mem_flatMap.1 ho
   exact (h u hu).names1 o ho
 | _ => exact h.names1 o ho
theorem Cn.weak {ρ : ye} {Z : Zs} {w : World} {q : Nat} {v : V} {x : Value} (h : Cn ρ Z w v x) : Cn ρ Z w (Go.Proofs.YtipbfgknaihifaaGreat.scrub q v) x :=
 h.scrub ⟨fun _ p e _ => ⟨p.fp, e, fun _ => rfl⟩, fun _ _ h => h, fun _ _ _ => rfl, fun _ _ _ _ _ _ => rfl⟩
structure Can (P : Program) (E : Env) (ops : Array Oper) (st : Nat → S) (info : Nat → Option Kr) : Prop where
 step : ∀ (i : Nat) (o : Oper), ops[i]? = some o → zmQ P E ops i o (st i) (st (i + 1)) (info i)
 dst : ∀ (i j : Nat) (o o' : Oper) (d : Tmp), ops[i]? = some o → ops[j]? = some o' → o'.dst = some d → (o.dst = some d → i = j) ∧ (d ∈ o.looksAt ops → (j < i ∧ j ∈ zMa ops i) ∨ (i < j ∧ i ∈ zMa ops j))
 on : ∀ (i : Nat) (o : Oper), ops[i]? = some o → ∀ e ∈ o.after, Region.binds .any e = true → e.on < i
 bar : ∀ (i j : Nat) (r k : Kr), j < ops.size → i < ops.size → info j = some k → 2 ≤ k.q → info i = some r → i = j ∨ (i < j ∧ i ∈ zMa ops j) ∨ (j < i ∧ j ∈ zMa ops i) ∨ zB5 r k = true
section
variable {P : Program} {E : Env} {ops : Array Oper} {st : Nat → S} {info : Nat → Option Kr}
def zIC (ops : Array Oper) (info : Nat → Option Kr) (j : Nat) : Prop := j < ops.size ∧ ∃ k, info j = some k ∧ 2 ≤ k.q
theorem zLg {i : Nat} (h : i < ops.size) : ∃ o, ops[i]? = some o := ⟨_, Array.getElem?_eq_getElem h⟩
variable (C : Can P E ops st info)
include C
theorem Can.len1 {i : Nat} (h : i < ops.size) : (st i).h.length ≤ (st (i + 1)).h.length ∧ (¬ zIC ops info i → ∃ obs, (st (i + 1)).h = (st i).h ++ obs) ∧ (st (i + 1)).r.length = (st i).r.length := by
 obtain ⟨o, ho⟩ := zLg h
 rcases C.step i o ho with ⟨q, ok, v, H, e1, e2, e3, e4, e5⟩ | ⟨e1, e2, e3⟩
 ·have hk := zXB P E (st i).ev (st i).h o.op
  rw [e3] at hk
  rw [e5, S.put_h, S.upd_h]
  refine ⟨hk.1, fun hb => hk.2.1 ?_, ?_⟩
  ·by_cases hq : q < 2
   ·exact hq
   ·exact absurd ⟨h, _, e1, Nat.le_of_not_lt hq⟩ hb
  ·have : ((st i).upd q H).r.length = (st i).r.length := by unfold S.upd; split <;> simp
   rw [← this]; cases o.dst <;> simp [S.put]
 ·rw [e3, S.put_h]
  refine ⟨Nat.le_refl _, fun _ => ⟨[], by simp⟩, ?_⟩
  cases o.dst <;> simp [S.put]
theorem Can.len {i m : Nat} (h : i ≤ m) (hm : m ≤ ops.size) : (st i).h.length ≤ (st m).h.length ∧ ((∀ j, i ≤ j → j < m → ¬ zIC ops info j) → ∃ obs, (st m).h = (st i).h ++ obs) ∧ (st m).r.length = (st i).r.length := by
 obtain ⟨d, rfl⟩ := Nat.exists_eq_add_of_le h
 induction d with
 | zero => exact ⟨Nat.le_refl _, fun _ => ⟨[], by simp⟩, rfl⟩
 | succ d ih =>
  obtain ⟨g1, g2, g3⟩ := ih (by omega) (by omega)
  obtain ⟨k1, k2, k3⟩ := C.len1 (i := i + d) (by omega)
  refine ⟨Nat.le_trans g1 k1, fun hb => ?_, k3.trans g3⟩
  obtain ⟨o1, e1⟩ := g2 fun j h1 h2 => hb j h1 (by omega)
  obtain ⟨o2, e2⟩ := k2 (hb (i + d) (by omega) (by omega))
  exact ⟨o1 ++ o2, by rw [show i + (d + 1) = i + d + 1 by omega, e2, e1, List.append_assoc]⟩
theorem Can.obj {i m b : Nat} (h : i ≤ m) (hm : m ≤ ops.size) (hb : b < (st i).h.length) (hn : ∀ j k, i ≤ j → j < m → info j = some k → 2 ≤ k.q → b ∉ k.tc) : (st m).h[b]? = (st i).h[b]? := by
 obtain ⟨d, rfl⟩ := Nat.exists_eq_add_of_le h
 induction d with
 | zero => rfl
 | succ d ih =>
  refine Eq.trans ?_ (ih (by omega) (by omega) fun j k h1 h2 => hn j k h1 (by omega))
  have hl := (C.len (i := i) (m := i + d) (by omega) (by omega)).1
  obtain ⟨o, ho⟩ := zLg (ops := ops) (i := i + d) (by omega)
  rw [show i + (d + 1) = i + d + 1 by omega]
  rcases C.step (i + d) o ho with ⟨q, ok, v, H, e1, e2, e3, e4, e5⟩ | ⟨e1, e2, e3⟩
  ·rw [e5, S.put_h, S.upd_h]
   by_cases hq : q < 2
   ·have hk := zXB P E (st (i + d)).ev (st (i + d)).h o.op
    rw [e3] at hk
    obtain ⟨obs, e⟩ := hk.2.1 hq
    rw [e, List.getElem?_append_left (by omega)]
   ·refine zki e3 (by omega) ?_
    have := hn (i + d) _ (by omega) (by omega) e1 (Nat.le_of_not_lt hq)
    simpa only [zKN, if_neg hq] using this
  ·rw [e3, S.put_h]
theorem Can.reg1 {i t : Nat} {o : Oper} (ho : ops[i]? = some o) (hd : o.dst ≠ some t) : (st (i + 1)).r[t]? = (st i).r[t]? ∨ ∃ k, info i = some k ∧ 3 ≤ k.q ∧ (st (i + 1)).r[t]? = ((st i).r[t]?).map (scrub k.q) := by
 have put : ∀ (s : S) (v : V), (s.put o.dst v).r[t]? = s.r[t]? := by
  intro s v
  cases e : o.dst with
  | none => rfl
  | some d =>
   have : d ≠ t := fun h => hd (by rw [e, h])
   simp only [S.put]; rw [List.getElem?_set_ne this]
 rcases C.step i o ho with ⟨q, ok, v, H, e1, e2, e3, e4, e5⟩ | ⟨e1, e2, e3⟩
 ·rw [e5, put]
  by_cases hq : q < 3
  ·left; unfold S.upd; rw [if_pos hq]
  ·right
   refine ⟨_, e1, Nat.le_of_not_lt hq, ?_⟩
   unfold S.upd; rw [if_neg hq]
   simp [zKN]
 ·left; rw [e3, put]
theorem Can.regP {p : V → Prop} (hp : ∀ q v, p v → p (scrub q v)) {i m t : Nat} (h : i ≤ m) (hm : m ≤ ops.size) (hd : ∀ j o, i ≤ j → j < m → ops[j]? = some o → o.dst ≠ some t) (h0 : ∀ v, (st i).r[t]? = some v → p v) : ∀ v, (st m).r[t]? = some v → p v := by
 obtain ⟨d, rfl⟩ := Nat.exists_eq_add_of_le h
 induction d with
 | zero => exact h0
 | succ d ih =>
  intro v hv
  have g := ih (by omega) (by omega) (fun j o h1 h2 => hd j o h1 (by omega))
  obtain ⟨o, ho⟩ := zLg (ops := ops) (i := i + d) (by omega)
  rw [show i + (d + 1) = i + d + 1 by omega] at hv
  rcases C.reg1 ho (hd _ o (by omega) (by omega) ho) with e | ⟨k, _, _, e⟩
  ·rw [e] at hv; exact g v hv
  ·rw [e, Option.map_eq_some_iff] at hv
   obtain ⟨u, hu, rfl⟩ := hv
   exact hp _ _ (g u hu)
theorem Can.keepS {i m t : Nat} {k : Kr} {o : Oper} (ho : ops[i]? = some o) (hk : info i = some k) (h3 : 3 ≤ k.q) (h : i < m) (hm : m ≤ ops.size) (hd : ∀ j o, i ≤ j → j < m → ops[j]? = some o → o.dst ≠ some t) : ∀ v, (st m).r[t]? = some v → scrub k.q v = v := by
 refine C.regP (p := fun v => scrub k.q v = v) (fun q v e => by rw [zRr, e]) (i := i + 1) h hm (fun j o h1 h2 => hd j o (by omega) h2) fun v hv => ?_
 rcases C.step i o ho with ⟨q, ok, v', H, e1, e2, e3, e4, e5⟩ | ⟨e1, e2, e3⟩
 ·rw [e1] at hk; cases hk
  have hdi := hd i o (Nat.le_refl _) h ho
  have put : (((st i).upd q H).put o.dst v').r[t]? = ((st i).upd q H).r[t]? := by
   cases e : o.dst with
   | none => rfl
   | some d =>
    have : d ≠ t := fun h => hdi (by rw [e, h])
    simp only [S.put]; rw [List.getElem?_set_ne this]
  rw [e5, put] at hv
  unfold S.upd at hv
  have h3' : ¬ q < 3 := Nat.not_lt.2 h3
  rw [if_neg h3'] at hv
  simp only [List.getElem?_map, Option.map_eq_some_iff] at hv
  obtain ⟨u, _, rfl⟩ := hv
  exact zcX q u
 ·rw [e1] at hk; cases hk
end
def Dn (l : Array Bool) (j : Nat) : Prop := l.getD j false = true
def zOR (ops : Array Oper) (info : Nat → Option Kr) (D : Nat → Prop) (m : Nat) : Prop := (∀ j, j < m → zIC ops info j → D j) ∧ (∀ j, m ≤ j → zIC ops info j → ¬ D j)
def Mis (D : Nat → Prop) (m j : Nat) : Prop := (j < m ∧ ¬ D j) ∨ (m ≤ j ∧ D j)
structure Inv (ops : Array Oper) (st : Nat → S) (info : Nat → Option Kr) (w0 : World) (Z0 : En) (D : Nat → Prop) (a : Act) (w : World) (ρ : ye) (Z : Zs) (ms : Nat) : Prop where
 le : ms ≤ ops.size
 cur : zOR ops info D ms
 nxt : ms = ops.size ∨ zIC ops info ms
 hr : ∀ m, m ≤ ops.size → zOR ops info D m → HR (ρ.upto (st m).h.length) Z (st m).h w
 frm : Frm w0 Z0 ρ Z (st ms).h w
 dom : ∀ o p, ρ o = some p → o < (st ms).h.length
 free : ∀ i, i < ops.size → ¬ D i → ∀ o, (st i).h.length ≤ o → o < (st (i + 1)).h.length → ρ o = none
 size : a.tmps.size = (st 0).r.length
 defers : a.defers = []
 reg : ∀ m t v, m ≤ ops.size → (∀ j o, ops[j]? = some o → o.dst = some t → (j < m ∧ D j) ∨ (m ≤ j ∧ ¬ D j)) → (st m).r[t]? = some v → (∀ j k, info j = some k → j < ops.size → 3 ≤ k.q → Mis D m j → scrub k.q v = v) → Cn ρ Z w v (a.tmps.getD t undef) ∧ Wf (st m).h.length v
end Go.Proofs.YtipbfgknaihifaaGreat
namespace Go.Proofs.YtipbfgknaihifaaGreat
open Go.RowKit
section
variable {P : Program} {E : Env} {ops : Array Oper} {st : Nat → S} {info : Nat → Option Kr} {w0 : World} {Z0 : En} {D : Nat → Prop} {a : Act} {w : World} {ρ : ye} {Z : Zs} {ms : Nat}
theorem zPR (a : Act) {d : Option Tmp} {t : Nat} (x : Value) (h : d ≠ some t) : (a.put d x).tmps.getD t undef = a.tmps.getD t undef := by
 cases d with
 | none => rfl
 | some d =>
  have : d ≠ t := fun e => h (by rw [e])
  simp only [Act.put]
  rw [Array.getD_eq_getD_getElem?, Array.getElem?_setIfInBounds_ne this, ← Array.getD_eq_getD_getElem?]
theorem zYi (a : Act) {t : Nat} (x : Value) (h : t < a.tmps.size) : (a.put (some t) x).tmps.getD t undef = x := by
 simp only [Act.put]
 rw [Array.getD_eq_getD_getElem?, Array.getElem?_setIfInBounds_self_of_lt h]; rfl
theorem zNR (a : Act) (d : Option Tmp) (x : Value) : (a.put d x).tmps.size = a.tmps.size := by cases d <;> simp [Act.put]
theorem zdX (ops : Array Oper) (info : Nat → Option Kr) {i : Nat} (hi : i ≤ ops.size) : ∃ ms, i ≤ ms ∧ ms ≤ ops.size ∧ (∀ j, i ≤ j → j < ms → ¬ zIC ops info j) ∧ (ms = ops.size ∨ zIC ops info ms) := by
 by_cases h : ∃ j, i ≤ j ∧ zIC ops info j
 ·obtain ⟨m, ⟨h1, h2⟩, h3⟩ := zl2 h
  exact ⟨m, h1, Nat.le_of_lt h2.1, fun j h4 h5 h6 => by have := h3 j ⟨h4, h6⟩; omega, .inr h2⟩
 ·exact ⟨ops.size, hi, Nat.le_refl _, fun j h1 _ h2 => h ⟨j, h1, h2⟩, .inl rfl⟩
theorem zOR.skip {i m : Nat} (hi : ¬ zIC ops info i) : zOR ops info (fun j => D j ∨ j = i) m ↔ zOR ops info D m := by
 constructor
 ·rintro ⟨h1, h2⟩
  exact ⟨fun j hj hb => (h1 j hj hb).resolve_right fun e => hi (e ▸ hb), fun j hj hb hd => h2 j hj hb (.inl hd)⟩
 ·rintro ⟨h1, h2⟩
  exact ⟨fun j hj hb => .inl (h1 j hj hb), fun j hj hb hd => hd.elim (h2 j hj hb) fun e => hi (e ▸ hb)⟩
theorem zJK {ρ : ye} {m : Nat} (h : ∀ o p, ρ o = some p → o < m) : ρ.upto m = ρ := by
 funext o
 unfold ye.upto
 split
 ·rfl
 ·rename_i hn
  cases e : ρ o with
  | none => rfl
  | some p => exact absurd (h o p e) hn
theorem Cn.names0 {ρ : ye} {Z : Zs} {w : World} {v : V} {x : Value} (h : Cn ρ Z w v x) : ∀ o ∈ names0 v, ∃ p, ρ o = some p := by
 intro o ho
 cases h with
 | ptr h => simp [Go.Proofs.YtipbfgknaihifaaGreat.names0] at ho; subst ho; exact ⟨_, h⟩
 | obj h _ => simp [Go.Proofs.YtipbfgknaihifaaGreat.names0] at ho; subst ho; exact ⟨_, h⟩
 | opt h _ _ => simp [Go.Proofs.YtipbfgknaihifaaGreat.names0] at ho; subst ho; exact ⟨_, h⟩
 | ext ys hq =>
  rename_i q _ _ _ _ _ _ _ _ _ _ _ _ _
  cases q with
  | zero => simp [Go.Proofs.YtipbfgknaihifaaGreat.names0] at ho
  | succ q => simp [Go.Proofs.YtipbfgknaihifaaGreat.names0] at ho; subst ho; exact hq _ rfl
 | ept ys hq =>
  rename_i q _ _ _ _ _ _ _ _ _ _
  cases q with
  | zero => simp [Go.Proofs.YtipbfgknaihifaaGreat.names0] at ho
  | succ q => simp [Go.Proofs.YtipbfgknaihifaaGreat.names0] at ho; subst ho; exact hq _ rfl
 | _ => simp [Go.Proofs.YtipbfgknaihifaaGreat.names0] at ho
theorem Cn.names1 {ρ : ye} {Z : Zs} {w : World} {v : V} {x : Value} (h : Cn ρ Z w v x) : ∀ o ∈ names1 v, ∃ p, ρ o = some p := by
 intro o ho
 have list : ∀ (vs : List V) (xs : List Value), xs.length = vs.length → (∀ (i : Nat) (u : V) (y : Value), vs[i]? = some u → xs[i]? = some y → Cn ρ Z w u y) → o ∈ vs.flatMap Go.Proofs.YtipbfgknaihifaaGreat.names0 → ∃ p, ρ o = some p := by
  intro vs xs hl h ho
  obtain ⟨u, hu, ho⟩ := List.mem_flatMap.1 ho
  obtain ⟨y, hy⟩ := zKi hl h u hu
  exact hy.names0 o ho
 cases v with
 | agg vs => cases h with | agg h0 h => exact list _ _ h0 h ho
 | tup vs => cases h with | tup h0 h => exact list _ _ h0 h ho
 | bx vs off =>
  cases h with
  | bx h0 h1 h2 h =>
   obtain ⟨u, hu, ho⟩ := List.mem_flatMap.1 ho
   obtain ⟨i, hi⟩ := List.mem_iff_getElem?.1 hu
   have hlt := (List.getElem?_eq_some_iff.1 hi).1
   exact (h i u _ hi (Array.getElem?_eq_getElem (by omega))).names0 o ho
 | _ => exact h.names0 o ho
theorem Cn.names {ρ : ye} {Z : Zs} {w : World} {v : V} {x : Value} (h : Cn ρ Z w v x) : ∀ o ∈ names v, ∃ p, ρ o = some p := by
 intro o ho
 cases v with
 | fn f vs =>
  cases h with
  | fn h0 h =>
   obtain ⟨u, hu, ho⟩ := List.mem_flatMap.1 ho
   obtain ⟨y, hy⟩ := zKi h0 h u hu
   exact hy.names1 o ho
 | _ => exact h.names1 o ho
theorem zR0 {r k : Kr} (h : zB5 r k = true) (hk : 3 ≤ k.q) : r.kp = true ∧ ∀ o ∈ r.nm, zAq k.q o = false ∧ zDT k.q o = false := by
 unfold zB5 at h
 rw [Bool.and_eq_true, Bool.or_eq_true (decide _)] at h
 have h2 := h.2.resolve_left (by simpa using hk)
 rw [Bool.and_eq_true] at h2
 refine ⟨h2.1, fun o ho => ?_⟩
 have := List.all_eq_true.1 h2.2 o ho
 simpa using this
theorem zUI {r k : Kr} (h : zB5 r k = true) (hq : r.q ≠ 0) : ∀ o ∈ r.nm, o ∉ k.tc := by
 unfold zB5 at h
 rw [Bool.and_eq_true, Bool.and_eq_true] at h
 have h1 := h.1.2
 rw [Bool.or_eq_true] at h1
 have h2 := h1.resolve_left (by simpa using hq)
 intro o ho
 have := List.all_eq_true.1 h2 o ho
 simpa using this
theorem zkF {r k : Kr} (h : zB5 r k = true) : r.rd = true := by
 unfold zB5 at h
 rw [Bool.and_eq_true, Bool.and_eq_true] at h
 exact h.1.1
theorem Inv.step (hE : zHu P E) (C : Can P E ops st info) (I : Inv ops st info w0 Z0 D a w ρ Z ms) {i : Nat} {o : Oper} (ho : ops[i]? = some o) (hnd : ¬ D i) (hpre : ∀ j ∈ zMa ops i, D j) (hcl : ∀ j, j < ops.size → D j → ∀ k ∈ zMa ops j, D k)
  {K : Act → World → Prop} {Q : Exit → Act → World → Prop} (hK : ∀ a' w' ρ' Z' ms', Inv ops st info w0 Z0 (fun j => D j ∨ j = i) a' w' ρ' Z' ms' → K a' w') : wpOp P ops Q i K a w := by
 have hi : i < ops.size := (Array.getElem?_eq_some_iff.1 ho).1
 have un : ∀ (j : Nat) (k r : Kr), info i = some r → info j = some k → 2 ≤ k.q → j < ops.size → Mis D i j → zB5 r k = true := by
  intro j k r hr hk h2 hj hmis
  rcases C.bar i j r k hj hi hk h2 hr with h | ⟨h1, h3⟩ | ⟨h1, h3⟩ | h
  ·subst h
   rcases hmis with h | h
   ·omega
   ·exact absurd h.2 hnd
  ·rcases hmis with h | h
   ·omega
   ·exact absurd (hcl j hj h.2 i h3) hnd
  ·rcases hmis with h | h
   ·exact absurd (hpre j h3) h.2
   ·omega
  ·exact h
 have opnd : ∀ t ∈ o.looksAt ops, (∀ j k, info j = some k → j < ops.size → 3 ≤ k.q → Mis D i j → scrub k.q ((st i).r.getD t .any) = (st i).r.getD t .any) → Cn ρ Z w ((st i).r.getD t .any) (a.tmps.getD t undef) ∧ Wf (st i).h.length ((st i).r.getD t .any) := by
  intro t ht hkeep
  cases e : (st i).r[t]? with
  | none => rw [List.getD_eq_getElem?_getD, e]; exact ⟨.any _, .any⟩
  | some v =>
   rw [List.getD_eq_getElem?_getD, e] at hkeep ⊢
   refine I.reg i t v (Nat.le_of_lt hi) (fun j o' ho' hd => ?_) e hkeep
   rcases (C.dst i j o o' t ho ho' hd).2 ht with ⟨h1, h2⟩ | ⟨h1, h2⟩
   ·exact .inl ⟨h1, hpre j h2⟩
   ·exact .inr ⟨Nat.le_of_lt h1, fun hD => hnd (hcl j (Array.getElem?_eq_some_iff.1 ho').1 hD i h2)⟩
 have want : ∀ b, gw ops (st i) o = some b → Region.wanted o (yielded ops a.tmps) = b := by
  intro b hb
  unfold gw at hb
  cases hg : o.guard with
  | none => rw [hg] at hb; cases hb; simp [Region.wanted, hg]
  | some p =>
   obtain ⟨g, wt⟩ := p
   rw [hg] at hb
   simp only at hb
   cases ht : (ops[g]?).bind (·.dst) with
   | none => rw [ht] at hb; cases hb
   | some t =>
    rw [ht] at hb
    simp only at hb
    have hm : t ∈ o.looksAt ops := by
     unfold Oper.looksAt
     rw [hg]
     simp only [ht]
     exact List.mem_append_right _ (by simp)
    split at hb
    ·rename_i b' e
     cases hb
     obtain ⟨c1, _⟩ := opnd t hm (fun j k _ _ _ _ => by rw [e]; rfl)
     rw [e] at c1
     have hx := vG c1
     have hy : a.tmps[t]? = some (.bool b') := by
      rw [Array.getD_eq_getD_getElem?] at hx
      cases e2 : a.tmps[t]? with
      | none => rw [e2] at hx; cases hx
      | some z => rw [e2] at hx; simp at hx; rw [hx]
     simp [Region.wanted, hg, yielded, ht, hy]
    ·rename_i vs e
     cases hb
     obtain ⟨c1, _⟩ := opnd t hm (fun j k _ _ _ _ => by rw [e]; rfl)
     rw [e] at c1
     have hx := vG c1
     have hy : yielded ops a.tmps g ≠ some wt := by
      simp only [yielded, ht, Option.bind_some]
      intro e3
      split at e3
      ·rename_i b hb
       rw [Array.getD_eq_getD_getElem?, hb] at hx
       cases hx
      ·cases e3
     simp [Region.wanted, hg]
     exact hy
    ·cases hb
 have hsize : ∀ m, m ≤ ops.size → (st m).r.length = (st 0).r.length := fun m hm => (C.len (Nat.zero_le m) hm).2.2
 have uniq : ∀ j o' t, ops[j]? = some o' → o'.dst = some t → o.dst = some t → i = j := fun j o' t ho' hd hd' => (C.dst i j o o' t ho ho' hd).1 hd'
 have written : ∀ (x : Value) (ρ' : ye) (Z' : Zs) (w' : World), (∀ t, o.dst = some t → ∀ u, (st (i + 1)).r[t]? = some u → Cn ρ' Z' w' u x ∧ Wf (st (i + 1)).h.length u) →
   ∀ m t u, m ≤ ops.size → (∀ j o', ops[j]? = some o' → o'.dst = some t → (j < m ∧ (D j ∨ j = i)) ∨ (m ≤ j ∧ ¬ (D j ∨ j = i))) → o.dst = some t → (st m).r[t]? = some u → Cn ρ' Z' w' u ((a.put o.dst x).tmps.getD t undef) ∧ Wf (st m).h.length u := by
  intro x ρ' Z' w' hc m t u hm hw hd hu
  have him : i < m := by
   rcases hw i o ho hd with h | h
   ·exact h.1
   ·exact absurd (.inr rfl) h.2
  have htl : t < a.tmps.size := by rw [I.size, ← hsize m hm]; exact (List.getElem?_eq_some_iff.1 hu).1
  rw [hd, zYi a x htl]
  refine C.regP (p := fun v => Cn ρ' Z' w' v x ∧ Wf (st m).h.length v) (fun q v h => ⟨h.1.weak, h.2.scrub⟩) (i := i + 1) him hm (fun j o' h1 h2 h3 h4 => ?_) (fun v hv => ?_) u hu
  ·have := uniq j o' t h3 h4 hd; omega
  ·obtain ⟨c1, c2⟩ := hc t hd v hv
   exact ⟨c1, c2.mono (C.len him hm).1⟩
 have regs : ∀ (x : Value) (ρ' : ye) (Z' : Zs) (w' : World), (∀ k, info i = some k → k.q < 3) → (∀ t, o.dst = some t → ∀ u, (st (i + 1)).r[t]? = some u → Cn ρ' Z' w' u x ∧ Wf (st (i + 1)).h.length u) → Kp ρ Z w ρ' Z' w' →
   ∀ m t u, m ≤ ops.size → (∀ j o', ops[j]? = some o' → o'.dst = some t → (j < m ∧ (D j ∨ j = i)) ∨ (m ≤ j ∧ ¬ (D j ∨ j = i))) → (st m).r[t]? = some u → (∀ j k, info j = some k → j < ops.size → 3 ≤ k.q → Mis (fun j => D j ∨ j = i) m j → scrub k.q u = u) →
    Cn ρ' Z' w' u ((a.put o.dst x).tmps.getD t undef) ∧ Wf (st m).h.length u := by
  intro x ρ' Z' w' hnc hc kp m t u hm hw hu hmis
  by_cases hd : o.dst = some t
  ·exact written x ρ' Z' w' hc m t u hm hw hd hu
  ·have hne : ∀ j o', ops[j]? = some o' → o'.dst = some t → j ≠ i := fun j o' h1 h2 e => by subst e; rw [ho] at h1; cases h1; exact hd h2
   have := I.reg m t u hm (fun j o' h1 h2 => by
    have hji := hne j o' h1 h2
    rcases hw j o' h1 h2 with h | h
    ·exact .inl ⟨h.1, h.2.resolve_right hji⟩
    ·exact .inr ⟨h.1, fun h' => h.2 (.inl h')⟩) hu (fun j k h1 h2 h3 h4 => by
    refine hmis j k h1 h2 h3 ?_
    have hji : j ≠ i := fun e => by subst e; have := hnc k h1; omega
    rcases h4 with h4 | h4
    ·exact .inl ⟨h4.1, fun h => h4.2 (h.resolve_right hji)⟩
    ·exact .inr ⟨h4.1, .inl h4.2⟩)
   rw [zPR a x hd]
   exact ⟨this.1.mono kp, this.2⟩
 unfold wpOp
 simp only [ho]
 rcases C.step i o ho with ⟨q, ok, v, H, e1, e2, e3, e4, e5⟩ | ⟨e1, e2, e3⟩
 ·rw [if_pos (want true e2)]
  left
  have hH : (st (i + 1)).h = H := by rw [e5, S.put_h, S.upd_h]
  have hput : ∀ t, o.dst = some t → ∀ u, (st (i + 1)).r[t]? = some u → u = v := by
   intro t hd u hu
   have ht : t < ((st i).upd q H).r.length := by
    have := (List.getElem?_eq_some_iff.1 hu).1
    rw [e5, hd] at this
    simpa [S.put] using this
   rw [e5, hd] at hu
   simp only [S.put] at hu
   rw [List.getElem?_set_self ht] at hu
   exact (Option.some.inj hu).symm
  have opx : ∀ x ∈ o.op.operands, Cn ρ Z w ((st i).ev x) (a.eval x) ∧ Wf (st i).h.length ((st i).ev x) := by
   intro x hx
   cases x with
   | tmp t =>
    refine opnd t (List.mem_append_left _ (List.mem_filterMap.2 ⟨.tmp t, by simpa using hx, rfl⟩)) fun j k hk hj h3 hmis => ?_
    obtain ⟨k1, k2⟩ := zR0 (un j k _ e1 hk (by omega) hj hmis) h3
    have hm : (st i).ev (.tmp t) ∈ v :: o.op.operands.toList.map (st i).ev := List.mem_cons_of_mem _ (List.mem_map.2 ⟨_, by simpa using hx, rfl⟩)
    exact zPf (List.all_eq_true.1 k1 _ hm) fun o' ho' => k2 o' (List.mem_flatMap.2 ⟨_, hm, ho'⟩)
   | const x =>
    show Cn ρ Z w (zOp x) x ∧ Wf (st i).h.length (zOp x)
    unfold zOp
    split
    ·rename_i e; exact ⟨.c x (zRs e), .c x⟩
    ·exact ⟨.any _, .any⟩
   | global g => exact ⟨.any _, .any⟩
   | func f => exact ⟨Cn.fn (vs := []) (xs := []) rfl (by intro i u y h; simp at h), .fn (by simp)⟩
  have hop := zUF hE o (st i).ev
  by_cases hrd : (decide (q < 2) && (rdr q o.op && (q == 0 || okN (st i).h.length v))) = true
  ·-- it only reads
   rw [Bool.and_eq_true, Bool.and_eq_true, decide_eq_true_eq] at hrd
   obtain ⟨hq2, hrr, hok⟩ := hrd
   have hnb : ¬ zIC ops info i := by rintro ⟨_, k, h1, h2⟩; rw [e1] at h1; cases h1; exact absurd h2 (Nat.not_le.2 hq2)
   have hnc : ∀ k, info i = some k → k.q < 3 := by intro k h1; rw [e1] at h1; cases h1; exact Nat.lt_succ_of_lt hq2
   have hrm := I.hr ms I.le I.cur
   rw [zJK I.dom] at hrm
   obtain ⟨hHi, hre⟩ := ziu e3 hrr
   have hwfv : Wf (st (i + 1)).h.length v := by
    by_cases h0 : q = 0
    ·subst h0
     exact (zmW e3 fun x hx => (opx x hx).2).mono (C.len1 hi).1
    ·refine (zmD (m := (st i).h.length) (v := v) ?_).mono (C.len1 hi).1
     rw [Bool.or_eq_true] at hok
     exact hok.resolve_left (by simpa using h0)
   have hs := hop (st ms).h
   have hsame : opV P E (st i).ev (st ms).h o.op = .mk q ok v (st ms).h := by
    by_cases h0 : q = 0
    ·subst h0; exact zQV e3
    ·refine hre _ fun x hx b hb => ?_
     have hm : b ∈ (zKN i q o.op (st i).ev (st i).h v).nm := List.mem_flatMap.2 ⟨_, List.mem_cons_of_mem _ (List.mem_map.2 ⟨x, by simpa using hx, rfl⟩), hb⟩
     rcases Nat.le_total i ms with h | h
     ·refine C.obj h I.le ((opx x hx).2.names b hb) fun j k h1 h2 h3 h4 => ?_
      have hj : j < ops.size := Nat.lt_of_lt_of_le h2 I.le
      exact zUI (un j k _ e1 h3 h4 hj (.inr ⟨h1, I.cur.1 j h2 ⟨hj, k, h3, h4⟩⟩)) h0 b hm
     ·refine (C.obj h (Nat.le_of_lt hi) ?_ fun j k h1 h2 h3 h4 => ?_).symm
      ·obtain ⟨p, hp⟩ := (opx x hx).1.names b hb
       exact I.dom b p hp
      ·have hj : j < ops.size := Nat.lt_trans h2 hi
       exact zUI (un j k _ e1 h3 h4 hj (.inl ⟨h2, I.cur.2 j h1 ⟨hj, k, h3, h4⟩⟩)) h0 b hm
   rw [hsame] at hs
   refine hs ρ Z w a hrm (fun x hx => (opx x hx).1) e4 K Q fun ρ' Z' w' x hp hv => ?_
   obtain ⟨q1, q2, q3, q4⟩ := hp.quiet hq2
   have hsub : ∀ o p, ρ' o = some p → ρ o = some p := by
    intro o p e
    rcases hp.dom o p e with ⟨p0, e0⟩ | h
    ·have := hp.rhoq (show q < 3 by omega) e0
     rw [e] at this
     rw [e0, Option.some.inj this]
    ·have := hp.hr.dom o p e; omega
   have hv' : Cn ρ Z' w' v x := hv.mono ⟨hsub, fun _ _ h => h, fun _ _ _ => rfl, fun _ _ _ _ _ => rfl⟩
   refine hK _ w' ρ Z' ms ⟨I.le, (zOR.skip hnb).2 I.cur, I.nxt, fun m hm hc => (I.hr m hm ((zOR.skip hnb).1 hc)).quiet hp hq2, ⟨I.frm.size.trans hp.size, fun b hb hm => by rw [q1 b (Nat.lt_of_lt_of_le hb I.frm.size.le)]; exact I.frm.same b hb hm, I.frm.own, fun b hb => ?_, fun j p n e => by
     obtain ⟨h1, ⟨cs, h2, h3⟩, h4⟩ := I.frm.refs j p n e
     exact ⟨h1, ⟨cs, h2, h3⟩, h4.trans (zB7.same (q1 _ (hrm.own h1 h2 rfl).2))⟩⟩,
    I.dom, fun j hj hnj => I.free j hj fun h => hnj (.inl h), by rw [zNR]; exact I.size, by rw [zD5]; exact I.defers,
    regs x ρ Z' w' hnc (fun t hd u hu => by rw [hput t hd u hu]; exact ⟨hv', hwfv⟩) ⟨fun _ _ h => h, hp.zm, (hrm.kp q1).h, (hrm.kp q1).f⟩⟩
   rcases q2 false b hb with hb | hb
   ·exact I.frm.zs b hb
   ·exact .inr (.inl (Nat.le_trans I.frm.size.le hb))
  ·have hnrd : ∀ {r k : Kr}, info i = some r → zB5 r k = true → False := by
    intro r k hr h
    rw [e1] at hr; cases hr
    exact hrd (zkF h)
   by_cases hq2 : q < 2
   ·-- quiet
    have hnb : ¬ zIC ops info i := by rintro ⟨_, k, h1, h2⟩; rw [e1] at h1; cases h1; exact absurd h2 (Nat.not_le.2 hq2)
    have hnc : ∀ k, info i = some k → k.q < 3 := by intro k h1; rw [e1] at h1; cases h1; exact Nat.lt_succ_of_lt hq2
    have curBI : zOR ops info D i := by
     refine ⟨fun j hj hc => ?_, fun j hj hc hd => ?_⟩
     ·obtain ⟨h1, k, h2, h3⟩ := hc
      rcases C.bar i j _ k h1 hi h2 h3 e1 with h | h | h | h
      ·omega
      ·omega
      ·exact hpre j h.2
      ·exact (hnrd e1 h).elim
     ·by_cases e : j = i
      ·subst e; exact hnd hd
      ·obtain ⟨h1, k, h2, h3⟩ := hc
       rcases C.bar i j _ k h1 hi h2 h3 e1 with h | h | h | h
       ·omega
       ·exact hnd (hcl j h1 hd i h.2)
       ·omega
       ·exact hnrd e1 h
    have him : i < ms := by
     rcases I.nxt with h | h
     ·omega
     ·by_cases e : i < ms
      ·exact e
      ·by_cases e' : ms = i
       ·subst e'; exact absurd h hnb
       ·exact absurd (curBI.1 ms (by omega) h) (I.cur.2 ms (Nat.le_refl _) h)
    have hpref : ∀ m, i < m → m ≤ ops.size → zOR ops info D m → ∃ obs, (st m).h = (st (i + 1)).h ++ obs := fun m h1 h2 h3 => (C.len (i := i + 1) h1 h2).2.1 fun j h4 h5 h6 => curBI.2 j (by omega) h6 (h3.1 j h5 h6)
    have hs := hop (st i).h
    rw [e3] at hs
    have hr := I.hr i (Nat.le_of_lt hi) curBI
    refine hs _ Z w a hr (fun x hx => (opx x hx).1.upto (opx x hx).2) e4 K Q fun ρ' Z' w' x hp hv => ?_
    obtain ⟨q1, q2, q3, q4⟩ := hp.quiet hq2
    rw [← hH] at hp q3 q4
    have hin := hp.into (ρ := ρ) hq2 ye.upto_le
    have hfree := I.free i hi hnd
    have hl1 := (C.len1 hi).1
    let ρ1 : ye := fun o => if (st i).h.length ≤ o ∧ o < (st (i + 1)).h.length then ρ' o else ρ o
    have hold : ∀ o p, ρ o = some p → ρ1 o = some p := by
     intro o p e
     by_cases hr : (st i).h.length ≤ o ∧ o < (st (i + 1)).h.length
     ·rw [hfree o hr.1 hr.2] at e; cases e
     ·simp only [ρ1, if_neg hr]; exact e
    have hkp : Kp ρ Z w ρ1 Z' w' := by
     have hrm := I.hr ms I.le I.cur
     rw [zJK I.dom] at hrm
     exact ⟨hold, hp.zm, (hrm.kp q1).h, (hrm.kp q1).f⟩
    refine hK _ w' ρ1 Z' ms ⟨I.le, (zOR.skip hnb).2 I.cur, I.nxt, fun m hm hc => ?_, ⟨I.frm.size.trans hp.size, fun b hb hm => by rw [q1 b (Nat.lt_of_lt_of_le hb I.frm.size.le)]; exact I.frm.same b hb hm, fun ob p y b k1 k2 k3 => ?_, fun b hb => ?_, fun j p n e => by
      obtain ⟨h1, ⟨cs, h2, h3⟩, h4⟩ := I.frm.refs j p n e
      have hrm := I.hr ms I.le I.cur
      rw [zJK I.dom] at hrm
      exact ⟨hold _ _ h1, ⟨cs, h2, h3⟩, h4.trans (zB7.same (q1 _ (hrm.own h1 h2 rfl).2))⟩⟩,
     fun ob p k1 => ?_, fun j hj hnj ob k1 k2 => ?_, by rw [zNR]; exact I.size, by rw [zD5]; exact I.defers,
     regs x ρ1 Z' w' hnc (fun t hd u hu => by rw [hput t hd u hu]; exact ⟨hv.mono ⟨hin, fun _ _ h => h, fun _ _ _ => rfl, fun _ _ _ _ _ => rfl⟩, hv.wf hp.hr.dom⟩) hkp⟩
    ·have hc := (zOR.skip hnb).1 hc
     by_cases hmi : m ≤ i
     ·have := (I.hr m hm hc).quiet hp hq2
      have e : ρ1.upto (st m).h.length = ρ.upto (st m).h.length := by
       funext o'
       unfold ye.upto
       split
       ·rename_i hlt
        have := (C.len hmi (Nat.le_of_lt hi)).1
        simp only [ρ1]
        rw [if_neg (by omega)]
       ·rfl
      rw [e]; exact this
     ·have hlm := (C.len (i := i + 1) (m := m) (by omega) hm).1
      have := (I.hr m hm hc).merge hp hq2 (fun o' p e => ye.upto_lt (ye.upto_le o' p e) (by have := ye.upto_dom e; omega)) (fun o' h1 h2 => by unfold ye.upto; split; exact hfree o' h1 h2; rfl) (hpref m (by omega) hm hc)
      have e : ρ1.upto (st m).h.length = (fun o' => if (st i).h.length ≤ o' ∧ o' < (st (i + 1)).h.length then ρ' o' else (ρ.upto (st m).h.length) o') := by
       funext o'
       unfold ye.upto
       by_cases hlt : o' < (st m).h.length
       ·simp only [hlt, if_true, ρ1]
       ·simp only [hlt, if_false]
        rw [if_neg (by omega)]
      rw [e]; exact this
    ·by_cases hr : (st i).h.length ≤ ob ∧ ob < (st (i + 1)).h.length
     ·simp only [ρ1, if_pos hr] at k1
      obtain ⟨obs, e⟩ := hpref ms him I.le I.cur
      rw [e, List.getElem?_append_left hr.2] at k2
      exact .inl (Nat.le_trans I.frm.size.le (q4 ob p y b hr.1 k1 k2 k3))
     ·simp only [ρ1, if_neg hr] at k1
      exact I.frm.own ob p y b k1 k2 k3
    ·rcases q2 false b hb with hb | hb
     ·exact I.frm.zs b hb
     ·exact .inr (.inl (Nat.le_trans I.frm.size.le hb))
    ·by_cases hr : (st i).h.length ≤ ob ∧ ob < (st (i + 1)).h.length
     ·have := (C.len (i := i + 1) him I.le).1; omega
     ·simp only [ρ1, if_neg hr] at k1; exact I.dom ob p k1
    ·have hji : j ≠ i := fun e => hnj (.inr e)
     have hnr : ¬ ((st i).h.length ≤ ob ∧ ob < (st (i + 1)).h.length) := by
      rintro ⟨m1, m2⟩
      rcases Nat.lt_or_gt_of_ne hji with h | h
      ·have := (C.len (i := j + 1) (m := i) h (Nat.le_of_lt hi)).1; omega
      ·have := (C.len (i := i + 1) (m := j) h (Nat.le_of_lt hj)).1; omega
     simp only [ρ1, if_neg hnr]
     exact I.free j hj (fun h => hnj (.inl h)) ob k1 k2
   ·-- what changes memory
    have hb : zIC ops info i := ⟨hi, _, e1, Nat.le_of_not_lt hq2⟩
    have hmi : ms = i := by
     have curBI : ∀ j, j < i → zIC ops info j → D j := by
      rintro j hj ⟨h1, k, h2, h3⟩
      rcases C.bar i j _ k h1 hi h2 h3 e1 with h | h | h | h
      ·omega
      ·omega
      ·exact hpre j h.2
      ·exact (hnrd e1 h).elim
     rcases Nat.lt_trichotomy ms i with h | h | h
     ·rcases I.nxt with h' | h'
      ·omega
      ·exact absurd (curBI ms h h') (I.cur.2 ms (Nat.le_refl _) h')
     ·exact h
     ·exact absurd (I.cur.1 i h hb) hnd
    subst hmi
    have hρ : ρ.upto (st ms).h.length = ρ := zJK I.dom
    have hr := I.hr ms I.le I.cur
    rw [hρ] at hr
    have hs := hop (st ms).h
    rw [e3] at hs
    refine hs ρ Z w a hr (fun x hx => (opx x hx).1) e4 K Q fun ρ' Z' w' x hp hv => ?_
    rw [← hH] at hp
    obtain ⟨m', n1, n2, n3, n4⟩ := zdX ops info (i := ms + 1) hi
    have hlen' := (C.len n1 n2).1
    have hpref := (C.len n1 n2).2.1 n3
    have hzk := hr.zsame hp
    refine hK _ w' ρ' Z' m' ⟨n2, ⟨fun j hj hc => ?_, fun j hj hc hd => ?_⟩, n4, fun m hm hc => ?_, ⟨I.frm.size.trans hp.size, (I.frm.post hp).same, fun ob p y b k1 k2 k3 => ?_, (I.frm.post hp).zs, fun j p n e => by
      obtain ⟨h1, ⟨cs, h2, h3⟩, h4⟩ := (I.frm.post hp).refs j p n e
      obtain ⟨obs, eo⟩ := hpref
      exact ⟨h1, ⟨cs, by rw [eo, List.getElem?_append_left (List.getElem?_eq_some_iff.1 h2).1]; exact h2, h3⟩, h4⟩⟩,
     fun ob p k1 => Nat.lt_of_lt_of_le (hp.hr.dom ob p k1) hlen', fun j hj hnj ob k1 k2 => ?_, by rw [zNR]; exact I.size, by rw [zD5]; exact I.defers, ?_⟩
    ·rcases Nat.lt_trichotomy j ms with h | h | h
     ·exact .inl (I.cur.1 j h hc)
     ·exact .inr h
     ·exact absurd hc (n3 j h hj)
    ·rcases hd with hd | hd
     ·exact I.cur.2 j (by omega) hc hd
     ·omega
    ·have him : ms < m := by
      by_cases h : ms < m
      ·exact h
      ·exact absurd (.inr rfl) (hc.2 ms (by omega) hb)
     have hp2 := (C.len (i := ms + 1) him hm).2.1 fun j h1 h2 h3 => by
      rcases hc.1 j h2 h3 with h | h
      ·exact I.cur.2 j (by omega) h3 h
      ·omega
     have hd2 : ∀ o' p, ρ' o' = some p → o' < (st m).h.length := fun o' p e => Nat.lt_of_lt_of_le (hp.hr.dom o' p e) (C.len (i := ms + 1) him hm).1
     rw [zJK hd2]
     exact hp.hr.more hp2
    ·obtain ⟨obs, e⟩ := hpref
     rw [e, List.getElem?_append_left (hp.hr.dom ob p k1)] at k2
     exact (I.frm.post hp).own ob p y b k1 k2 k3
    ·cases e : ρ' ob with
     | none => rfl
     | some p =>
      have hji : j ≠ ms := fun e => hnj (.inr e)
      have m3 := hp.hr.dom ob p e
      rcases hp.dom ob p e with ⟨p0, e0⟩ | m1
      ·rw [I.free j hj (fun h => hnj (.inl h)) ob k1 k2] at e0; cases e0
      ·rcases Nat.lt_or_gt_of_ne hji with h | h
       ·have := (C.len (i := j + 1) (m := ms) h (Nat.le_of_lt hi)).1; omega
       ·have := (C.len (i := ms + 1) (m := j) h (Nat.le_of_lt hj)).1; omega
    ·have hwr : ∀ t, o.dst = some t → ∀ u, (st (ms + 1)).r[t]? = some u → Cn ρ' Z' w' u x ∧ Wf (st (ms + 1)).h.length u := fun t hd u hu => by rw [hput t hd u hu]; exact ⟨hv, hv.wf hp.hr.dom⟩
     by_cases hq3 : q < 3
     ·exact regs x ρ' Z' w' (by intro k h1; rw [e1] at h1; cases h1; exact hq3) hwr (hp.kp hr hq3)
     ·intro m t u hm hw hu hmis
      by_cases hd : o.dst = some t
      ·exact written x ρ' Z' w' hwr m t u hm hw hd hu
      ·have hne : ∀ j o', ops[j]? = some o' → o'.dst = some t → j ≠ ms := fun j o' h1 h2 e => by subst e; rw [ho] at h1; cases h1; exact hd h2
       have hself : scrub q u = u := by
        rcases Nat.lt_or_ge ms m with him | him
        ·by_cases hlate : ∃ j o', ms < j ∧ j < m ∧ ops[j]? = some o' ∧ o'.dst = some t
         ·obtain ⟨j, o', j1, j2, j3, j4⟩ := hlate
          have hjn : j < ops.size := (Array.getElem?_eq_some_iff.1 j3).1
          have hDj : D j := by
           rcases hw j o' j3 j4 with h | h
           ·exact h.2.resolve_right (by omega)
           ·omega
          refine C.regP (p := fun v => scrub q v = v) (fun q' v e => by rw [zRr, e]) (i := j + 1) j2 hm (fun j' o2 h1 h2 h3 h4 => ?_) (fun u' hu' => ?_) u hu
          ·have := (C.dst j j' o' o2 t j3 h3 h4).1 j4; omega
          ·rcases C.step j o' j3 with ⟨q', ok', v', H', f1, f2, f3, f4, f5⟩ | ⟨f1, f2, f3⟩
           ·have hu2 : u' = v' := by
             have ht : t < ((st j).upd q' H').r.length := by
              have := (List.getElem?_eq_some_iff.1 hu').1
              rw [f5, j4] at this
              simpa [S.put] using this
             rw [f5, j4] at hu'
             simp only [S.put] at hu'
             rw [List.getElem?_set_self ht] at hu'
             exact (Option.some.inj hu').symm
            subst hu2
            rcases C.bar j ms _ _ hi hjn e1 (Nat.le_of_not_lt hq2) f1 with h | h | h | h
            ·omega
            ·omega
            ·exact absurd (hcl j hjn hDj ms h.2) hnd
            ·obtain ⟨k1, k2⟩ := zR0 h (Nat.le_of_not_lt hq3)
             exact zPf (List.all_eq_true.1 k1 _ List.mem_cons_self) fun b hb => k2 b (List.mem_flatMap.2 ⟨_, List.mem_cons_self, hb⟩)
           ·have hu2 : u' = .c undef := by
             have ht : t < (st j).r.length := by
              have := (List.getElem?_eq_some_iff.1 hu').1
              rw [f3, j4] at this
              simpa [S.put] using this
             rw [f3, j4] at hu'
             simp only [S.put] at hu'
             rw [List.getElem?_set_self ht] at hu'
             exact (Option.some.inj hu').symm
            rw [hu2]; rfl
         ·refine C.keepS ho e1 (Nat.le_of_not_lt hq3) him hm (fun j o' h1 h2 h3 h4 => ?_) u hu
          have := hne j o' h3 h4
          exact hlate ⟨j, o', by omega, h2, h3, h4⟩
        ·exact hmis ms _ e1 hi (Nat.le_of_not_lt hq3) (.inr ⟨him, .inr rfl⟩)
       obtain ⟨c1, c2⟩ := I.reg m t u hm (fun j o' h1 h2 => by
        have hji := hne j o' h1 h2
        rcases hw j o' h1 h2 with h | h
        ·exact .inl ⟨h.1, h.2.resolve_right hji⟩
        ·exact .inr ⟨h.1, fun h' => h.2 (.inl h')⟩) hu (fun j k h1 h2 h3 h4 => by
        by_cases hji : j = ms
        ·subst hji; rw [e1] at h1; cases h1; exact hself
        ·refine hmis j k h1 h2 h3 ?_
         rcases h4 with h4 | h4
         ·exact .inl ⟨h4.1, fun h => h4.2 (h.resolve_right hji)⟩
         ·exact .inr ⟨h4.1, .inl h4.2⟩)
       rw [zPR a x hd]
       have := c1.scrub (hp.sk hr)
       rw [hself] at this
       exact ⟨this, c2⟩
 ·have hw := want false e2
  rw [if_neg (by rw [hw]; simp)]
  have hnb : ¬ zIC ops info i := by rintro ⟨_, k, h1, h2⟩; rw [e1] at h1; cases h1
  refine hK _ w ρ Z ms ⟨I.le, (zOR.skip hnb).2 I.cur, I.nxt, fun m hm hc => I.hr m hm ((zOR.skip hnb).1 hc), I.frm, I.dom, fun j hj hnj => I.free j hj fun h => hnj (.inl h), by rw [zNR]; exact I.size, by rw [zD5]; exact I.defers,
   regs undef ρ Z w (by intro k h; rw [e1] at h; cases h) (fun t hd u hu => ?_) ⟨fun _ _ h => h, fun _ _ h => h, fun _ _ _ => rfl, fun _ _ _ _ _ => rfl⟩⟩
  have hu2 : u = .c undef := by
   have ht : t < (st i).r.length := by
    have := (List.getElem?_eq_some_iff.1 hu).1
    rw [e3, hd] at this
    simpa [S.put] using this
   rw [e3, hd] at hu
   simp only [S.put] at hu
   rw [List.getElem?_set_self ht] at hu
   exact (Option.some.inj hu).symm
  rw [hu2]
  exact ⟨.c _ trivial, .c _⟩
end
end Go.Proofs.YtipbfgknaihifaaGreat
namespace Go.Proofs.YtipbfgknaihifaaGreat
open Go.RowKit
section
variable {P : Program} {E : Env} {ops : Array Oper} {st : Nat → S} {info : Nat → Option Kr} {w0 : World} {Z0 : En}
theorem zRI {l : Array Bool} {j : Nat} (h : l.getD j true = false) : l.getD j false = false ∧ j < l.size := by
 rw [Array.getD_eq_getD_getElem?] at h ⊢
 cases e : l[j]? with
 | none => rw [e] at h; cases h
 | some b => rw [e] at h; exact ⟨by simpa using h, (Array.getElem?_eq_some_iff.1 e).1⟩
def zPk (n : Nat) (l : Array Bool) : List Nat := (List.range n).filter fun i => !l.getD i false
theorem zjv {n i : Nat} {l : Array Bool} (hi : i < n) (h : l.getD i false = false) (hs : l.size = n) : (zPk n (l.setIfInBounds i true)).length < (zPk n l).length := by
 have e : zPk n (l.setIfInBounds i true) = (zPk n l).filter (fun j => j != i) := by
  unfold zPk
  rw [List.filter_filter]
  apply List.filter_congr
  intro j _
  by_cases hj : i = j
  ·subst hj
   rw [Array.getD_eq_getD_getElem?, Array.getElem?_setIfInBounds_self_of_lt (by omega)]
   simp
  ·rw [getD_set_ne false hj]
   have : (j != i) = true := by simp; omega
   rw [this]; simp
 rw [e]
 have hm : i ∈ zPk n l := by
  unfold zPk
  rw [List.mem_filter]
  exact ⟨List.mem_range.2 hi, by rw [h]; rfl⟩
 exact List.length_filter_lt_length_iff_exists.2 ⟨i, hm, by simp⟩
theorem zk4 (hE : zHu P E) (C : Can P E ops st info) {Q : Exit → Act → World → Prop} (hQ : ∀ a w, Rel w0 Z0 (st ops.size) a w → Q .normal a w) :
  ∀ (zAi : Nat) (l : Array Bool) (a : Act) (w : World) (ρ : ye) (Z : Zs) (ms : Nat), (zPk ops.size l).length ≤ zAi → l.size = ops.size → Clo ops (Dn l) → Inv ops st info w0 Z0 (Dn l) a w ρ Z ms → wpAny P .any ops Q zAi l a w := by
 have done : ∀ (l : Array Bool) (a : Act) (w : World) (ρ : ye) (Z : Zs) (ms : Nat), (∀ j, j < ops.size → Dn l j) → Inv ops st info w0 Z0 (Dn l) a w ρ Z ms → Q .normal a w := by
  intro l a w ρ Z ms hall I
  have hm : ms = ops.size := by
   rcases I.nxt with h | h
   ·exact h
   ·exact absurd (hall ms h.1) (I.cur.2 ms (Nat.le_refl _) h)
  subst hm
  have hρ : ρ.upto (st ops.size).h.length = ρ := zJK I.dom
  have hr := I.hr _ I.le I.cur
  rw [hρ] at hr
  refine hQ a w ⟨ρ, Z, ⟨by rw [I.size]; exact (C.len (Nat.zero_le _) (Nat.le_refl _)).2.2, fun t v hv => ?_⟩, hr, I.frm, I.defers⟩
  refine (I.reg ops.size t v (Nat.le_refl _) (fun j o ho _ => ?_) hv (fun j k _ hj _ hmis => ?_)).1
  ·have := (Array.getElem?_eq_some_iff.1 ho).1
   exact .inl ⟨this, hall j this⟩
  ·rcases hmis with h | h
   ·exact absurd (hall j hj) h.2
   ·omega
 have stuck : ∀ (l : Array Bool), l.size = ops.size → Region.ready .any ops l = [] → ∀ j, j < ops.size → Dn l j := by
  intro l hs hrd j
  induction j using Nat.strongRecOn with
  | _ j ih =>
   intro hj
   by_cases hd : Dn l j
   ·exact hd
   ·exfalso
    obtain ⟨o, ho⟩ := zLg hj
    have hlt : j < l.size := by omega
    have hf : l.getD j true = false := by
     have h1 : l.getD j false = false := by
      cases e : l.getD j false with
      | false => rfl
      | true => exact absurd e hd
     rw [Array.getD_eq_getD_getElem?, Array.getElem?_eq_getElem hlt] at h1 ⊢
     exact h1
    have : j ∈ Region.ready .any ops l := mem_ready.2 ⟨hf, o, ho, fun e he hb => ih e.on (C.on j o ho e he hb) (by have := C.on j o ho e he hb; omega)⟩
    rw [hrd] at this; cases this
 intro zAi
 induction zAi with
 | zero =>
  intro l a w ρ Z ms hf hs hc I
  have hnil : zPk ops.size l = [] := List.eq_nil_of_length_eq_zero (by omega)
  have hall : ∀ j, j < ops.size → Dn l j := by
   intro j hj
   unfold Dn
   cases e : l.getD j false with
   | true => rfl
   | false =>
    have : j ∈ zPk ops.size l := by unfold zPk; rw [List.mem_filter]; exact ⟨List.mem_range.2 hj, by rw [e]; rfl⟩
    rw [hnil] at this; cases this
  refine ⟨?_, done l a w ρ Z ms hall I⟩
  cases hr : Region.ready .any ops l with
  | nil => rfl
  | cons i rest =>
   have hm : i ∈ Region.ready .any ops l := by rw [hr]; simp
   obtain ⟨h1, o, ho, _⟩ := mem_ready.1 hm
   have := hall i (Array.getElem?_eq_some_iff.1 ho).1
   have h2 := (zRI h1).1
   unfold Dn at this
   rw [this] at h2; cases h2
 | succ zAi ih =>
  intro l a w ρ Z ms hf hs hc I
  refine ⟨fun hr => done l a w ρ Z ms (stuck l hs hr) I, fun i hi => ?_⟩
  obtain ⟨h1, o, ho, hp⟩ := mem_ready.1 hi
  have hi' : i < ops.size := (Array.getElem?_eq_some_iff.1 ho).1
  have hnd : ¬ Dn l i := by unfold Dn; rw [(zRI h1).1]; simp
  have hpre : ∀ j ∈ zMa ops i, Dn l j := zRE hc ho fun e he hb => hp e he hb
  have hcl : ∀ j, j < ops.size → Dn l j → ∀ k ∈ zMa ops j, Dn l k := by
   intro j hj hd
   obtain ⟨o', ho'⟩ := zLg hj
   exact zRE hc ho' fun e he hb => hc j o' ho' hd e he hb
  have hD : Dn (l.setIfInBounds i true) = fun j => Dn l j ∨ j = i := by
   funext j
   apply propext
   unfold Dn
   by_cases e : i = j
   ·subst e
    rw [Array.getD_eq_getD_getElem?, Array.getElem?_setIfInBounds_self_of_lt (by omega)]
    simp
   ·rw [getD_set_ne false e]
    constructor
    ·exact .inl
    ·rintro (h | h)
     ·exact h
     ·exact absurd h.symm e
  refine I.step hE C ho hnd hpre hcl fun a' w' ρ' Z' ms' I' => ih _ a' w' ρ' Z' ms' ?_ (by simp [hs]) ?_ (by rw [hD]; exact I')
  ·have := zjv hi' (zRI h1).1 hs; omega
  ·intro j o' ho' hj e he hb
   rw [hD] at hj ⊢
   rcases hj with hj | rfl
   ·exact .inl (hc j o' ho' hj e he hb)
   ·rw [ho] at ho'; cases ho'
    exact .inl (hp e he hb)
theorem zi0 (hE : zHu P E) (hm : P.follows .mixedOrders = true) (w0 : World) (Z0 : En) : zZG P E w0 Z0 := by
 intro id ops s kS h a w hr Q hq
 obtain ⟨st, info, ks', c1, c2, c3, c4, c5, c6⟩ := chain ops ops.toList 0 [] [] s _ h
 simp only [Nat.zero_add, Array.length_toList] at c2 c3 c4 c6
 have hord : zNY ops.toList ks' = true := by
  cases e : zNY ops.toList ks' with
  | true => rfl
  | false => rw [e] at c3; simp at c3
 have hO := zYN hord
 have hkS : kS (st ops.size) := by rw [hord] at c3; simpa using c3
 have idx : ∀ (i : Nat) (r : Kr), i < ops.size → info i = some r → r.i = i := by
  intro i r hi hr
  obtain ⟨o, ho⟩ := zLg hi
  rcases c2 i o (by simpa using ho) with ⟨q, ok, v, H, e1, _⟩ | ⟨e1, _⟩
  ·rw [e1] at hr; cases hr; rfl
  ·rw [e1] at hr; cases hr
 have C : Can P E ops st info := ⟨fun i o ho => c2 i o (by simpa using ho), hO.dst, hO.on, fun i j r k hj hi e1 h2 e2 => by
  have := hO.bar k (c6 j k hj e1) h2 r (c6 i r hi e2)
  rwa [idx i r hi e2, idx j k hj e1] at this⟩
 refine wp_region_any hm ?_
 have hQ : ∀ a w, Rel w0 Z0 (st ops.size) a w → Q .normal a w := by
  intro a' w' hr'
  refine hq (st ops.size) a' w' hkS (fun R _ k => ?_) hr'
  rw [c4 R]
  simp [hord]
 have hdn : ∀ j, ¬ Dn (Array.replicate ops.size false) j := by
  intro j
  unfold Dn
  rw [Array.getD_eq_getD_getElem?]
  by_cases hj : j < ops.size
  ·rw [Array.getElem?_replicate, if_pos hj]; simp
  ·rw [Array.getElem?_replicate, if_neg hj]; simp
 obtain ⟨ρ, Z, r1, r2, r3, r4⟩ := hr
 obtain ⟨ms, n1, n2, n3, n4⟩ := zdX ops info (i := 0) (Nat.zero_le _)
 have hr2 : HR ρ Z s.h { w with drawn := w.drawn + 1 } := r2.keep (Nat.le_refl _) (fun b _ => rfl)
 have hzero : ∀ m, m ≤ ops.size → zOR ops info (Dn (Array.replicate ops.size false)) m → ∃ obs, (st m).h = (st 0).h ++ obs := fun m hm hc => (C.len (Nat.zero_le m) hm).2.1 fun j _ h2 h3 => hdn j (hc.1 j h2 h3)
 refine zk4 hE C hQ ops.size _ a _ ρ Z ms ?_ (by simp) (fun i o _ h => absurd h (hdn i)) ⟨n2, ⟨fun j hj hb => absurd hb (n3 j (Nat.zero_le _) hj), fun j _ _ => hdn j⟩, n4, fun m hm hc => ?_, ?_, fun o p e => ?_, fun i hi _ o h1 _ => ?_, ?_, r4, fun m t v hm hw hv _ => ?_⟩
 ·unfold zPk
  exact Nat.le_trans (List.length_filter_le _ _) (by simp)
 ·have hp := hzero m hm hc
  have hd : ∀ o p, ρ o = some p → o < (st m).h.length := by
   intro o p e
   have := r2.dom o p e
   rw [← c1] at this
   exact Nat.lt_of_lt_of_le this (C.len (Nat.zero_le m) hm).1
  rw [zJK hd]
  rw [← c1] at hr2
  exact hr2.more hp
 ·have hp := hzero ms n2 ⟨fun j hj hb => absurd hb (n3 j (Nat.zero_le _) hj), fun j _ _ => hdn j⟩
  obtain ⟨obs, e⟩ := hp
  refine ⟨⟨r3.size.le, r3.size.os, r3.size.tape, r3.size.output⟩, r3.same, fun o p x b k1 k2 k3 => ?_, r3.zs, fun j p k e0 => by
   obtain ⟨h1, ⟨cs, h2, h3⟩, h4⟩ := r3.refs j p k e0
   exact ⟨h1, ⟨cs, by rw [e, c1, List.getElem?_append_left (List.getElem?_eq_some_iff.1 h2).1]; exact h2, h3⟩, h4⟩⟩
  rw [e, c1, List.getElem?_append_left (r2.dom o p k1)] at k2
  exact r3.own o p x b k1 k2 k3
 ·have := r2.dom o p e
  rw [← c1] at this
  exact Nat.lt_of_lt_of_le this (C.len (Nat.zero_le ms) n2).1
 ·cases e : ρ o with
  | none => rfl
  | some p =>
   have h2 := r2.dom o p e
   rw [← c1] at h2
   have := (C.len (Nat.zero_le i) (Nat.le_of_lt hi)).1
   omega
 ·rw [c1]; exact r1.1.symm
 ·-- registers at the start
  refine C.regP (p := fun v => Cn ρ Z { w with drawn := w.drawn + 1 } v (a.tmps.getD t undef) ∧ Wf (st m).h.length v) (fun q v h => ⟨h.1.weak, h.2.scrub⟩) (Nat.zero_le m) hm (fun j o _ h2 ho hd => ?_) (fun v hv => ?_) v hv
  ·rcases hw j o ho hd with h | h
   ·exact hdn j h.2
   ·omega
  ·rw [c1] at hv
   have hcn := r1.2 t v hv
   refine ⟨hcn.mono ⟨fun _ _ h => h, fun _ _ h => h, fun _ _ _ => rfl, fun _ _ _ _ _ => rfl⟩, ?_⟩
   have := hcn.wf r2.dom
   rw [← c1] at this
   exact this.mono (C.len (Nat.zero_le m) hm).1
end
end Go.Proofs.YtipbfgknaihifaaGreat
namespace Go.Proofs.YtipbfgknaihifaaGreat
open Go.RowKit
def Wd : (t : Ty) → El t → Prop
 | .int, (n : Int) => InK .i64 n
 | .u8, (n : Int) => InK .u8 n
 | .bool, _ => True
 | .str, (s : ByteArray) => s.size ≤ 9223372036854775807
 | .lst t, (l : List (El t)) => l.length ≤ lim t ∧ ∀ x ∈ l, Wd t x
 | .pr a b, (x : El a × El b) => Wd a x.1 ∧ Wd b x.2
def WdL : (ts : List Ty) → TyL ts → Prop
 | [], _ => True
 | t :: ts, x => Wd t x.1 ∧ WdL ts x.2
def AD.Wd : (d : AD) → d.T → Prop
 | .val _ s, x => Go.Proofs.YtipbfgknaihifaaGreat.Wd s.ty x
 | .bx t _, x => Go.Proofs.YtipbfgknaihifaaGreat.Wd t x
 | .fn _ ts, x => WdL ts x
 | .ref s, x => Go.Proofs.YtipbfgknaihifaaGreat.Wd s.ty x
 | .pt _ _, _ => True
 | .ep t _, x => (0 ≤ x.2 ∧ x.2 < (x.1.length : Nat)) ∧ ∀ y ∈ x.1, Go.Proofs.YtipbfgknaihifaaGreat.Wd t y
def xG : (ds : List AD) → Args ds → Prop
 | [], _ => True
 | d :: ds, x => d.Wd x.1 ∧ xG ds x.2
section
variable {ρ : ye} {Z : Zs} {w : World}
theorem zK0 {q : Nat} : ∀ (t : Ty) (x : El t), (∀ (j : Nat) (u : V), (enc q t x)[j]? = some u → ∃ y, Cn ρ Z w u y) → Wd t x
 | .int, x, h => by obtain ⟨y, h⟩ := h 0 _ rfl; exact zIU h
 | .u8, x, h => by obtain ⟨y, h⟩ := h 0 _ rfl; exact zIU h
 | .bool, x, h => trivial
 | .str, x, h => by obtain ⟨y, h⟩ := h 0 _ rfl; exact zIU h
 | .lst t, l, h => by
  obtain ⟨y, h⟩ := h 0 _ rfl
  obtain ⟨a, c, b, o, ys, _, g0, _, _, _, _, _, g6⟩ := h.ext_inv
  refine ⟨g0, fun x hx => ?_⟩
  obtain ⟨i, hi⟩ := List.mem_iff_getElem?.1 hx
  exact zK0 t x fun j u hu => ⟨_, g6 i x j u hi hu⟩
 | .pr a b, x, h => by
  refine ⟨zK0 (q := q) a x.1 fun j u hu => h j u ?_, zK0 (q := q) b x.2 fun j u hu => h (zc a + j) u ?_⟩
  ·simp only [enc]; rw [List.getElem?_append_left (List.getElem?_eq_some_iff.1 hu).1]; exact hu
  ·simp only [enc]; rw [List.getElem?_append_right (by rw [yL]; omega), yL, Nat.add_sub_cancel_left]; exact hu
theorem TrO.wd : ∀ {s : OT} {x : El s.ty} {vs : List Value} {fp : Nat → Prop}, TrO Z w s x vs fp → Wd s.ty x
 | .d t, x, vs, fp, h => by
  refine zK0 (q := 0) (ρ := zAX) (Z := Z) (w := w) t x fun j u hu => ?_
  have hj : j < vs.length := by rw [h.2.1, ← yL (q := 0) t x]; exact (List.getElem?_eq_some_iff.1 hu).1
  exact ⟨_, h.2.2 j u _ hu (List.getElem?_eq_getElem hj)⟩
 | .o s, l, vs, fp, h => by
  obtain ⟨v, b, rfl, h⟩ := h
  rcases h with ⟨_, h, _⟩ | ⟨cur, e, c, fs, h⟩
  ·subst h; exact ⟨Nat.zero_le _, by intro x h; cases h⟩
  ·refine ⟨h.hl, fun x hx => ?_⟩
   obtain ⟨i, hi⟩ := List.mem_iff_getElem?.1 hx
   exact TrO.wd (h.ht i x hi)
 | .pr a b, x, vs, fp, h => by
  obtain ⟨f, g, h1, h2, _⟩ := h
  exact ⟨h1.wd, h2.wd⟩
theorem zP5 : ∀ (s : OT) (x : El s.ty) (k : Nat), (∀ (j : Nat) (u : V), (zA8 s x k)[j]? = some u → ∃ y, Cn ρ Z w u y) → (∀ (i : Nat) (ob : Ob), (zGL s x)[i]? = some ob → ∃ p, ObR ρ Z w ob p) → Wd s.ty x
 | .d t, x, k, h, _ => zK0 t x h
 | .o s, l, k, _, h => by
  obtain ⟨p, h⟩ := h 0 _ rfl
  exact TrO.wd (s := .o s) (vs := [p.x]) ⟨p.x, p.b, rfl, h⟩
 | .pr a b, x, k, h, g => by
  refine ⟨zP5 a x.1 k (fun j u hu => h j u ?_) (fun i ob e => g i ob ?_), zP5 b x.2 (k + a.n) (fun j u hu => h (zc a.ty + j) u ?_) (fun i ob e => g (a.n + i) ob ?_)⟩
  ·simp only [zA8]; rw [List.getElem?_append_left (List.getElem?_eq_some_iff.1 hu).1]; exact hu
  ·simp only [zGL]; rw [List.getElem?_append_left (List.getElem?_eq_some_iff.1 e).1]; exact e
  ·simp only [zA8]; rw [List.getElem?_append_right (by rw [yZ]; omega), yZ, Nat.add_sub_cancel_left]; exact hu
  ·simp only [zGL]; rw [List.getElem?_append_right (by rw [zF4]; omega), zF4, Nat.add_sub_cancel_left]; exact e
theorem zhG {agg : Bool} {s : OT} {x : El s.ty} {k : Nat} {y : Value} (h : Cn ρ Z w (one agg (zA8 s x k)) y) (ha : agg = false → zc s.ty = 1) : ∀ (j : Nat) (u : V), (zA8 s x k)[j]? = some u → ∃ y, Cn ρ Z w u y := by
 intro j u hu
 cases agg with
 | true =>
  cases h with
  | agg h0 h =>
   rename_i xs
   have hj := (List.getElem?_eq_some_iff.1 hu).1
   exact ⟨_, h j u _ hu (List.getElem?_eq_getElem (by omega))⟩
 | false =>
  have hj := (List.getElem?_eq_some_iff.1 hu).1
  rw [yZ, ha rfl] at hj
  have : j = 0 := by omega
  subst this
  have : (zA8 s x k).getD 0 .any = u := by rw [List.getD_eq_getElem?_getD, hu]; rfl
  simp only [one, Bool.false_eq_true, if_false, this] at h
  exact ⟨y, h⟩
theorem zZA {vs : List V} {off : Nat} {y : Value} (h : Cn ρ Z w (.bx vs off) y) : ∀ (j : Nat) (u : V), vs[j]? = some u → ∃ y, Cn ρ Z w u y := by
 intro j u hu
 cases h with
 | bx h0 h1 h2 h =>
  rename_i b base e xs
  have hj := (List.getElem?_eq_some_iff.1 hu).1
  have : base + j < xs.size := by omega
  exact ⟨_, h j u _ hu (Array.getElem?_eq_getElem this)⟩
theorem zYM : ∀ (ts : List Ty) (x : TyL ts), (∀ (j : Nat) (u : V), (zKk ts x)[j]? = some u → ∃ y, Cn ρ Z w u y) → WdL ts x
 | [], _, _ => trivial
 | t :: ts, x, h => by
  refine ⟨?_, zYM ts x.2 fun j u hu => h (j + 1) u (by simpa [zKk] using hu)⟩
  obtain ⟨y, g⟩ := h 0 _ rfl
  exact zK0 t x.1 (zZA g)
theorem zdu : ∀ (ds : List AD) (a : Args ds) (i k : Nat), ds.all AD.one1 = true → (∀ (j : Nat) (u : V), (zGG ds a i k)[j]? = some u → ∃ y, Cn ρ Z w u y) → (∀ (j : Nat) (ob : Ob), (yz ds a k)[j]? = some ob → ∃ p, ObR ρ Z w ob p) →
  (∀ (j : Nat) (ob : Ob), (zEU ds a)[j]? = some ob → ∃ p, ObR ρ Z w ob p) → xG ds a
 | [], _, _, _, _, _, _, _ => trivial
 | d :: ds, a, i, k, ho, h, g, e => by
  simp only [List.all_cons, Bool.and_eq_true] at ho
  refine ⟨?_, zdu ds a.2 (i + d.r) (k + d.n) ho.2 (fun j u hu => h (j + 1) u (by simpa [zGG] using hu)) (fun j ob hj => g (d.r + j) ob ?_) (fun j ob hj => e ((d.arrs a.1).length + j) ob ?_)⟩
  ·obtain ⟨y, h0⟩ := h 0 _ rfl
   have e0 : ∀ (j : Nat) (ob : Ob), (d.arrs a.1)[j]? = some ob → ∃ p, ObR ρ Z w ob p := fun j ob hj => e j ob (by simp only [zEU]; rw [List.getElem?_append_left (List.getElem?_eq_some_iff.1 hj).1]; exact hj)
   cases d with
   | val agg s => exact zP5 s a.1 k (zhG h0 fun h => by subst h; simpa [AD.one1] using ho.1) e0
   | bx t off => exact zK0 t a.1 (zZA h0)
   | fn f ts =>
    cases h0 with
    | fn g0 g1 =>
     refine zYM (ρ := ρ) (Z := Z) (w := w) ts a.1 fun j u hu => ?_
     have hj := (List.getElem?_eq_some_iff.1 hu).1
     exact ⟨_, g1 j u _ hu (List.getElem?_eq_getElem (by omega))⟩
   | ref s =>
    obtain ⟨p, _, _, xs, _, _, h3, h4⟩ := g 0 (.box (zA8 s a.1 k)) (by simp [yz, AD.boxes])
    refine zP5 s a.1 k (fun j u hu => ?_) e0
    have hj := (List.getElem?_eq_some_iff.1 hu).1
    have : p.off + j < xs.size := by omega
    exact ⟨_, h4 j u _ hu (Array.getElem?_eq_getElem this)⟩
   | pt o off => trivial
   | ep t off =>
    cases h0 with
    | ept ys hq g0 g4 g5 g6 =>
     refine ⟨g0, fun x hx => ?_⟩
     obtain ⟨i, hi⟩ := List.mem_iff_getElem?.1 hx
     exact zK0 t x fun j u hu => ⟨_, g6 i x j u hi hu⟩
  ·simp only [yz]; rw [List.getElem?_append_right (by rw [AD.boxes_len]; omega), AD.boxes_len, Nat.add_sub_cancel_left]; exact hj
  ·simp only [zEU]; rw [List.getElem?_append_right (by omega), Nat.add_sub_cancel_left]; exact hj
theorem zdn {ds : List AD} {a : Args ds} {xs : List Value} (h1 : ds.all AD.one1 = true) (hr : HR ρ Z (xA ds a) w) (hl : xs.length = ds.length) (hc : ∀ (i : Nat) (u : V) (y : Value), (zHp ds a)[i]? = some u → xs[i]? = some y → Cn ρ Z w u y)
  (ht : ∀ o, o < (xA ds a).length → ∃ p, ρ o = some p) : xG ds a := by
 have ob : ∀ (j : Nat) (x : Ob), (xA ds a)[j]? = some x → ∃ p, ObR ρ Z w x p := fun j x hj => by
  obtain ⟨p, hp⟩ := ht j (List.getElem?_eq_some_iff.1 hj).1
  exact ⟨p, hr.ob j p x hp hj⟩
 refine zdu ds a 0 (yA ds) h1 (fun j u hu => ?_) (fun j x hj => ob j x ?_) (fun j x hj => ob (yA ds + j) x ?_)
 ·have hj := (List.getElem?_eq_some_iff.1 hu).1
  rw [zIl] at hj
  exact ⟨_, hc j u _ hu (List.getElem?_eq_getElem (by omega))⟩
 ·simp only [xA]; rw [List.getElem?_append_left (List.getElem?_eq_some_iff.1 hj).1]; exact hj
 ·simp only [xA]; rw [List.getElem?_append_right (by rw [xx]; omega), xx, Nat.add_sub_cancel_left]; exact hj
end
end Go.Proofs.YtipbfgknaihifaaGreat
