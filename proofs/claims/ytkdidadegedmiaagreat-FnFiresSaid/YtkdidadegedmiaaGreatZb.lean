/- Parts of a proof. -/
import Derived.Test.YtkdidadegedmiaaGreatZa
import Derived.Lib.MinMax
namespace Go.Proofs.YtkdidadegedmiaaGreat
open Go.RowKit
section
variable {P : Program} {ρ ρ' : yH} {Z Z' : Zs} {w w' : World} {H H' H1 : List Ob} {o : Oper} {ev : Operand → V}
theorem HR.postKeep (h : HR ρ Z H w) (gr : Gr w w') (hs : ∀ b, b < w.heap.size → w'.heap[b]? = w.heap[b]?) (q : Nat) : Post q ρ Z H w ρ Z H w' where
 size := gr
 rho _ p h _ := ⟨p.fp, h, fun _ => rfl⟩
 brw _ _ b e _ hb := hs b (h.fplt e hb)
 bxs o cs h := ⟨cs, h, rfl⟩
 part _ _ _ e e' := zBF.same (hs _ (h.own e e' rfl).2)
 dom o p e := .inl ⟨p, e⟩
 newb o p x b h1 h2 h3 := .inr ⟨o, p, x, h1, h2, h3⟩
 zm _ _ h := h
 zn _ _ h := .inl h
 same b hb _ := hs b hb
 quiet _ := ⟨hs, fun _ _ h => .inl h, ⟨[], by simp⟩, fun o p x b h1 h2 _ _ => absurd (h.dom o p h2) (by omega)⟩
 hr := h.keep gr.le hs
theorem zgK {s : OT} {n : Nat} {xs : List (El s.ty)} {os : List Nat} {q : Nat} {ys : List Value} {Z1 : Zs} {fs : Nat → Nat → Prop} (hr : HR ρ Z H w) (hl1 : H1.length = H.length) (hxs : xs.length = n) (a2 : HR ρ Z1 H1 w)
  (post : Post q ρ Z H w (ρ.del os) Z1 (zy H1 os q) w) (t1 : ∀ i x, xs[i]? = some x → TrO Z1 w s x ((ys.drop (i * zO s.ty)).take (zO s.ty)) (fs i)) (t2 : ∀ i j b, i < n → j < n → fs i b → fs j b → i = j)
  (t3 : ∀ i b, i < n → fs i b → zID ρ H1 os b) (t4 : ∀ o, o ∈ os → ∃ s l, H1[o]? = some (.arr s l) ∧ H[o]? = some (.arr s l)) (t6 : q < 2 → os = [])
  {e c : Nat} {cur : Array Value} (gr : Gr w w') (hs : ∀ b, b < w.heap.size → w'.heap[b]? = w.heap[b]?) {b0 : Nat} (hb0 : w.heap.size ≤ b0) (hw : w'.heap[b0]? = some (.cells cur e (0, 0))) (h1 : n ≤ c) (h2 : c ≤ maxLen) (h3 : c * zO s.ty ≤ cur.size) (hn : n ≤ 16777216)
  (hcell : ∀ i, i < n → zu cur (zO s.ty) i = (ys.drop (i * zO s.ty)).take (zO s.ty)) :
  ∃ ρ2, Post q ρ Z H w ρ2 Z1 (zy H1 os q ++ [.arr s xs]) w' ∧ Cn ρ2 Z1 w' (.obj H1.length) (.slice (some ⟨b0, 0, none⟩) n c) := by
 have hbl : (zy H1 os q).length = H1.length := xJ _ _ _
 have lm : n ≤ lim s.ty := by cases s.ty <;> simp only [lim, maxLen] <;> omega
 have facts := fun i b hi hb => (t3 i b hi hb).facts (q := q) a2
 have hz : ∀ k b, Z1 k b → w'.heap[b]? = w.heap[b]? := fun k b hb => hs b (a2.zl k b hb)
 refine ⟨(ρ.del os).upd H1.length ⟨b0, .slice (some ⟨b0, 0, none⟩) n c, 0, fun b => b = b0 ∨ ∃ i, i < n ∧ fs i b⟩, ?_, .obj (p := ⟨b0, .slice (some ⟨b0, 0, none⟩) n c, 0, fun b => b = b0 ∨ ∃ i, i < n ∧ fs i b⟩) (yH.upd_self _ _ _) rfl⟩
 refine Post.place (f0 := vm) hr post (M := zID ρ H1 os) (x := .arr s xs) ?_ (fun i hi => ?_) (by rw [← hbl]; simp) (fun b hb => ?_) (fun b k hb => (hb.facts (q := q) a2).1 k) (fun o' p' x' b e1 e2 e3 hb => (hb.facts (q := q) a2).2.2 o' p' x' e1 e2 e3) gr (fun b hb _ => hs b hb) ?_ (fun b hb => ?_) (fun cs h => ?_) (.inr (.inl (by omega))) (fun hq => ⟨hbl.symm, fun b hb => ?_⟩)
 ·cases e : (ρ.del os) H1.length with
  | none => rfl
  | some p => have := hr.dom _ _ (yH.del_some e).2; omega
 ·by_cases hlt : i < H1.length
  ·rw [List.getElem?_append_left (by omega)]
  ·rw [List.getElem?_eq_none (by simp; omega), List.getElem?_eq_none (by omega)]
 ·obtain ⟨o0, p0, x0, g0, g1, g2, g3⟩ := hb
  obtain ⟨s', l', g4, g5⟩ := t4 o0 g0
  rw [g4] at g2; cases g2
  exact ⟨o0, p0, _, g1, g5, g3⟩
 ·refine .inr ⟨cur, e, c, fs, ⟨by rw [hxs], hw, fun k hk => ?_, by omega, h2, by omega, h3, fun b => by rw [hxs], fun i hi hb => ?_, fun i j b hi hj => t2 i j b (by omega) (by omega), fun i x hx => ?_⟩⟩
  ·have := a2.zl k _ hk; simp only at this; omega
  ·have := (facts i _ (by omega) hb).2.1; simp only at this; omega
  ·have hi : i < n := by rw [← hxs]; exact (List.getElem?_eq_some_iff.1 hx).1
   rw [hcell i hi]
   exact (t1 i x hx).mono (fun _ _ h => h) hz (fun b hb => hs b (facts i b hi hb).2.1) (fun b k hb => (facts i b hi hb).1 k)
 ·rcases hb with rfl | ⟨i, hi, hb⟩
  ·exact .inl hb0
  ·exact .inr (t3 i b hi hb)
 ·rw [List.getElem?_eq_none (by omega)] at h; cases h
 ·obtain ⟨o0, _, _, g0, _⟩ := hb
  rw [t6 hq] at g0; cases g0
theorem zuK {g : Gv} {t : TypeId} {n : Nat} {parts : Array (Nat × Operand)} (ho : o.op = .buildSlice t n parts) {q : Nat} {ok : Option Prop} {v : V} (h : zdt P g t n (parts.toList.map fun p => (p.1, ev p.2)) H = .mk q ok v H') : OpS P o ev H (.mk q ok v H') := by
 unfold zdt at h
 split at h
 ·rename_i e e1
  split at h
  ·rename_i s z e2 e3
   obtain ⟨ie, zv, i1, i2, i3, rfl, hz0⟩ := zA7 e3
   split at h
   ·rename_i h0
    cases h
    obtain ⟨rfl, hp⟩ := h0
    obtain rfl : parts = #[] := by
     rw [List.length_map] at hp
     exact Array.toList_inj.1 (List.eq_nil_of_length_eq_zero hp)
    intro ρ Z w a hr hx _ K Q hK
    have hrun : (execOp a.eval o).run P w = .ok (.value (.slice (some ⟨w.heap.size, 0, none⟩) 0 0)) (w.alloc (.cells #[] e)) := by
     have e0 : ∀ f : Nat → Value, (Array.range 0).map f = #[] := fun f => Array.eq_empty_of_size_eq_zero (by simp)
     simp [execOp, ho, Instr.buildSlice, run_underlying e1, sizeOf, typeInfo, i1, newRow, Instr.fill, e0]
    have hs : ∀ b, b < w.heap.size → (w.alloc (.cells #[] e)).heap[b]? = w.heap[b]? := fun b hb => Below.heap_alloc w _ b hb
    unfold Oper.wp
    rw [hrun]
    exact hK ρ Z _ _ (hr.postKeep (Gr.alloc w _) hs 1) (.nil0 _)
   ·split at h
    ·rename_i hk
     obtain ⟨hk, hz, hpos, hsm⟩ := hk
     split at h
     ·rename_i cs e4
      split at h
      ·rename_i xs H1 os q' e5
       cases h
       intro ρ Z w a hr hx _ K Q hK
       obtain ⟨h1, h2⟩ := zbK (ρ := ρ) (Z := Z) (w := w) (ev := ev) (parts := parts) (a := a) (fun p hp => hx p.2 (by simp only [ho, Op.operands]; simp; exact ⟨p.1, by simpa using hp⟩))
       have hsz : ie.size = zO s.ty := by rw [hk]; unfold vD; rw [i1]
       have hzs : zv.cells.size = zO s.ty := by simpa using hz
       have hkp := zAs s.ty
       have hn : n ≤ 16777216 := by have := Nat.le_mul_of_pos_right n hkp; omega
       obtain ⟨rs, g1, g2, g3⟩ := zYV _ _ _ _ ((Array.range (n * ie.size)).map (zv.cells[· % zv.cells.size]!)) cs h1 h2 (by simp [hsz]) (fun i u y hu hy => by
        have hi : i < n * zO s.ty := by
         have := (List.getElem?_eq_some_iff.1 hu).1
         simpa using this
        have hm : i % zO s.ty < zv.cells.size := by rw [hzs]; exact Nat.mod_lt _ hkp
        have e8 : (zv.cells.toList.map V.c).getD (i % zO s.ty) .any = .c (zv.cells[i % zO s.ty]) := by
         rw [List.getD_eq_getElem?_getD, List.getElem?_map, Array.getElem?_toList, Array.getElem?_eq_getElem hm]
         rfl
        rw [List.getElem?_map, List.getElem?_range hi, Option.map_some, e8] at hu
        rw [Array.getElem?_map, Array.getElem?_range, if_pos (by rw [hsz]; exact hi), Option.map_some, hzs, getElem!_pos zv.cells _ hm] at hy
        cases hu; cases hy
        exact .c _ (zgu (hz0 _ (Array.mem_toList_iff.2 (Array.getElem_mem hm))))) e4
       have hrun := run_buildSlice (P := P) w t e n (parts.map fun p => (p.1, a.eval p.2)) rs ie zv e1 i1 i2 (by rw [hsz]; omega) (by rw [hsz]; have := Nat.mul_pos hpos hkp; omega) (by rw [hsz] at g1 ⊢; exact g1)
       have hs : ∀ b, b < w.heap.size → (w.alloc (.cells rs e)).heap[b]? = w.heap[b]? := fun b hb => Below.heap_alloc w _ b hb
       have hlen : cs.length = n * zO s.ty := by
        have := zlf e4
        rw [this]; simp
       obtain ⟨l1, l2, Z1, fs, a1, a2, a3, t1, t2, t3, t4, _, t6⟩ := zXr e5 hr (ys := rs.toList) (by simpa using g2) (by omega) (fun i u y hu hy => g3 i u y hu (by simpa using hy))
       obtain ⟨ρ2, p1, p2⟩ := zgK (w' := w.alloc (.cells rs e)) (cur := rs) (e := e) (c := n) (b0 := w.heap.size) hr l1 l2 a2 a3 t1 t2 t3 t4 t6 (Gr.alloc w _) hs (Nat.le_refl _) (heap_alloc_new w _) (Nat.le_refl _) (by simp only [maxLen]; omega) (by rw [g2, hlen]; exact Nat.le_refl _) hn (fun i _ => rfl)
       unfold Oper.wp
       have hx' : (execOp a.eval o).run P w = .ok (.value (.slice (some ⟨w.heap.size, 0, none⟩) n n)) (w.alloc (.cells rs e)) := by
        simp only [execOp, ho, Sem.run_bind, Sem.run_pure]
        rw [hrun]
        rfl
       rw [hx']
       exact hK ρ2 Z1 _ _ p1 p2
      ·cases h
     ·cases h
    ·cases h
  ·cases h
 ·cases h
theorem zs7 {g : Gv} {t : TypeId} {x y : Operand} (ho : o.op = .makeSlice t x y) {q : Nat} {ok : Option Prop} {v : V} (h : zUt P g t (ev x) (ev y) H = .mk q ok v H') : OpS P o ev H (.mk q ok v H') := by
 unfold zUt at h
 split at h
 ·rename_i e n m e1 e2 e3
  split at h
  ·rename_i s zs e4 e5
   obtain ⟨i, z, i1, i2, i3, rfl, hz0⟩ := zA7 e5
   split at h
   ·rename_i hk
    split at h
    ·rename_i x0 e6
     cases h
     obtain ⟨hk, hzs, hby⟩ := hk
     have hik : i.size = zO s.ty := by rw [hk]; unfold vD; rw [i1]
     have hby : i.bytes ≤ 8388608 := by unfold zTB at hby; rw [i1] at hby; exact hby
     intro ρ Z w a hr hx hok K Q hK
     obtain ⟨hn0, hm0, hm1⟩ := hok
     have c1 := hx x (by simp [ho, Op.operands])
     have c2 := hx y (by simp [ho, Op.operands])
     rw [e2] at c1; rw [e3] at c2
     obtain ⟨n, rfl⟩ : ∃ k : Nat, n = k := ⟨n.toNat, by omega⟩
     obtain ⟨m, rfl⟩ : ∃ k : Nat, m = k := ⟨m.toNat, by omega⟩
     have hnm : n ≤ m := by omega
     have hmb : m * i.bytes ≤ 140737488355328 := Nat.le_trans (Nat.mul_le_mul (show m ≤ 16777216 by omega) hby) (by decide)
     have hw : IntKind.i64.wrap (m : Int) = m := by rw [IntKind.wrap_i64] <;> omega
     have hw0 : IntKind.i64.wrap (n : Int) = n := by rw [IntKind.wrap_i64] <;> omega
     have hm2 : ¬ ((m : Int) < 0) := by omega
     have hn2 : ¬ ((n : Int) < 0) := by omega
     have hnm2 : ¬ ((m : Int) < (n : Int)) := by omega
     have hm3 : ¬ ((i.bytes : Int) * (m : Int) > 2 ^ 48) := by
      have : (i.bytes : Int) * (m : Int) = ((m * i.bytes : Nat) : Int) := by rw [Int.natCast_mul, Int.mul_comm]
      rw [this]; omega
     have hm4 : ¬ (281474976710656 < (i.bytes : Int) * (m : Int)) := by simpa using hm3
     have hn3 : ¬ ((i.bytes : Int) * (n : Int) > 2 ^ 48) := by
      have : (i.bytes : Int) * (n : Int) = ((n * i.bytes : Nat) : Int) := by rw [Int.natCast_mul, Int.mul_comm]
      have h2 : n * i.bytes ≤ m * i.bytes := Nat.mul_le_mul_right _ hnm
      rw [this]; omega
     have hn4 : ¬ (281474976710656 < (i.bytes : Int) * (n : Int)) := by simpa using hn3
     have hroom : ¬ (m * i.bytes > roomBytes) := by simp only [roomBytes]; omega
     have hkp := zAs s.ty
     have hzs : z.cells.size = zO s.ty := by simpa using hzs
     have h0 : ¬ (m * i.size = 0 ∧ 0 < m) := by rintro ⟨h1, h2⟩; have := Nat.mul_pos h2 (show 0 < i.size by rw [hik]; exact hkp); omega
     have hrun : ∃ cells, (execOp a.eval o).run P w = .ok (.value (.slice (some ⟨w.heap.size, 0, none⟩) n m)) (w.alloc (.cells cells e)) ∧ cells.size = m * i.size ∧ ∀ r j, r < m → j < zO s.ty → cells[r * zO s.ty + j]? = z.cells[j]? := by
      by_cases h0 : m * i.size = 0
      ·have hmz : m = 0 := by
        rcases Nat.eq_zero_or_pos m with h | h
        ·exact h
        ·exact absurd ⟨h0, h⟩ ‹¬ (m * i.size = 0 ∧ 0 < m)›
       refine ⟨(Array.range (m * i.size)).map ((#[] : Array Value)[· % 0]!), ?_, by simp, fun r j hr => by omega⟩
       simp [execOp, ho, Instr.makeSlice, x8 c1, x8 c2, run_underlying e1, asInt, asIntOf, typeInfo, i1, hw, hw0, hm2, hn2, hnm2, hm4, askRoom, sizeOf, h0, newRow]
      ·refine ⟨(Array.range (m * i.size)).map (z.cells[· % z.cells.size]!), ?_, by simp, fun r j hr hj => ?_⟩
       ·simp [execOp, ho, Instr.makeSlice, x8 c1, x8 c2, run_underlying e1, asInt, asIntOf, typeInfo, i1, hw, hw0, hm2, hn2, hnm2, hm4, askRoom, sizeOf, h0, newRow, i3]
       ·have hlt : r * zO s.ty + j < m * i.size := by
         have : (r + 1) * zO s.ty ≤ m * zO s.ty := Nat.mul_le_mul_right _ hr
         rw [Nat.succ_mul] at this; rw [hik]; omega
        have hmod : (r * zO s.ty + j) % z.cells.size = j := by rw [hzs, Nat.add_comm, Nat.add_mul_mod_self_right, Nat.mod_eq_of_lt hj]
        rw [Array.getElem?_map, Array.getElem?_range, if_pos hlt, Option.map_some, hmod, getElem!_pos z.cells j (by omega), Array.getElem?_eq_getElem (by omega)]
     obtain ⟨cells, hrun, hcs, hcell⟩ := hrun
     unfold Oper.wp
     rw [hrun]
     have zh : HR zAX Z [] w := HR.none hr.zl
     obtain ⟨fp, tr, fr⟩ := zd5 (c := ⟨false, false, [], []⟩) zh ⟨fun _ _ h => h, hr.zl, fun o x e => by simp at e, fun h => (by cases h), fun h => (by cases h)⟩ s _ z.cells.toList x0 (by simp) (fun i u y hu hy => zR1 hz0 hu (by simpa using hy)) e6 (by
      have : ∀ l : List (Option Nat), (∀ x ∈ xm l, False) → xm l = [] := fun l h => List.eq_nil_iff_forall_not_mem.2 h
      rw [this _ fun o ho => by obtain ⟨_, _, g⟩ := zNG (c := ⟨false, false, [], []⟩) s _ x0 e6 o ho; simp at g]
      exact List.nodup_nil)
     have hfp : ∀ b, ¬ fp b := fun b hb => by obtain ⟨_, _, _, _, g, _⟩ := fr b hb; simp [zAX] at g
     refine hK _ Z _ _ (hr.postNew (w' := w.alloc (.cells cells e)) (x := .arr s (List.replicate n x0)) (p := ⟨w.heap.size, .slice (some ⟨w.heap.size, 0, none⟩) n m, 0, fun b => b = w.heap.size⟩) (Gr.alloc w _) (fun b hb => Below.heap_alloc w _ b hb) ?_ (fun b hb => by cases hb; exact Nat.le_refl _) 1) (.obj (p := ⟨w.heap.size, .slice (some ⟨w.heap.size, 0, none⟩) n m, 0, fun b => b = w.heap.size⟩) (yH.upd_self _ _ _) rfl)
     refine .inr ⟨cells, e, m, fun _ => vm, ⟨by rw [List.length_replicate], heap_alloc_new w _, fun k hk => Nat.lt_irrefl _ (hr.zl k _ hk), by simpa using hnm, by simp only [maxLen]; omega, by rw [List.length_replicate]; cases s.ty <;> simp only [lim, maxLen] <;> omega, by rw [hcs, hik]; exact Nat.le_refl _, fun b => by simp [vm], fun _ _ h => h, fun _ _ _ _ _ h => h.elim, fun r x hx => ?_⟩⟩
     have hrn : r < n := by have := (List.getElem?_eq_some_iff.1 hx).1; simpa using this
     obtain rfl : x = x0 := List.eq_of_mem_replicate (List.mem_of_getElem? hx)
     have hc : zu cells (zO s.ty) r = z.cells.toList := by
      apply List.ext_getElem?
      intro j
      by_cases hj : j < zO s.ty
      ·rw [xR hj, hcell r j (by omega) hj]; simp
      ·rw [List.getElem?_eq_none (by simp [zu]; omega), List.getElem?_eq_none (by simp; omega)]
     rw [hc]
     have hfe : fp = vm := funext fun b => propext ⟨fun h => hfp b h, False.elim⟩
     rw [← hfe]
     exact tr.mono (fun _ _ h => h) (fun k b hb => Below.heap_alloc w _ b (hr.zl k b hb)) (fun b hb => absurd hb (hfp b)) (fun b k hb => absurd hb (hfp b))
    ·cases h
   ·cases h
  ·cases h
 ·cases h
end
end Go.Proofs.YtkdidadegedmiaaGreat
namespace Go.Proofs.YtkdidadegedmiaaGreat
open Go.RowKit
section
variable {P : Program} {ρ ρ' : yH} {Z Z' : Zs} {w w' : World} {H H' : List Ob} {o : Oper} {ev : Operand → V}
theorem zSQ {v : V} {x : Value} (h : Cn ρ Z w v x) (hl : zI6 v = true) : x.oneCell' = true := by
 cases h <;> simp_all [zI6, Value.oneCell']
theorem zVt {q : Nat} : ∀ (t : Ty) (x : El t), ∀ u ∈ enc q t x, zI6 u = true
 | .int, _ => by simp [enc, zI6, Value.oneCell']
 | .u8, _ => by simp [enc, zI6, Value.oneCell']
 | .bool, _ => by simp [enc, zI6, Value.oneCell']
 | .str, _ => by simp [enc, zI6, Value.oneCell']
 | .lst _, _ => by simp [enc, zI6]
 | .pr a b, x => by
  intro u hu
  simp only [enc, List.mem_append] at hu
  rcases hu with h | h
  ·exact zVt a _ u h
  ·exact zVt b _ u h
theorem zN5 (w : World) (g : Nat) (cs : Array Value) : (w.setRow g cs).heap.size = w.heap.size := by simp [World.setRow]
theorem TrO.one : ∀ {s : OT} {x : El s.ty} {vs : List Value} {fp : Nat → Prop}, TrO Z w s x vs fp → ∀ v ∈ vs, v.oneCell' = true
 | .d t, x, vs, fp, h, v, hv => by
  obtain ⟨j, hj⟩ := List.mem_iff_getElem?.1 hv
  have hlt : j < zO t := by rw [← h.2.1]; exact (List.getElem?_eq_some_iff.1 hj).1
  have hu : (Go.Proofs.YtkdidadegedmiaaGreat.enc 0 t x)[j]? = some ((Go.Proofs.YtkdidadegedmiaaGreat.enc 0 t x)[j]'(by rw [yB]; exact hlt)) := List.getElem?_eq_getElem _
  exact zSQ (h.2.2 j _ v hu hj) (zVt t x _ (List.mem_of_getElem? hu))
 | .o s, x, vs, fp, h, v, hv => by
  obtain ⟨y, b, rfl, h⟩ := h
  simp at hv; subst hv
  rcases h with ⟨⟨a, rfl⟩, _⟩ | ⟨_, _, _, _, h⟩
  ·rfl
  ·rw [h.hv]; rfl
 | .pr a b, x, vs, fp, h, v, hv => by
  obtain ⟨f, g, h1, h2, _, _⟩ := h
  rw [← List.take_append_drop (zO a.ty) vs] at hv
  rcases List.mem_append.1 hv with hv | hv
  ·exact h1.one v hv
  ·exact h2.one v hv
theorem zl4 {q : Nat} {t : Ty} {l : List (El t)} {b off : Nat} {ys : Nat → Nat → Value} (h5 : ∀ i j, i < l.length → j < zO t → w.cell? ⟨b, off + i * zO t + j, none⟩ = some (ys i j))
  (h6 : ∀ (i : Nat) (x : El t) (j : Nat) (u : V), l[i]? = some x → (enc q t x)[j]? = some u → Cn ρ Z w u (ys i j)) :
  ∃ news : List Value, news.length = l.length * zO t ∧ (∀ j u, news[j]? = some u → w.cell? ⟨b, off + j, none⟩ = some u) ∧ (∀ u ∈ news, u.oneCell' = true) ∧
   ∀ (i : Nat) (x : El t) (j : Nat) (u : V), l[i]? = some x → (enc q t x)[j]? = some u → ∃ y, news[i * zO t + j]? = some y ∧ Cn ρ Z w u y := by
 have hk := zAs t
 have one : ∀ i j, i < l.length → j < zO t → (ys i j).oneCell' = true := by
  intro i j hi hj
  have hjl : j < (enc q t l[i]).length := by rw [yB]; exact hj
  have hu : (enc q t l[i])[j]? = some (enc q t l[i])[j] := List.getElem?_eq_getElem hjl
  have hc := h6 i l[i] j _ (List.getElem?_eq_getElem hi) hu
  have hm := zVt t l[i] _ (List.mem_of_getElem? hu)
  exact zSQ hc hm
 refine ⟨(List.range (l.length * zO t)).map fun m => ys (m / zO t) (m % zO t), by simp, fun j u hu => ?_, fun u hu => ?_, fun i x j u hx hu => ?_⟩
 ·simp only [List.getElem?_map, Option.map_eq_some_iff] at hu
  obtain ⟨m, h1, rfl⟩ := hu
  have hlt : j < l.length * zO t := by have := (List.getElem?_eq_some_iff.1 h1).1; simpa using this
  rw [List.getElem?_range hlt] at h1
  cases h1
  have hd : j / zO t < l.length := by rw [Nat.div_lt_iff_lt_mul hk]; exact hlt
  rw [← h5 _ _ hd (Nat.mod_lt _ hk)]
  congr 2
  rw [Nat.add_assoc, Nat.div_add_mod']
 ·simp only [List.mem_map, List.mem_range] at hu
  obtain ⟨m, h1, rfl⟩ := hu
  exact one _ _ (by rw [Nat.div_lt_iff_lt_mul hk]; exact h1) (Nat.mod_lt _ hk)
 ·have hi : i < l.length := (List.getElem?_eq_some_iff.1 hx).1
  have hj : j < zO t := by rw [← yB (q := q) t x]; exact (List.getElem?_eq_some_iff.1 hu).1
  have hlt : i * zO t + j < l.length * zO t := by
   have : (i + 1) * zO t ≤ l.length * zO t := Nat.mul_le_mul_right _ hi
   rw [Nat.succ_mul] at this; omega
  refine ⟨ys i j, ?_, h6 i x j u hx hu⟩
  rw [List.getElem?_map, List.getElem?_range hlt, Option.map_some]
  have e1 : (i * zO t + j) / zO t = i := by rw [Nat.mul_comm, Nat.mul_add_div hk, Nat.div_eq_of_lt hj]; rfl
  have e2 : (i * zO t + j) % zO t = j := by rw [Nat.mul_comm, Nat.mul_add_mod, Nat.mod_eq_of_lt hj]
  rw [e1, e2]
def zqa (w : World) (k n : Nat) (ad : Option Addr) (news : List Value) : Prop :=
 (ad = none → n = 0) ∧ news.length = n * k ∧ (∀ a, ad = some a → ∀ (j : Nat) (u : Value), news[j]? = some u → w.cell? (a.add j) = some u) ∧ (∀ u ∈ news, u.oneCell' = true)
structure Src (ρ : yH) (Z : Zs) (H : List Ob) (w : World) (s : OT) (l : List (El s.ty)) (os : List Nat) (x : Value) (ad : Option Addr) (c : Nat) (news : List Value) (fs : Nat → Nat → Prop) : Prop where
 hx : x = .slice ad l.length c
 row : zqa w (zO s.ty) l.length ad news
 tr : ∀ i x, l[i]? = some x → TrO Z w s x ((news.drop (i * zO s.ty)).take (zO s.ty)) (fs i)
 dj : ∀ i j b, i < l.length → j < l.length → fs i b → fs j b → i = j
 fr : ∀ i b, i < l.length → fs i b → zID ρ H os b
 ar : ∀ o, o ∈ os → ∃ s l, H[o]? = some (.arr s l)
theorem Src.nil {s : OT} {os : List Nat} {a : Option Addr} {c : Nat} (h : ∀ o, o ∈ os → ∃ s l, H[o]? = some (.arr s l)) : Src ρ Z H w s [] os (.slice a 0 c) a c [] fun _ => vm :=
 ⟨rfl, ⟨fun _ => rfl, by simp, by intro a _ j u h; simp at h, by simp⟩, by intro i x h; simp at h, by intro i j b h; simp at h, by intro i b h; simp at h, h⟩
theorem zY1 {q : Nat} : ∀ (t : Ty) (x : El t), zFE t = true → enc q t x = enc 0 t x
 | .int, _, _ => rfl
 | .u8, _, _ => rfl
 | .bool, _, _ => rfl
 | .str, _, _ => rfl
 | .lst _, _, h => by simp [zFE] at h
 | .pr a b, x, h => by
  simp only [zFE, Bool.and_eq_true] at h
  simp only [enc, zY1 a x.1 h.1, zY1 b x.2 h.2]
theorem zhZ {t : Ty} {v : V} {l : List (El t)} {x : Value} (hr : HR ρ Z H w) (h : Cn ρ Z w v x) (hd : zpa H t v = some l) : ∃ ad c news, Src ρ Z H w (.d t) l [] x ad c news fun _ => vm := by
 have none_ : ∀ o, o ∈ ([] : List Nat) → ∃ s l, H[o]? = some (.arr s l) := fun o h => by cases h
 have ext : ∀ {ρ' : yH} {q : Nat} (x : Value), (q = 0 ∨ zFE t = true) → Cn ρ' Z w (.ext q t l) x → ∃ ad c news, Src ρ Z H w (.d t) l [] x ad c news fun _ => vm := by
  intro ρ' q x hq h
  obtain ⟨ad, c, b, off, ys, rfl, h0, h1, h2, h3, h4, h5, h6⟩ := h.ext_inv
  rcases h4 with rfl | ⟨rfl, h4⟩
  ·exact ⟨ad, c, [], Src.nil none_⟩
  ·obtain ⟨news, g1, g2, g3, g4⟩ := zl4 h5 h6
   refine ⟨_, c, news, rfl, ⟨(by intro h; cases h), g1, fun a e j u hu => by cases e; rw [zDf]; exact g2 j u hu, g3⟩, fun i x hx => ⟨fun _ h => h, ?_, fun j u y hu hy => ?_⟩, fun _ _ _ _ _ h => h.elim, fun _ _ _ h => h.elim, none_⟩
   ·have hi := (List.getElem?_eq_some_iff.1 hx).1
    have : (i + 1) * zO t ≤ l.length * zO t := Nat.mul_le_mul_right _ hi
    rw [Nat.succ_mul] at this
    show ((news.drop (i * zO t)).take (zO t)).length = zO t
    rw [List.length_take, List.length_drop]; omega
   ·have hj : j < zO t := by rw [← yB (q := 0) t x]; exact (List.getElem?_eq_some_iff.1 hu).1
    have hu' : (enc q t x)[j]? = some ((enc q t x)[j]'(by rw [yB]; exact hj)) := List.getElem?_eq_getElem _
    obtain ⟨y', k1, k2⟩ := g4 i x j _ hx hu'
    have hy : news[i * zO t + j]? = some y := by
     have : ((news.drop (i * zO t)).take (zO t))[j]? = some y := hy
     rwa [List.getElem?_take, if_pos hj, List.getElem?_drop] at this
    rw [hy] at k1; cases k1
    rcases hq with rfl | hf
    ·rw [hu] at hu'; cases hu'
     exact k2.clF (zFQ t x _ (List.mem_of_getElem? hu)) (fun _ h => h) (fun _ _ => rfl)
    ·have e := zY1 (q := q) t x hf
     have : some u = some ((enc q t x)[j]'(by rw [yB]; exact hj)) := by rw [← hu', ← hu, e]
     cases this
     obtain ⟨c', hc⟩ := zex (x := x) hf _ (List.mem_of_getElem? hu)
     rw [hc] at k2 ⊢
     rw [x8 k2]; exact .c _ (zKF k2)
 unfold zpa at hd
 split at hd
 ·rename_i q t' l'
  split at hd
  ·rename_i hq
   split at hd
   ·rename_i e _
    obtain rfl := e.down
    rw [zGC] at hd
    cases hd; exact ext x (by simpa using hq) h
   ·cases hd
  ·cases hd
 ·rename_i ob
  obtain ⟨p, g, rfl⟩ := h.obj_inv
  split at hd
  ·rename_i t' l' e
   split at hd
   ·rename_i e' _
    obtain rfl := e'.down
    rw [zGC] at hd
    cases hd
    rcases hr.ob ob p _ g e with ⟨⟨a, k1⟩, rfl, _⟩ | ⟨cur, e', c, fs, k⟩
    ·rw [k1]; exact ⟨a, 0, [], Src.nil none_⟩
    ·have hlen : ∀ i, i < l'.length → ((cur.toList.take (l'.length * zO t')).drop (i * zO t')).take (zO t') = zu cur (zO t') i := by
      intro i hi
      have : (i + 1) * zO t' ≤ l'.length * zO t' := Nat.mul_le_mul_right _ hi
      rw [Nat.succ_mul] at this
      simp only [zu]
      rw [List.drop_take, List.take_take]
      congr 1; omega
     have hsz : l'.length * zO t' ≤ cur.size := Nat.le_trans (Nat.mul_le_mul_right _ k.hc) k.hs
     have htr : ∀ i x, l'[i]? = some x → TrO Z w (.d t') x (zu cur (zO t') i) (fs i) := k.ht
     refine ⟨_, c, cur.toList.take (l'.length * zO t'), k.hv, ⟨(by intro h; cases h), (show (cur.toList.take (l'.length * zO t')).length = l'.length * zO t' by rw [List.length_take, Nat.min_eq_left (by rw [Array.length_toList]; exact hsz)]), fun a e j u hu => ?_, fun u hu => ?_⟩, fun i x hx => ?_, fun _ _ _ _ _ h => h.elim, fun _ _ _ h => h.elim, none_⟩
     ·cases e
      rw [zDf]
      rw [List.getElem?_take] at hu
      split at hu
      ·simp only [Nat.zero_add, World.cell?, k.hw, Option.isSome_none, Bool.false_eq_true, if_false]; simpa using hu
      ·cases hu
     ·obtain ⟨j, hj⟩ := List.mem_iff_getElem?.1 hu
      rw [List.getElem?_take] at hj
      split at hj
      ·rename_i hlt
       have hk := zAs t'
       have hi : j / zO t' < l'.length := by rw [Nat.div_lt_iff_lt_mul hk]; exact hlt
       refine (htr _ _ (List.getElem?_eq_getElem hi)).one u (List.mem_of_getElem? (i := j % zO t') ?_)
       rw [xR (Nat.mod_lt _ hk), Nat.div_add_mod']; simpa using hj
      ·cases hj
     ·have hi := (List.getElem?_eq_some_iff.1 hx).1
      have ht := htr i x hx
      have : ((cur.toList.take (l'.length * zO t')).drop (i * zO t')).take (zO t') = zu cur (zO t') i := hlen i hi
      show TrO Z w (.d t') x (((cur.toList.take (l'.length * zO t')).drop (i * zO t')).take (zO t')) vm
      rw [this]
      exact ⟨fun _ h => h, ht.2.1, ht.2.2⟩
   ·cases hd
  ·rename_i t' l' e
   split at hd
   ·rename_i e' _
    obtain rfl := e'.down
    rw [zGC] at hd
    cases hd
    exact ext _ (.inl rfl) (hr.ob ob p _ g e).1
   ·cases hd
  ·cases hd
 ·cases hd
  rw [x8 h]
  exact ⟨none, 0, [], Src.nil none_⟩
 ·cases hd
  cases h
  exact ⟨_, 0, [], Src.nil none_⟩
 ·cases hd
theorem zkv {s : OT} {v : V} {l : List (El s.ty)} {x : Value} (hr : HR ρ Z H w) (h : Cn ρ Z w v x) (hd : zYh H s v = some l) : ∃ ad c news fs, Src ρ Z H w s l (match v with | .obj o => [o] | _ => []) x ad c news fs := by
 unfold zYh at hd
 split at hd
 ·rename_i ob
  obtain ⟨p, g, rfl⟩ := h.obj_inv
  split at hd
  ·rename_i s' l' e
   split at hd
   ·rename_i e' _
    obtain rfl := e'.down
    rw [zIr] at hd
    cases hd
    have har : ∀ o, o ∈ [ob] → ∃ s l, H[o]? = some (.arr s l) := fun o h => by simp at h; subst h; exact ⟨_, _, e⟩
    rcases hr.ob ob p _ g e with ⟨⟨a, k1⟩, rfl, _⟩ | ⟨cur, e', c, fs, k⟩
    ·rw [k1]; exact ⟨a, 0, [], _, Src.nil har⟩
    ·have hlen : ∀ i, i < l'.length → ((cur.toList.take (l'.length * zO s'.ty)).drop (i * zO s'.ty)).take (zO s'.ty) = zu cur (zO s'.ty) i := by
      intro i hi
      have : (i + 1) * zO s'.ty ≤ l'.length * zO s'.ty := Nat.mul_le_mul_right _ hi
      rw [Nat.succ_mul] at this
      simp only [zu]
      rw [List.drop_take, List.take_take]
      congr 1; omega
     have hsz : l'.length * zO s'.ty ≤ cur.size := Nat.le_trans (Nat.mul_le_mul_right _ k.hc) k.hs
     refine ⟨_, c, cur.toList.take (l'.length * zO s'.ty), fs, k.hv, ⟨(by intro h; cases h), by simp; omega, fun a e j u hu => ?_, fun u hu => ?_⟩, fun i x hx => ?_, k.hd, fun i b hi hb => ⟨ob, p, _, by simp, g, e, (k.hf b).2 (.inr ⟨i, hi, hb⟩)⟩, har⟩
     ·cases e
      rw [zDf]
      rw [List.getElem?_take] at hu
      split at hu
      ·simp only [Nat.zero_add, World.cell?, k.hw, Option.isSome_none, Bool.false_eq_true, if_false]; simpa using hu
      ·cases hu
     ·obtain ⟨j, hj⟩ := List.mem_iff_getElem?.1 hu
      rw [List.getElem?_take] at hj
      split at hj
      ·rename_i hlt
       have hk := zAs s'.ty
       have hi : j / zO s'.ty < l'.length := by rw [Nat.div_lt_iff_lt_mul hk]; exact hlt
       refine (k.ht _ _ (List.getElem?_eq_getElem hi)).one u (List.mem_of_getElem? (i := j % zO s'.ty) ?_)
       rw [xR (Nat.mod_lt _ hk), Nat.div_add_mod']; simpa using hj
      ·cases hj
     ·rw [hlen i (List.getElem?_eq_some_iff.1 hx).1]
      exact k.ht i x hx
   ·cases hd
  ·cases hd
 ·cases hd
  rw [x8 h]
  exact ⟨none, 0, [], _, Src.nil (fun o h => by cases h)⟩
 ·cases hd
  cases h
  exact ⟨_, 0, [], _, Src.nil (fun o h => by cases h)⟩
 ·cases hd
theorem zYj {s : OT} {v : V} {l : List (El s.ty)} {os : List Nat} {x : Value} (hr : HR ρ Z H w) (h : Cn ρ Z w v x) (hd : zWE H s v = some (l, os)) : ∃ ad c news fs, Src ρ Z H w s l os x ad c news fs := by
 unfold zWE at hd
 split at hd
 ·simp only [Option.map_eq_some_iff] at hd
  obtain ⟨l', h1, h2⟩ := hd
  cases h2
  obtain ⟨ad, c, news, g⟩ := zhZ hr h h1
  exact ⟨ad, c, news, _, g⟩
 ·simp only [Option.map_eq_some_iff] at hd
  obtain ⟨l', h1, h2⟩ := hd
  cases h2
  exact zkv hr h h1
 ·rename_i hno
  simp only [Option.map_eq_some_iff] at hd
  obtain ⟨l', h1, h2⟩ := hd
  cases h2
  have := zkv hr h h1
  split at this
  ·exact absurd rfl (hno _)
  ·exact this
theorem zWm {t e : TypeId} {i : TypeInfo} {z : Value} {k : Nat} (ht : P.underlying t = some (.slice e)) (hi : P.info? e = some i) (hz : i.zero = some z) (hk : i.size = k) (hzs : z.cells.size = k) (hb : i.bytes ≤ 8388608)
    (ty : TypeId) (a0 : Option Addr) {m : Nat} {ad : Option Addr} {c : Nat} {news : List Value} (hr : zqa w k m ad news) (hm : m ≤ 16777216) :
    ((m = 0 ∧ (Builtin.append_ #[t, t] ty #[.slice a0 0 0, .slice ad m c]).run P w = .ok (.slice a0 0 0) w) ∨
     ∃ cur c', (Builtin.append_ #[t, t] ty #[.slice a0 0 0, .slice ad m c]).run P w = .ok (.slice (some ⟨w.heap.size, 0, none⟩) m c') (w.drew.alloc (.cells cur e)) ∧ m ≤ c' ∧ c' ≤ maxLen ∧ c' * k ≤ cur.size ∧
       ∀ (j : Nat) (u : Value), news[j]? = some u → cur[j]? = some u) := by
  obtain ⟨h1, h2, h3, h4⟩ := hr
  by_cases h0 : m = 0
  · subst h0
    refine .inl ⟨rfl, ?_⟩
    have hf : (Builtin.firstCells i.size 0 (.slice ad 0 c)).run P w = .ok #[] w := by
      cases ad with
      | none => exact run_firstCells_none w _ _ _ _
      | some a => exact run_firstCells_some (P := P) w i.size 0 a 0 c [] (by simp) (by intro j v h; simp at h)
    cases a0 <;> simp [Builtin.append_, run_underlying ht, sizeOf, typeInfo, hi, Builtin.lenOf, hf, storeCells]
  · right
    cases ad with
    | none => exact absurd (h1 rfl) h0
    | some a =>
      have hby : m * i.bytes ≤ 140737488355328 := Nat.le_trans (Nat.mul_le_mul hm hb) (by decide)
      have hml : m ≤ maxLen := by simp only [maxLen]; omega
      have hge := grownCap_ge w m 0 e
      have hle := grownCap_le_maxLen w m 0 e hml
      cases a0 with
      | none =>
        have hrun := run_append_nil (P := P) w t ty e i z ht hi hz a m c news (by rw [h2, hk]) (h3 a rfl) (by omega) (by omega) (by omega)
        refine ⟨_, _, hrun, hge, hle, ?_, fun j u hu => ?_⟩
        · simp only [Array.size_append, List.size_toArray, size_zeroCells, hzs, h2, ← Nat.add_mul]
          exact Nat.mul_le_mul_right _ (by omega)
        · rw [Array.getElem?_append_left (by simpa using (List.getElem?_eq_some_iff.1 hu).1)]
          simpa using hu
      | some b =>
        have hrun := run_append_grow (P := P) w t ty e i z ht hi hz b 0 0 [] (by simp) (by intro j v h; simp at h) a m c news (by rw [h2, hk]) (h3 a rfl) (by omega) (by omega) (growslice_fits (by omega) (by rw [Nat.zero_add]; exact hby))
        simp only [Nat.zero_add] at hrun
        refine ⟨_, _, hrun, hge, hle, ?_, fun j u hu => ?_⟩
        · simp only [Array.size_append, List.size_toArray, size_zeroCells, hzs, h2, ← Nat.add_mul, List.length_nil, Nat.zero_add]
          exact Nat.mul_le_mul_right _ (by omega)
        · have hlt := (List.getElem?_eq_some_iff.1 hu).1
          rw [Array.getElem?_append_left (by simp; omega)]
          simpa using hu
theorem zhO {t e : TypeId} {i : TypeInfo} {z : Value} {k : Nat} (ht : P.underlying t = some (.slice e)) (hi : P.info? e = some i) (hz : i.zero = some z) (hk : i.size = k) (hzs : z.cells.size = k) (hb : i.bytes ≤ 8388608)
  (ty : TypeId) {g n cp e' : Nat} {cur : Array Value} (hg : w.heap[g]? = some (.cells cur e' (0, 0))) (hn : n ≤ cp) (hcp : cp ≤ maxLen) (hsz : cp * k ≤ cur.size)
  {m : Nat} {ad : Option Addr} {c : Nat} {news : List Value} (hr : zqa w k m ad news) (hm : n + m ≤ 16777216) :
  ∃ b cur' e2 c' w', (Builtin.append_ #[t, t] ty #[.slice (some ⟨g, 0, none⟩) n cp, .slice ad m c]).run P w = .ok (.slice (some ⟨b, 0, none⟩) (n + m) c') w' ∧ w'.heap[b]? = some (.cells cur' e2 (0, 0)) ∧
   (b = g ∨ b = w.heap.size) ∧ Gr w w' ∧ (∀ b', b' < w.heap.size → b' ≠ g → w'.heap[b']? = w.heap[b']?) ∧ n + m ≤ c' ∧ c' ≤ maxLen ∧ c' * k ≤ cur'.size ∧
   (∀ (j : Nat) (u : Value), (cur.toList.take (n * k) ++ news)[j]? = some u → cur'[j]? = some u) := by
 obtain ⟨h1, h2, h3, h4⟩ := hr
 have hnk : n * k ≤ cur.size := Nat.le_trans (Nat.mul_le_mul_right _ hn) hsz
 have hf : (Builtin.firstCells i.size m (.slice ad m c)).run P w = .ok news.toArray w := by
  cases ad with
  | none =>
   have h0 := h1 rfl
   have : news = [] := List.eq_nil_of_length_eq_zero (by rw [h2, h0, Nat.zero_mul])
   subst this
   rw [h0]
   exact run_firstCells_none w _ _ _ _
  | some a => exact run_firstCells_some (P := P) w i.size m a _ c news (by rw [h2, hk]) (h3 a rfl)
 by_cases hroom : n + m ≤ cp
 ·have hfit : n * i.size + news.length ≤ cur.size := by
   rw [h2, hk, ← Nat.add_mul]; exact Nat.le_trans (Nat.mul_le_mul_right _ hroom) hsz
  have hst := run_storeCells_at P g (n * i.size) e' news 0 cur w hg (by simpa using hfit) h4
  simp only [Nat.add_zero] at hst
  refine ⟨g, (cur.toList.take (n * i.size) ++ news ++ cur.toList.drop (n * i.size + news.length)).toArray, e', cp, _, ?_, setRow_heap w g cur _ e' _ hg, .inl rfl, Gr.setRow w _ _, fun b' _ hb' => setRow_other w g b' _ hb', hroom, hcp, ?_, fun j u hu => ?_⟩
  ·simp [Builtin.append_, run_underlying ht, sizeOf, typeInfo, hi, Builtin.lenOf, hroom, hf, zDf, hst]
  ·simp only [List.size_toArray, List.length_append, List.length_take, List.length_drop, Array.length_toList]
   omega
  ·rw [← hk] at hu
   rw [List.getElem?_toArray, List.getElem?_append_left (List.getElem?_eq_some_iff.1 hu).1]
   exact hu
 ·have h0 : m ≠ 0 := by omega
  cases ad with
  | none => exact absurd (h1 rfl) h0
  | some a =>
   have hby : (n + m) * i.bytes ≤ 140737488355328 := Nat.le_trans (Nat.mul_le_mul hm hb) (by decide)
   have hml : n + m ≤ maxLen := by simp only [maxLen]; omega
   have hge := grownCap_ge w (n + m) cp e
   have hle := grownCap_le_maxLen w (n + m) cp e hml
   have hol : (cur.toList.take (n * k)).length = n * i.size := by rw [List.length_take, hk]; simp; omega
   have hrun := run_append_grow (P := P) w t ty e i z ht hi hz ⟨g, 0, none⟩ n cp (cur.toList.take (n * k)) hol (fun j v hv => by
     rw [zDf, Nat.zero_add]
     rw [List.getElem?_take] at hv
     split at hv
     ·simp only [World.cell?, hg, Option.isSome_none, Bool.false_eq_true, if_false]; simpa using hv
     ·cases hv) a m c news (by rw [h2, hk]) (h3 a rfl) (by omega) (by omega) (growslice_fits (by omega) (by omega))
   refine ⟨w.heap.size, _, e, _, _, hrun, heap_alloc_new w.drew _, .inr rfl, Gr.dalloc w _, fun b' hb' _ => Below.heap_alloc w.drew _ b' hb', hge, hle, ?_, fun j u hu => ?_⟩
   ·simp only [Array.size_append, List.size_toArray, size_zeroCells, hzs, h2, hol, hk, ← Nat.add_mul]
    exact Nat.mul_le_mul_right _ (by omega)
   ·have hlt := (List.getElem?_eq_some_iff.1 hu).1
    rw [Array.getElem?_append_left (by simp at hlt ⊢; omega)]
    simpa using hu
end
end Go.Proofs.YtkdidadegedmiaaGreat
namespace Go.Proofs.YtkdidadegedmiaaGreat
open Go.RowKit
section
variable {P : Program} {ρ ρ' : yH} {Z Z' : Zs} {w w' : World} {H H' : List Ob} {o : Oper} {ev : Operand → V}
def kq : List Nat → Nat
 | [] => 1
 | o :: os => ye (o :: os)
theorem HR.moveOnly (hr : HR ρ Z H w) (os : List Nat) (har : ∀ o, o ∈ os → ∃ s l, H[o]? = some (.arr s l)) {q : Nat} (hq : q = kq os) :
  Post q ρ Z H w (ρ.del os) Z (zy H os q) w ∧ (q < 2 → os = []) ∧ ∀ o, vp q o = os.contains o := by
 have h1 : ∀ o, vp q o = os.contains o ∧ zBf q o = os.contains o := by
  intro o
  subst hq
  cases os with
  | nil => exact ⟨zVn (by decide), zRQ (by decide)⟩
  | cons a l => exact ⟨zFa _ _, zF2 _ _⟩
 have h2 : os = [] → q < 3 := fun e => by subst e; subst hq; decide
 have h3 : q < 2 → os = [] := fun h => by
  subst hq
  cases os with
  | nil => rfl
  | cons a l => simp only [kq, ye] at h; omega
 obtain ⟨Z1, _, _, p, e⟩ := hr.move [] os h1 h2 (fun h => ⟨rfl, h3 h⟩) (fun o cs e hm => by
  obtain ⟨s, l, e'⟩ := har o hm
  rw [e] at e'; cases e')
 rw [e rfl] at p
 exact ⟨p, h3, fun o => (h1 o).1⟩
theorem zqM (hr : HR ρ Z H w) (os : List Nat) : (ρ.del os) H.length = none := by
 cases e : (ρ.del os) H.length with
 | none => rfl
 | some p => have := hr.dom _ _ (yH.del_some e).2; omega
theorem zr3 (K : List Ob) (x : Ob) (i : Nat) (hi : i ≠ K.length) : (K ++ [x])[i]? = K[i]? := by
 by_cases hlt : i < K.length
 ·rw [List.getElem?_append_left hlt]
 ·rw [List.getElem?_eq_none (by simp; omega), List.getElem?_eq_none (by omega)]
theorem zrL {s : OT} {os : List Nat} {q : Nat} (hr : HR ρ Z H w) (post : Post q ρ Z H w (ρ.del os) Z (zy H os q) w) (a0 : Option Addr) :
  ∃ ρ2, Post q ρ Z H w ρ2 Z (zy H os q ++ [.arr s []]) w ∧ Cn ρ2 Z w (.obj H.length) (.slice a0 0 0) := by
 have hbl : (zy H os q).length = H.length := xJ _ _ _
 refine ⟨(ρ.del os).upd H.length ⟨0, .slice a0 0 0, 0, vm⟩, ?_, .obj (p := ⟨0, .slice a0 0 0, 0, vm⟩) (yH.upd_self _ _ _) rfl⟩
 exact Post.place (f0 := vm) hr post (M := vm) (x := .arr s []) (zqM hr os) (fun i hi => zr3 _ _ i (by omega)) (by rw [← hbl]; simp) (fun b h => h.elim) (fun b k h => h.elim) (fun _ _ _ _ _ _ _ h => h.elim) (Gr.refl w) (fun _ _ _ => rfl) (.inl ⟨⟨a0, rfl⟩, rfl, fun b h => h⟩) (fun b h => h.elim)
  (fun cs h => by rw [List.getElem?_eq_none (by omega)] at h; cases h) (.inr (.inl (by omega))) (fun _ => ⟨hbl.symm, fun b h => h⟩)
theorem ztU {s : OT} {t e : TypeId} {i : TypeInfo} {z : Value} (ht : P.underlying t = some (.slice e)) (hi : P.info? e = some i) (hz : i.zero = some z) (hk : i.size = zO s.ty) (hzs : z.cells.size = zO s.ty) (hb : i.bytes ≤ 8388608)
  (ty : TypeId) (a0 : Option Addr) {l2 : List (El s.ty)} {os : List Nat} {x : Value} {ad : Option Addr} {c : Nat} {news : List Value} {fs : Nat → Nat → Prop} (hr : HR ρ Z H w) (hsrc : Src ρ Z H w s l2 os x ad c news fs) (hm : l2.length ≤ 16777216) {q : Nat} (hq : q = kq os) :
  ∃ y w' ρ2, (Builtin.append_ #[t, t] ty #[.slice a0 0 0, x]).run P w = .ok y w' ∧ Post q ρ Z H w ρ2 Z (zy H os q ++ [.arr s l2]) w' ∧ Cn ρ2 Z w' (.obj H.length) y := by
 obtain ⟨post, hq2, _⟩ := hr.moveOnly os hsrc.ar hq
 rw [hsrc.hx]
 rcases zWm (w := w) ht hi hz hk hzs hb ty a0 (c := c) hsrc.row hm with ⟨h0, hrun⟩ | ⟨cur, c', hrun, g1, g2, g3, g4⟩
 ·obtain rfl : l2 = [] := List.eq_nil_of_length_eq_zero h0
  obtain ⟨ρ2, p1, p2⟩ := zrL (s := s) hr post a0
  exact ⟨_, _, ρ2, hrun, p1, p2⟩
 ·have hnl := hsrc.row.2.1
  obtain ⟨ρ2, p1, p2⟩ := zgK (w' := w.drew.alloc (.cells cur e)) (H1 := H) (cur := cur) (e := e) (c := c') (b0 := w.heap.size) (ys := news) hr rfl (rfl : l2.length = l2.length) hr post hsrc.tr hsrc.dj hsrc.fr
   (fun o ho => by obtain ⟨s, l, h⟩ := hsrc.ar o ho; exact ⟨s, l, h, h⟩) hq2 (Gr.dalloc w _) (fun b hb => Below.heap_alloc w.drew _ b hb) (Nat.le_refl _) (heap_alloc_new w.drew _) g1 g2 g3 hm (fun j hj => by
    apply List.ext_getElem?
    intro m
    by_cases hmk : m < zO s.ty
    ·have hlt : j * zO s.ty + m < news.length := by
      rw [hnl]
      have : (j + 1) * zO s.ty ≤ l2.length * zO s.ty := Nat.mul_le_mul_right _ hj
      rw [Nat.succ_mul] at this; omega
     rw [xR hmk, List.getElem?_take, if_pos hmk, List.getElem?_drop, g4 _ _ (List.getElem?_eq_getElem hlt)]
     exact (List.getElem?_eq_getElem hlt).symm
    ·rw [List.getElem?_eq_none (by simp [zu]; omega), List.getElem?_eq_none (by simp; omega)])
  exact ⟨_, _, ρ2, hrun, p1, p2⟩
theorem zk2 {s : OT} {t e : TypeId} {i : TypeInfo} {z : Value} (ht : P.underlying t = some (.slice e)) (hi : P.info? e = some i) (hz : i.zero = some z) (hk : i.size = zO s.ty) (hzs : z.cells.size = zO s.ty) (hb : i.bytes ≤ 8388608)
  (ty : TypeId) {ob : Nat} {p : Pl} {l9 l l2 : List (El s.ty)} {x9 : Value} {fp9 : Nat → Prop} (g : ρ ob = some p) (e6 : H[ob]? = some (.arr s l9)) (hA : zI3 (zO s.ty) (lim s.ty) (TrO Z w s) Z w l x9 fp9 p.b) (hsub : ∀ b, fp9 b → p.fp b) {os : List Nat} (hos : ob ∉ os) {x : Value} {ad : Option Addr} {c : Nat} {news : List Value} {fs : Nat → Nat → Prop} (hr : HR ρ Z H w) (hsrc : Src ρ Z H w s l2 os x ad c news fs) (hm : l.length + l2.length ≤ 16777216) :
  ∃ y w' ρ2, (Builtin.append_ #[t, t] ty #[x9, x]).run P w = .ok y w' ∧ Post (ye (ob :: os)) ρ Z H w ρ2 Z ((zy H (ob :: os) (ye (ob :: os))).set ob (.arr s (l ++ l2))) w' ∧ Cn ρ2 Z w' (.obj ob) y := by
 have hkp := zAs s.ty
 have har : ∀ o, o ∈ ob :: os → ∃ s l, H[o]? = some (.arr s l) := fun o ho => by
  rcases List.mem_cons.1 ho with rfl | ho
  ·exact ⟨_, _, e6⟩
  ·exact hsrc.ar o ho
 obtain ⟨post, _, hhit⟩ := hr.moveOnly (ob :: os) har (q := ye (ob :: os)) rfl
 have hlt : ob < H.length := hr.dom ob p g
 have hbl : (zy H (ob :: os) (ye (ob :: os))).length = H.length := xJ _ _ _
 have hset : ∀ (x : Ob), ((zy H (ob :: os) (ye (ob :: os))).set ob x)[ob]? = some x := fun x => List.getElem?_set_self (by omega)
 have hother : ∀ (x : Ob) i, i ≠ ob → ((zy H (ob :: os) (ye (ob :: os))).set ob x)[i]? = (zy H (ob :: os) (ye (ob :: os)))[i]? := fun x i hi => List.getElem?_set_ne (Ne.symm hi)
 have hbx : ∀ cs, H[ob]? ≠ some (.box cs) := fun cs h => by rw [e6] at h; cases h
 have hh : vp (ye (ob :: os)) ob = true := by rw [hhit]; simp
 have lm : ∀ n, n ≤ 16777216 → n ≤ lim s.ty := fun n hn => by cases s.ty <;> simp only [lim, maxLen] <;> omega
 have fr2 : ∀ i b, i < l2.length → fs i b → zID ρ H (ob :: os) b := fun i b hi hb => by
  obtain ⟨o0, p0, x0, g0, g1⟩ := hsrc.fr i b hi hb
  exact ⟨o0, p0, x0, List.mem_cons_of_mem _ g0, g1⟩
 have hfin : ∀ {p' : Pl} {w' : World} {x' : Ob}, Gr w w' → (∀ b, b < w.heap.size → ¬ zID ρ H (ob :: os) b → w'.heap[b]? = w.heap[b]?) → ObR ((ρ.del (ob :: os)).upd ob p') Z w' x' p' → (∀ b, vy x' p' b → w.heap.size ≤ b ∨ zID ρ H (ob :: os) b) →
   Post (ye (ob :: os)) ρ Z H w ((ρ.del (ob :: os)).upd ob p') Z ((zy H (ob :: os) (ye (ob :: os))).set ob x') w' := fun gr hs hx hb =>
  Post.place (f0 := vm) hr post (M := zID ρ H (ob :: os)) (yH.del_in (by simp)) (fun i hi => hother _ i hi) (hset _) (fun b h => by
   obtain ⟨o0, p0, x0, _, g1⟩ := h
   exact ⟨o0, p0, x0, g1⟩) (fun b k h => (h.facts (q := ye (ob :: os)) hr).1 k) (fun o' p' x' b e1 e2 e3 h => (h.facts (q := ye (ob :: os)) hr).2.2 o' p' x' e1 e2 e3) gr hs hx hb hbx (.inl ⟨hh, p, g⟩) (fun h => by simp only [ye] at h; omega)
 rw [hsrc.hx]
 rcases hA with ⟨⟨a0, k1⟩, rfl, knf⟩ | ⟨cur, e', cp, fo, k⟩
 ·rw [k1]
  simp only [List.length_nil, Nat.zero_add] at hm
  simp only [List.nil_append]
  rcases zWm (w := w) ht hi hz hk hzs hb ty a0 (c := c) hsrc.row hm with ⟨h0, hrun⟩ | ⟨cur, c', hrun, g1, g2, g3, g4⟩
  ·obtain rfl : l2 = [] := List.eq_nil_of_length_eq_zero h0
   exact ⟨_, _, _, hrun, hfin (p' := ⟨0, .slice a0 0 0, 0, vm⟩) (Gr.refl w) (fun _ _ _ => rfl) (.inl ⟨⟨a0, rfl⟩, rfl, fun b h => h⟩) (fun b h => h.elim), .obj (p := ⟨0, .slice a0 0 0, 0, vm⟩) (yH.upd_self _ _ _) rfl⟩
  ·have hnl := hsrc.row.2.1
   have hs : ∀ b, b < w.heap.size → (w.drew.alloc (.cells cur e)).heap[b]? = w.heap[b]? := fun b hb => Below.heap_alloc w.drew _ b hb
   refine ⟨_, _, _, hrun, hfin (p' := ⟨w.heap.size, .slice (some ⟨w.heap.size, 0, none⟩) l2.length c', 0, fun b => b = w.heap.size ∨ ∃ i, i < l2.length ∧ fs i b⟩) (Gr.dalloc w _) (fun b hb _ => hs b hb) (.inr ⟨cur, e, c', fs, ⟨rfl, heap_alloc_new w.drew _, fun q hq => Nat.lt_irrefl _ (hr.zl q _ hq), g1, g2, lm _ hm, g3, fun b => Iff.rfl, fun i hi h => ?_, hsrc.dj, fun i x hx => ?_⟩⟩) (fun b h => ?_), .obj (p := ⟨w.heap.size, .slice (some ⟨w.heap.size, 0, none⟩) l2.length c', 0, fun b => b = w.heap.size ∨ ∃ i, i < l2.length ∧ fs i b⟩) (yH.upd_self _ _ _) rfl⟩
   ·exact Nat.lt_irrefl _ ((fr2 i _ hi h).facts (q := ye (ob :: os)) hr).2.1
   ·have hi := (List.getElem?_eq_some_iff.1 hx).1
    have : zu cur (zO s.ty) i = (news.drop (i * zO s.ty)).take (zO s.ty) := by
     apply List.ext_getElem?
     intro m
     by_cases hmk : m < zO s.ty
     ·have hlt : i * zO s.ty + m < news.length := by
       rw [hnl]
       have : (i + 1) * zO s.ty ≤ l2.length * zO s.ty := Nat.mul_le_mul_right _ hi
       rw [Nat.succ_mul] at this; omega
      rw [xR hmk, List.getElem?_take, if_pos hmk, List.getElem?_drop, g4 _ _ (List.getElem?_eq_getElem hlt)]
      exact (List.getElem?_eq_getElem hlt).symm
     ·rw [List.getElem?_eq_none (by simp [zu]; omega), List.getElem?_eq_none (by simp; omega)]
    rw [this]
    exact (hsrc.tr i x hx).mono (fun _ _ h => h) (fun k b h => hs b (hr.zl k b h)) (fun b h => hs b ((fr2 i b hi h).facts (q := ye (ob :: os)) hr).2.1) (fun b k h => ((fr2 i b hi h).facts (q := ye (ob :: os)) hr).1 k)
   ·rcases h with rfl | ⟨i, hi, h⟩
    ·exact .inl (Nat.le_refl _)
    ·exact .inr (fr2 i b hi h)
 ·have hgb : fp9 p.b := (k.hf p.b).2 (.inl rfl)
  have fpM : ∀ b, fp9 b → zID ρ H (ob :: os) b := fun b h => ⟨ob, p, _, by simp, g, e6, hsub b h⟩
  obtain ⟨b, cur', e2', c', w', hrun, g1, g2, g3, g4, g5, g6, g7, g8⟩ := zhO (w := w) ht hi hz hk hzs hb ty k.hw k.hc k.hm k.hs (c := c) hsrc.row hm
  have hnl := hsrc.row.2.1
  have hsz : l.length * zO s.ty ≤ cur.size := Nat.le_trans (Nat.mul_le_mul_right _ k.hc) k.hs
  have hlo : (cur.toList.take (l.length * zO s.ty)).length = l.length * zO s.ty := by rw [List.length_take, Nat.min_eq_left (by rw [Array.length_toList]; exact hsz)]
  rw [k.hv]
  have c1 : ∀ i, i < l.length → zu cur' (zO s.ty) i = zu cur (zO s.ty) i := fun i hi => by
   apply List.ext_getElem?
   intro m
   by_cases hmk : m < zO s.ty
   ·have hlt : i * zO s.ty + m < l.length * zO s.ty := by
     have : (i + 1) * zO s.ty ≤ l.length * zO s.ty := Nat.mul_le_mul_right _ hi
     rw [Nat.succ_mul] at this; omega
    have hc : cur[i * zO s.ty + m]? = some (cur[i * zO s.ty + m]'(by omega)) := Array.getElem?_eq_getElem _
    rw [xR hmk, xR hmk, hc]
    refine g8 _ _ ?_
    rw [List.getElem?_append_left (by omega), List.getElem?_take, if_pos hlt, Array.getElem?_toList]; exact hc
   ·rw [List.getElem?_eq_none (by simp [zu]; omega), List.getElem?_eq_none (by simp [zu]; omega)]
  have c2 : ∀ i, i < l2.length → zu cur' (zO s.ty) (l.length + i) = (news.drop (i * zO s.ty)).take (zO s.ty) := fun i hi => by
   apply List.ext_getElem?
   intro m
   by_cases hmk : m < zO s.ty
   ·have hlt : i * zO s.ty + m < news.length := by
     rw [hnl]
     have : (i + 1) * zO s.ty ≤ l2.length * zO s.ty := Nat.mul_le_mul_right _ hi
     rw [Nat.succ_mul] at this; omega
    rw [xR hmk, List.getElem?_take, if_pos hmk, List.getElem?_drop, List.getElem?_eq_getElem hlt]
    refine g8 _ _ ?_
    rw [Nat.add_mul, List.getElem?_append_right (by omega), hlo, show l.length * zO s.ty + i * zO s.ty + m - l.length * zO s.ty = i * zO s.ty + m by omega]
    exact List.getElem?_eq_getElem hlt
   ·rw [List.getElem?_eq_none (by simp [zu]; omega), List.getElem?_eq_none (by simp; omega)]
  let ff : Nat → Nat → Prop := fun i b => if i < l.length then fo i b else fs (i - l.length) b
  have ff1 : ∀ i b, i < l.length → (ff i b ↔ fo i b) := fun i b hi => by simp only [ff, if_pos hi]
  have ff2 : ∀ i b, ¬ i < l.length → (ff i b ↔ fs (i - l.length) b) := fun i b hi => by simp only [ff, if_neg hi]
  have fM : ∀ i b, i < l.length + l2.length → ff i b → zID ρ H (ob :: os) b := fun i b hi h => by
   by_cases h1 : i < l.length
   ·exact fpM b ((k.hf b).2 (.inr ⟨i, h1, (ff1 i b h1).1 h⟩))
   ·exact fr2 _ b (by omega) ((ff2 i b h1).1 h)
  have fne : ∀ i b', i < l.length + l2.length → ff i b' → b' ≠ p.b := fun i b' hi h e => by
   subst e
   by_cases h1 : i < l.length
   ·exact k.hn i h1 ((ff1 i _ h1).1 h)
   ·obtain ⟨o0, p0, x0, g0, m1, m2, m3⟩ := hsrc.fr _ _ (by omega) ((ff2 i _ h1).1 h)
    have := hr.dj o0 ob p0 p x0 _ p.b m1 g m2 e6 m3 (hsub _ hgb)
    exact hos (this ▸ g0)
  have hbz : ∀ q, ¬ Z q b := fun q hq => by
   rcases g2 with rfl | rfl
   ·exact k.hz q hq
   ·exact Nat.lt_irrefl _ (hr.zl q _ hq)
  have hfb : ∀ i b', i < l.length + l2.length → ff i b' → b' ≠ b := fun i b' hi h e => by
   rcases g2 with rfl | rfl
   ·exact fne i b' hi h e
   ·have := ((fM i b' hi h).facts (q := ye (ob :: os)) hr).2.1; omega
  have hsame : ∀ b', b' < w.heap.size → ¬ zID ρ H (ob :: os) b' → w'.heap[b']? = w.heap[b']? := fun b' hb' hn => g4 b' hb' fun e => hn (e ▸ fpM _ hgb)
  have hzk : ∀ q b', Z q b' → w'.heap[b']? = w.heap[b']? := fun q b' h => g4 b' (hr.zl q b' h) fun e => k.hz q (e ▸ h)
  have mono : ∀ i x vs, i < l.length + l2.length → TrO Z w s x vs (ff i) → TrO Z w' s x vs (ff i) := fun i x vs hi ht =>
   ht.mono (fun _ _ h => h) hzk (fun b' h => g4 b' ((fM i b' hi h).facts (q := ye (ob :: os)) hr).2.1 (fne i b' hi h)) (fun b' q h => ((fM i b' hi h).facts (q := ye (ob :: os)) hr).1 q)
  refine ⟨_, _, _, hrun, hfin (p' := ⟨b, .slice (some ⟨b, 0, none⟩) (l.length + l2.length) c', 0, fun b' => b' = b ∨ ∃ i, i < l.length + l2.length ∧ ff i b'⟩) g3 hsame (.inr ⟨cur', e2', c', ff, ⟨by rw [List.length_append], g1, hbz, by rw [List.length_append]; exact g5, g6, by rw [List.length_append]; exact lm _ hm, g7, fun b' => by rw [List.length_append], fun i hi h => hfb i _ (by rwa [List.length_append] at hi) h rfl, fun i j b' hi hj h1 h2 => ?_, fun i x hx => ?_⟩⟩) (fun b' h => ?_),
   .obj (p := ⟨b, .slice (some ⟨b, 0, none⟩) (l.length + l2.length) c', 0, fun b' => b' = b ∨ ∃ i, i < l.length + l2.length ∧ ff i b'⟩) (yH.upd_self _ _ _) rfl⟩
  ·rw [List.length_append] at hi hj
   have cross : ∀ i j, i < l.length → ¬ j < l.length → j < l.length + l2.length → ff i b' → ff j b' → False := fun i j hi hj hj2 h1 h2 => by
    obtain ⟨o0, p0, x0, g0, m1, m2, m3⟩ := hsrc.fr _ b' (by omega) ((ff2 j b' hj).1 h2)
    have := hr.dj o0 ob p0 p x0 _ b' m1 g m2 e6 m3 (hsub _ ((k.hf b').2 (.inr ⟨i, hi, (ff1 i b' hi).1 h1⟩)))
    exact hos (this ▸ g0)
   by_cases hi' : i < l.length
   ·by_cases hj' : j < l.length
    ·exact k.hd i j b' hi' hj' ((ff1 i b' hi').1 h1) ((ff1 j b' hj').1 h2)
    ·exact (cross i j hi' hj' hj h1 h2).elim
   ·by_cases hj' : j < l.length
    ·exact (cross j i hj' hi' hi h2 h1).elim
    ·have := hsrc.dj (i - l.length) (j - l.length) b' (by omega) (by omega) ((ff2 i b' hi').1 h1) ((ff2 j b' hj').1 h2)
     omega
  ·have hi : i < l.length + l2.length := by have := (List.getElem?_eq_some_iff.1 hx).1; rwa [List.length_append] at this
   by_cases hi' : i < l.length
   ·rw [List.getElem?_append_left hi'] at hx
    rw [c1 i hi']
    refine mono i x _ hi ?_
    have : ff i = fo i := funext fun b => propext (ff1 i b hi')
    rw [this]; exact k.ht i x hx
   ·rw [List.getElem?_append_right (by omega)] at hx
    have hc := c2 (i - l.length) (by omega)
    rw [show l.length + (i - l.length) = i by omega] at hc
    rw [hc]
    refine mono i x _ hi ?_
    have : ff i = fs (i - l.length) := funext fun b => propext (ff2 i b hi')
    rw [this]; exact hsrc.tr _ x hx
  ·rcases h with rfl | ⟨i, hi, h⟩
   ·rcases g2 with rfl | rfl
    ·exact .inr (fpM _ hgb)
    ·exact .inl (Nat.le_refl _)
   ·exact .inr (fM i b' hi h)
theorem ztW {s : OT} {t e : TypeId} {i : TypeInfo} {z : Value} (ht : P.underlying t = some (.slice e)) (hi : P.info? e = some i) (hz : i.zero = some z) (hk : i.size = zO s.ty) (hzs : z.cells.size = zO s.ty) (hb : i.bytes ≤ 8388608)
  (ty : TypeId) {ob : Nat} {p : Pl} {l l2 : List (El s.ty)} (g : ρ ob = some p) (e6 : H[ob]? = some (.arr s l)) {os : List Nat} (hos : ob ∉ os) {x : Value} {ad : Option Addr} {c : Nat} {news : List Value} {fs : Nat → Nat → Prop} (hr : HR ρ Z H w) (hsrc : Src ρ Z H w s l2 os x ad c news fs) (hm : l.length + l2.length ≤ 16777216) :
  ∃ y w' ρ2, (Builtin.append_ #[t, t] ty #[p.x, x]).run P w = .ok y w' ∧ Post (ye (ob :: os)) ρ Z H w ρ2 Z ((zy H (ob :: os) (ye (ob :: os))).set ob (.arr s (l ++ l2))) w' ∧ Cn ρ2 Z w' (.obj ob) y :=
 zk2 ht hi hz hk hzs hb ty g e6 (hr.ob ob p _ g e6) (fun _ h => h) hos hr hsrc hm
theorem zuj {g : Gv} {args : Array Operand} {argTypes : Array TypeId} {x y : Operand} {t : TypeId} (ho : o.op = .call { callee := .builtin .append, args, argTypes }) (ha : args.toList = [x, y]) (ht : argTypes.toList = [t, t])
  {q : Nat} {ok : Option Prop} {v : V} (h : ze2 P g t (ev x) (ev y) H = .mk q ok v H') : OpS P o ev H (.mk q ok v H') := by
 obtain rfl : args = #[x, y] := Array.toList_inj.1 (by simpa using ha)
 obtain rfl : argTypes = #[t, t] := Array.toList_inj.1 (by simpa using ht)
 have hexec : ∀ (a : Act) (w w' : World) (v : Value), (Builtin.append_ #[t, t] o.type #[a.eval x, a.eval y]).run P w = .ok v w' → (execOp a.eval o).run P w = .ok (.value v) w' := by
  intro a w w' v h
  simp only [execOp, ho, resolve, invoke, builtin, Sem.run_bind, Sem.run_pure, Result.andThen_ok, List.map_toArray, List.map_cons, List.map_nil, h]
 unfold ze2 at h
 split at h
 rotate_left
 ·cases h
 rename_i e e1
 split at h
 rotate_left
 ·cases h
 rename_i s0 zs e2 e3
 obtain ⟨i, z, i1, i2, _, rfl, _⟩ := zA7 e3
 split at h
 rotate_left
 ·cases h
 rename_i hk
 obtain ⟨hzs, hby⟩ := hk
 have hsz : vD P e = i.size := by unfold vD; rw [i1]
 have hzs : z.cells.size = i.size := by rw [← hsz]; simpa using hzs
 have hby : i.bytes ≤ 8388608 := by unfold zTB at hby; rw [i1] at hby; exact hby
 split at h
 ·rename_i ob e5
  split at h
  rotate_left
  ·cases h
  rename_i s' l e6
  split at h
  rotate_left
  ·cases h
  rename_i hks
  rw [hsz] at hks
  split at h
  rotate_left
  ·cases h
  rename_i l2 os e7
  split at h
  ·cases h
  rename_i hos
  have hos : ob ∉ os := fun hm => by rw [List.contains_iff_mem.2 hm] at hos; exact hos rfl
  cases h
  intro ρ Z w a hr hx hok K Q hK
  have c1 := hx x (by simp [ho, Op.operands, Call.operands])
  have c2 := hx y (by simp [ho, Op.operands, Call.operands])
  rw [e5] at c1
  simp only [okP] at hok
  obtain ⟨p, g, ex⟩ := c1.obj_inv
  obtain ⟨ad, c, news, fs, hsrc⟩ := zYj hr c2 e7
  obtain ⟨v, w', ρ2, hrun, p1, p2⟩ := ztW e1 i1 i2 hks.symm (by omega) hby o.type g e6 hos hr hsrc (by omega)
  unfold Oper.wp
  rw [hexec a w _ _ (by rw [ex]; exact hrun)]
  exact hK _ Z _ _ p1 p2
 ·rename_i hno
  split at h
  rotate_left
  ·cases h
  rename_i hk
  obtain ⟨hks, hnil⟩ := hk
  rw [hsz] at hks
  have hnil' : ∀ ρ Z w (a : Act), Cn ρ Z w (ev x) (a.eval x) → ∃ a0, a.eval x = .slice a0 0 0 := by
   intro ρ Z w a hc
   unfold zsm at hnil
   split at hnil
   ·rename_i e; rw [e] at hc; generalize a.eval x = z at hc; cases hc; exact ⟨_, rfl⟩
   ·rename_i e; rw [e] at hc; exact ⟨none, x8 hc⟩
   ·cases hnil
  have main : ∀ l2 os, zWE H s0 (ev y) = some (l2, os) → ∀ q, q = kq os → OpS P o ev H (.mk q (some ((l2.length : Int) ≤ 16777216)) (.obj H.length) (zy H os q ++ [.arr s0 l2])) := by
   intro l2 os e7 q hq ρ Z w a hr hx hok K Q hK
   have c1 := hx x (by simp [ho, Op.operands, Call.operands])
   have c2 := hx y (by simp [ho, Op.operands, Call.operands])
   simp only [okP] at hok
   obtain ⟨a0, ex⟩ := hnil' ρ Z w a c1
   obtain ⟨ad, c, news, fs, hsrc⟩ := zYj hr c2 e7
   obtain ⟨v, w', ρ2, hrun, p1, p2⟩ := ztU e1 i1 i2 hks.symm (by omega) hby o.type a0 hr hsrc (by omega) hq
   unfold Oper.wp
   rw [hexec a w _ _ (by rw [ex]; exact hrun)]
   exact hK _ Z _ _ p1 p2
  split at h
  ·rename_i l2 e7
   cases h
   exact main l2 [] e7 1 rfl
  ·rename_i l2 o1 os e7
   cases h
   exact main l2 (o1 :: os) e7 _ rfl
  ·cases h
theorem zuE {t : TypeId} {x : Operand} {hi : Option Operand} (ho : o.op = .slice t x none hi none) {ob : Nat} (e5 : ev x = .obj ob) {q : Nat} {ok : Option Prop} {v : V}
  (h : zdk P t ob (hi.map ev) H = .mk q ok v H') : OpS P o ev H (.mk q ok v H') := by
 unfold zdk at h
 split at h
 rotate_left
 ·cases h
 rename_i e s l e1 e6
 split at h
 rotate_left
 ·cases h
 rename_i j e4
 split at h
 rotate_left
 ·cases h
 rename_i hk
 cases h
 intro ρ Z w a hr hx hok K Q hK
 have c1 := hx x (by simp [ho, Op.operands])
 rw [e5] at c1
 simp only [okP] at hok
 obtain ⟨p, g, ex⟩ := c1.obj_inv
 have hhi : (hi.map a.eval).getD (.int .i64 (l.length : Nat)) = .int .i64 j := by
  cases hi with
  | none => simpa using e4
  | some y =>
   have := hx y (by simp [ho, Op.operands])
   simp only [Option.map_some, Option.getD_some] at e4 ⊢
   rw [e4] at this; exact x8 this
 have har : ∀ o, o ∈ [ob] → ∃ s l, H[o]? = some (.arr s l) := fun o ho => by
  rw [List.mem_singleton.1 ho]; exact ⟨_, _, e6⟩
 obtain ⟨post, _, hhit⟩ := hr.moveOnly [ob] har (q := ye [ob]) rfl
 have hlt : ob < H.length := hr.dom ob p g
 have hbl : (zy H [ob] (ye [ob])).length = H.length := xJ _ _ _
 have hh : vp (ye [ob]) ob = true := by rw [hhit]; simp
 have hfin : ∀ {p' : Pl} {x' : Ob}, ObR ((ρ.del [ob]).upd ob p') Z w x' p' → (∀ b, vy x' p' b → w.heap.size ≤ b ∨ zID ρ H [ob] b) →
   Post (ye [ob]) ρ Z H w ((ρ.del [ob]).upd ob p') Z ((zy H [ob] (ye [ob])).set ob x') w := fun hx hb =>
  Post.place (f0 := vm) hr post (M := zID ρ H [ob]) (yH.del_in (by simp)) (fun i hi => List.getElem?_set_ne (Ne.symm hi)) (List.getElem?_set_self (by omega)) (fun b h => by
   obtain ⟨o0, p0, x0, _, g1⟩ := h
   exact ⟨o0, p0, x0, g1⟩) (fun b k h => (h.facts (q := ye [ob]) hr).1 k) (fun o' p' x' b e1 e2 e3 h => (h.facts (q := ye [ob]) hr).2.2 o' p' x' e1 e2 e3) (Gr.refl w) (fun _ _ _ => rfl) hx hb (fun cs h => by rw [e6] at h; cases h) (.inl ⟨hh, p, g⟩) (fun h => by simp only [ye] at h; omega)
 have hexec : ∀ (ad : Option Addr) (c : Nat), a.eval x = .slice ad l.length c → l.length ≤ c → (execOp a.eval o).run P w = .ok (.value (.slice (if c = 0 then ad else ad.map (·.add (0 * zO s.ty))) (j.toNat - 0) (c - 0))) w := fun ad c ea hc => by
  have hb := zMO (P := P) (isS := true) (len := l.length) (cap := c) (l := 0) (h := j) (none : Option Value) (hi.map a.eval) rfl hhi hc ⟨by omega, by omega, by omega⟩ w
  simp only [execOp, ho, Instr.sliceAt, ea, Sem.run_bind, Sem.run_pure, Result.andThen_ok, run_underlying e1, Instr.slice, Option.map_none, hb, zHx hk, Int.toNat_zero]
 unfold Oper.wp
 rcases hr.ob ob p _ g e6 with ⟨⟨a0, k1⟩, rfl, knf⟩ | ⟨cur, e', c, fs, k⟩
 ·obtain rfl : j = 0 := by simp at hok; omega
  rw [hexec a0 0 (by rw [ex, k1]; rfl) (by simp)]
  exact hK _ Z _ _ (hfin (p' := ⟨0, .slice a0 0 0, 0, vm⟩) (.inl ⟨⟨a0, rfl⟩, by simp, fun b h => h⟩) (fun b h => h.elim)) (.obj (p := ⟨0, .slice a0 0 0, 0, vm⟩) (yH.upd_self _ _ _) rfl)
 ·rw [hexec _ c (by rw [ex, k.hv]) k.hc]
  have e0 : (if c = 0 then some (⟨p.b, 0, none⟩ : Addr) else (some (⟨p.b, 0, none⟩ : Addr)).map (·.add (0 * zO s.ty))) = some ⟨p.b, 0, none⟩ := by
   split
   ·rfl
   ·simp [zDf]
  rw [e0, Nat.sub_zero, Nat.sub_zero]
  have hl : (l.take j.toNat).length = j.toNat := by rw [List.length_take]; omega
  have fM : ∀ b, (b = p.b ∨ ∃ i, i < j.toNat ∧ fs i b) → zID ρ H [ob] b := fun b h => ⟨ob, p, _, by simp, g, e6, (k.hf b).2 (by
   rcases h with rfl | ⟨i, hi, h⟩
   ·exact .inl rfl
   ·exact .inr ⟨i, by omega, h⟩)⟩
  refine hK _ Z _ _ (hfin (p' := ⟨p.b, .slice (some ⟨p.b, 0, none⟩) j.toNat c, 0, fun b => b = p.b ∨ ∃ i, i < j.toNat ∧ fs i b⟩) (.inr ⟨cur, e', c, fs, ⟨by rw [hl], k.hw, k.hz, by rw [hl]; have := k.hc; omega, k.hm, by rw [hl]; have := k.hl; omega, k.hs, fun b => by rw [hl], fun i hi => k.hn i (by rw [hl] at hi; omega), fun i i' b' hi hi' => k.hd i i' b' (by rw [hl] at hi; omega) (by rw [hl] at hi'; omega), fun i y hy => ?_⟩⟩) (fun b h => .inr (fM b h))) (.obj (p := ⟨p.b, .slice (some ⟨p.b, 0, none⟩) j.toNat c, 0, fun b => b = p.b ∨ ∃ i, i < j.toNat ∧ fs i b⟩) (yH.upd_self _ _ _) rfl)
  rw [List.getElem?_take] at hy
  split at hy
  ·exact k.ht i y hy
  ·cases hy
end
end Go.Proofs.YtkdidadegedmiaaGreat
namespace Go.Proofs.YtkdidadegedmiaaGreat
open Go.RowKit
section
variable {P : Program} {ρ ρ' ρ1 ρ2 : yH} {Z Z' Z2 : Zs} {w w' : World} {H H' H1 H2 : List Ob} {o : Oper} {ev : Operand → V}
structure LensOk (s : OT) (off k : Nat) (L : Σ s', Lens s s') : Prop where
 kk : zO L.1.ty = k
 le : off + k ≤ zO s.ty
 tr : ∀ (Z : Zs) (w : World) (x : El s.ty) (vs : List Value) (fp : Nat → Prop), TrO Z w s x vs fp → ∃ f g : Nat → Prop, TrO Z w L.1 (L.2.get x) ((vs.drop off).take k) f ∧ (∀ b, fp b ↔ f b ∨ g b) ∧ (∀ b, f b → ¬ g b) ∧
  ∀ (Z' : Zs) (w' : World) (y : El L.1.ty) (vs' : List Value) (f' : Nat → Prop), (∀ b, Z false b → Z' false b) → (∀ b, Z false b → w'.heap[b]? = w.heap[b]?) → (∀ b, g b → w'.heap[b]? = w.heap[b]?) → (∀ b q, g b → ¬ Z' q b) → TrO Z' w' L.1 y vs' f' → (∀ b, f' b → ¬ g b) →
   TrO Z' w' s (L.2.set x y) (vs.take off ++ vs' ++ vs.drop (off + k)) (fun b => f' b ∨ g b)
theorem zPO (s : OT) : LensOk s 0 (zO s.ty) ⟨s, .same rfl⟩ := by
 refine ⟨rfl, by omega, fun Z w x vs fp h => ⟨fp, vm, ?_, fun b => ⟨.inl, fun h => h.elim id False.elim⟩, fun _ _ h => h, fun Z' w' y vs' f' _ _ _ _ ht _ => ?_⟩⟩
 ·have : (vs.drop 0).take (zO s.ty) = vs := by rw [List.drop_zero, List.take_of_length_le (by rw [h.len]; exact Nat.le_refl _)]
  rw [this]; exact h
 ·have e : vs.take 0 ++ vs' ++ vs.drop (0 + zO s.ty) = vs' := by rw [List.take_zero, List.nil_append, List.drop_of_length_le (by rw [h.len]; omega), List.append_nil]
  have e2 : (fun b => f' b ∨ vm b) = f' := funext fun b => propext ⟨fun h => h.elim id False.elim, .inl⟩
  rw [e, e2]; exact ht
theorem zhV {a b : OT} {off k : Nat} {L : Σ s', Lens a s'} (h : LensOk a off k L) : LensOk (.pr a b) off k ⟨L.1, L.2.fst⟩ := by
 refine ⟨h.kk, by have := h.le; simp only [zO]; omega, fun Z w x vs fp ht => ?_⟩
 obtain ⟨fa, gb, t1, t2, t3, t4⟩ := ht
 have l1 := t1.len
 have l2 := t2.len
 have hle := h.le
 simp only [List.length_take, List.length_drop] at l1 l2
 obtain ⟨f, g, k1, k2, k3, k4⟩ := h.tr Z w x.1 _ fa t1
 refine ⟨f, fun b => g b ∨ gb b, ?_, fun b => ?_, fun b h1 h2 => ?_, fun Z' w' y vs' f' hz hw hg hn ht hf => ?_⟩
 ·have : (vs.drop off).take k = ((vs.take (zO a.ty)).drop off).take k := by
   rw [List.drop_take, List.take_take]; congr 1; omega
  rw [this]; exact k1
 ·rw [t3, k2]; exact or_assoc
 ·rcases h2 with h2 | h2
  ·exact k3 b h1 h2
  ·exact t4 b ((k2 b).2 (.inl h1)) h2
 ·have hl' : vs'.length = k := by rw [ht.len]; exact h.kk
  have g1 := k4 Z' w' y vs' f' hz hw (fun b hb => hg b (.inl hb)) (fun b q hb => hn b q (.inl hb)) ht fun b hb h' => hf b hb (.inl h')
  have e1 : (vs.take off ++ vs' ++ vs.drop (off + k)).take (zO a.ty) = (vs.take (zO a.ty)).take off ++ vs' ++ (vs.take (zO a.ty)).drop (off + k) := by
   rw [List.take_take, Nat.min_eq_left (by omega), List.take_append, List.length_append, List.length_take, List.take_of_length_le (by simp; omega)]
   congr 1
   rw [Nat.min_eq_left (by omega), hl', List.drop_take]
  have e2 : (vs.take off ++ vs' ++ vs.drop (off + k)).drop (zO a.ty) = vs.drop (zO a.ty) := by
   rw [List.drop_append, List.drop_of_length_le (by simp; omega), List.nil_append, List.drop_drop]
   congr 1; simp; omega
  refine ⟨fun b => f' b ∨ g b, gb, ?_, ?_, fun b => or_assoc.symm, fun b h1 h2 => ?_⟩
  ·rw [e1]; exact g1
  ·rw [e2]; exact t2.monoF hz hw (fun b hb => hg b (.inr hb)) (fun b q hb => hn b q (.inr hb))
  ·rcases h1 with h1 | h1
   ·exact hf b h1 (.inr h2)
   ·exact t4 b ((k2 b).2 (.inr h1)) h2
theorem zgk {a b : OT} {off k : Nat} {L : Σ s', Lens b s'} (hoff : zO a.ty ≤ off) (h : LensOk b (off - zO a.ty) k L) : LensOk (.pr a b) off k ⟨L.1, L.2.snd⟩ := by
 refine ⟨h.kk, by have := h.le; simp only [zO]; omega, fun Z w x vs fp ht => ?_⟩
 obtain ⟨fa, gb, t1, t2, t3, t4⟩ := ht
 have l1 := t1.len
 have l2 := t2.len
 have hle := h.le
 have hkb := zAs b.ty
 simp only [List.length_take, List.length_drop] at l1 l2
 obtain ⟨f, g, k1, k2, k3, k4⟩ := h.tr Z w x.2 _ gb t2
 refine ⟨f, fun b => fa b ∨ g b, ?_, fun b => ?_, fun b h1 h2 => ?_, fun Z' w' y vs' f' hz hw hg hn ht hf => ?_⟩
 ·have : (vs.drop off).take k = ((vs.drop (zO a.ty)).drop (off - zO a.ty)).take k := by
   rw [List.drop_drop]; congr 2; omega
  rw [this]; exact k1
 ·rw [t3, k2, ← or_assoc, or_comm (a := fa b), or_assoc]
 ·rcases h2 with h2 | h2
  ·exact t4 b h2 ((k2 b).2 (.inl h1))
  ·exact k3 b h1 h2
 ·have hl' : vs'.length = k := by rw [ht.len]; exact h.kk
  have g1 := k4 Z' w' y vs' f' hz hw (fun b hb => hg b (.inr hb)) (fun b q hb => hn b q (.inr hb)) ht fun b hb h' => hf b hb (.inr h')
  have e1 : (vs.take off ++ vs' ++ vs.drop (off + k)).take (zO a.ty) = vs.take (zO a.ty) := by
   rw [List.append_assoc, List.take_append_of_le_length (by simp; omega), List.take_take, Nat.min_eq_left (by omega)]
  have e2 : (vs.take off ++ vs' ++ vs.drop (off + k)).drop (zO a.ty) = (vs.drop (zO a.ty)).take (off - zO a.ty) ++ vs' ++ (vs.drop (zO a.ty)).drop (off - zO a.ty + k) := by
   rw [List.append_assoc, List.drop_append_of_le_length (by simp; omega), List.drop_take, List.drop_drop, List.append_assoc]
   congr 3; omega
  refine ⟨fa, fun b => f' b ∨ g b, ?_, ?_, fun b => ?_, fun b h1 h2 => ?_⟩
  ·rw [e1]; exact t1.monoF hz hw (fun b hb => hg b (.inl hb)) (fun b q hb => hn b q (.inl hb))
  ·rw [e2]; exact g1
  ·exact or_left_comm
  ·rcases h2 with h2 | h2
   ·exact hf b h2 (.inl h1)
   ·exact t4 b h1 ((k2 b).2 (.inr h2))
theorem TrO.dpr {a b : Ty} {x : El (.pr a b)} {vs : List Value} {fp : Nat → Prop} : TrO Z w (.d (.pr a b)) x vs fp ↔ TrO Z w (.pr (.d a) (.d b)) x vs fp := by
 have hkb := zAs b
 constructor
 ·rintro ⟨h1, h2, h3⟩
  have h2 : vs.length = zO a + zO b := h2
  refine ⟨vm, vm, ⟨fun _ h => h, ?_, fun j u y hu hy => ?_⟩, ⟨fun _ h => h, ?_, fun j u y hu hy => ?_⟩, fun b => ⟨fun h => absurd h (h1 b), fun h => h.elim False.elim False.elim⟩, fun _ h => h.elim⟩
  ·show (vs.take (zO a)).length = zO a
   rw [List.length_take]; omega
  ·have hj : j < zO a := by rw [← yB (q := 0) a x.1]; exact (List.getElem?_eq_some_iff.1 hu).1
   have hy : (vs.take (zO a))[j]? = some y := hy
   rw [List.getElem?_take, if_pos hj] at hy
   exact h3 j u y (by simp only [Go.Proofs.YtkdidadegedmiaaGreat.enc]; rw [List.getElem?_append_left (by rw [yB]; exact hj)]; exact hu) hy
  ·show (vs.drop (zO a)).length = zO b
   rw [List.length_drop]; omega
  ·have hy : (vs.drop (zO a))[j]? = some y := hy
   rw [List.getElem?_drop] at hy
   exact h3 (zO a + j) u y (by simp only [Go.Proofs.YtkdidadegedmiaaGreat.enc]; rw [List.getElem?_append_right (by rw [yB]; omega), yB, Nat.add_sub_cancel_left]; exact hu) hy
 ·rintro ⟨f, g, h1, h2, h3, _⟩
  have l1 : (vs.take (zO a)).length = zO a := h1.2.1
  have l2 : (vs.drop (zO a)).length = zO b := h2.2.1
  rw [List.length_take] at l1
  rw [List.length_drop] at l2
  refine ⟨fun b hb => ((h3 b).1 hb).elim (h1.1 b) (h2.1 b), (by show vs.length = zO a + zO b; omega), fun j u y hu hy => ?_⟩
  simp only [Go.Proofs.YtkdidadegedmiaaGreat.enc] at hu
  by_cases hj : j < zO a
  ·rw [List.getElem?_append_left (by rw [yB]; exact hj)] at hu
   exact h1.2.2 j u y hu (by show (vs.take (zO a))[j]? = some y; rw [List.getElem?_take, if_pos hj]; exact hy)
  ·rw [List.getElem?_append_right (by rw [yB]; omega), yB] at hu
   exact h2.2.2 _ u y hu (by show (vs.drop (zO a))[j - zO a]? = some y; rw [List.getElem?_drop, ← hy]; congr 1; omega)
theorem zqg {a b : Ty} {off k : Nat} {s' : OT} {l : Lens (.pr (.d a) (.d b)) s'} {l' : Lens (.d (.pr a b)) s'} (hg : ∀ x, l'.get x = l.get x) (hs : ∀ x y, l'.set x y = l.set x y) (h : LensOk (.pr (.d a) (.d b)) off k ⟨s', l⟩) : LensOk (.d (.pr a b)) off k ⟨s', l'⟩ := by
 refine ⟨h.kk, h.le, fun Z w x vs fp ht => ?_⟩
 obtain ⟨f, g, k1, k2, k3, k4⟩ := h.tr Z w x vs fp (TrO.dpr.1 ht)
 refine ⟨f, g, by simp only [hg]; exact k1, k2, k3, fun Z' w' y vs' f' h1 h2 h3 h4 h5 h6 => ?_⟩
 simp only [hs]
 exact TrO.dpr.2 (k4 Z' w' y vs' f' h1 h2 h3 h4 h5 h6)
theorem zq1 (k : Nat) : ∀ (t : Ty) (off : Nat) (L : Σ s', Lens (.d t) s'), zg7 k t off = some L → LensOk (.d t) off k L := by
 intro t
 have zI6 : ∀ (t : Ty) (off : Nat) (L : Σ s', Lens (.d t) s'), (if off = 0 ∧ k = zO t then some (⟨.d t, .same rfl⟩ : Σ s', Lens (.d t) s') else none) = some L → LensOk (.d t) off k L := by
  intro t off L h
  split at h
  ·rename_i e; obtain ⟨rfl, rfl⟩ := e; cases h; exact zPO (.d t)
  ·cases h
 induction t with
 | pr a b iha ihb =>
  intro off L h
  unfold zg7 at h
  split at h
  ·rename_i e; obtain ⟨rfl, rfl⟩ := e; cases h; exact zPO (.d (.pr a b))
  ·split at h
   ·simp only [Option.map_eq_some_iff] at h
    obtain ⟨l, h1, rfl⟩ := h
    exact zqg (fun _ => rfl) (fun _ _ => rfl) (zhV (b := .d b) (iha off l h1))
   ·split at h
    ·rename_i hle
     simp only [Option.map_eq_some_iff] at h
     obtain ⟨l, h1, rfl⟩ := h
     exact zqg (fun _ => rfl) (fun _ _ => rfl) (zgk (a := .d a) hle (ihb _ l h1))
    ·cases h
 | int => intro off L h; exact zI6 _ off L h
 | u8 => intro off L h; exact zI6 _ off L h
 | bool => intro off L h; exact zI6 _ off L h
 | str => intro off L h; exact zI6 _ off L h
 | lst t _ => intro off L h; exact zI6 _ off L h
theorem zqw (k : Nat) : ∀ (s : OT) (off : Nat) (L : Σ s', Lens s s'), zW0 k s off = some L → LensOk s off k L := by
 intro s
 induction s with
 | d t => intro off L h; exact zq1 k t off L h
 | o s _ =>
  intro off L h
  unfold zW0 at h
  split at h
  ·rename_i e; obtain ⟨rfl, rfl⟩ := e; cases h; exact zPO (.o s)
  ·cases h
 | pr a b iha ihb =>
  intro off L h
  unfold zW0 at h
  split at h
  ·rename_i e; obtain ⟨rfl, rfl⟩ := e; cases h; exact zPO (.pr a b)
  ·split at h
   ·simp only [Option.map_eq_some_iff] at h
    obtain ⟨l, h1, rfl⟩ := h
    exact zhV (iha off l h1)
   ·split at h
    ·rename_i hle
     simp only [Option.map_eq_some_iff] at h
     obtain ⟨l, h1, rfl⟩ := h
     exact zgk hle (ihb _ l h1)
    ·cases h
theorem TrO.open : ∀ (s : OT) (x : El s.ty) (vs : List Value) (fp : Nat → Prop), TrO Z w s x vs fp → ∃ ps : List Pl, ps.length = s.n ∧ (∀ (i : Nat) (ob : Ob) (p : Pl), (zG4 s x)[i]? = some ob → ps[i]? = some p → (∀ ρ, ObR ρ Z w ob p) ∧ ∃ s l, ob = .arr s l) ∧
   (∀ (i : Nat) (p : Pl) (b : Nat), ps[i]? = some p → p.fp b → fp b) ∧ (∀ (i j : Nat) (p p' : Pl) (b : Nat), ps[i]? = some p → ps[j]? = some p' → p.fp b → p'.fp b → i = j) ∧
   ∀ (ρ2 : yH) (k : Nat), At ρ2 k ps → ∀ (j : Nat) (u : V) (y : Value), (zBI s x k)[j]? = some u → vs[j]? = some y → Cn ρ2 Z w u y
 | .d t, x, vs, fp, h => ⟨[], rfl, fun i ob p h => by simp [zG4] at h, fun i p b h => by simp at h, fun i j p p' b h => by simp at h, fun ρ2 k _ j u y hu hy => (h.2.2 j u y hu hy).clF (zFQ t x u (List.mem_of_getElem? hu)) (fun _ h => h) (fun _ _ => rfl)⟩
 | .o s, l, vs, fp, h => by
  obtain ⟨v, b, rfl, h⟩ := h
  refine ⟨[⟨b, v, 0, fp⟩], rfl, fun i ob p h1 h2 => ?_, fun i p b h1 h2 => ?_, fun i j p p' b h1 h2 _ _ => ?_, fun ρ2 k hk j u y hu hy => ?_⟩
  ·cases i with
   | zero => simp [zG4] at h1 h2; subst h1 h2; exact ⟨fun _ => h, _, _, rfl⟩
   | succ i => simp at h2
  ·cases i with
   | zero => simp at h1; subst h1; exact h2
   | succ i => simp at h1
  ·cases i with
   | zero =>
    cases j with
    | zero => rfl
    | succ j => simp at h2
   | succ i => simp at h1
  ·cases j with
   | zero =>
    simp [zBI] at hu hy; subst hu hy
    have hp : ρ2 k = some ⟨b, v, 0, fp⟩ := hk 0 _ rfl
    have : ∃ a n c, v = .slice a n c := by
     rcases h with ⟨⟨a, e⟩, _⟩ | ⟨_, _, _, _, g⟩
     ·exact ⟨a, 0, 0, e⟩
     ·exact ⟨_, _, _, g.hv⟩
    obtain ⟨a, n, c, rfl⟩ := this
    exact .obj hp rfl
   | succ j => simp at hy
 | .pr a b, x, vs, fp, h => by
  obtain ⟨f, g, h1, h2, h3, h4⟩ := h
  obtain ⟨p1, n1, o1, f1, d1, c1⟩ := TrO.open a x.1 _ f h1
  obtain ⟨p2, n2, o2, f2, d2, c2⟩ := TrO.open b x.2 _ g h2
  have lo : (zG4 a x.1).length = a.n := zGl _ _
  refine ⟨p1 ++ p2, by simp [n1, n2, OT.n], fun i ob p e1 e2 => ?_, fun i p b' e1 e2 => ?_, fun i j p p' b' e1 e2 e3 e4 => ?_, fun ρ2 k hk j u y hu hy => ?_⟩
  ·simp only [zG4] at e1
   by_cases hi : i < a.n
   ·rw [List.getElem?_append_left (by omega)] at e1 e2
    exact o1 i ob p e1 e2
   ·rw [List.getElem?_append_right (by omega)] at e1 e2
    rw [lo] at e1; rw [n1] at e2
    exact o2 _ ob p e1 e2
  ·by_cases hi : i < p1.length
   ·rw [List.getElem?_append_left hi] at e1
    exact (h3 b').2 (.inl (f1 i p b' e1 e2))
   ·rw [List.getElem?_append_right (by omega)] at e1
    exact (h3 b').2 (.inr (f2 _ p b' e1 e2))
  ·by_cases hi : i < p1.length <;> by_cases hj : j < p1.length
   ·rw [List.getElem?_append_left hi] at e1
    rw [List.getElem?_append_left hj] at e2
    exact d1 i j p p' b' e1 e2 e3 e4
   ·rw [List.getElem?_append_left hi] at e1
    rw [List.getElem?_append_right (by omega)] at e2
    exact absurd (f2 _ p' b' e2 e4) (h4 b' (f1 i p b' e1 e3))
   ·rw [List.getElem?_append_right (by omega)] at e1
    rw [List.getElem?_append_left hj] at e2
    exact absurd (f2 _ p b' e1 e3) (h4 b' (f1 j p' b' e2 e4))
   ·rw [List.getElem?_append_right (by omega)] at e1 e2
    have := d2 _ _ p p' b' e1 e2 e3 e4
    omega
  ·simp only [zBI] at hu
   by_cases hj : j < zO a.ty
   ·rw [List.getElem?_append_left (by rw [yd]; exact hj)] at hu
    exact c1 ρ2 k hk.left j u y hu (by rw [List.getElem?_take, if_pos hj]; exact hy)
   ·rw [List.getElem?_append_right (by rw [yd]; omega), yd] at hu
    refine c2 ρ2 (k + a.n) (by rw [← n1]; exact hk.right) _ u y hu ?_
    rw [List.getElem?_drop, ← hy]; congr 1; omega
end
end Go.Proofs.YtkdidadegedmiaaGreat
namespace Go.Proofs.YtkdidadegedmiaaGreat
open Go.RowKit
section
variable {P : Program} {ρ : yH} {Z : Zs} {w : World} {H H1 : List Ob}
theorem zhR {q n o : Nat} (h : zsH q n = true) (ho : o ≤ n) : vp q o = false ∧ zBf q o = false := by
 unfold zsH at h
 rw [Bool.or_eq_true, decide_eq_true_eq] at h
 rcases h with h | h
 ·exact ⟨zVn h, zRQ h⟩
 ·have := List.all_eq_true.1 h o (List.mem_range.2 (by omega))
  simpa using this
theorem Post.rhoL {q n : Nat} {ρ ρ' : yH} {Z Z' : Zs} {H H' : List Ob} {w w' : World} (h : Post q ρ Z H w ρ' Z' H' w') (hq : zsH q n = true) {o : Nat} {p : Pl} (ho : o ≤ n) (e : ρ o = some p) : ρ' o = some p := by
 obtain ⟨k1, k2⟩ := zhR hq ho
 obtain ⟨f, h1, h2⟩ := h.rho o p e (.inl k1)
 rw [h1, h2 (.inl k2)]
theorem zUR {s : OT} {ob : Nat} {i : Int} {off k : Nat} {x : Value} (hf : zcW H s ob i off k = some H1) (hr : HR ρ Z H w) (cx : Cn ρ Z w (.opt s ob i off) x) :
  ∃ ρ1, HR ρ1 Z H1 w ∧ Cn ρ1 Z w (.ptr H.length 0) x ∧ (∀ v y, Cn ρ Z w v y → Cn ρ1 Z w (scrub (yG ob []) v) y) ∧
   ∀ q ok v H' q2 ok2 v2 H2, zSx H s ob i off k H.length (.mk q ok v H') = .mk q2 ok2 v2 H2 → ok2 = ok ∧ ∀ ρ' Z' w' y, Post q ρ1 Z H1 w ρ' Z' H' w' → Cn ρ' Z' w' v y → ∃ ρ4 Z4, Post q2 ρ Z H w ρ4 Z4 H2 w' ∧ Cn ρ4 Z4 w' v2 y := by
 unfold zcW at hf
 unfold zSx zdg
 split at hf
 rotate_left
 ·cases hf
 rename_i s1 l e
 split at hf
 rotate_left
 ·cases hf
 rename_i pe hpe
 obtain rfl := pe.down
 rw [zIr] at hf
 split at hf
 rotate_left
 ·cases hf
 rename_i L hL
 cases hf
 simp only [zIr]
 have LK := zqw k s1 off L hL
 cases cx with
 | opt g hx h0 =>
 rename_i n c p
 have hlt : ob < H.length := hr.dom ob p g
 rcases hr.ob ob p _ g e with ⟨⟨ad, k1⟩, _⟩ | ⟨cur, e0, c', fs, hI⟩
 ·rw [hx] at k1; cases k1; omega
 have hn : n = l.length ∧ c = c' := by
  have := hI.hv; rw [hx] at this
  simp only [Value.slice.injEq] at this
  exact ⟨this.2.1, this.2.2⟩
 obtain ⟨rfl, rfl⟩ := hn
 have hi : i.toNat < l.length := by omega
 have ht := hI.ht i.toNat _ (zdp h0)
 obtain ⟨f, g', t1, t2, t3, t4⟩ := LK.tr Z w _ _ _ ht
 obtain ⟨ps, n1, o1, f1, d1, c1⟩ := TrO.open _ _ _ _ t1
 have hK := zAs s1.ty
 have hkk := LK.kk
 have hle := LK.le
 have hfit : i.toNat * zO s1.ty + zO s1.ty ≤ cur.size := by
  have : (i.toNat + 1) * zO s1.ty ≤ c * zO s1.ty := Nat.mul_le_mul_right _ (by have := hI.hc; omega)
  rw [Nat.succ_mul] at this; have := hI.hs; omega
 generalize hy0 : L.2.get (zB s1.ty l i) = y0 at *
 have lo : (zG4 L.1 y0).length = ps.length := by rw [n1]; exact zGl _ _
 let pn : Pl := ⟨p.b, undef, i.toNat * zO s1.ty + off, vm⟩
 let ρ1 : yH := fun o' => if o' = ob then some ⟨p.b, p.x, p.off, vm⟩ else if o' < H.length then ρ o' else (pn :: ps)[o' - H.length]?
 have r_o : ρ1 ob = some ⟨p.b, p.x, p.off, vm⟩ := if_pos rfl
 have r_old : ∀ o', o' ≠ ob → o' < H.length → ρ1 o' = ρ o' := fun o' h1 h2 => by simp only [ρ1, if_neg h1, if_pos h2]
 have r_old' : ∀ o' p', o' ≠ ob → ρ o' = some p' → ρ1 o' = some p' := fun o' p' h1 h2 => by rw [r_old o' h1 (hr.dom _ _ h2)]; exact h2
 have r_n : ρ1 H.length = some pn := by simp only [ρ1, if_neg (show H.length ≠ ob by omega), Nat.lt_irrefl, if_false, Nat.sub_self, List.getElem?_cons_zero]
 have r_sub : At ρ1 (H.length + 1) ps := fun j p' h => by
  simp only [ρ1, if_neg (show H.length + 1 + j ≠ ob by omega), if_neg (show ¬ H.length + 1 + j < H.length by omega), show H.length + 1 + j - H.length = j + 1 by omega, List.getElem?_cons_succ]; exact h
 generalize hH1 : ((H.set ob .gone).map (vK (yG ob [])) ++ [.box (zBI L.1 y0 (H.length + 1))] ++ zG4 L.1 y0 : List Ob) = H1
 have hH1l : H1.length = H.length + 1 + ps.length := by rw [← hH1]; simp [lo]; omega
 have h_old : ∀ o', o' < H.length → o' ≠ ob → H1[o']? = (H[o']?).map (vK (yG ob [])) := fun o' h1 h2 => by
  rw [← hH1, List.append_assoc, List.getElem?_append_left (by simpa using h1), List.getElem?_map, List.getElem?_set_ne (Ne.symm h2)]
 have h_o : H1[ob]? = some .gone := by
  rw [← hH1, List.append_assoc, List.getElem?_append_left (by simpa using hlt), List.getElem?_map, List.getElem?_set_self hlt]; rfl
 have h_n : H1[H.length]? = some (.box (zBI L.1 y0 (H.length + 1))) := by
  rw [← hH1, List.append_assoc, List.getElem?_append_right (by simp)]; simp
 have h_sub : ∀ j, H1[H.length + 1 + j]? = (zG4 L.1 y0)[j]? := fun j => by
  rw [← hH1, List.getElem?_append_right (by simp)]; simp
 have split1 : ∀ o' p' x', ρ1 o' = some p' → H1[o']? = some x' → (o' = ob ∧ p' = ⟨p.b, p.x, p.off, vm⟩ ∧ x' = .gone) ∨ (o' ≠ ob ∧ o' < H.length ∧ ρ o' = some p' ∧ ∃ z, H[o']? = some z ∧ x' = vK (yG ob []) z) ∨
   (o' = H.length ∧ p' = pn ∧ x' = .box (zBI L.1 y0 (H.length + 1))) ∨ ∃ j, o' = H.length + 1 + j ∧ ps[j]? = some p' ∧ (zG4 L.1 y0)[j]? = some x' := by
  intro o' p' x' h1 h2
  by_cases ho : o' = ob
  ·subst ho
   rw [r_o] at h1; rw [h_o] at h2; cases h1; cases h2
   exact .inl ⟨rfl, rfl, rfl⟩
  ·by_cases hl : o' < H.length
   ·rw [r_old o' ho hl] at h1
    rw [h_old o' hl ho, Option.map_eq_some_iff] at h2
    obtain ⟨z, h2, h3⟩ := h2
    exact .inr (.inl ⟨ho, hl, h1, z, h2, h3.symm⟩)
   ·by_cases hn : o' = H.length
    ·subst hn
     rw [r_n] at h1; rw [h_n] at h2; cases h1; cases h2
     exact .inr (.inr (.inl ⟨rfl, rfl, rfl⟩))
    ·obtain ⟨j, rfl⟩ : ∃ j, o' = H.length + 1 + j := ⟨o' - (H.length + 1), by omega⟩
     rw [h_sub] at h2
     have hj : j < ps.length := by rw [← lo]; exact (List.getElem?_eq_some_iff.1 h2).1
     have := r_sub j _ (List.getElem?_eq_getElem hj)
     rw [this] at h1
     exact .inr (.inr (.inr ⟨j, rfl, by rw [List.getElem?_eq_getElem hj]; exact h1, h2⟩))
 have fOld : ∀ b, f b → p.fp b ∧ b ≠ p.b := fun b hb => ⟨(hI.hf b).2 (.inr ⟨_, hi, (t2 b).2 (.inl hb)⟩), fun h => hI.hn _ hi (h ▸ (t2 b).2 (.inl hb))⟩
 have hpb : p.fp p.b := (hI.hf p.b).2 (.inl rfl)
 have zI8 : ∀ o' p' x' b, ρ1 o' = some p' → H1[o']? = some x' → vy x' p' b → (o' ≠ ob ∧ o' < H.length ∧ ρ o' = some p' ∧ ∃ z, H[o']? = some z ∧ x' = vK (yG ob []) z ∧ vy z p' b) ∨ (o' = H.length ∧ b = p.b) ∨ (f b ∧ ∃ j, o' = H.length + 1 + j ∧ ps[j]? = some p' ∧ p'.fp b) := by
  intro o' p' x' b h1 h2 h3
  rcases split1 o' p' x' h1 h2 with ⟨_, rfl, rfl⟩ | ⟨k1, k2, k3, z, k4, rfl⟩ | ⟨rfl, rfl, rfl⟩ | ⟨j, rfl, k1, k2⟩
  ·exact h3.elim
  ·exact .inl ⟨k1, k2, k3, z, k4, rfl, x3.1 h3⟩
  ·exact .inr (.inl ⟨rfl, h3⟩)
  ·obtain ⟨_, s, l, rfl⟩ := o1 j x' p' k2 k1
   exact .inr (.inr ⟨f1 j p' b k1 h3, j, rfl, k1, h3⟩)
 have own0 : ∀ o' p' x' b, ρ1 o' = some p' → H1[o']? = some x' → vy x' p' b → ∃ o0 p0 x0, ρ o0 = some p0 ∧ H[o0]? = some x0 ∧ vy x0 p0 b := by
  intro o' p' x' b h1 h2 h3
  rcases zI8 o' p' x' b h1 h2 h3 with ⟨_, _, k1, z, k2, _, k3⟩ | ⟨_, rfl⟩ | ⟨hb, _⟩
  ·exact ⟨o', p', z, k1, k2, k3⟩
  ·exact ⟨ob, p, _, g, e, hpb⟩
  ·exact ⟨ob, p, _, g, e, (fOld b hb).1⟩
 have sk : Sk (yG ob []) ρ Z w ρ1 Z w := ⟨fun o' p' h k => by
   by_cases ho : o' = ob
   ·subst ho
    rw [g] at h; cases h
    exact ⟨vm, r_o, fun h => by rw [zAf] at h; simp at h⟩
   ·exact ⟨p'.fp, r_old' o' p' ho h, fun _ => rfl⟩, fun _ _ h => h, fun _ _ _ => rfl, fun _ _ _ _ _ _ => rfl⟩
 have hnz : ∀ q, ¬ Z q p.b := hI.hz
 have hr1 : HR ρ1 Z H1 w := by
  refine ⟨hr.zl, fun o' p' h => ?_, fun o' p' x' h1 h2 => ?_, fun a b p1 p2 x1 x2 bb h1 h2 h3 h4 b1 b2 => ?_⟩
  ·by_cases ho : o' = ob
   ·omega
   ·by_cases hl : o' < H.length
    ·omega
    ·simp only [ρ1, if_neg ho, if_neg hl] at h
     have := (List.getElem?_eq_some_iff.1 h).1
     simp at this; omega
  ·rcases split1 o' p' x' h1 h2 with ⟨_, rfl, rfl⟩ | ⟨k1, k2, k3, z, k4, rfl⟩ | ⟨rfl, rfl, rfl⟩ | ⟨j, rfl, k1, k2⟩
   ·exact fun b h => h
   ·have hob := hr.ob o' p' z k3 k4
    cases z with
    | box cells =>
     obtain ⟨nf, nz, xs, e', m2, m3, m4⟩ := hob
     refine ⟨nf, nz, xs, e', m2, by simpa using m3, fun i u y hu hy => ?_⟩
     rw [List.getElem?_map, Option.map_eq_some_iff] at hu
     obtain ⟨u', h1, rfl⟩ := hu
     exact (m4 i u' y h1 hy).scrub sk
    | arr s l => exact hob
    | frz t l => exact hob
    | gone => exact hob
   ·refine ⟨fun b h => h, hnz, cur, e0, hI.hw, ?_, fun j u y hu hy => ?_⟩
    ·show i.toNat * zO s1.ty + off + (zBI L.1 y0 (H.length + 1)).length ≤ cur.size
     rw [yd]; omega
    ·have hj : j < k := by rw [← hkk, ← yd L.1 y0 (H.length + 1)]; exact (List.getElem?_eq_some_iff.1 hu).1
     refine c1 ρ1 (H.length + 1) r_sub j u y hu ?_
     rw [List.getElem?_take, if_pos hj, List.getElem?_drop]
     unfold zu
     rw [List.getElem?_take, if_pos (by omega), List.getElem?_drop, ← hy, Array.getElem?_toList]
     show cur[i.toNat * zO s1.ty + (off + j)]? = cur[i.toNat * zO s1.ty + off + j]?
     rw [Nat.add_assoc]
   ·exact (o1 j x' p' k2 k1).1 ρ1
  ·have one : ∀ o' p' x', ρ1 o' = some p' → H1[o']? = some x' → vy x' p' bb → o' ≠ ob → o' < H.length → bb ≠ p.b ∧ ¬ f bb := by
    intro o' p' x' h1 h2 h3 h4 h5
    have : ¬ p.fp bb := fun hb => by
     rcases zI8 o' p' x' bb h1 h2 h3 with ⟨_, _, k1, z, k2, _, k3⟩ | ⟨k, _⟩ | ⟨_, j, k, _⟩
     ·exact h4 (hr.dj o' ob p' p z _ bb k1 g k2 e k3 hb)
     ·omega
     ·omega
    exact ⟨fun h => this (h ▸ hpb), fun h => this (fOld bb h).1⟩
   have hb1 := zI8 a p1 x1 bb h1 h3 b1
   have hb2 := zI8 b p2 x2 bb h2 h4 b2
   rcases hb1 with ⟨i1, i2, i3, z1, i4, _, i5⟩ | ⟨i1, i2⟩ | ⟨i1, j1, i2, i3, i4⟩
   ·have := one a p1 x1 h1 h3 b1 i1 i2
    rcases hb2 with ⟨k1, k2, k3, z2, k4, _, k5⟩ | ⟨k1, k2⟩ | ⟨k1, _⟩
    ·exact hr.dj a b p1 p2 z1 z2 bb i3 k3 i4 k4 i5 k5
    ·exact absurd k2 this.1
    ·exact absurd k1 this.2
   ·rcases hb2 with ⟨k1, k2, k3, z2, k4, _, k5⟩ | ⟨k1, k2⟩ | ⟨k1, _⟩
    ·exact absurd i2 (one b p2 x2 h2 h4 b2 k1 k2).1
    ·omega
    ·exact absurd i2 (fOld bb k1).2
   ·rcases hb2 with ⟨k1, k2, k3, z2, k4, _, k5⟩ | ⟨k1, k2⟩ | ⟨k1, j2, k2, k3, k4⟩
    ·exact absurd i1 (one b p2 x2 h2 h4 b2 k1 k2).2
    ·exact absurd k2 (fOld bb i1).2
    ·have := d1 j1 j2 p1 p2 bb i3 k3 i4 k4
     omega
 refine ⟨ρ1, hr1, .ptr (p := pn) r_n, fun v y h => h.scrub sk, fun q ok v H' q2 ok2 v2 H2 hb => ?_⟩
 split at hb
 rotate_left
 ·cases hb
 rename_i hq
 split at hb
 rotate_left
 ·cases hb
 rename_i H3 os hun
 cases hb
 split at hun
 rotate_left
 ·cases hun
 rename_i cs hcs hgo
 split at hun
 rotate_left
 ·cases hun
 rename_i y H2 os' q2 htk
 cases hun
 refine ⟨rfl, fun ρ' Z' w' y' hp cy => ?_⟩
 have hn' : ρ' H.length = some pn := hp.rhoL hq (Nat.le_refl _) r_n
 obtain ⟨_, nz', xs', e', m2, m3, m4⟩ := hp.hr.ob _ pn _ hn' hcs
 have hcl : cs.length = k := by
  obtain ⟨cs', k1, k2⟩ := hp.bxs _ _ h_n
  rw [hcs] at k1; cases k1
  rw [k2, yd, hkk]
 obtain ⟨ys, hys, hysl⟩ : ∃ ys : List Value, ys = (xs'.toList.drop (i.toNat * zO s1.ty + off)).take k ∧ ys.length = k := ⟨_, rfl, by
  have : i.toNat * zO s1.ty + off + cs.length ≤ xs'.size := m3
  rw [List.length_take, List.length_drop, Array.length_toList]; omega⟩
 have hysc : ∀ (j : Nat) (u : V) (z : Value), cs[j]? = some u → ys[j]? = some z → Cn ρ' Z' w' u z := fun j u z hu hz => by
  have hj : j < k := by rw [← hysl]; exact (List.getElem?_eq_some_iff.1 hz).1
  rw [hys, List.getElem?_take, if_pos hj, List.getElem?_drop, Array.getElem?_toList] at hz
  exact m4 j u z hu hz
 obtain ⟨a1, _, Z2, fy, a2, a3, post, a4, _, a5, a6, a7, _⟩ := zXr htk hp.hr (ys := ys) (by omega) (by rw [Nat.one_mul]; omega) hysc
 have ty := a4 0 y rfl
 have frY := fun b hb => a5 0 b (by decide) hb
 rw [Nat.zero_mul, List.drop_zero, hkk, List.take_of_length_le (by omega)] at ty
 generalize hfy : fy 0 = f' at ty frY
 have hbl : (zy H2 os q2).length = H'.length := by rw [xJ]; exact a1
 have hnl : H.length < H'.length := (List.getElem?_eq_some_iff.1 hcs).1
 have ho' : ρ' ob = some ⟨p.b, p.x, p.off, vm⟩ := hp.rhoL hq (Nat.le_of_lt hlt) r_o
 have oos : ob ∉ os := fun h => by
  obtain ⟨s, l, _, h⟩ := a6 ob h
  rw [hgo] at h; cases h
 have nos : H.length ∉ os := fun h => by
  obtain ⟨s, l, _, h⟩ := a6 _ h
  rw [hcs] at h; cases h
 have dn : (ρ'.del os) H.length = some pn := by rw [yH.del_ne nos]; exact hn'
 have do' : (ρ'.del os) ob = some ⟨p.b, p.x, p.off, vm⟩ := by rw [yH.del_ne oos]; exact ho'
 obtain ⟨csn, hbn, _⟩ := post.bxs _ _ hcs
 have ownN : vy (.box csn) pn p.b := rfl
 have nz2 : ∀ q, ¬ Z2 q p.b := (post.hr.own dn hbn ownN).1
 have quiet : ∀ b, p.fp b → b ≠ p.b → ¬ f b → w'.heap[b]? = w.heap[b]? ∧ (∀ k, ¬ Z2 k b) ∧ (∀ o' p' x', ρ' o' = some p' → H'[o']? = some x' → ¬ vy x' p' b) ∧ ∀ o' p' x', (ρ'.del os) o' = some p' → (zy H2 os q2)[o']? = some x' → ¬ vy x' p' b := by
  intro b b1 b2 b3
  obtain ⟨z1, z2⟩ := hr.own g e (b := b) b1
  have n1 : ∀ o' p' x', ρ1 o' = some p' → H1[o']? = some x' → ¬ vy x' p' b := by
   intro o' p' x' h1 h2 h3
   rcases zI8 o' p' x' b h1 h2 h3 with ⟨k0, _, k1, z, k2, _, k3⟩ | ⟨_, k⟩ | ⟨k, _⟩
   ·exact k0 (hr.dj o' ob p' p z _ b k1 g k2 e k3 b1)
   ·exact b2 k
   ·exact b3 k
  have n2 : ∀ o' p' x', ρ' o' = some p' → H'[o']? = some x' → ¬ vy x' p' b := by
   intro o' p' x' h1 h2 h3
   rcases hp.newb o' p' x' b h1 h2 h3 with h | ⟨o0, p0, x0, k1, k2, k3⟩
   ·omega
   ·exact n1 o0 p0 x0 k1 k2 k3
  have hsz := hp.size.le
  refine ⟨hp.same b z2 n1, fun k hk => ?_, n2, fun o' p' x' h1 h2 h3 => ?_⟩
  ·rcases post.zn k b hk with h | h | ⟨o0, p0, x0, k1, k2, k3⟩
   ·rcases hp.zn k b h with h | h | ⟨o0, p0, x0, k1, k2, k3⟩
    ·exact z1 k h
    ·omega
    ·exact n1 o0 p0 x0 k1 k2 k3
   ·omega
   ·exact n2 o0 p0 x0 k1 k2 k3
  ·rcases post.newb o' p' x' b h1 h2 h3 with h | ⟨o0, p0, x0, k1, k2, k3⟩
   ·omega
   ·exact n2 o0 p0 x0 k1 k2 k3
 have qg : ∀ b, g' b → p.fp b ∧ b ≠ p.b ∧ ¬ f b := fun b hb => by
  have h1 := (t2 b).2 (.inr hb)
  exact ⟨(hI.hf b).2 (.inr ⟨_, hi, h1⟩), fun h => hI.hn _ hi (h ▸ h1), fun h => t3 b h hb⟩
 have qf : ∀ j b, j < l.length → j ≠ i.toNat → fs j b → p.fp b ∧ b ≠ p.b ∧ ¬ f b := fun j b hj hji hb =>
  ⟨(hI.hf b).2 (.inr ⟨j, hj, hb⟩), fun h => hI.hn j hj (h ▸ hb), fun h => hji (hI.hd j _ b hj hi hb ((t2 b).2 (.inl h)))⟩
 have fyq : ∀ b, f' b → (∃ o0 p0 x0, ρ' o0 = some p0 ∧ H'[o0]? = some x0 ∧ vy x0 p0 b ∧ o0 ∈ os) := by
  intro b hb
  obtain ⟨o0, p0, x0, k0, k1, k2, k3⟩ := frY b hb
  obtain ⟨s, l, k4, k5⟩ := a6 o0 k0
  rw [k4] at k2; cases k2
  exact ⟨o0, p0, _, k1, k5, k3, k0⟩
 have fyb : ∀ b, f' b → b ≠ p.b := by
  rintro b hb rfl
  obtain ⟨o0, p0, x0, k1, k2, k3, k4⟩ := fyq _ hb
  have := hp.hr.dj o0 H.length p0 pn x0 _ p.b k1 hn' k2 hcs k3 rfl
  exact nos (this ▸ k4)
 have zk : ∀ k b, Z k b → Z2 k b := fun k b h => a2 k b (hp.zm k b h)
 have hzs : ∀ k b, Z k b → w'.heap[b]? = w.heap[b]? := hr1.zsame hp
 obtain ⟨xs'', q1, q2', q3⟩ := hp.part H.length pn _ r_n h_n cur e0 hI.hw
 rw [m2] at q1
 simp only [Option.some.injEq, Obj.cells.injEq] at q1
 obtain ⟨rfl, rfl, _⟩ := q1
 rw [yd, hkk] at q3
 have q3 : ∀ j, (j < i.toNat * zO s1.ty + off ∨ i.toNat * zO s1.ty + off + k ≤ j) → xs'[j]? = cur[j]? := q3
 generalize hl' : l.set i.toNat (L.2.set (zB s1.ty l i) y) = l'
 have hll : l'.length = l.length := by rw [← hl']; simp
 let fs' : Nat → Nat → Prop := fun j b => if j = i.toNat then f' b ∨ g' b else fs j b
 let fp' : Nat → Prop := fun b => b = p.b ∨ ∃ j, j < l'.length ∧ fs' j b
 let p4 : Pl := ⟨p.b, p.x, p.off, fp'⟩
 let ρ4 : yH := (ρ'.del os).upd ob p4
 have hcellO : ∀ j, j ≠ i.toNat → zu xs' (zO s1.ty) j = zu cur (zO s1.ty) j := by
  intro j hj
  unfold zu
  apply List.ext_getElem?
  intro m
  rw [List.getElem?_take, List.getElem?_take]
  split
  ·rename_i hm
   rw [List.getElem?_drop, List.getElem?_drop, Array.getElem?_toList, Array.getElem?_toList]
   apply q3
   rcases Nat.lt_or_gt_of_ne hj with h | h
   ·have : (j + 1) * zO s1.ty ≤ i.toNat * zO s1.ty := Nat.mul_le_mul_right _ (by omega)
    rw [Nat.succ_mul] at this
    exact .inl (by omega)
   ·have : (i.toNat + 1) * zO s1.ty ≤ j * zO s1.ty := Nat.mul_le_mul_right _ (by omega)
    rw [Nat.succ_mul] at this
    exact .inr (by omega)
  ·rfl
 have hcellI : (zu cur (zO s1.ty) i.toNat).take off ++ ys ++ (zu cur (zO s1.ty) i.toNat).drop (off + k) = zu xs' (zO s1.ty) i.toNat := by
  have hxs : xs'.size = cur.size := q2'
  have hc1 : (zu cur (zO s1.ty) i.toNat).length = zO s1.ty := by unfold zu; simp; omega
  have l1 : ((zu cur (zO s1.ty) i.toNat).take off).length = off := by simp; omega
  apply List.ext_getElem?
  intro m
  have hR : (zu xs' (zO s1.ty) i.toNat)[m]? = if m < zO s1.ty then xs'[i.toNat * zO s1.ty + m]? else none := by
   unfold zu; rw [List.getElem?_take]; split
   ·rw [List.getElem?_drop, Array.getElem?_toList]
   ·rfl
  have hC : ∀ m, m < zO s1.ty → (zu cur (zO s1.ty) i.toNat)[m]? = cur[i.toNat * zO s1.ty + m]? := by
   intro m hm
   unfold zu; rw [List.getElem?_take, if_pos hm, List.getElem?_drop, Array.getElem?_toList]
  rw [hR]
  by_cases h1 : m < off
  ·rw [if_pos (by omega), List.append_assoc, List.getElem?_append_left (by omega), List.getElem?_take, if_pos h1, hC m (by omega), q3 _ (.inl (by omega))]
  ·by_cases h2 : m < off + k
   ·rw [if_pos (by omega), List.getElem?_append_left (by simp; omega), List.getElem?_append_right (by omega), l1, hys, List.getElem?_take, if_pos (by omega), List.getElem?_drop, Array.getElem?_toList]
    congr 1; omega
   ·have l2 : ((zu cur (zO s1.ty) i.toNat).take off ++ ys).length = off + k := by simp; omega
    rw [List.getElem?_append_right (by omega), l2, List.getElem?_drop, show off + k + (m - (off + k)) = m by omega]
    by_cases h3 : m < zO s1.ty
    ·rw [if_pos h3, hC m h3, q3 _ (.inr (by omega))]
    ·rw [if_neg h3, List.getElem?_eq_none (by omega)]
 have hx' : ObR ρ4 Z2 w' (.arr s1 l') p4 := by
  refine .inr ⟨xs', e', c, fs', ?_, m2, nz2, by rw [hll]; exact hI.hc, hI.hm, by rw [hll]; exact hI.hl, by rw [q2']; exact hI.hs, fun b => Iff.rfl, fun j hj hb => ?_, fun a b bb ha hb h1 h2 => ?_, fun j x hj => ?_⟩
  ·rw [hll]; exact hI.hv
  ·simp only [fs'] at hb
   split at hb
   ·rcases hb with hb | hb
    ·exact fyb _ hb rfl
    ·exact (qg _ hb).2.1 rfl
   ·exact hI.hn j (by omega) hb
  ·have bad : ∀ j, j < l.length → j ≠ i.toNat → fs j bb → f' bb ∨ g' bb → False := by
    intro j hj hji h1 h2
    have hq := qf j bb hj hji h1
    rcases h2 with h2 | h2
    ·obtain ⟨o0, p0, x0, k1, k2, k3, k4⟩ := fyq _ h2
     exact (quiet bb hq.1 hq.2.1 hq.2.2).2.2.1 o0 p0 x0 k1 k2 k3
    ·exact hji (hI.hd j _ bb hj hi h1 ((t2 bb).2 (.inr h2)))
   simp only [fs'] at h1 h2
   split at h1
   ·split at h2
    ·omega
    ·exact (bad b (by omega) (by assumption) h2 h1).elim
   ·split at h2
    ·exact (bad a (by omega) (by assumption) h1 h2).elim
    ·exact hI.hd a b bb (by omega) (by omega) h1 h2
  ·have hjl : j < l.length := by rw [← hll]; exact (List.getElem?_eq_some_iff.1 hj).1
   rw [← hl'] at hj
   by_cases hji : j = i.toNat
   ·subst hji
    rw [List.getElem?_set_self hi] at hj; cases hj
    have : fs' i.toNat = fun b => f' b ∨ g' b := funext fun b => by simp only [fs', if_true]
    rw [this, ← hcellI]
    exact t4 Z2 w' y ys f' (fun b h => zk _ b h) (fun b h => hzs _ b h) (fun b hb => (quiet b (qg b hb).1 (qg b hb).2.1 (qg b hb).2.2).1) (fun b q hb => (quiet b (qg b hb).1 (qg b hb).2.1 (qg b hb).2.2).2.1 q) ty fun b hb hg => by
     obtain ⟨o0, p0, x0, k1, k2, k3, k4⟩ := fyq _ hb
     exact (quiet b (qg b hg).1 (qg b hg).2.1 (qg b hg).2.2).2.2.1 o0 p0 x0 k1 k2 k3
   ·rw [List.getElem?_set_ne (Ne.symm hji)] at hj
    have : fs' j = fs j := funext fun b => by simp only [fs', if_neg hji]
    rw [this, hcellO j hji]
    have qq := fun b hb => quiet b (qf j b hjl hji hb).1 (qf j b hjl hji hb).2.1 (qf j b hjl hji hb).2.2
    exact (hI.ht j x hj).mono zk hzs (fun b hb => (qq b hb).1) (fun b q hb => (qq b hb).2.1 q)
 have r4 : ρ4 ob = some p4 := yH.upd_self _ _ _
 have r4n : ∀ o', o' ≠ ob → ρ4 o' = (ρ'.del os) o' := fun o' h => yH.upd_ne h
 generalize hH5 : (((zy H2 os q2).set H.length .gone).set ob (.arr s1 l')).map (vK (yG ob os)) = H5
 have g_o : H5[ob]? = some (.arr s1 l') := by
  rw [← hH5, List.getElem?_map, List.getElem?_set_self (by simp; omega)]; rfl
 have g_n : H5[H.length]? = some .gone := by
  rw [← hH5, List.getElem?_map, List.getElem?_set_ne (by omega), List.getElem?_set_self (by omega)]; rfl
 have g_r : ∀ o', o' ≠ ob → o' ≠ H.length → H5[o']? = ((zy H2 os q2)[o']?).map (vK (yG ob os)) := fun o' h1 h2 => by
  rw [← hH5, List.getElem?_map, List.getElem?_set_ne (Ne.symm h1), List.getElem?_set_ne (Ne.symm h2)]
 have g_l : H5.length = H'.length := by rw [← hH5]; simp [hbl]
 have split5 : ∀ o' p' x', ρ4 o' = some p' → H5[o']? = some x' → (o' = ob ∧ p' = p4 ∧ x' = .arr s1 l') ∨ (o' = H.length ∧ p' = pn ∧ x' = .gone) ∨ (o' ≠ ob ∧ o' ≠ H.length ∧ (ρ'.del os) o' = some p' ∧ ∃ z, (zy H2 os q2)[o']? = some z ∧ x' = vK (yG ob os) z) := by
  intro o' p' x' h1 h2
  by_cases ho : o' = ob
  ·subst ho
   rw [r4] at h1; rw [g_o] at h2; cases h1; cases h2
   exact .inl ⟨rfl, rfl, rfl⟩
  ·rw [r4n o' ho] at h1
   by_cases hn : o' = H.length
   ·subst hn
    rw [dn] at h1; rw [g_n] at h2; cases h1; cases h2
    exact .inr (.inl ⟨rfl, rfl, rfl⟩)
   ·rw [g_r o' ho hn, Option.map_eq_some_iff] at h2
    obtain ⟨z, h2, h3⟩ := h2
    exact .inr (.inr ⟨ho, hn, h1, z, h2, h3.symm⟩)
 have sk4 : Sk (yG ob os) (ρ'.del os) Z2 w' ρ4 Z2 w' := ⟨fun o' p' h k => by
   by_cases ho : o' = ob
   ·subst ho
    rw [do'] at h; cases h
    exact ⟨fp', r4, fun h => by rw [zAf] at h; simp at h⟩
   ·exact ⟨p'.fp, by rw [r4n o' ho]; exact h, fun _ => rfl⟩, fun _ _ h => h, fun _ _ _ => rfl, fun _ _ _ _ _ _ => rfl⟩
 have sk5 : Sk (yG ob os) ρ' Z2 w' ρ4 Z2 w' := ⟨fun o' p' h k => by
   by_cases ho : o' = ob
   ·subst ho
    rw [ho'] at h; cases h
    exact ⟨fp', r4, fun h => by rw [zAf] at h; simp at h⟩
   ·refine ⟨p'.fp, ?_, fun _ => rfl⟩
    rw [r4n o' ho, yH.del_ne fun h => by rw [zMU, List.contains_iff_mem.2 h] at k; cases k]; exact h, fun _ _ h => h, fun _ _ _ => rfl, fun _ _ _ _ _ _ => rfl⟩
 have qo : ∀ o0 p0, ρ o0 = some p0 → o0 ≠ ob → ρ1 o0 = some p0 := fun o0 p0 h1 h2 => r_old' o0 p0 h2 h1
 have own5 : ∀ o' p' x' b, ρ4 o' = some p' → H5[o']? = some x' → vy x' p' b → w.heap.size ≤ b ∨ ∃ o0 p0 x0, ρ o0 = some p0 ∧ H[o0]? = some x0 ∧ vy x0 p0 b := by
  have lift : ∀ o' p' x' b, ρ' o' = some p' → H'[o']? = some x' → vy x' p' b → w.heap.size ≤ b ∨ ∃ o0 p0 x0, ρ o0 = some p0 ∧ H[o0]? = some x0 ∧ vy x0 p0 b := by
   intro o' p' x' b h1 h2 h3
   rcases hp.newb o' p' x' b h1 h2 h3 with h | ⟨o0, p0, x0, k1, k2, k3⟩
   ·exact .inl h
   ·exact .inr (own0 o0 p0 x0 b k1 k2 k3)
  intro o' p' x' b h1 h2 h3
  rcases split5 o' p' x' h1 h2 with ⟨rfl, rfl, rfl⟩ | ⟨rfl, rfl, rfl⟩ | ⟨k0, _, k1, z, k2, rfl⟩
  ·rcases h3 with rfl | ⟨j, hj, hb⟩
   ·exact .inr ⟨_, p, _, g, e, hpb⟩
   ·simp only [fs'] at hb
    split at hb
    ·rcases hb with hb | hb
     ·obtain ⟨o0, p0, x0, k1, k2, k3, k4⟩ := fyq _ hb
      exact lift o0 p0 x0 b k1 k2 k3
     ·exact .inr ⟨_, p, _, g, e, (qg _ hb).1⟩
    ·exact .inr ⟨_, p, _, g, e, (hI.hf b).2 (.inr ⟨j, by omega, hb⟩)⟩
  ·exact h3.elim
  ·rcases post.newb o' p' z b k1 k2 (x3.1 h3) with h | ⟨o0, p0, x0, m1, m2, m3⟩
   ·have := hp.size.le; exact .inl (by omega)
   ·exact lift o0 p0 x0 b m1 m2 m3
 refine ⟨ρ4, Z2, ?_, (cy.mono (Kp.rz a2)).scrub sk5⟩
 have hbox : ∀ o0 cs0, H[o0]? = some (.box cs0) → o0 ≠ ob ∧ o0 < H.length ∧ H1[o0]? = some (.box (cs0.map (scrub (yG ob [])))) := by
  intro o0 cs0 h
  have h1 : o0 ≠ ob := fun h' => by subst h'; rw [e] at h; cases h
  have h2 := (List.getElem?_eq_some_iff.1 h).1
  exact ⟨h1, h2, by rw [h_old o0 h2 h1, h]; rfl⟩
 refine ⟨hp.size, fun o0 p0 h hk => ?_, fun o0 p0 b h hk hb => ?_, fun o0 cs0 h => ?_, fun o0 p0 cs0 h h2 => ?_, fun o0 p0 h => ?_, own5, zk, fun k b hk => ?_, fun b hb hne => ?_, fun h => by simp only [yG] at h; omega, ?_⟩
 ·by_cases ho : o0 = ob
  ·subst ho
   rw [g] at h; cases h
   refine ⟨fp', r4, fun hk' => ?_⟩
   rcases hk' with hk' | ⟨cs0, hk'⟩
   ·rw [zAf] at hk'; simp at hk'
   ·rw [e] at hk'; cases hk'
  ·have h' := hp.rhoL hq (Nat.le_of_lt (hr.dom o0 p0 h)) (qo o0 p0 h ho)
   refine ⟨p0.fp, ?_, fun _ => rfl⟩
   rw [r4n o0 ho, yH.del_ne ?_]; exact h'
   rcases hk with hk | ⟨cs0, hk⟩
   ·exact fun hm => by rw [zMU, List.contains_iff_mem.2 hm] at hk; cases hk
   ·intro hm
    obtain ⟨cs1, k1, _⟩ := hp.bxs o0 _ (hbox o0 cs0 hk).2.2
    obtain ⟨s, l, _, k2⟩ := a6 o0 hm
    rw [k1] at k2; cases k2
 ·have ho : o0 ≠ ob := fun h' => by subst h'; rw [zAf] at hk; simp at hk
  exact hp.brw o0 p0 b (qo o0 p0 h ho) (zhR hq (Nat.le_of_lt (hr.dom o0 p0 h))).2 hb
 ·obtain ⟨k1, k2, k3⟩ := hbox o0 cs0 h
  obtain ⟨cs1, m1, m2⟩ := hp.bxs o0 _ k3
  obtain ⟨cs2, m3, m4⟩ := post.bxs o0 _ m1
  refine ⟨cs2.map (scrub (yG ob os)), by rw [g_r o0 k1 (by omega), m3]; rfl, ?_⟩
  rw [List.length_map, m4, m2, List.length_map]
 ·obtain ⟨k1, k2, k3⟩ := hbox o0 cs0 h2
  have := hp.part o0 p0 _ (qo o0 p0 h k1) k3
  rwa [List.length_map] at this
 ·by_cases ho : o0 = ob
  ·subst ho; exact .inl ⟨p, g⟩
  ·rw [r4n o0 ho] at h
   rcases hp.dom o0 p0 (yH.del_some h).2 with ⟨p1, h1⟩ | h1
   ·by_cases hl : o0 < H.length
    ·rw [r_old o0 ho hl] at h1; exact .inl ⟨p1, h1⟩
    ·exact .inr (by omega)
   ·exact .inr (by omega)
 ·rcases post.zn k b hk with h | h | ⟨o0, p0, x0, k1, k2, k3⟩
  ·rcases hp.zn k b h with h | h | ⟨o0, p0, x0, k1, k2, k3⟩
   ·exact .inl h
   ·exact .inr (.inl h)
   ·exact .inr (.inr (own0 o0 p0 x0 b k1 k2 k3))
  ·have := hp.size.le; exact .inr (.inl (by omega))
  ·rcases hp.newb o0 p0 x0 b k1 k2 k3 with h | ⟨o1, p1, x1, j1, j2, j3⟩
   ·exact .inr (.inl h)
   ·exact .inr (.inr (own0 o1 p1 x1 b j1 j2 j3))
 ·exact hp.same b hb fun o' p' x' h1 h2 h3 => by
   obtain ⟨o0, p0, x0, k1, k2, k3⟩ := own0 o' p' x' b h1 h2 h3
   exact hne o0 p0 x0 k1 k2 k3
 ·refine ⟨post.hr.zl, fun o' p' h => ?_, fun o' p' x' h1 h2 => ?_, fun a b p1 p2 x1 x2 bb h1 h2 h3 h4 b1 b2 => ?_⟩
  ·by_cases ho : o' = ob
   ·omega
   ·rw [r4n o' ho] at h
    have := post.hr.dom o' p' h
    omega
  ·rcases split5 o' p' x' h1 h2 with ⟨rfl, rfl, rfl⟩ | ⟨rfl, rfl, rfl⟩ | ⟨k0, _, k1, z, k2, rfl⟩
   ·exact hx'
   ·exact fun b h => h
   ·have hob := post.hr.ob o' p' z k1 k2
    cases z with
    | box cells =>
     obtain ⟨nf, nz, xs, e', m2, m3, m4⟩ := hob
     refine ⟨nf, nz, xs, e', m2, by simpa using m3, fun i u y hu hy => ?_⟩
     rw [List.getElem?_map, Option.map_eq_some_iff] at hu
     obtain ⟨u', h1, rfl⟩ := hu
     exact (m4 i u' y h1 hy).scrub sk4
    | arr s l => exact hob
    | frz t l => exact hob
    | gone => exact hob
  ·have new : fp' bb → ∀ o' p' z, o' ≠ ob → o' ≠ H.length → (ρ'.del os) o' = some p' → (zy H2 os q2)[o']? = some z → vy z p' bb → False := by
    intro hb o' p' z k1 k2 k3 k4 k5
    rcases hb with rfl | ⟨j, hj, hb⟩
    ·exact k2 (post.hr.dj o' H.length p' pn z _ _ k3 dn k4 hbn k5 ownN)
    ·simp only [fs'] at hb
     split at hb
     ·rcases hb with hb | hb
      ·exact ((frY bb hb).facts (q := q2) a3).2.2 o' p' z k3 k4 k5
      ·exact (quiet bb (qg _ hb).1 (qg _ hb).2.1 (qg _ hb).2.2).2.2.2 o' p' z k3 k4 k5
     ·rename_i hji
      have hq := qf j bb (by omega) hji hb
      exact (quiet bb hq.1 hq.2.1 hq.2.2).2.2.2 o' p' z k3 k4 k5
   rcases split5 a p1 x1 h1 h3 with ⟨rfl, rfl, rfl⟩ | ⟨rfl, rfl, rfl⟩ | ⟨k0, k0', k1, z, k2, rfl⟩
   ·rcases split5 b p2 x2 h2 h4 with ⟨rfl, rfl, rfl⟩ | ⟨rfl, rfl, rfl⟩ | ⟨j0, j0', j1, z', j2, rfl⟩
    ·rfl
    ·exact b2.elim
    ·exact (new b1 b p2 z' j0 j0' j1 j2 (x3.1 b2)).elim
   ·exact b1.elim
   ·rcases split5 b p2 x2 h2 h4 with ⟨rfl, rfl, rfl⟩ | ⟨rfl, rfl, rfl⟩ | ⟨j0, j0', j1, z', j2, rfl⟩
    ·exact (new b2 a p1 z k0 k0' k1 k2 (x3.1 b1)).elim
    ·exact b2.elim
    ·exact post.hr.dj a b p1 p2 z z' bb k1 j1 k2 j2 (x3.1 b1) (x3.1 b2)
end
end Go.Proofs.YtkdidadegedmiaaGreat
namespace Go.Proofs.YtkdidadegedmiaaGreat
open Go.RowKit
section
variable {ρ : yH} {Z : Zs} {w : World} {H : List Ob}
theorem zhd {q n o : Nat} (h : ztM q n = true) (ho : o < n) : vp q o = false ∧ zBf q o = false := by
 have := List.all_eq_true.1 h o (List.mem_range.2 ho)
 simpa using this
theorem zh0 {s : OT} {l : List (El s.ty)} {ob : Nat} {y0 : Value} (e : H[ob]? = some (.arr s l)) (hr : HR ρ Z H w) (cx : Cn ρ Z w (.obj ob) y0) :
  ∃ ρ1, HR ρ1 Z (zMv H ob (.arr s l)) w ∧ Cn ρ1 Z w (.obj H.length) y0 ∧ (∀ v y, Cn ρ Z w v y → Cn ρ1 Z w (scrub (yG ob []) v) y) ∧
   ∀ q H' n2 l2, ztM q H.length = true → H'[n2]? = some (.arr s l2) → H.length < n2 → H'[ob]? = some .gone → ∀ ρ' Z' w', Post q ρ1 Z (zMv H ob (.arr s l)) w ρ' Z' H' w' → Cn ρ' Z' w' (.obj n2) y0 →
    ∃ ρ4, Post (yG ob [n2]) ρ Z H w ρ4 Z' (zW9 H' ob n2 (.arr s l2)) w' ∧ ∀ v y, Cn ρ' Z' w' v y → Cn ρ4 Z' w' (scrub (yG ob [n2]) v) y := by
 obtain ⟨p, g, hx, a0, n0, c0, hsl⟩ : ∃ p, ρ ob = some p ∧ y0 = p.x ∧ ∃ a n c, p.x = .slice a n c := by
  cases cx with
  | obj h hx => exact ⟨_, h, hx.symm, _, _, _, hx⟩
 have hlt : ob < H.length := hr.dom ob p g
 let ρ1 : yH := fun o' => if o' = ob then some ⟨p.b, p.x, p.off, vm⟩ else if o' = H.length then some p else ρ o'
 have r_o : ρ1 ob = some ⟨p.b, p.x, p.off, vm⟩ := if_pos rfl
 have r_n : ρ1 H.length = some p := by simp only [ρ1, if_neg (show H.length ≠ ob by omega), if_true]
 have r_old : ∀ o' p', o' ≠ ob → ρ o' = some p' → ρ1 o' = some p' := fun o' p' h1 h2 => by
  have := hr.dom o' p' h2
  simp only [ρ1, if_neg h1, if_neg (show o' ≠ H.length by omega)]; exact h2
 generalize hH1 : zMv H ob (.arr s l) = H1
 have hH1l : H1.length = H.length + 1 := by rw [← hH1]; simp [zMv]
 have h_old : ∀ o', o' < H.length → o' ≠ ob → H1[o']? = (H[o']?).map (vK (yG ob [])) := fun o' h1 h2 => by
  rw [← hH1, zMv, List.getElem?_append_left (by simpa using h1), List.getElem?_map, List.getElem?_set_ne (Ne.symm h2)]
 have h_o : H1[ob]? = some .gone := by
  rw [← hH1, zMv, List.getElem?_append_left (by simpa using hlt), List.getElem?_map, List.getElem?_set_self hlt]; rfl
 have h_n : H1[H.length]? = some (.arr s l) := by
  rw [← hH1, zMv, List.getElem?_append_right (by simp)]; simp
 have split1 : ∀ o' p' x', ρ1 o' = some p' → H1[o']? = some x' → (o' = ob ∧ p' = ⟨p.b, p.x, p.off, vm⟩ ∧ x' = .gone) ∨ (o' ≠ ob ∧ o' < H.length ∧ ρ o' = some p' ∧ ∃ z, H[o']? = some z ∧ x' = vK (yG ob []) z) ∨
   (o' = H.length ∧ p' = p ∧ x' = .arr s l) := by
  intro o' p' x' h1 h2
  by_cases ho : o' = ob
  ·subst ho
   rw [r_o] at h1; rw [h_o] at h2; cases h1; cases h2
   exact .inl ⟨rfl, rfl, rfl⟩
  ·by_cases hn : o' = H.length
   ·subst hn
    rw [r_n] at h1; rw [h_n] at h2; cases h1; cases h2
    exact .inr (.inr ⟨rfl, rfl, rfl⟩)
   ·simp only [ρ1, if_neg ho, if_neg hn] at h1
    have hl := hr.dom o' p' h1
    rw [h_old o' hl ho, Option.map_eq_some_iff] at h2
    obtain ⟨z, h2, h3⟩ := h2
    exact .inr (.inl ⟨ho, hl, h1, z, h2, h3.symm⟩)
 have zI8 : ∀ o' p' x' b, ρ1 o' = some p' → H1[o']? = some x' → vy x' p' b → (o' ≠ ob ∧ o' < H.length ∧ ρ o' = some p' ∧ ∃ z, H[o']? = some z ∧ vy z p' b) ∨ (o' = H.length ∧ p.fp b) := by
  intro o' p' x' b h1 h2 h3
  rcases split1 o' p' x' h1 h2 with ⟨_, rfl, rfl⟩ | ⟨k1, k2, k3, z, k4, rfl⟩ | ⟨rfl, rfl, rfl⟩
  ·exact h3.elim
  ·exact .inl ⟨k1, k2, k3, z, k4, x3.1 h3⟩
  ·exact .inr ⟨rfl, h3⟩
 have own0 : ∀ o' p' x' b, ρ1 o' = some p' → H1[o']? = some x' → vy x' p' b → ∃ o0 p0 x0, ρ o0 = some p0 ∧ H[o0]? = some x0 ∧ vy x0 p0 b := by
  intro o' p' x' b h1 h2 h3
  rcases zI8 o' p' x' b h1 h2 h3 with ⟨_, _, k1, z, k2, k3⟩ | ⟨_, hb⟩
  ·exact ⟨o', p', z, k1, k2, k3⟩
  ·exact ⟨ob, p, _, g, e, hb⟩
 have sk : Sk (yG ob []) ρ Z w ρ1 Z w := ⟨fun o' p' h k => by
   by_cases ho : o' = ob
   ·subst ho
    rw [g] at h; cases h
    exact ⟨vm, r_o, fun h => by rw [zAf] at h; simp at h⟩
   ·exact ⟨p'.fp, r_old o' p' ho h, fun _ => rfl⟩, fun _ _ h => h, fun _ _ _ => rfl, fun _ _ _ _ _ _ => rfl⟩
 have hr1 : HR ρ1 Z H1 w := by
  refine ⟨hr.zl, fun o' p' h => ?_, fun o' p' x' h1 h2 => ?_, fun a b p1 p2 x1 x2 bb h1 h2 h3 h4 b1 b2 => ?_⟩
  ·by_cases ho : o' = ob
   ·omega
   ·by_cases hn : o' = H.length
    ·omega
    ·simp only [ρ1, if_neg ho, if_neg hn] at h
     have := hr.dom o' p' h; omega
  ·rcases split1 o' p' x' h1 h2 with ⟨_, rfl, rfl⟩ | ⟨k1, k2, k3, z, k4, rfl⟩ | ⟨rfl, rfl, rfl⟩
   ·exact fun b h => h
   ·have hob := hr.ob o' p' z k3 k4
    cases z with
    | box cells =>
     obtain ⟨nf, nz, xs, e', m2, m3, m4⟩ := hob
     refine ⟨nf, nz, xs, e', m2, by simpa using m3, fun i u y hu hy => ?_⟩
     rw [List.getElem?_map, Option.map_eq_some_iff] at hu
     obtain ⟨u', h1, rfl⟩ := hu
     exact (m4 i u' y h1 hy).scrub sk
    | arr s l => exact hob
    | frz t l => exact hob
    | gone => exact hob
   ·exact hr.ob ob p' _ g e
  ·rcases zI8 a p1 x1 bb h1 h3 b1 with ⟨i1, i2, i3, z1, i4, i5⟩ | ⟨i1, i2⟩
   ·rcases zI8 b p2 x2 bb h2 h4 b2 with ⟨k1, k2, k3, z2, k4, k5⟩ | ⟨k1, k2⟩
    ·exact hr.dj a b p1 p2 z1 z2 bb i3 k3 i4 k4 i5 k5
    ·exact absurd (hr.dj a ob p1 p z1 _ bb i3 g i4 e i5 k2) i1
   ·rcases zI8 b p2 x2 bb h2 h4 b2 with ⟨k1, k2, k3, z2, k4, k5⟩ | ⟨k1, k2⟩
    ·exact absurd (hr.dj b ob p2 p z2 _ bb k3 g k4 e k5 i2) k1
    ·omega
 refine ⟨ρ1, hr1, by rw [hx, hsl]; exact .obj r_n hsl, fun v y h => h.scrub sk, fun q H' n2 l2 hq hn2 hgt hgo ρ' Z' w' hp cy => ?_⟩
 obtain ⟨p2, g2, hx2⟩ : ∃ p2, ρ' n2 = some p2 ∧ p2.x = p.x := by
  cases cy with
  | obj h hx' => exact ⟨_, h, hx'.trans hx⟩
 have rhoL : ∀ o' p', o' < H.length → ρ1 o' = some p' → ρ' o' = some p' := fun o' p' ho h => by
  obtain ⟨k1, k2⟩ := zhd hq ho
  obtain ⟨f, h1, h2⟩ := hp.rho o' p' h (.inl k1)
  rw [h1, h2 (.inl k2)]
 have ho' := rhoL ob _ hlt r_o
 have hob2 : zI3 (zO s.ty) (lim s.ty) (TrO Z' w' s) Z' w' l2 p2.x p2.fp p2.b := hp.hr.ob n2 p2 _ g2 hn2
 obtain ⟨f4, hf4, hob4⟩ : ∃ f4 : Nat → Prop, (∀ b, f4 b → p2.fp b) ∧ zI3 (zO s.ty) (lim s.ty) (TrO Z' w' s) Z' w' l2 p.x f4 p.b := by
  have hob1 : zI3 (zO s.ty) (lim s.ty) (TrO Z w s) Z w l p.x p.fp p.b := hr.ob ob p _ g e
  rw [hx2] at hob2
  rcases hob2 with h | ⟨cur, e0, c, fs, hI⟩
  ·exact ⟨p2.fp, fun _ h => h, .inl h⟩
  ·rcases hob1 with ⟨⟨a, h1⟩, _, _⟩ | ⟨cur1, e1, c1, fs1, hJ⟩
   ·refine ⟨vm, fun b h => h.elim, .inl ⟨⟨a, h1⟩, ?_, fun b h => h⟩⟩
    have := hI.hv
    rw [h1] at this
    simp only [Value.slice.injEq] at this
    exact List.eq_nil_of_length_eq_zero this.2.1.symm
   ·have h1 := hI.hv
    rw [hJ.hv] at h1
    simp only [Value.slice.injEq, Option.some.injEq, Addr.mk.injEq] at h1
    have hb : p.b = p2.b := h1.1.1
    exact ⟨p2.fp, fun _ h => h, .inr ⟨cur, e0, c, fs, by rw [hb]; exact hI⟩⟩
 let p4 : Pl := ⟨p.b, p.x, p.off, f4⟩
 let ρ4 : yH := fun o' => if o' = ob then some p4 else if o' = n2 then none else ρ' o'
 have r4 : ρ4 ob = some p4 := if_pos rfl
 have r4n : ∀ o', o' ≠ ob → o' ≠ n2 → ρ4 o' = ρ' o' := fun o' h1 h2 => by simp only [ρ4, if_neg h1, if_neg h2]
 generalize hH5 : zW9 H' ob n2 (.arr s l2) = H5
 have hn2l := (List.getElem?_eq_some_iff.1 hn2).1
 have g_l : H5.length = H'.length := by rw [← hH5]; simp [zW9]
 have g_o : H5[ob]? = some (.arr s l2) := by
  rw [← hH5, zW9, List.getElem?_map, List.getElem?_set_ne (by omega), List.getElem?_set_self (by omega)]; rfl
 have g_r : ∀ o', o' ≠ ob → o' ≠ n2 → H5[o']? = (H'[o']?).map (vK (yG ob [n2])) := fun o' h1 h2 => by
  rw [← hH5, zW9, List.getElem?_map, List.getElem?_set_ne (Ne.symm h2), List.getElem?_set_ne (Ne.symm h1)]
 have split5 : ∀ o' p' x', ρ4 o' = some p' → H5[o']? = some x' → (o' = ob ∧ p' = p4 ∧ x' = .arr s l2) ∨ (o' ≠ ob ∧ o' ≠ n2 ∧ ρ' o' = some p' ∧ ∃ z, H'[o']? = some z ∧ x' = vK (yG ob [n2]) z) := by
  intro o' p' x' h1 h2
  by_cases ho : o' = ob
  ·subst ho
   rw [r4] at h1; rw [g_o] at h2; cases h1; cases h2
   exact .inl ⟨rfl, rfl, rfl⟩
  ·by_cases hn : o' = n2
   ·simp only [ρ4, if_neg ho, if_pos hn] at h1; cases h1
   ·rw [r4n o' ho hn] at h1
    rw [g_r o' ho hn, Option.map_eq_some_iff] at h2
    obtain ⟨z, h2, h3⟩ := h2
    exact .inr ⟨ho, hn, h1, z, h2, h3.symm⟩
 have sk5 : Sk (yG ob [n2]) ρ' Z' w' ρ4 Z' w' := ⟨fun o' p' h k => by
   by_cases ho : o' = ob
   ·subst ho
    rw [ho'] at h; cases h
    exact ⟨f4, r4, fun h => by rw [zAf] at h; simp at h⟩
   ·refine ⟨p'.fp, ?_, fun _ => rfl⟩
    rw [r4n o' ho fun h => by rw [zMU] at k; simp [h] at k]; exact h, fun _ _ h => h, fun _ _ _ => rfl, fun _ _ _ _ _ _ => rfl⟩
 have lift : ∀ o' p' x' b, ρ' o' = some p' → H'[o']? = some x' → vy x' p' b → w.heap.size ≤ b ∨ ∃ o0 p0 x0, ρ o0 = some p0 ∧ H[o0]? = some x0 ∧ vy x0 p0 b := by
  intro o' p' x' b h1 h2 h3
  rcases hp.newb o' p' x' b h1 h2 h3 with h | ⟨o0, p0, x0, k1, k2, k3⟩
  ·exact .inl h
  ·exact .inr (own0 o0 p0 x0 b k1 k2 k3)
 have own5 : ∀ o' p' x' b, ρ4 o' = some p' → H5[o']? = some x' → vy x' p' b → w.heap.size ≤ b ∨ ∃ o0 p0 x0, ρ o0 = some p0 ∧ H[o0]? = some x0 ∧ vy x0 p0 b := by
  intro o' p' x' b h1 h2 h3
  rcases split5 o' p' x' h1 h2 with ⟨rfl, rfl, rfl⟩ | ⟨_, _, k1, z, k2, rfl⟩
  ·exact lift n2 p2 _ b g2 hn2 (hf4 b h3)
  ·exact lift o' p' z b k1 k2 (x3.1 h3)
 refine ⟨ρ4, ?_, fun v y h => h.scrub sk5⟩
 have hbox : ∀ o0 cs0, H[o0]? = some (.box cs0) → o0 ≠ ob ∧ o0 < H.length ∧ H1[o0]? = some (.box (cs0.map (scrub (yG ob [])))) := by
  intro o0 cs0 h
  have h1 : o0 ≠ ob := fun h' => by subst h'; rw [e] at h; cases h
  have h2 := (List.getElem?_eq_some_iff.1 h).1
  exact ⟨h1, h2, by rw [h_old o0 h2 h1, h]; rfl⟩
 refine ⟨hp.size, fun o0 p0 h hk => ?_, fun o0 p0 b h hk hb => ?_, fun o0 cs0 h => ?_, fun o0 p0 cs0 h h2 => ?_, fun o0 p0 h => ?_, own5, hp.zm, fun k b hk => ?_, fun b hb hne => ?_, fun h => by simp only [yG] at h; omega, ?_⟩
 ·by_cases ho : o0 = ob
  ·subst ho
   rw [g] at h; cases h
   refine ⟨f4, r4, fun hk' => ?_⟩
   rcases hk' with hk' | ⟨cs0, hk'⟩
   ·rw [zAf] at hk'; simp at hk'
   ·rw [e] at hk'; cases hk'
  ·have hl := hr.dom o0 p0 h
   exact ⟨p0.fp, by rw [r4n o0 ho (by omega)]; exact rhoL o0 p0 hl (r_old o0 p0 ho h), fun _ => rfl⟩
 ·have ho : o0 ≠ ob := fun h' => by subst h'; rw [zAf] at hk; simp at hk
  exact hp.brw o0 p0 b (r_old o0 p0 ho h) (zhd hq (hr.dom o0 p0 h)).2 hb
 ·obtain ⟨k1, k2, k3⟩ := hbox o0 cs0 h
  obtain ⟨cs1, m1, m2⟩ := hp.bxs o0 _ k3
  exact ⟨cs1.map (scrub (yG ob [n2])), by rw [g_r o0 k1 (by omega), m1]; rfl, by rw [List.length_map, m2, List.length_map]⟩
 ·obtain ⟨k1, k2, k3⟩ := hbox o0 cs0 h2
  have := hp.part o0 p0 _ (r_old o0 p0 k1 h) k3
  rwa [List.length_map] at this
 ·by_cases ho : o0 = ob
  ·subst ho; exact .inl ⟨p, g⟩
  ·by_cases hn : o0 = n2
   ·exact .inr (by omega)
   ·rw [r4n o0 ho hn] at h
    rcases hp.dom o0 p0 h with ⟨p1, h1⟩ | h1
    ·by_cases hl : o0 = H.length
     ·exact .inr (by omega)
     ·simp only [ρ1, if_neg ho, if_neg hl] at h1; exact .inl ⟨p1, h1⟩
    ·exact .inr (by omega)
 ·rcases hp.zn k b hk with h | h | ⟨o0, p0, x0, k1, k2, k3⟩
  ·exact .inl h
  ·exact .inr (.inl h)
  ·exact .inr (.inr (own0 o0 p0 x0 b k1 k2 k3))
 ·exact hp.same b hb fun o' p' x' h1 h2 h3 => by
   obtain ⟨o0, p0, x0, k1, k2, k3⟩ := own0 o' p' x' b h1 h2 h3
   exact hne o0 p0 x0 k1 k2 k3
 ·refine ⟨hp.hr.zl, fun o' p' h => ?_, fun o' p' x' h1 h2 => ?_, fun a b p1 p2' x1 x2 bb h1 h2 h3 h4 b1 b2 => ?_⟩
  ·by_cases ho : o' = ob
   ·have := (List.getElem?_eq_some_iff.1 hgo).1; omega
   ·by_cases hn : o' = n2
    ·omega
    ·rw [r4n o' ho hn] at h
     have := hp.hr.dom o' p' h
     omega
  ·rcases split5 o' p' x' h1 h2 with ⟨rfl, rfl, rfl⟩ | ⟨_, _, k1, z, k2, rfl⟩
   ·exact hob4
   ·have hob := hp.hr.ob o' p' z k1 k2
    cases z with
    | box cells =>
     obtain ⟨nf, nz, xs, e', m2, m3, m4⟩ := hob
     refine ⟨nf, nz, xs, e', m2, by simpa using m3, fun i u y hu hy => ?_⟩
     rw [List.getElem?_map, Option.map_eq_some_iff] at hu
     obtain ⟨u', h1, rfl⟩ := hu
     exact (m4 i u' y h1 hy).scrub sk5
    | arr s l => exact hob
    | frz t l => exact hob
    | gone => exact hob
  ·rcases split5 a p1 x1 h1 h3 with ⟨rfl, rfl, rfl⟩ | ⟨k0, k0', k1, z, k2, rfl⟩
   ·rcases split5 b p2' x2 h2 h4 with ⟨rfl, rfl, rfl⟩ | ⟨j0, j0', j1, z', j2, rfl⟩
    ·rfl
    ·exact absurd (hp.hr.dj b n2 p2' p2 z' _ bb j1 g2 j2 hn2 (x3.1 b2) (hf4 bb b1)) j0'
   ·rcases split5 b p2' x2 h2 h4 with ⟨rfl, rfl, rfl⟩ | ⟨j0, j0', j1, z', j2, rfl⟩
    ·exact absurd (hp.hr.dj a n2 p1 p2 z _ bb k1 g2 k2 hn2 (x3.1 b1) (hf4 bb b2)) k0'
    ·exact hp.hr.dj a b p1 p2' z z' bb k1 j1 k2 j2 (x3.1 b1) (x3.1 b2)
end
end Go.Proofs.YtkdidadegedmiaaGreat
namespace Go.Proofs.YtkdidadegedmiaaGreat
open Go.RowKit
section
variable {P : Program} {ρ ρ' : yH} {Z Z' : Zs} {w w' : World} {H H' : List Ob} {o : Oper} {ev : Operand → V}
theorem HR.postSet (h : HR ρ Z H w) {ob : Nat} {p : Pl} {cs cs' : List V} (g : ρ ob = some p) (e : H[ob]? = some (.box cs)) (hl : cs'.length = cs.length) (hx : ObR ρ Z w' (.box cs') p) (hz : Gr w w') (hsz : w'.heap.size = w.heap.size)
  (hs : ∀ b, b ≠ p.b → w'.heap[b]? = w.heap[b]?) (hpt : zBF p.b p.off (p.off + cs.length) w w') : Post 2 ρ Z H w ρ Z (H.set ob (.box cs')) w' := by
 have hnz := (h.own g e (b := p.b) rfl).1
 have hzk : ∀ k b, Z k b → w'.heap[b]? = w.heap[b]? := fun k b hb => hs b fun e => hnz k (e ▸ hb)
 have hlt : ob < H.length := h.dom ob p g
 have zA5 : ∀ o q x b, ρ o = some q → H[o]? = some x → vy x q b → o ≠ ob → b ≠ p.b := fun o q x b e1 e2 e3 ho hb => ho (h.dj o ob q p x _ b e1 g e2 e e3 hb)
 have hfp : ∀ o q b, ρ o = some q → q.fp b → w'.heap[b]? = w.heap[b]? := fun o q b e1 hb => by
  rcases h.fpz e1 hb with ⟨x, e2, e3⟩ | hz
  ·by_cases ho : o = ob
   ·subst ho
    rw [g] at e1; cases e1
    exact absurd hb ((h.ob o p _ g e).1 b)
   ·exact hs b (zA5 o q x b e1 e2 e3 ho)
  ·exact hzk _ b hz
 have old : ∀ (o : Nat) (q : Pl) (y : Ob), ρ o = some q → (H.set ob (.box cs'))[o]? = some y → (o = ob ∧ q = p ∧ y = .box cs') ∨ (o ≠ ob ∧ H[o]? = some y) := by
  intro o q y e1 e2
  by_cases ho : o = ob
  ·subst ho
   rw [g] at e1; cases e1
   rw [List.getElem?_set_self hlt] at e2; cases e2
   exact .inl ⟨rfl, rfl, rfl⟩
  ·rw [List.getElem?_set_ne (Ne.symm ho)] at e2; exact .inr ⟨ho, e2⟩
 have kp : Kp ρ Z w ρ Z w' := ⟨fun _ _ h => h, fun _ _ h => h, hzk, hfp⟩
 refine ⟨hz, fun _ q h _ => ⟨q.fp, h, fun _ => rfl⟩, fun o q b e1 _ hb => hfp o q b e1 hb, fun o cs0 e' => ?_, fun o q cs0 e1 e2 => ?_, fun o q e => .inl ⟨q, e⟩, fun o q y b e1 e2 e3 => ?_, fun _ _ h => h, fun _ _ h => .inl h, fun b _ hne => hs b fun e' => hne ob p _ g e e', fun h => by omega, ?_⟩
 ·by_cases ho : o = ob
  ·subst ho
   rw [e] at e'; cases e'
   exact ⟨cs', by rw [List.getElem?_set_self hlt], hl⟩
  ·exact ⟨cs0, by rw [List.getElem?_set_ne (Ne.symm ho)]; exact e', rfl⟩
 ·by_cases ho : o = ob
  ·subst ho
   rw [g] at e1; cases e1
   rw [e] at e2; cases e2
   exact hpt
  ·exact zBF.same (hs _ (zA5 o q _ _ e1 e2 rfl ho))
 ·rcases old o q y e1 e2 with ⟨rfl, rfl, rfl⟩ | ⟨ho, e2⟩
  ·exact .inr ⟨o, q, _, e1, e, e3⟩
  ·exact .inr ⟨o, q, y, e1, e2, e3⟩
 ·refine ⟨fun k b hb => by rw [hsz]; exact h.zl k b hb, fun o q e' => by rw [List.length_set]; exact h.dom o q e', fun o q y e1 e2 => ?_, fun a1 b1 p1 q1 x1 y1 bb h5 h6 h7 h8 hb1 hb2 => ?_⟩
  ·rcases old o q y e1 e2 with ⟨rfl, rfl, rfl⟩ | ⟨ho, e2⟩
   ·exact hx
   ·exact (h.ob o q y e1 e2).mono kp fun b hb' => ⟨(h.own e1 e2 hb').1, hs _ (zA5 o q y b e1 e2 hb' ho)⟩
  ·have key : ∀ c q y, ρ c = some q → (H.set ob (.box cs'))[c]? = some y → vy y q bb → ∃ y', H[c]? = some y' ∧ vy y' q bb := by
    intro c q y k1 k2 k3
    rcases old c q y k1 k2 with ⟨rfl, rfl, rfl⟩ | ⟨_, k2⟩
    ·exact ⟨_, e, k3⟩
    ·exact ⟨y, k2, k3⟩
   obtain ⟨y1', k1, k2⟩ := key a1 p1 x1 h5 h7 hb1
   obtain ⟨y2', k3, k4⟩ := key b1 q1 y1 h6 h8 hb2
   exact h.dj a1 b1 p1 q1 _ _ bb h5 h6 k1 k3 k2 k4
theorem zrc {cs vs : List V} {off base : Nat} {xs : List Value} {ys : List Value} (h1 : off + vs.length ≤ cs.length) (h2 : ys.length = vs.length) (h3 : base + cs.length ≤ xs.length)
  (hc : ∀ (i : Nat) (u : V) (y : Value), cs[i]? = some u → xs[base + i]? = some y → Cn ρ Z w u y) (hv : ∀ (i : Nat) (u : V) (y : Value), vs[i]? = some u → ys[i]? = some y → Cn ρ Z w u y) :
  ∀ (i : Nat) (u : V) (y : Value), (cs.take off ++ vs ++ cs.drop (off + vs.length))[i]? = some u → (xs.take (base + off) ++ ys ++ xs.drop (base + off + ys.length))[base + i]? = some y → Cn ρ Z w u y := by
 intro i u y hu hy
 have e6 : (cs.take off).length = off := by simp; omega
 have e7 : (xs.take (base + off)).length = base + off := by simp; omega
 by_cases i1 : i < off
 ·rw [List.append_assoc, List.getElem?_append_left (by omega), List.getElem?_take, if_pos i1] at hu
  rw [List.append_assoc, List.getElem?_append_left (by omega), List.getElem?_take, if_pos (by omega)] at hy
  exact hc i u y hu hy
 ·by_cases i2 : i < off + vs.length
  ·rw [List.getElem?_append_left (by simp; omega), List.getElem?_append_right (by omega), e6] at hu
   rw [List.getElem?_append_left (by simp; omega), List.getElem?_append_right (by omega), e7, show base + i - (base + off) = i - off by omega] at hy
   exact hv _ u y hu hy
  ·have e8 : (cs.take off ++ vs).length = off + vs.length := by simp; omega
   have e9 : (xs.take (base + off) ++ ys).length = base + off + vs.length := by simp; omega
   rw [List.getElem?_append_right (by omega), e8, List.getElem?_drop] at hu
   rw [List.getElem?_append_right (by omega), e9, List.getElem?_drop, h2] at hy
   refine hc _ u y hu ?_
   rw [← hy]; congr 1; omega
theorem zR9 {t : TypeId} {x y : Operand} (ho : o.op = .store t x y) {ob off : Nat} {vs : List V} {q : Nat} {ok : Option Prop} {v : V} (h : zL8 P t ob off vs H = .mk q ok v H') {a : Act} (hr : HR ρ Z H w) (cx : Cn ρ Z w (.ptr ob off) (a.eval x))
  (s1 : (a.eval y).cells.size = vs.length) (s2 : ∀ (i : Nat) (u : V) (z : Value), vs[i]? = some u → (a.eval y).cells[i]? = some z → Cn ρ Z w u z) :
  ok = none ∧ ∃ w', (execOp a.eval o).run P w = .ok .skip w' ∧ Post q ρ Z H w ρ Z H' w' ∧ Cn ρ Z w' v undef := by
 unfold zL8 at h
 split at h
 ·rename_i cs e3
  split at h
  ·rename_i hle
   cases h
   obtain ⟨l1, l2, l3, l4⟩ := hle
   have hone : ∀ u ∈ (a.eval y).cells.toList, u.oneCell' = true := by
    intro u hu
    obtain ⟨i, hi⟩ := List.mem_iff_getElem?.1 hu
    have hlt : i < vs.length := by
     have := (List.getElem?_eq_some_iff.1 hi).1
     simp at this; omega
    have hv : vs[i]? = some vs[i] := List.getElem?_eq_getElem hlt
    exact zSQ (s2 i _ u hv (by simpa using hi)) (List.all_eq_true.1 l3 _ (List.mem_of_getElem? hv))
   refine ⟨rfl, ?_⟩
   generalize ea : a.eval x = z at cx
   cases cx with
   | ptr g =>
    rename_i p
    obtain ⟨hnf, hnz, xs, e, h2, h3, h4⟩ := hr.ob ob p _ g e3
    have hst := run_storeCells_at P p.b (p.off + off) e (a.eval y).cells.toList 0 xs w h2 (by simp; omega) hone
    simp only [Nat.add_zero, Array.length_toList] at hst
    have hsz : (sizeOf t).run P w = .ok (vD P t) w := zTF l4 w
    have hrun : (execOp a.eval o).run P w = .ok .skip (w.setRow p.b (xs.toList.take (p.off + off) ++ (a.eval y).cells.toList ++ xs.toList.drop (p.off + off + (a.eval y).cells.size)).toArray) := by
     have hn : ¬ ((a.eval y).cells.size ≠ vD P t) := by omega
     simp only [execOp, ho, Instr.storeAt, ea, Instr.sureAddr, storeVar, Sem.run_bind, Sem.run_pure, Result.andThen_ok, hsz, hn, if_false, hst]
    refine ⟨_, hrun, ?_, .any _⟩
    have hother : ∀ b, b ≠ p.b → (w.setRow p.b (xs.toList.take (p.off + off) ++ (a.eval y).cells.toList ++ xs.toList.drop (p.off + off + (a.eval y).cells.size)).toArray).heap[b]? = w.heap[b]? := fun b hb => setRow_other w p.b b _ hb
    have hz : ∀ k b, Z k b → (w.setRow p.b (xs.toList.take (p.off + off) ++ (a.eval y).cells.toList ++ xs.toList.drop (p.off + off + (a.eval y).cells.size)).toArray).heap[b]? = w.heap[b]? := fun k b hb => hother b fun e => hnz k (e ▸ hb)
    have hfp : ∀ o q b, ρ o = some q → q.fp b → (w.setRow p.b (xs.toList.take (p.off + off) ++ (a.eval y).cells.toList ++ xs.toList.drop (p.off + off + (a.eval y).cells.size)).toArray).heap[b]? = w.heap[b]? := fun o q b e1 hb => by
     rcases hr.fpz e1 hb with ⟨x, e2, k3⟩ | hzz
     ·by_cases ho : o = ob
      ·subst ho
       rw [g] at e1; cases e1
       exact absurd hb (hnf b)
      ·exact hother b fun hbb => ho (hr.dj o ob q p x _ b e1 g e2 e3 k3 hbb)
     ·exact hz _ b hzz
    have hnew := setRow_heap w p.b xs (xs.toList.take (p.off + off) ++ (a.eval y).cells.toList ++ xs.toList.drop (p.off + off + (a.eval y).cells.size)).toArray e _ h2
    have hov := zrc (ρ := ρ) (Z := Z) (w := w) (base := p.off) (xs := xs.toList) (ys := (a.eval y).cells.toList) l2 (by simp; omega) (by simp; omega) (fun i u y a b => h4 i u y a (by simpa using b)) (fun i u y a b => s2 i u y a (by simpa using b))
    refine hr.postSet g e3 (by simp; omega) ⟨hnf, hnz, _, e, hnew, by simp; omega, fun i u y' hu hy => (hov i u y' hu (by simpa using hy)).mono ⟨fun _ _ h => h, fun _ _ h => h, hz, hfp⟩⟩ (Gr.setRow w _ _) (zN5 w _ _) hother fun xs0 e0 h0 => ?_
    rw [h2] at h0; cases h0
    refine ⟨_, hnew, by simp; omega, fun j hj => ?_⟩
    rw [List.getElem?_toArray]
    rcases hj with hj | hj
    ·rw [List.append_assoc, List.getElem?_append_left (by simp; omega), List.getElem?_take, if_pos (by omega)]; simp
    ·rw [List.getElem?_append_right (by simp; omega), List.getElem?_drop]
     simp only [List.length_append, List.length_take, Array.length_toList]
     rw [← Array.getElem?_toList]
     congr 1; omega
  ·cases h
 ·cases h
theorem zr6 {t : TypeId} {x y : Operand} (ho : o.op = .store t x y) {q : Nat} {ok : Option Prop} {v : V} (h : zOR P t (ev x) (ev y) H = .mk q ok v H') : OpS P o ev H (.mk q ok v H') := by
 unfold zOR at h
 split at h
 ·rename_i ob off e1
  split at h
  ·rename_i vs e2
   intro ρ Z w a hr hx _ K Q hK
   have c1 := hx x (by simp [ho, Op.operands])
   have c2 := hx y (by simp [ho, Op.operands])
   rw [e1] at c1
   obtain ⟨s1, s2⟩ := zHl c2 e2
   obtain ⟨_, w', hrun, post, cv⟩ := zR9 ho h hr c1 s1 s2
   unfold Oper.wp
   rw [hrun]
   exact hK ρ Z w' _ post cv
  ·cases h
 ·rename_i s ob i off e1
  split at h
  ·rename_i H1 vs ef e2
   intro ρ Z w a hr hx hok K Q hK
   have c1 := hx x (by simp [ho, Op.operands])
   have c2 := hx y (by simp [ho, Op.operands])
   rw [e1] at c1
   obtain ⟨ρ1, hr1, cp, cs, zSx⟩ := zUR ef hr c1
   obtain ⟨s1, s2⟩ := zHl (cs _ _ c2) e2
   cases es : zL8 P t H.length 0 vs H1 with
   | bad => rw [es] at h; cases h
   | mk q1 ok1 v1 H2 =>
    rw [es] at h
    obtain ⟨_, w', hrun, post, cv⟩ := zR9 ho es hr1 cp s1 s2
    obtain ⟨_, bk⟩ := zSx _ _ _ _ _ _ _ _ h
    obtain ⟨ρ4, Z4, post4, cv4⟩ := bk _ _ _ _ post cv
    unfold Oper.wp
    rw [hrun]
    exact hK ρ4 Z4 w' _ post4 cv4
  ·cases h
 ·cases h
theorem zmP : ∀ (vs : List V) (j0 j : Nat) (s : OT) (ob : Nat) (i : Int) (off : Nat), zP8 vs j0 = some (j, s, ob, i, off) → j0 ≤ j ∧ vs[j - j0]? = some (.opt s ob i off) := by
 intro vs
 induction vs with
 | nil => intro j0 j s ob i off h; simp [zP8] at h
 | cons v vs ih =>
  intro j0 j s ob i off h
  have next : zP8 vs (j0 + 1) = some (j, s, ob, i, off) → j0 ≤ j ∧ (v :: vs)[j - j0]? = some (.opt s ob i off) := fun h => by
   obtain ⟨k1, k2⟩ := ih (j0 + 1) j s ob i off h
   exact ⟨by omega, by rw [show j - j0 = (j - (j0 + 1)) + 1 by omega, List.getElem?_cons_succ]; exact k2⟩
  cases v with
  | opt s' o' i' off' =>
   simp only [zP8, Option.some.injEq, Prod.mk.injEq] at h
   obtain ⟨rfl, rfl, rfl, rfl, rfl⟩ := h
   exact ⟨Nat.le_refl _, by simp⟩
  | _ => exact next h
theorem zUp {fid : Nat} : ∀ {l : List FnD}, (∀ d ∈ l, zKC P fid d) → ∀ {vs : List V} {q : Nat} {ok : Option Prop} {v : V}, zKa l vs H = .mk q ok v H' → HR ρ Z H w → ∀ {xs : List Value}, xs.length = vs.length →
  (∀ (i : Nat) (u : V) (y : Value), vs[i]? = some u → xs[i]? = some y → Cn ρ Z w u y) → okP ok → Calls P fid xs.toArray w (fun e w' => ∃ x ρ' Z', e = .returned x ∧ Post q ρ Z H w ρ' Z' H' w' ∧ Cn ρ' Z' w' v x) := by
 intro l
 induction l with
 | nil => intro _ vs q ok v h; cases h
 | cons d l ih =>
  intro hd vs q ok v h hr xs hl hc hok
  unfold zKa at h
  split at h
  ·rename_i e he
   subst h
   exact zn0 (hd d List.mem_cons_self) he hr hl hc hok
  ·exact ih (fun d h => hd d (List.mem_cons_of_mem _ h)) h hr hl hc hok
theorem zhk {fid : Nat} {l : List FnD} (hd : ∀ d ∈ l, zKC P fid d) {vs : List V} {q : Nat} {ok : Option Prop} {v : V} (h : zKj l vs H = .mk q ok v H') (hr : HR ρ Z H w) {xs : List Value} (hl : xs.length = vs.length)
  (hc : ∀ (i : Nat) (u : V) (y : Value), vs[i]? = some u → xs[i]? = some y → Cn ρ Z w u y) (hok : okP ok) : Calls P fid xs.toArray w (fun e w' => ∃ x ρ' Z', e = .returned x ∧ Post q ρ Z H w ρ' Z' H' w' ∧ Cn ρ' Z' w' v x) := by
 unfold zKj at h
 split at h
 ·exact zUp hd h hr hl hc hok
 ·rename_i j s ob i off e1
  obtain ⟨_, e1⟩ := zmP _ _ _ _ _ _ _ e1
  rw [Nat.sub_zero] at e1
  have hj : j < vs.length := (List.getElem?_eq_some_iff.1 e1).1
  have cj := hc j _ _ e1 (List.getElem?_eq_getElem (by omega))
  split at h
  ·cases h
  ·rename_i k ek
   split at h
   ·rename_i H1 ef
    obtain ⟨ρ1, hr1, cp, cs, zSx⟩ := zUR ef hr cj
    cases es : zKa l ((vs.map (scrub (yG ob []))).set j (.ptr H.length 0)) H1 with
    | bad => rw [es] at h; cases h
    | mk q1 ok1 v1 H2 =>
     rw [es] at h
     obtain ⟨eo, bk⟩ := zSx _ _ _ _ _ _ _ _ h
     subst eo
     refine (zUp hd es hr1 (xs := xs) (by simpa using hl) (fun i u y hu hy => ?_) hok).mono ?_
     ·by_cases hi : i = j
      ·subst hi
       rw [List.getElem?_set_self (by simpa using hj)] at hu; cases hu
       rw [List.getElem?_eq_getElem (by omega)] at hy; cases hy
       exact cp
      ·rw [List.getElem?_set_ne (Ne.symm hi), List.getElem?_map, Option.map_eq_some_iff] at hu
       obtain ⟨u', h1, rfl⟩ := hu
       exact cs _ _ (hc i u' y h1 hy)
     ·rintro e w' ⟨x, ρ', Z', rfl, post, cv⟩
      obtain ⟨ρ4, Z4, post4, cv4⟩ := bk _ _ _ _ post cv
      exact ⟨x, ρ4, Z4, rfl, post4, cv4⟩
   ·cases h
theorem zfq {fid : Nat} {l : LnD} (hd : zpu P fid l) {vs : List V} {q : Nat} {ok : Option Prop} {v : V} (h : zPh l vs H = .mk q ok v H') (hr : HR ρ Z H w) {xs : List Value} (hl : xs.length = vs.length)
  (hc : ∀ (i : Nat) (u : V) (y : Value), vs[i]? = some u → xs[i]? = some y → Cn ρ Z w u y) (hok : okP ok) : Calls P fid xs.toArray w (fun e w' => ∃ x ρ' Z', e = .returned x ∧ Post q ρ Z H w ρ' Z' H' w' ∧ Cn ρ' Z' w' v x) := by
 unfold zPh at h
 split at h
 rotate_left
 ·cases h
 rename_i ob e1
 split at h
 rotate_left
 ·cases h
 rename_i s l0 e2
 split at h
 rotate_left
 ·cases h
 rename_i a H2 os bs hp
 have hj : l.j < vs.length := (List.getElem?_eq_some_iff.1 e1).1
 have hxj : xs[l.j]? = some xs[l.j] := List.getElem?_eq_getElem (by omega)
 obtain ⟨ρ1, hr1, cp, cs, zSx⟩ := zh0 e2 hr (hc _ _ _ e1 hxj)
 generalize hq : zCe (zEt l.d.flat (zMv H ob (.arr s l0)) l.d.args ((vs.map (scrub (yG ob []))).set l.j (.obj H.length))).isEmpty os bs = q1 at h
 generalize hus : zCc l.d.res (l.d.F a) H2.length = us at h
 generalize hH3 : zDg (zy H2 os q1) bs (vu l.d.args ((vs.map (scrub (yG ob []))).set l.j (.obj H.length))) (xA l.d.res (l.d.F a) H2.length) ++ zCu l.d.res (l.d.F a) = H3 at h
 unfold zcE at h
 split at h
 rotate_left
 ·cases h
 rename_i n2 e3
 split at h
 rotate_left
 ·cases h
 rename_i s2 l2 e4 e5
 split at h
 rotate_left
 ·cases h
 rename_i pe hpe
 obtain rfl := pe.down
 split at h
 rotate_left
 ·cases h
 rename_i hlow
 rw [Bool.and_eq_true, decide_eq_true_eq] at hlow
 simp only [Eff.mk.injEq] at h
 obtain ⟨rfl, rfl, rfl, rfl⟩ := h
 refine (za8 (H' := H3) hd hp ⟨hq, rfl, hus, by rw [hq]; exact hH3⟩ hr1 (xs := xs) (by simpa using hl) (fun i u y hu hy => ?_) hok).mono ?_
 ·by_cases hi : i = l.j
  ·subst hi
   rw [List.getElem?_set_self (by simpa using hj)] at hu; cases hu
   rw [hxj] at hy; cases hy
   exact cp
  ·rw [List.getElem?_set_ne (Ne.symm hi), List.getElem?_map, Option.map_eq_some_iff] at hu
   obtain ⟨u', h1, rfl⟩ := hu
   exact cs _ _ (hc i u' y h1 hy)
 ·rintro e w' ⟨x, rs, ρ', Z', rfl, ⟨rfl, hlast⟩, post, hrl, hrc⟩
  rw [hxj, List.getLast?_eq_getElem?] at hlast
  rw [List.getLast?_eq_getElem?] at e3
  have cy := hrc _ _ _ e3 (by rw [← hrl]; exact hlast)
  obtain ⟨ρ4, post4, cv⟩ := zSx _ _ _ _ hlow.1 e4 hlow.2 e5 _ _ _ post cy
  refine ⟨_, ρ4, Z', rfl, post4, cv _ _ (zjv (by rw [List.length_dropLast, List.length_dropLast, hrl]) fun i u y hu hy => ?_)⟩
  rw [List.getElem?_dropLast] at hu hy
  split at hu
  ·split at hy
   ·exact hrc i u y hu hy
   ·cases hy
  ·cases hu
theorem ztu {E : Env} (hE : EnvOk P E) {f : Operand} {args : Array Operand} {argTypes : Array TypeId} (ho : o.op = .call { callee := .value f, args, argTypes }) {fid : Nat} {caps : List V} (h1 : ev f = .fn fid caps)
  {q : Nat} {ok : Option Prop} {v : V} (h : zKj (E.fn fid) (args.toList.map ev ++ caps) H = .mk q ok v H') : OpS P o ev H (.mk q ok v H') := by
 intro ρ Z w act hr hx hpre K Q hK
 have cf := hx f (by simp [ho, Op.operands, Call.operands])
 rw [h1] at cf
 have cargs : ∀ x ∈ args, Cn ρ Z w (ev x) (act.eval x) := fun x hm => hx x (by simp [ho, Op.operands, Call.operands, hm])
 generalize ef : act.eval f = z at cf
 cases cf with
 | fn c0 c1 =>
  rename_i cs
  have hys : (args.toList.map act.eval ++ cs).length = (args.toList.map ev ++ caps).length := by simp [c0]
  have hall0 : ∀ (i : Nat) (u : V) (y : Value), (args.toList.map ev ++ caps)[i]? = some u → (args.toList.map act.eval ++ cs)[i]? = some y → Cn ρ Z w u y := by
   intro i u y hu hy
   by_cases hi : i < args.toList.length
   ·rw [List.getElem?_append_left (by simpa using hi)] at hu hy
    simp only [List.getElem?_map, Option.map_eq_some_iff] at hu hy
    obtain ⟨x1, g1, rfl⟩ := hu
    obtain ⟨x2, g2, rfl⟩ := hy
    rw [g1] at g2; cases g2
    exact cargs x1 (by have := List.mem_of_getElem? g1; simpa using this)
   ·rw [List.getElem?_append_right (by simpa using hi)] at hu hy
    simp only [List.length_map] at hu hy
    exact c1 _ u y hu hy
  have hne : E.fn fid ≠ [] := by
   intro he
   rw [he] at h
   unfold zKj at h
   split at h
   ·cases h
   ·simp at h
  obtain ⟨d0, hd0⟩ := List.exists_mem_of_ne_nil _ hne
  have henter := (hE.fn fid d0 hd0).enter
  have hc := zhk (hE.fn fid) h hr hys hall0 hpre
  have hrun : (execOp act.eval o).run P w = .ok (.enter fid (args.toList.map act.eval ++ cs).toArray) w := by
   have e2 : args.map act.eval = (args.toList.map act.eval).toArray := by apply Array.toList_inj.1; simp
   simp only [execOp, ho, resolve, Deferred.ofValue, ef, invoke, Sem.run_bind, Sem.run_pure, Result.andThen_ok, e2]
   rw [← henter]
   congr 2
   simp
  unfold Oper.wp
  rw [hrun]
  show Calls P fid _ w _
  refine hc.mono ?_
  rintro e w' ⟨x, ρ', Z', rfl, post, cv⟩
  exact hK ρ' Z' w' x post cv
theorem zrd {E : Env} (hE : EnvOk P E) {f : Operand} {args : Array Operand} {argTypes : Array TypeId} (ho : o.op = .call { callee := .value f, args, argTypes }) {fid : Nat} {caps : List V} (h1 : ev f = .fn fid caps)
  {l : LnD} (hd : E.ln fid = some l) {q : Nat} {ok : Option Prop} {v : V} (h : zPh l (args.toList.map ev ++ caps) H = .mk q ok v H') : OpS P o ev H (.mk q ok v H') := by
 intro ρ Z w act hr hx hpre K Q hK
 have cf := hx f (by simp [ho, Op.operands, Call.operands])
 rw [h1] at cf
 have cargs : ∀ x ∈ args, Cn ρ Z w (ev x) (act.eval x) := fun x hm => hx x (by simp [ho, Op.operands, Call.operands, hm])
 generalize ef : act.eval f = z at cf
 cases cf with
 | fn c0 c1 =>
  rename_i cs
  have hys : (args.toList.map act.eval ++ cs).length = (args.toList.map ev ++ caps).length := by simp [c0]
  have hall0 : ∀ (i : Nat) (u : V) (y : Value), (args.toList.map ev ++ caps)[i]? = some u → (args.toList.map act.eval ++ cs)[i]? = some y → Cn ρ Z w u y := by
   intro i u y hu hy
   by_cases hi : i < args.toList.length
   ·rw [List.getElem?_append_left (by simpa using hi)] at hu hy
    simp only [List.getElem?_map, Option.map_eq_some_iff] at hu hy
    obtain ⟨x1, g1, rfl⟩ := hu
    obtain ⟨x2, g2, rfl⟩ := hy
    rw [g1] at g2; cases g2
    exact cargs x1 (by have := List.mem_of_getElem? g1; simpa using this)
   ·rw [List.getElem?_append_right (by simpa using hi)] at hu hy
    simp only [List.length_map] at hu hy
    exact c1 _ u y hu hy
  have henter := (hE.ln fid l hd).enter
  have hc := zfq (hE.ln fid l hd) h hr hys hall0 hpre
  have hrun : (execOp act.eval o).run P w = .ok (.enter fid (args.toList.map act.eval ++ cs).toArray) w := by
   have e2 : args.map act.eval = (args.toList.map act.eval).toArray := by apply Array.toList_inj.1; simp
   simp only [execOp, ho, resolve, Deferred.ofValue, ef, invoke, Sem.run_bind, Sem.run_pure, Result.andThen_ok, e2]
   rw [← henter]
   congr 2
   simp
  unfold Oper.wp
  rw [hrun]
  show Calls P fid _ w _
  refine hc.mono ?_
  rintro e w' ⟨x, ρ', Z', rfl, post, cv⟩
  exact hK ρ' Z' w' x post cv
theorem zrt {E : Env} (hE : EnvOk P E) {f : Operand} {args : Array Operand} {argTypes : Array TypeId} (ho : o.op = .call { callee := .value f, args, argTypes }) {fid : Nat} {caps : List V} (h1 : ev f = .fn fid caps)
  {d : NwD} (hd : E.nw fid = some d) {q : Nat} {ok : Option Prop} {v : V} (h : zTp d (args.toList.map ev ++ caps) H = .mk q ok v H') : OpS P o ev H (.mk q ok v H') := by
 intro ρ Z w act hr hx hpre K Q hK
 have cf := hx f (by simp [ho, Op.operands, Call.operands])
 rw [h1] at cf
 have cargs : ∀ x ∈ args, Cn ρ Z w (ev x) (act.eval x) := fun x hm => hx x (by simp [ho, Op.operands, Call.operands, hm])
 generalize ef : act.eval f = z at cf
 cases cf with
 | fn c0 c1 =>
  rename_i cs
  have hys : (args.toList.map act.eval ++ cs).length = (args.toList.map ev ++ caps).length := by simp [c0]
  have hall0 : ∀ (i : Nat) (u : V) (y : Value), (args.toList.map ev ++ caps)[i]? = some u → (args.toList.map act.eval ++ cs)[i]? = some y → Cn ρ Z w u y := by
   intro i u y hu hy
   by_cases hi : i < args.toList.length
   ·rw [List.getElem?_append_left (by simpa using hi)] at hu hy
    simp only [List.getElem?_map, Option.map_eq_some_iff] at hu hy
    obtain ⟨x1, g1, rfl⟩ := hu
    obtain ⟨x2, g2, rfl⟩ := hy
    rw [g1] at g2; cases g2
    exact cargs x1 (by have := List.mem_of_getElem? g1; simpa using this)
   ·rw [List.getElem?_append_right (by simpa using hi)] at hu hy
    simp only [List.length_map] at hu hy
    exact c1 _ u y hu hy
  have hN := hE.nw fid d hd
  have hrun : (execOp act.eval o).run P w = .ok (.enter fid (args.toList.map act.eval ++ cs).toArray) w := by
   have e2 : args.map act.eval = (args.toList.map act.eval).toArray := by apply Array.toList_inj.1; simp
   simp only [execOp, ho, resolve, Deferred.ofValue, ef, invoke, Sem.run_bind, Sem.run_pure, Result.andThen_ok, e2]
   rw [← hN.enter]
   congr 2
   simp
  unfold zTp at h
  split at h
  ·rename_i u e
   split at h
   ·rename_i x ex
    cases h
    rw [e] at hys hall0
    obtain ⟨y, hy⟩ : ∃ y, args.toList.map act.eval ++ cs = [y] := List.length_eq_one_iff.1 hys
    rw [hy] at hall0 hrun
    unfold Oper.wp
    rw [hrun]
    show Calls P fid _ w _
    refine (hN.call w Z ρ u x y hr.zl ex (hall0 0 u y rfl rfl)).mono ?_
    rintro e' w' ⟨p, Z', rfl, g1, g2, g3, g4, g5, g6, g7⟩
    exact hK _ Z' w' _ (hr.postNewZ g1 g2 g3 g4 g5 (g7 _) (fun b' hb => by cases hb; exact g6) 1) (.ptr (yH.upd_self _ _ _))
   ·cases h
  ·cases h
end
end Go.Proofs.YtkdidadegedmiaaGreat
namespace Go.Proofs.YtkdidadegedmiaaGreat
open Go.RowKit
section
variable {P : Program} {ρ ρ' : yH} {Z Z' : Zs} {w w' : World} {H H' : List Ob} {o : Oper} {ev : Operand → V}
theorem ztA {t : TypeId} {x : Operand} {lo hi : Option Operand} (ho : o.op = .slice t x lo hi none) {ob : Nat} (e5 : ev x = .obj ob) {q : Nat} {ok : Option Prop} {v : V}
  (h : zPm P t ob (lo.map ev) (hi.map ev) H = .mk q ok v H') : OpS P o ev H (.mk q ok v H') := by
 unfold zPm at h
 split at h
 rotate_left
 ·cases h
 rename_i e s l e1 e6
 split at h
 rotate_left
 ·cases h
 rename_i a' b' e3 e4
 split at h
 rotate_left
 ·cases h
 rename_i hk
 cases h
 intro ρ Z w a hr hx hok K Q hK
 have c1 := hx x (by simp [ho, Op.operands])
 rw [e5] at c1
 simp only [okP] at hok
 obtain ⟨h1, h2, h3, h4⟩ := hok
 obtain ⟨p, g, ex⟩ := c1.obj_inv
 have hlo : (lo.map a.eval).getD (.int .i64 0) = .int .i64 a' := by
  cases lo with
  | none => simpa using e3
  | some y =>
   have := hx y (by simp [ho, Op.operands])
   simp only [Option.map_some, Option.getD_some] at e3 ⊢
   rw [e3] at this; exact x8 this
 have hhi : (hi.map a.eval).getD (.int .i64 (l.length : Nat)) = .int .i64 b' := by
  cases hi with
  | none => simpa using e4
  | some y =>
   have := hx y (by simp [ho, Op.operands])
   simp only [Option.map_some, Option.getD_some] at e4 ⊢
   rw [e4] at this; exact x8 this
 rcases hr.ob ob p _ g e6 with ⟨⟨a0, k1⟩, rfl, knf⟩ | ⟨cur, e', c, fs, k⟩
 ·simp at h4
 have ea : a.eval x = .slice (some ⟨p.b, 0, none⟩) l.length c := by rw [ex, k.hv]
 have hexec : (execOp a.eval o).run P w = .ok (.value (.slice (if c = a'.toNat then some ⟨p.b, 0, none⟩ else (some (⟨p.b, 0, none⟩ : Addr)).map (·.add (a'.toNat * zO s.ty))) (b'.toNat - a'.toNat) (c - a'.toNat))) w := by
  have hb := zMO (P := P) (isS := true) (len := l.length) (cap := c) (l := a') (h := b') (lo.map a.eval) (hi.map a.eval) hlo hhi k.hc ⟨h1, h2, h3⟩ w
  simp only [execOp, ho, Instr.sliceAt, ea, Sem.run_bind, Sem.run_pure, Result.andThen_ok, run_underlying e1, Instr.slice, Option.map_none, hb, zHx hk]
 unfold Oper.wp
 rw [hexec]
 refine hK _ Z _ _ (hr.post 1) (.sl (p := p) g k.hv ⟨h1, h2, h3⟩ k.hc fun hlt => ?_)
 rw [if_neg (by omega)]
 simp [zDf]
theorem zuR (mx : Bool) {args : Array Operand} {argTypes : Array TypeId} {x y : Operand} (ho : o.op = .call { callee := .builtin (match mx with | true => .max | false => .min), args, argTypes }) (ha : args.toList = [x, y])
  {q : Nat} {ok : Option Prop} {v : V} (h : mmV mx (ev x) (ev y) H = .mk q ok v H') : OpS P o ev H (.mk q ok v H') := by
 obtain rfl : args = #[x, y] := Array.toList_inj.1 (by simpa using ha)
 unfold mmV at h
 split at h
 rotate_left
 ·cases h
 rename_i k a1 k' b1 e1 e2
 split at h
 rotate_left
 ·cases h
 rename_i hk
 subst hk
 cases h
 refine yL fun ρ Z w a hr hx hok => ?_
 have c1 := hx x (by cases mx <;> simp [ho, Op.operands, Call.operands])
 have c2 := hx y (by cases mx <;> simp [ho, Op.operands, Call.operands])
 rw [e1] at c1; rw [e2] at c2
 have o1 : k.wrap a1 = a1 := zKF c1
 have o2 : k.wrap b1 = b1 := zKF c2
 cases mx with
 | true =>
  refine ⟨_, ?_, .c _ (show k.wrap (max a1 b1) = max a1 b1 by rw [Int.max_def]; split <;> assumption)⟩
  simp only [execOp, ho, resolve, invoke, builtin, Sem.run_bind, Sem.run_pure, Result.andThen_ok, List.map_toArray, List.map_cons, List.map_nil, x8 c1, x8 c2, Lib.run_max_ints]
 | false =>
  refine ⟨_, ?_, .c _ (show k.wrap (min a1 b1) = min a1 b1 by rw [Int.min_def]; split <;> assumption)⟩
  simp only [execOp, ho, resolve, invoke, builtin, Sem.run_bind, Sem.run_pure, Result.andThen_ok, List.map_toArray, List.map_cons, List.map_nil, x8 c1, x8 c2, Lib.run_min_ints]
theorem HR.postRow (h : HR ρ Z H w) {ob : Nat} {p : Pl} {s : OT} {l l' : List (El s.ty)} (g : ρ ob = some p) (e : H[ob]? = some (.arr s l)) (hx : ObR ρ Z w' (.arr s l') p) (hz : Gr w w') (hsz : w'.heap.size = w.heap.size)
  (hpb : p.fp p.b) (hs : ∀ b, b ≠ p.b → w'.heap[b]? = w.heap[b]?) : Post (yG ob []) ρ Z H w ρ Z ((H.set ob (.arr s l')).map (vK (yG ob []))) w' := by
 have hlt : ob < H.length := h.dom ob p g
 have hnz := (h.own g e (b := p.b) hpb).1
 have hzk : ∀ k b, Z k b → w'.heap[b]? = w.heap[b]? := fun k b hb => hs b fun e => hnz k (e ▸ hb)
 have zA5 : ∀ o q x b, ρ o = some q → H[o]? = some x → vy x q b → o ≠ ob → b ≠ p.b := fun o q x b e1 e2 e3 ho hb => ho (h.dj o ob q p x _ b e1 g e2 e e3 (by rw [hb]; exact hpb))
 have hfp : ∀ o q b, ρ o = some q → o ≠ ob → q.fp b → w'.heap[b]? = w.heap[b]? := fun o q b e1 ho hb => by
  rcases h.fpz e1 hb with ⟨x, e2, e3⟩ | hz
  ·exact hs b (zA5 o q x b e1 e2 e3 ho)
  ·exact hzk _ b hz
 have hch : ∀ o, zBf (yG ob []) o = false → o ≠ ob := fun o h ho => by subst ho; rw [zAf] at h; simp at h
 have sk : Sk (yG ob []) ρ Z w ρ Z w' := ⟨fun o p' h _ => ⟨p'.fp, h, fun _ => rfl⟩, fun _ _ h => h, hzk, fun o q b e1 k hb => hfp o q b e1 (hch o k) hb⟩
 have hH : ∀ o, ((H.set ob (.arr s l')).map (vK (yG ob [])))[o]? = if o = ob then some (.arr s l') else (H[o]?).map (vK (yG ob [])) := fun o => by
  rw [List.getElem?_map]
  by_cases ho : o = ob
  ·subst ho; rw [List.getElem?_set_self hlt, if_pos rfl]; rfl
  ·rw [List.getElem?_set_ne (Ne.symm ho), if_neg ho]
 have old : ∀ (o : Nat) (q : Pl) (y : Ob), ρ o = some q → ((H.set ob (.arr s l')).map (vK (yG ob [])))[o]? = some y → (o = ob ∧ q = p ∧ y = .arr s l') ∨ (o ≠ ob ∧ ∃ z, H[o]? = some z ∧ y = vK (yG ob []) z) := by
  intro o q y e1 e2
  rw [hH] at e2
  split at e2
  ·rename_i ho
   subst ho
   rw [g] at e1; cases e1; cases e2
   exact .inl ⟨rfl, rfl, rfl⟩
  ·rename_i ho
   rw [Option.map_eq_some_iff] at e2
   obtain ⟨z, e3, e4⟩ := e2
   exact .inr ⟨ho, z, e3, e4.symm⟩
 refine ⟨hz, fun _ q h _ => ⟨q.fp, h, fun _ => rfl⟩, fun o q b e1 k hb => hfp o q b e1 (hch o k) hb, fun o cs0 e' => ?_, fun o q cs0 e1 e2 => ?_, fun o q e => .inl ⟨q, e⟩, fun o q y b e1 e2 e3 => ?_, fun _ _ h => h, fun _ _ h => .inl h, fun b _ hne => hs b fun e' => hne ob p _ g e (by rw [e']; exact hpb), fun h => by simp only [yG] at h; omega, ?_⟩
 ·have ho : o ≠ ob := fun ho => by subst ho; rw [e] at e'; cases e'
  exact ⟨cs0.map (scrub (yG ob [])), by rw [hH, if_neg ho, e']; rfl, by simp⟩
 ·have ho : o ≠ ob := fun ho => by subst ho; rw [e] at e2; cases e2
  exact zBF.same (hs _ (zA5 o q _ _ e1 e2 rfl ho))
 ·rcases old o q y e1 e2 with ⟨rfl, rfl, rfl⟩ | ⟨ho, z, e4, rfl⟩
  ·exact .inr ⟨o, q, _, e1, e, e3⟩
  ·exact .inr ⟨o, q, z, e1, e4, x3.1 e3⟩
 ·refine ⟨fun k b hb => by rw [hsz]; exact h.zl k b hb, fun o q e' => by simpa using h.dom o q e', fun o q y e1 e2 => ?_, fun a1 b1 p1 q1 x1 y1 bb h5 h6 h7 h8 hb1 hb2 => ?_⟩
  ·rcases old o q y e1 e2 with ⟨rfl, rfl, rfl⟩ | ⟨ho, z, e4, rfl⟩
   ·exact hx
   ·have hob := h.ob o q z e1 e4
    cases z with
    | box cells =>
     obtain ⟨nf, nz, xs, e', m2, m3, m4⟩ := hob
     refine ⟨nf, nz, xs, e', by rw [hs _ (zA5 o q _ _ e1 e4 rfl ho)]; exact m2, by simpa using m3, fun i u y hu hy => ?_⟩
     rw [List.getElem?_map, Option.map_eq_some_iff] at hu
     obtain ⟨u', h1, rfl⟩ := hu
     exact (m4 i u' y h1 hy).scrub sk
    | arr s1 l1 => exact hob.imp (fun b hb => hfp o q b e1 ho hb) (fun b k hb => (h.own e1 e4 hb).1 k) fun x vs f hf ht => ht.mono (fun _ _ h => h) hzk (fun b hb => hfp o q b e1 ho (hf b hb)) (fun b k hb => (h.own e1 e4 (hf b hb)).1 k)
    | frz t l => exact ⟨hob.1.mono (zp6 (fun _ _ h => h) hzk), hob.2⟩
    | gone => exact hob
  ·have key : ∀ c q y, ρ c = some q → ((H.set ob (.arr s l')).map (vK (yG ob [])))[c]? = some y → vy y q bb → ∃ y', H[c]? = some y' ∧ vy y' q bb := by
    intro c q y k1 k2 k3
    rcases old c q y k1 k2 with ⟨rfl, rfl, rfl⟩ | ⟨_, z, k4, rfl⟩
    ·exact ⟨_, e, k3⟩
    ·exact ⟨z, k4, x3.1 k3⟩
   obtain ⟨y1', k1, k2⟩ := key a1 p1 x1 h5 h7 hb1
   obtain ⟨y2', k3, k4⟩ := key b1 q1 y1 h6 h8 hb2
   exact h.dj a1 b1 p1 q1 _ _ bb h5 h6 k1 k3 k2 k4
theorem zaR {z : Array Value} {n j m : Nat} (hj : j < n) (hm : m < z.size) : (Builtin.zeroCells z n)[j * z.size + m]? = z[m]? := by
 have hlt : j * z.size + m < n * z.size := by
  have : (j + 1) * z.size ≤ n * z.size := Nat.mul_le_mul_right _ hj
  rw [Nat.succ_mul] at this; omega
 have hmod : (j * z.size + m) % z.size = m := by rw [Nat.add_comm, Nat.add_mul_mod_self_right, Nat.mod_eq_of_lt hm]
 unfold Builtin.zeroCells
 rw [Array.getElem?_map, Array.getElem?_range, if_pos hlt, Option.map_some, hmod, getElem!_pos z m hm, Array.getElem?_eq_getElem hm]
theorem zul {args : Array Operand} {argTypes : Array TypeId} {x : Operand} {t : TypeId} (ho : o.op = .call { callee := .builtin .clear, args, argTypes }) (ha : args.toList = [x]) (ht : argTypes.toList = [t])
  {q : Nat} {ok : Option Prop} {v : V} (h : zg2 P t (ev x) H = .mk q ok v H') : OpS P o ev H (.mk q ok v H') := by
 obtain rfl : args = #[x] := Array.toList_inj.1 (by simpa using ha)
 obtain rfl : argTypes = #[t] := Array.toList_inj.1 (by simpa using ht)
 unfold zg2 at h
 split at h
 rotate_left
 ·cases h
 rename_i s ob a' b' e0
 split at h
 rotate_left
 ·cases h
 rename_i e s' l e1 e6
 split at h
 rotate_left
 ·cases h
 rename_i zs ez
 obtain ⟨i, z, i1, i2, i3, rfl, hz0⟩ := zA7 ez
 split at h
 rotate_left
 ·cases h
 rename_i hk
 obtain ⟨rfl, hD, hk, hzs, hlf⟩ := hk
 split at h
 rotate_left
 ·cases h
 rename_i x0 hd
 cases h
 cases s with
 | o s => cases hD
 | pr a b => cases hD
 | d τ =>
 have hd : dec [] τ (z.cells.toList.map .c) = some x0 := by
  have e9 : (z.cells.toList.map V.c).map (zUX false []) = z.cells.toList.map .c := by rw [List.map_map]; rfl
  have hd : dec [] τ ((z.cells.toList.map V.c).map (zUX false [])) = some x0 := hd
  rw [e9] at hd; exact hd
 intro ρ Z w a hr hx hok K Q hK
 have c1 := hx x (by simp [ho, Op.operands, Call.operands])
 rw [e0] at c1
 generalize ea : a.eval x = y at c1
 cases c1 with
 | sl g hx0 h0 h1 h2 =>
 rename_i n c ad p
 obtain ⟨g0, g1, g2⟩ := h0
 have hzs : z.cells.size = zO τ := by simpa using hzs
 have hkp := zAs τ
 unfold Oper.wp
 simp only [okP] at hok
 rcases hr.ob ob p _ g e6 with ⟨⟨a0, k1⟩, rfl, knf⟩ | ⟨cur, e', c', fs, k⟩
 ·simp at hok
 have hxv := k.hv
 rw [hx0] at hxv
 simp only [Value.slice.injEq, true_and] at hxv
 obtain ⟨rfl, rfl⟩ := hxv
 have hgb : p.fp p.b := (k.hf p.b).2 (.inl rfl)
 by_cases hn0 : b'.toNat - a'.toNat = 0
 ·have hrun : (execOp a.eval o).run P w = .ok (.value (.tuple #[])) w := by
   simp only [execOp, ho, resolve, invoke, builtin, Sem.run_bind, Sem.run_pure, Result.andThen_ok, List.map_toArray, List.map_cons, List.map_nil, ea, hn0]
   cases ad <;> simp [Builtin.clear_, run_underlying e1]
  rw [hrun]
  have hl : ((l.take a'.toNat ++ List.replicate (b'.toNat - a'.toNat) x0) ++ l.drop b'.toNat) = l := by
   rw [hn0, show b'.toNat = a'.toNat by omega]; simp
  have hK := hK ρ Z w (.tuple #[])
  rw [hl] at hK
  exact hK (hr.postRow g e6 (hr.ob ob p _ g e6) (Gr.refl w) rfl hgb fun _ _ => rfl) (.any _)
 ·obtain rfl := h2 (by omega)
  have hzl : (Builtin.zeroCells z.cells (b'.toNat - a'.toNat)).toList.length = (b'.toNat - a'.toNat) * zO τ := by simp [Builtin.zeroCells, hzs]
  have hbk : b'.toNat * zO τ ≤ cur.size := Nat.le_trans (Nat.mul_le_mul_right _ (show b'.toNat ≤ c by omega)) k.hs
  have hsum : a'.toNat * zO τ + (b'.toNat - a'.toNat) * zO τ = b'.toNat * zO τ := by rw [← Nat.add_mul]; congr 1; omega
  have hone : ∀ u ∈ (Builtin.zeroCells z.cells (b'.toNat - a'.toNat)).toList, u.oneCell' = true := by
   intro u hu
   simp only [Builtin.zeroCells, Array.toList_map, List.mem_map] at hu
   obtain ⟨m, hm, rfl⟩ := hu
   have hlt : m % z.cells.size < z.cells.size := Nat.mod_lt _ (by omega)
   rw [getElem!_pos z.cells _ hlt]
   have hv : (z.cells.toList.map V.c)[m % z.cells.size]? = some (.c z.cells[m % z.cells.size]) := by rw [List.getElem?_map, Array.getElem?_toList, Array.getElem?_eq_getElem hlt]; rfl
   exact zSQ (zR1 (ρ := ρ) (Z := Z) (w := w) hz0 hv (Array.getElem?_eq_getElem hlt)) (List.all_eq_true.1 hlf _ (List.mem_of_getElem? hv))
  have hst := run_storeCells_at P p.b (a'.toNat * zO τ) e' (Builtin.zeroCells z.cells (b'.toNat - a'.toNat)).toList 0 cur w k.hw (by rw [hzl]; omega) hone
  simp only [Nat.add_zero, hzl, hsum] at hst
  generalize hcur : (cur.toList.take (a'.toNat * zO τ) ++ (Builtin.zeroCells z.cells (b'.toNat - a'.toNat)).toList ++ cur.toList.drop (b'.toNat * zO τ)).toArray = cur' at hst
  have hrun : (execOp a.eval o).run P w = .ok (.value (.tuple #[])) (w.setRow p.b cur') := by
   simp only [execOp, ho, resolve, invoke, builtin, Sem.run_bind, Sem.run_pure, Result.andThen_ok, List.map_toArray, List.map_cons, List.map_nil, ea]
   cases hm : b'.toNat - a'.toNat with
   | zero => exact absurd hm hn0
   | succ m =>
    rw [hm] at hst
    simp [Builtin.clear_, run_underlying e1, i3, hst]
  rw [hrun]
  have hother : ∀ b, b ≠ p.b → (w.setRow p.b cur').heap[b]? = w.heap[b]? := fun b hb => setRow_other w p.b b _ hb
  have hnz := (hr.own g e6 (b := p.b) hgb).1
  have hzk : ∀ q b, Z q b → (w.setRow p.b cur').heap[b]? = w.heap[b]? := fun q b hb => hother b fun e => hnz q (e ▸ hb)
  have hnew := setRow_heap w p.b cur cur' e' _ k.hw
  have hsz' : cur'.size = cur.size := by
   rw [← hcur]; simp only [List.size_toArray, List.length_append, List.length_take, List.length_drop, hzl, Array.length_toList]; omega
  have hlen : ((l.take a'.toNat ++ List.replicate (b'.toNat - a'.toNat) x0) ++ l.drop b'.toNat).length = l.length := by
   simp only [List.length_append, List.length_take, List.length_replicate, List.length_drop]; omega
  have hfs : ∀ i, i < l.length → ∀ b, ¬ fs i b := fun i hi => (k.ht i _ (List.getElem?_eq_getElem hi)).1
  have hget : ∀ j, (j < a'.toNat * zO τ ∨ b'.toNat * zO τ ≤ j) → cur'[j]? = cur[j]? := by
   intro j hj
   rw [← hcur, List.getElem?_toArray]
   rcases hj with hj | hj
   ·rw [List.append_assoc, List.getElem?_append_left (by simp; omega), List.getElem?_take, if_pos hj]; simp
   ·rw [List.getElem?_append_right (by simp only [List.length_append, List.length_take, hzl, Array.length_toList]; omega), List.getElem?_drop]
    simp only [List.length_append, List.length_take, Array.length_toList, hzl]
    rw [← Array.getElem?_toList]
    congr 1; omega
  have hgetz : ∀ j m, j < b'.toNat - a'.toNat → m < zO τ → cur'[(a'.toNat + j) * zO τ + m]? = z.cells[m]? := by
   intro j m hj hm
   have hlt : j * zO τ + m < (b'.toNat - a'.toNat) * zO τ := by
    have : (j + 1) * zO τ ≤ (b'.toNat - a'.toNat) * zO τ := Nat.mul_le_mul_right _ hj
    rw [Nat.succ_mul] at this; omega
   rw [← hcur, List.getElem?_toArray, Nat.add_mul, List.getElem?_append_left (by simp only [List.length_append, List.length_take, hzl, Array.length_toList]; omega), List.getElem?_append_right (by simp; omega)]
   have e9 : a'.toNat * zO τ + j * zO τ + m - (cur.toList.take (a'.toNat * zO τ)).length = j * z.cells.size + m := by
    rw [List.length_take, Array.length_toList, Nat.min_eq_left (by omega), hzs]; omega
   rw [e9, Array.getElem?_toList]
   exact zaR hj (by omega)
  have keep : ∀ i y, i < l.length → (i < a'.toNat ∨ b'.toNat ≤ i) → l[i]? = some y → TrO Z (w.setRow p.b cur') (.d τ) y (zu cur' (zO τ) i) (fs i) := by
   intro i y hi hib hy
   have hc : zu cur' (zO τ) i = zu cur (zO τ) i := by
    apply List.ext_getElem?
    intro m
    by_cases hm : m < zO τ
    ·rw [xR hm, xR hm]
     refine hget _ ?_
     rcases hib with hib | hib
     ·left
      have : (i + 1) * zO τ ≤ a'.toNat * zO τ := Nat.mul_le_mul_right _ hib
      rw [Nat.succ_mul] at this; omega
     ·right
      have : b'.toNat * zO τ ≤ i * zO τ := Nat.mul_le_mul_right _ hib
      omega
    ·rw [List.getElem?_eq_none (by simp [zu]; omega), List.getElem?_eq_none (by simp [zu]; omega)]
   rw [hc]
   exact TrO.mono (k.ht i y hy) (fun _ _ h => h) hzk (fun b hb => (hfs i hi b hb).elim) (fun b _ hb => (hfs i hi b hb).elim)
  have zh : HR zAX Z [] (w.setRow p.b cur') := HR.none fun q b hb => by rw [zN5]; exact hr.zl q b hb
  have hzt := zOW zh hd (xs := z.cells.toList) (by simp) (fun i u y hu hy => zR1 hz0 hu (by simpa using hy))
  refine hK _ Z _ _ (hr.postRow g e6 (.inr ⟨cur', e', c, fs, ⟨by rw [hlen]; exact k.hv, hnew, k.hz, by rw [hlen]; exact k.hc, k.hm, by rw [hlen]; exact k.hl, by rw [hsz']; exact k.hs, fun b => by rw [hlen]; exact k.hf b, fun i hi => k.hn i (by rw [hlen] at hi; exact hi), fun i j b hi hj => k.hd i j b (by rw [hlen] at hi; exact hi) (by rw [hlen] at hj; exact hj), fun i y hy => ?_⟩⟩) (Gr.setRow w _ _) (zN5 w _ _) hgb hother) (.any _)
  have hi : i < l.length := by have := (List.getElem?_eq_some_iff.1 hy).1; rw [hlen] at this; exact this
  by_cases h1' : i < a'.toNat
  ·rw [List.append_assoc, List.getElem?_append_left (by simp; omega), List.getElem?_take, if_pos h1'] at hy
   exact keep i y hi (.inl h1') hy
  ·by_cases h2' : i < b'.toNat
   ·rw [List.getElem?_append_left (by simp; omega), List.getElem?_append_right (by simp; omega)] at hy
    obtain rfl : y = x0 := List.eq_of_mem_replicate (List.mem_of_getElem? hy)
    have hc : zu cur' (zO τ) i = z.cells.toList := by
     apply List.ext_getElem?
     intro m
     by_cases hm : m < zO τ
     ·have := hgetz (i - a'.toNat) m (by omega) hm
      rw [show a'.toNat + (i - a'.toNat) = i by omega] at this
      rw [xR hm, this, Array.getElem?_toList]
     ·rw [List.getElem?_eq_none (by simp [zu]; omega), List.getElem?_eq_none (by simp; omega)]
    show TrO Z (w.setRow p.b cur') (.d τ) y (zu cur' (zO τ) i) (fs i)
    rw [hc]
    refine ⟨hfs i hi, by simpa using hzs, fun j u y' hu hy' => ?_⟩
    obtain ⟨y2, g3, g4⟩ := hzt j u hu
    rw [g3] at hy'; cases hy'
    exact g4
   ·rw [List.getElem?_append_right (by simp; omega), List.getElem?_drop] at hy
    simp only [List.length_append, List.length_take, List.length_replicate] at hy
    rw [show b'.toNat + (i - (min a'.toNat l.length + (b'.toNat - a'.toNat))) = i by omega] at hy
    exact keep i y hi (.inr (by omega)) hy
theorem InB.cut {s : OT} {l : List (El s.ty)} {v : Value} {fp : Nat → Prop} {b : Nat} {cur : Array Value} {e c : Nat} {fs : Nat → Nat → Prop} (k : InB (zO s.ty) (lim s.ty) (TrO Z w s) Z w l v fp b cur e c fs) (j : Nat) (hj : j ≤ l.length) :
  InB (zO s.ty) (lim s.ty) (TrO Z w s) Z w (l.take j) (.slice (some ⟨b, 0, none⟩) j c) (fun b' => b' = b ∨ ∃ i, i < j ∧ fs i b') b cur e c fs := by
 have hl : (l.take j).length = j := by rw [List.length_take]; omega
 refine ⟨by rw [hl], k.hw, k.hz, by rw [hl]; have := k.hc; omega, k.hm, by rw [hl]; have := k.hl; omega, k.hs, fun b => by rw [hl], fun i hi => k.hn i (by rw [hl] at hi; omega), fun i i' b' hi hi' => k.hd i i' b' (by rw [hl] at hi; omega) (by rw [hl] at hi'; omega), fun i y hy => ?_⟩
 rw [List.getElem?_take] at hy
 split at hy
 ·exact k.ht i y hy
 ·cases hy
theorem zs5 {args : Array Operand} {argTypes : Array TypeId} {x y : Operand} {t : TypeId} (ho : o.op = .call { callee := .builtin .append, args, argTypes }) (ha : args.toList = [x, y]) (ht : argTypes.toList = [t, t])
  {q : Nat} {ok : Option Prop} {v : V} (h : zUL P t (ev x) (ev y) H = .mk q ok v H') : OpS P o ev H (.mk q ok v H') := by
 obtain rfl : args = #[x, y] := Array.toList_inj.1 (by simpa using ha)
 obtain rfl : argTypes = #[t, t] := Array.toList_inj.1 (by simpa using ht)
 unfold zUL at h
 split at h
 rotate_left
 ·cases h
 rename_i s ob i j s2 o2 a1 b1 ex ey
 split at h
 rotate_left
 ·cases h
 rename_i e s' l e1 e6
 split at h
 rotate_left
 ·cases h
 rename_i zs ez
 obtain ⟨inf, z, i1, i2, i3, rfl, hz0⟩ := zA7 ez
 split at h
 rotate_left
 ·cases h
 rename_i hk
 obtain ⟨rfl, rfl, rfl, hD, hk, hzs, hby⟩ := hk
 cases h
 intro ρ Z w a hr hx hok K Q hK
 have c1 := hx x (by simp [ho, Op.operands, Call.operands])
 have c2 := hx y (by simp [ho, Op.operands, Call.operands])
 rw [ex] at c1; rw [ey] at c2
 simp only [okP] at hok
 obtain ⟨rfl, rfl, hb0, hsum⟩ := hok
 have hsz : vD P e = inf.size := by unfold vD; rw [i1]
 rw [hsz] at hk hzs
 have hzs : z.cells.size = inf.size := by simpa using hzs
 have hby : inf.bytes ≤ 8388608 := by unfold zTB at hby; rw [i1] at hby; exact hby
 generalize ea : a.eval x = xv at c1
 generalize eb : a.eval y = yv at c2
 cases c1 with
 | sl g hx0 h0 h1 h2 =>
 rename_i n c ad p
 cases c2 with
 | sl g' hx0' h0' h1' h2' =>
 rename_i n' c' ad2 p'
 rw [g] at g'; cases g'
 rw [hx0] at hx0'
 simp only [Value.slice.injEq, true_and] at hx0'
 obtain ⟨rfl, rfl⟩ := hx0'
 rcases hr.ob _ p _ g e6 with ⟨⟨a0, k1⟩, rfl, knf⟩ | ⟨cur, e', cc, fs, k⟩
 ·simp at hb0
 have hxv := k.hv
 rw [hx0] at hxv
 simp only [Value.slice.injEq, true_and] at hxv
 obtain ⟨rfl, rfl⟩ := hxv
 obtain ⟨g0, g1, g2⟩ := h0
 obtain ⟨g0', g1', g2'⟩ := h0'
 have hkp := zAs s2.ty
 obtain rfl : ad = some ⟨p.b, 0, none⟩ := by
  have := h2 (by have := k.hc; omega)
  simpa using this
 have hfs : ∀ i, i < l.length → ∀ b, ¬ fs i b := fun i hi => by
  have := k.ht i _ (List.getElem?_eq_getElem hi)
  cases s2 with
  | d τ => exact this.1
  | _ => cases hD
 have hck : l.length * zO s2.ty ≤ cur.size := Nat.le_trans (Nat.mul_le_mul_right _ k.hc) k.hs
 have hdl : (l.drop a1.toNat).length = l.length - a1.toNat := by rw [List.length_drop]
 have hsub1 : a1.toNat * zO s2.ty + (l.length - a1.toNat) * zO s2.ty = l.length * zO s2.ty := by rw [← Nat.add_mul]; congr 1; omega
 have hnl : ((cur.toList.drop (a1.toNat * zO s2.ty)).take ((l.length - a1.toNat) * zO s2.ty)).length = (l.length - a1.toNat) * zO s2.ty := by
  have h9 : cur.toList.length = cur.size := Array.length_toList
  rw [List.length_take, List.length_drop]; omega
 have hnews : ∀ m, m < (l.length - a1.toNat) * zO s2.ty → ((cur.toList.drop (a1.toNat * zO s2.ty)).take ((l.length - a1.toNat) * zO s2.ty))[m]? = cur[a1.toNat * zO s2.ty + m]? := fun m hm => by
  rw [List.getElem?_take, if_pos hm, List.getElem?_drop, Array.getElem?_toList]
 have hcells : ∀ i, i < l.length - a1.toNat → (((cur.toList.drop (a1.toNat * zO s2.ty)).take ((l.length - a1.toNat) * zO s2.ty)).drop (i * zO s2.ty)).take (zO s2.ty) = zu cur (zO s2.ty) (a1.toNat + i) := by
  intro i hi
  apply List.ext_getElem?
  intro m
  by_cases hm : m < zO s2.ty
  ·have hlt : i * zO s2.ty + m < (l.length - a1.toNat) * zO s2.ty := by
    have : (i + 1) * zO s2.ty ≤ (l.length - a1.toNat) * zO s2.ty := Nat.mul_le_mul_right _ hi
    rw [Nat.succ_mul] at this; omega
   rw [List.getElem?_take, if_pos hm, List.getElem?_drop, hnews _ hlt, xR hm]
   congr 1; rw [Nat.add_mul]; omega
  ·rw [List.getElem?_eq_none (by simp; omega), List.getElem?_eq_none (by simp [zu]; omega)]
 have hsrc : Src ρ Z H w s2 (l.drop a1.toNat) [] (.slice ad2 (l.drop a1.toNat).length (c - a1.toNat)) ad2 (c - a1.toNat) ((cur.toList.drop (a1.toNat * zO s2.ty)).take ((l.length - a1.toNat) * zO s2.ty)) (fun i => fs (a1.toNat + i)) := by
  refine ⟨rfl, ⟨fun h => ?_, by rw [hnl, hdl], fun ad he m u hu => ?_, fun u hu => ?_⟩, fun i y hy => ?_, fun i j b hi _ hb => (hfs _ (by omega) b hb).elim, fun i b hi hb => (hfs _ (by omega) b hb).elim, fun o h => by cases h⟩
  ·by_cases hlt : a1 < c
   ·rw [h2' hlt] at h; cases h
   ·have := k.hc; omega
  ·have hm := (List.getElem?_eq_some_iff.1 hu).1
   rw [hnl] at hm
   have hpos : 0 < l.length - a1.toNat := by
    rcases Nat.eq_zero_or_pos (l.length - a1.toNat) with h | h
    ·rw [h, Nat.zero_mul] at hm; omega
    ·exact h
   have := h2' (by have := k.hc; omega)
   rw [this] at he; cases he
   rw [hnews m hm] at hu
   rw [zDf]
   simp only [World.cell?, k.hw, Option.isSome_none, Bool.false_eq_true, if_false]
   exact hu
  ·obtain ⟨m, hm⟩ := List.mem_iff_getElem?.1 hu
   have hlt := (List.getElem?_eq_some_iff.1 hm).1
   rw [hnl] at hlt
   rw [hnews m hlt] at hm
   have hi : m / zO s2.ty < l.length - a1.toNat := by rw [Nat.div_lt_iff_lt_mul hkp]; exact hlt
   refine (k.ht (a1.toNat + m / zO s2.ty) _ (List.getElem?_eq_getElem (by omega))).one u (List.mem_of_getElem? (i := m % zO s2.ty) ?_)
   rw [xR (Nat.mod_lt _ hkp), ← hm]
   congr 1
   rw [Nat.add_mul, Nat.add_assoc, Nat.div_add_mod']
  ·have hi := (List.getElem?_eq_some_iff.1 hy).1
   rw [hcells i (by omega)]
   rw [List.getElem?_drop] at hy
   exact k.ht _ y hy
 have hA : zI3 (zO s2.ty) (lim s2.ty) (TrO Z w s2) Z w (l.take j.toNat) (.slice (some ⟨p.b, 0, none⟩) j.toNat c) (fun b' => b' = p.b ∨ ∃ i, i < j.toNat ∧ fs i b') p.b :=
  .inr ⟨cur, e', c, fs, k.cut j.toNat (by omega)⟩
 obtain ⟨v, w', ρ2, hrun, p1, p2⟩ := zk2 e1 i1 i2 hk.symm (by omega) hby o.type g e6 hA (fun b h => (k.hf b).2 (by
  rcases h with rfl | ⟨i, hi, h⟩
  ·exact .inl rfl
  ·exact .inr ⟨i, by omega, h⟩)) (os := []) (by simp) hr hsrc (by rw [hdl, List.length_take]; omega)
 have ey' : (Value.slice ad2 (((l.length : Int)).toNat - a1.toNat) (c - a1.toNat)) = .slice ad2 (l.drop a1.toNat).length (c - a1.toNat) := by rw [hdl]; simp
 have ex' : (Value.slice (some ⟨p.b, 0, none⟩) (j.toNat - (0 : Int).toNat) (c - (0 : Int).toNat)) = .slice (some ⟨p.b, 0, none⟩) j.toNat c := by simp
 rw [ey'] at eb
 rw [ex'] at ea
 unfold Oper.wp
 have hexec : (execOp a.eval o).run P w = .ok (.value v) w' := by
  simp only [execOp, ho, resolve, invoke, builtin, Sem.run_bind, Sem.run_pure, Result.andThen_ok, List.map_toArray, List.map_cons, List.map_nil, ea, eb, hrun]
 rw [hexec]
 exact hK _ Z _ _ p1 p2
end
end Go.Proofs.YtkdidadegedmiaaGreat
namespace Go.Proofs.YtkdidadegedmiaaGreat
open Go.RowKit
theorem zmS (P : Program) (g : Gv) (o : Oper) (ev : Operand → V) (H : List Ob) : OpS P o ev H (xT P g ev H o.op) := by
 have bad : OpS P o ev H .bad := trivial
 obtain ⟨op, ho⟩ : ∃ op, o.op = op := ⟨_, rfl⟩
 rw [ho]
 cases op with
 | move x => exact zpz (.inl ho)
 | assign x => exact zpz (.inr ho)
 | pick c x y =>
  simp only [xT]
  split
  ·rename_i b e; exact zto ho e
  ·exact bad
 | alloc t =>
  simp only [xT]
  split
  ·rename_i z e; exact zrE ho e
  ·exact bad
 | box t x =>
  simp only [xT]
  split
  ·rename_i z e; exact zuH ho e
  ·exact bad
 | build t parts =>
  simp only [xT]
  cases e : zOL P t (parts.toList.map fun p => (p.1, ev p.2)) H with
  | bad => exact bad
  | mk q ok v H' => exact zrf ho e
 | buildSlice t n parts =>
  simp only [xT]
  cases e : zdt P g t n (parts.toList.map fun p => (p.1, ev p.2)) H with
  | bad => exact bad
  | mk q ok v H' => exact zuK ho e
 | load t x =>
  simp only [xT]
  split
  ·rename_i cs off e
   split
   ·rename_i v e'; exact ztf ho e e'
   ·exact bad
  ·exact bad
 | store t x y =>
  simp only [xT]
  cases e : zOR P t (ev x) (ev y) H with
  | bad => exact bad
  | mk q ok v H' => exact zr6 ho e
 | nilCheck x =>
  have key : ∀ v, xT P g ev H (.nilCheck x) = .mk 0 none v H → OpS P o ev H (xT P g ev H (.nilCheck x)) := fun v e => by rw [e]; exact zuD ho e
  cases e : ev x with
  | ptr ob off => exact key (.ptr ob off) (by simp only [xT, e])
  | bx cs off => exact key (.bx cs off) (by simp only [xT, e])
  | ept q t l i off => exact key (.ept q t l i off) (by simp only [xT, e])
  | opt t ob i off => exact key (.opt t ob i off) (by simp only [xT, e])
  | _ => simp only [xT, e]; exact bad
 | binOp op t x y u =>
  simp only [xT]
  cases e : zTN P g.wr op t (ev x) (ev y) H with
  | bad => exact bad
  | mk q ok v H' => exact zuo ho e
 | unOp op t x =>
  simp only [xT]
  cases e : unV op (ev x) H with
  | bad => exact bad
  | mk q ok v H' => exact zu2 ho e
 | convert s d x =>
  simp only [xT]
  split
  ·cases e : zf9 P s d (ev x) H with
   | bad => exact bad
   | mk q ok v H' => exact zuS ho e
  ·cases e : zUF P s d (ev x) H with
   | bad => exact bad
   | mk q ok v H' => exact ztp ho e
 | makeFunc fn first caps =>
  cases fn with
  | func f =>
   simp only [xT]
   split
   ·rename_i e; exact zjO ho e
   ·exact bad
  | _ => exact bad
 | makeSlice t x y =>
  simp only [xT]
  cases e : zUt P g t (ev x) (ev y) H with
  | bad => exact bad
  | mk q ok v H' => exact zs7 ho e
 | slice t x lo hi mx =>
  cases mx with
  | none =>
   simp only [xT]
   split
   ·rename_i ob e5
    split
    ·cases e : zPm P t ob (lo.map ev) (hi.map ev) H with
     | bad => exact bad
     | mk q ok v H' => exact ztA ho e5 e
    ·rename_i hg
     cases lo with
     | some y => simp at hg
     | none =>
      cases e : zdk P t ob (hi.map ev) H with
      | bad => exact bad
      | mk q ok v H' => exact zuE ho e5 e
   ·cases e : zIq P t (ev x) (lo.map ev) (hi.map ev) H with
    | bad => exact bad
    | mk q ok v H' => exact zrN ho e
  | some m => exact bad
 | fieldAddr t x f =>
  simp only [xT]
  split
  ·rename_i off u e
   split
   ·exact bad
   ·rename_i hs
    split
    ·rename_i v e'; exact zff ho e hs e'
    ·exact bad
  ·exact bad
 | field t x f =>
  simp only [xT]
  split
  ·rename_i off u cs e1 e2
   split
   ·rename_i v e'; exact zrR ho e1 e2 e'
   ·exact bad
  ·exact bad
 | indexAddr t x y =>
  simp only [xT]
  cases e : zCR P t (ev x) (ev y) H with
  | bad => exact bad
  | mk q ok v H' => exact zln ho e
 | index t x y =>
  simp only [xT]
  cases e : zhL P t (ev x) (ev y) H with
  | bad => exact bad
  | mk q ok v H' => exact zr8 ho e
 | extract x i =>
  simp only [xT]
  split
  ·rename_i vs e
   split
   ·rename_i v e'; exact znk ho e e'
   ·exact bad
  ·exact bad
 | call c =>
  obtain ⟨callee, args, argTypes⟩ := c
  cases callee with
  | builtin b =>
   cases b with
   | len =>
    simp only [xT]
    split
    ·rename_i x t e1 e2
     cases e : zQJ P t H (ev x) with
     | bad => exact bad
     | mk q ok v H' => exact zuQ ho e1 e2 e
    ·exact bad
   | append =>
    simp only [xT]
    split
    ·rename_i x y t t' e1 e2
     split
     ·rename_i ht
      subst ht
      split
      ·cases e : zUL P t' (ev x) (ev y) H with
       | bad => exact bad
       | mk q ok v H' => exact zs5 ho e1 e2 e
      ·cases e : ze2 P g t' (ev x) (ev y) H with
       | bad => exact bad
       | mk q ok v H' => exact zuj ho e1 e2 e
     ·exact bad
    ·exact bad
   | max =>
    simp only [xT]
    split
    ·rename_i x y e1
     cases e : mmV true (ev x) (ev y) H with
     | bad => exact bad
     | mk q ok v H' => exact zuR true ho e1 e
    ·exact bad
   | min =>
    simp only [xT]
    split
    ·rename_i x y e1
     cases e : mmV false (ev x) (ev y) H with
     | bad => exact bad
     | mk q ok v H' => exact zuR false ho e1 e
    ·exact bad
   | clear =>
    simp only [xT]
    split
    ·rename_i x t e1 e2
     cases e : zg2 P t (ev x) H with
     | bad => exact bad
     | mk q ok v H' => exact zul ho e1 e2 e
    ·exact bad
   | _ => exact bad
  | _ => exact bad
 | _ => exact bad
def zWx (ρ : yH) (Z : Zs) (w : World) (r : List V) (a : Act) : Prop :=
 r.length = a.tmps.size ∧ ∀ (t : Nat) (v : V), r[t]? = some v → Cn ρ Z w v (a.tmps.getD t undef)
theorem zWx.ev {ρ : yH} {Z : Zs} {w : World} {s : S} {a : Act} (h : zWx ρ Z w s.r a) (x : Operand) : Cn ρ Z w (s.ev x) (a.eval x) := by
 cases x with
 | tmp t =>
  show Cn ρ Z w (s.r.getD t .any) (a.tmps.getD t undef)
  cases e : s.r[t]? with
  | none => rw [List.getD_eq_getElem?_getD, e]; exact .any _
  | some v => rw [List.getD_eq_getElem?_getD, e]; exact h.2 t v e
 | const x =>
  show Cn ρ Z w (zN4 x) x
  unfold zN4
  split
  ·rename_i e; exact .c x (zQo e)
  ·exact .any _
 | global g => exact .any _
 | func f => exact Cn.fn (vs := []) (xs := []) rfl (by intro i u y h; simp at h)
theorem zWx.put {ρ : yH} {Z : Zs} {w : World} {r : List V} {a : Act} (h : zWx ρ Z w r a) (d : Option Tmp) {v : V} {x : Value} (hv : Cn ρ Z w v x) (H : List Ob) : zWx ρ Z w (({ r := r, h := H } : S).put d v).r (a.put d x) := by
 cases d with
 | none => exact h
 | some d =>
  refine ⟨by simp [S.put, Act.put, h.1], fun t u hu => ?_⟩
  simp only [S.put, Act.put] at hu ⊢
  by_cases e : d = t
  ·subst e
   have hlt : d < r.length := by have := (List.getElem?_eq_some_iff.1 hu).1; simpa using this
   rw [List.getElem?_set_self hlt] at hu
   cases hu
   have : d < a.tmps.size := by rw [← h.1]; exact hlt
   rw [Array.getD_eq_getD_getElem?, Array.getElem?_setIfInBounds_self_of_lt this]
   exact hv
  ·rw [List.getElem?_set_ne e] at hu
   rw [Array.getD_eq_getD_getElem?, Array.getElem?_setIfInBounds_ne e, ← Array.getD_eq_getD_getElem?]
   exact h.2 t u hu
theorem zWx.post {ρ ρ' : yH} {Z Z' : Zs} {w w' : World} {H H' : List Ob} {s : S} {a : Act} {q : Nat} (h : zWx ρ Z w s.r a) (hp : Post q ρ Z H w ρ' Z' H' w') (hr : HR ρ Z H w) : zWx ρ' Z' w' (s.upd q H').r a := by
 unfold S.upd
 split
 ·rename_i hq
  exact ⟨h.1, fun t v hv => (h.2 t v hv).mono (hp.kp hr hq)⟩
 ·refine ⟨by simp [h.1], fun t v hv => ?_⟩
  simp only [List.getElem?_map, Option.map_eq_some_iff] at hv
  obtain ⟨u, h1, rfl⟩ := hv
  exact (h.2 t u h1).scrub (hp.sk hr)
end Go.Proofs.YtkdidadegedmiaaGreat
namespace Go.Proofs.YtkdidadegedmiaaGreat
open Go.RowKit
structure En where
 z : Zs
 m : Nat → Prop
 r : List (Pl × Nat)
 fx : List (Nat × Value)
def Dfx (Z0 : En) (a : Act) : Prop := a.defers = [] ∧ ∀ p ∈ Z0.fx, a.tmps.getD p.1 undef = p.2
def NoF (Z0 : En) (d : Option Tmp) : Prop := ∀ p ∈ Z0.fx, d ≠ some p.1
def zaa (Z0 : En) (l : List Oper) : Prop := ∀ o ∈ l, NoF Z0 o.dst
theorem Dfx.put {Z0 : En} {a : Act} {d : Option Tmp} (h : Dfx Z0 a) (hd : NoF Z0 d) (x : Value) : Dfx Z0 (a.put d x) := by
 cases d with
 | none => exact h
 | some d =>
  refine ⟨h.1, fun p hp => ?_⟩
  have : d ≠ p.1 := fun e => hd p hp (by rw [e])
  simp only [Act.put]
  rw [Array.getD_eq_getD_getElem?, Array.getElem?_setIfInBounds_ne this, ← Array.getD_eq_getD_getElem?]
  exact h.2 p hp
structure Frm (w0 : World) (Z0 : En) (ρ : yH) (Z : Zs) (H : List Ob) (w : World) : Prop where
 size : Gr w0 w
 same : ∀ b, b < w0.heap.size → ¬ Z0.m b → w.heap[b]? = w0.heap[b]?
 own : ∀ o p x b, ρ o = some p → H[o]? = some x → vy x p b → w0.heap.size ≤ b ∨ Z0.m b
 zs : ∀ b, Z false b → Z0.z false b ∨ w0.heap.size ≤ b ∨ Z0.m b
 refs : ∀ (i : Nat) (p : Pl) (n : Nat), Z0.r[i]? = some (p, n) → ρ i = some p ∧ (∃ cs, H[i]? = some (.box cs) ∧ cs.length = n) ∧ zBF p.b p.off (p.off + n) w0 w
theorem Frm.post {w0 : World} {Z0 : En} {ρ ρ' : yH} {Z Z' : Zs} {H H' : List Ob} {w w' : World} {q : Nat} (h : Frm w0 Z0 ρ Z H w) (hp : Post q ρ Z H w ρ' Z' H' w') : Frm w0 Z0 ρ' Z' H' w' where
 size := h.size.trans hp.size
 same b hb hm := by
  rw [hp.same b (Nat.lt_of_lt_of_le hb h.size.le) fun o p x h1 h2 h3 => by
   rcases h.own o p x b h1 h2 h3 with h4 | h4
   ·omega
   ·exact hm h4]
  exact h.same b hb hm
 own o p x b h1 h2 h3 := by
  rcases hp.newb o p x b h1 h2 h3 with h4 | ⟨o0, p0, x0, g1, g2, g3⟩
  ·exact .inl (Nat.le_trans h.size.le h4)
  ·exact h.own o0 p0 x0 b g1 g2 g3
 zs b hb := by
  rcases hp.zn false b hb with h4 | h4 | ⟨o0, p0, x0, g1, g2, g3⟩
  ·exact h.zs b h4
  ·exact .inr (.inl (Nat.le_trans h.size.le h4))
  ·exact .inr (h.own o0 p0 x0 b g1 g2 g3)
 refs i p n e := by
  obtain ⟨h1, ⟨cs, h2, h3⟩, h4⟩ := h.refs i p n e
  obtain ⟨cs', k1, k2⟩ := hp.bxs i cs h2
  obtain ⟨f, m1, m2⟩ := hp.rho i p h1 (.inr ⟨cs, h2⟩)
  rw [m2 (.inr ⟨cs, h2⟩)] at m1
  refine ⟨m1, ⟨cs', k1, by omega⟩, h4.trans ?_⟩
  have := hp.part i p cs h1 h2
  rwa [h3] at this
def Rel (w0 : World) (Z0 : En) (s : S) (a : Act) (w : World) : Prop :=
 ∃ ρ Z, zWx ρ Z w s.r a ∧ HR ρ Z s.h w ∧ Frm w0 Z0 ρ Z s.h w ∧ Dfx Z0 a
section
variable {P : Program} {E : Env} {w0 : World} {Z0 : En}
theorem zbt (hE : EnvOk P E) (o : Oper) (ev : Operand → V) (H : List Ob) : OpS P o ev H (opV P E ev H o.op) := by
 have other := zmS P E.g o ev H
 obtain ⟨op, ho⟩ : ∃ op, o.op = op := ⟨_, rfl⟩
 rw [ho] at other ⊢
 cases op with
 | call c =>
  obtain ⟨callee, args, argTypes⟩ := c
  cases callee with
  | value f =>
   simp only [opV]
   split
   ·rename_i fid caps e1
    cases hn : E.nw fid with
    | none =>
     have old : OpS P o ev H (zKj (E.fn fid) (args.toList.map ev ++ caps) H) := by
      cases e : zKj (E.fn fid) (args.toList.map ev ++ caps) H with
      | bad => trivial
      | mk q ok v H' => exact ztu hE ho e1 e
     cases hn2 : E.ln fid with
     | none => simp only [zT0, hn, hn2]; exact old
     | some l =>
      simp only [zT0, hn, hn2]
      cases e : zPh l (args.toList.map ev ++ caps) H with
      | bad => exact old
      | mk q ok v H' => exact zrd hE ho e1 hn2 e
    | some d =>
     simp only [zT0, hn]
     cases e : zTp d (args.toList.map ev ++ caps) H with
     | bad => trivial
     | mk q ok v H' => exact zrt hE ho e1 hn e
   ·trivial
  | _ => exact other
 | _ => exact other
theorem S.put_h (s : S) (d : Option Tmp) (v : V) : (s.put d v).h = s.h := by cases d <;> rfl
theorem S.upd_h (s : S) (q : Nat) (H : List Ob) : (s.upd q H).h = H := by unfold S.upd; split <;> rfl
theorem zpd (hE : EnvOk P E) {o : Oper} (hd : NoF Z0 o.dst) {s : S} {q : Nat} {ok : Option Prop} {v : V} {H' : List Ob} (h : opV P E s.ev s.h o.op = .mk q ok v H') (hok : okP ok) {a : Act} {w : World} (hr : Rel w0 Z0 s a w)
  {K : Act → World → Prop} {Q : Exit → Act → World → Prop} (hK : ∀ x w', Rel w0 Z0 ((s.upd q H').put o.dst v) (a.put o.dst x) w' → K (a.put o.dst x) w') : o.wp P a w K Q := by
 obtain ⟨ρ, Z, h1, h2, h3, h4⟩ := hr
 have hs := zbt hE o s.ev s.h
 rw [h] at hs
 refine hs ρ Z w a h2 (fun x _ => h1.ev x) hok K Q fun ρ' Z' w' x hp hv => hK x w' ⟨ρ', Z', ?_, ?_, ?_, h4.put hd x⟩
 ·have := (h1.post hp h2).put o.dst hv H'
  have e : ({ r := (s.upd q H').r, h := H' } : S) = s.upd q H' := by unfold S.upd; split <;> rfl
  rw [e] at this; exact this
 ·have e : ((s.upd q H').put o.dst v).h = H' := by rw [S.put_h, S.upd_h]
  rw [e]; exact hp.hr
 ·have e : ((s.upd q H').put o.dst v).h = H' := by rw [S.put_h, S.upd_h]
  rw [e]; exact h3.post hp
theorem zpD {s : S} {a : Act} {w : World} (hr : Rel w0 Z0 s a w) (d : Option Tmp) (hd : NoF Z0 d) : Rel w0 Z0 (s.put d (.c undef)) (a.put d undef) w := by
 obtain ⟨ρ, Z, h1, h2, h3, h4⟩ := hr
 have e : (s.put d (.c undef)).h = s.h := by cases d <;> rfl
 refine ⟨ρ, Z, ?_, by rw [e]; exact h2, by rw [e]; exact h3, h4.put hd undef⟩
 have := h1.put d (v := .c undef) (.c undef trivial) s.h
 exact this
theorem zl1 {s : S} {a : Act} {w : World} (hr : Rel w0 Z0 s a w) {t : Nat} {b : Bool} (h : s.r.getD t .any = .c (.bool b)) : Rel w0 Z0 { s with r := s.r.set t (.c (.bool b)) } a w ∧ a.tmps[t]? = some (.bool b) := by
 obtain ⟨ρ, Z, h1, h2, h3, h4⟩ := hr
 have hv : s.r[t]? = some (.c (.bool b)) := by
  rw [List.getD_eq_getElem?_getD] at h
  cases e : s.r[t]? with
  | none => rw [e] at h; cases h
  | some v => rw [e] at h; simp at h; rw [h]
 have hc := x8 (h1.2 t _ hv)
 have hlt : t < a.tmps.size := by rw [← h1.1]; exact (List.getElem?_eq_some_iff.1 hv).1
 have hget : a.tmps[t]? = some (.bool b) := by
  rw [Array.getD_eq_getD_getElem?, Array.getElem?_eq_getElem hlt, Option.getD_some] at hc
  rw [Array.getElem?_eq_getElem hlt, hc]
 refine ⟨⟨ρ, Z, ⟨by simp [h1.1], fun t' v hv' => ?_⟩, h2, h3, h4⟩, hget⟩
 by_cases e : t = t'
 ·subst e
  simp only at hv'
  rw [List.getElem?_set_self (by rw [h1.1]; exact hlt)] at hv'
  cases hv'
  rw [Array.getD_eq_getD_getElem?, hget]
  exact .c _ trivial
 ·simp only at hv'
  rw [List.getElem?_set_ne e] at hv'
  exact h1.2 t' v hv'
theorem zmM {s : S} {a : Act} {w : World} (hr : Rel w0 Z0 s a w) {t : Nat} {vs : Array Value} (h : s.r.getD t .any = .c (.tuple vs)) : a.tmps.getD t undef = .tuple vs := by
 obtain ⟨ρ, Z, h1, h2, h3, h4⟩ := hr
 have hv : s.r[t]? = some (.c (.tuple vs)) := by
  rw [List.getD_eq_getElem?_getD] at h
  cases e : s.r[t]? with
  | none => rw [e] at h; cases h
  | some v => rw [e] at h; simp at h; rw [h]
 exact x8 (h1.2 t _ hv)
theorem zji {s : S} {a : Act} {w : World} (hr : Rel w0 Z0 s a w) {ops : Array Oper} {g t : Nat} {b : Bool} (ht : (ops[g]?).bind (·.dst) = some t) (h : s.r.getD t .any = .c (.bool b)) :
  Rel w0 Z0 { s with r := s.r.set t (.c (.bool b)) } a w ∧ yielded ops a.tmps g = some b := by
 obtain ⟨h1, h2⟩ := zl1 hr h
 exact ⟨h1, by simp [yielded, ht, h2]⟩
theorem zib (hE : EnvOk P E) (ops : Array Oper) (Q : Exit → Act → World → Prop) : ∀ (l : List Oper) (i : Nat) (ks : List Kr) (kn : List (Nat × Bool)) (s : S) (kS : List Kr → S → Prop),
  yW P E mdS ops i l ks kn s kS → zaa Z0 l → ∀ (a : Act) (w : World), Rel w0 Z0 s a w →
  (∀ ks' s' a' w', kS ks' s' → (∀ (R : Type) [Inhabited R] (k : List Kr → S → R), yW P E (mdV R) ops i l ks kn s k = k ks' s') → Rel w0 Z0 s' a' w' → Q .normal a' w') → wpList P ops Q l a w := by
 intro l
 induction l with
 | nil =>
  intro i ks kn s kS h _ a w hr hq
  exact hq ks s a w h (fun R _ k => rfl) hr
 | cons o rest ih =>
  intro i ks kn s kS h hx a w hr hq
  have run : ∀ (kn : List (Nat × Bool)) (s : S), Rel w0 Z0 s a w → Region.wanted o (yielded ops a.tmps) = true → (match opV P E s.ev s.h o.op with
     | .bad => False
     | .mk q ok v H => mdS.chk ok (yW P E mdS ops (i + 1) rest (zK5 i q o.op s.ev s.h v :: ks) kn ((s.upd q H).put o.dst v) kS)) →
    (∀ ks' s' a' w', kS ks' s' → (∀ (R : Type) [Inhabited R] (k : List Kr → S → R), (match opV P E s.ev s.h o.op with
     | .bad => default
     | .mk q ok v H => yW P E (mdV R) ops (i + 1) rest (zK5 i q o.op s.ev s.h v :: ks) kn ((s.upd q H).put o.dst v) k) = k ks' s') → Rel w0 Z0 s' a' w' → Q .normal a' w') →
    (if Region.wanted o (yielded ops a.tmps) = true then o.wp P a w (wpList P ops Q rest) Q ∨ (o.asks P a w ∧ LetsOut Q) else wpList P ops Q rest (a.put o.dst undef) w) := by
   intro kn s hr hw h hq
   rw [if_pos hw]
   left
   cases e : opV P E s.ev s.h o.op with
   | bad => rw [e] at h; exact h.elim
   | mk q ok v H' =>
    rw [e] at h
    simp only at h
    have hok : okP ok ∧ yW P E mdS ops (i + 1) rest (zK5 i q o.op s.ev s.h v :: ks) kn ((s.upd q H').put o.dst v) kS := by
     cases ok with
     | none => exact ⟨trivial, h⟩
     | some p => exact h
    refine zpd hE (hx o List.mem_cons_self) e hok.1 hr fun x w' hr' => ih (i + 1) _ kn _ kS hok.2 (fun o' h => hx o' (List.mem_cons_of_mem _ h)) _ w' hr' fun ks' s' a' w'' h1 h2 h3 => hq ks' s' a' w'' h1 (fun R _ k => ?_) h3
    rw [e]
    exact h2 R k
  have skip : ∀ (kn : List (Nat × Bool)) (s : S), Rel w0 Z0 s a w → ¬ Region.wanted o (yielded ops a.tmps) = true → yW P E mdS ops (i + 1) rest ks kn (s.put o.dst (.c undef)) kS →
    (∀ ks' s' a' w', kS ks' s' → (∀ (R : Type) [Inhabited R] (k : List Kr → S → R), yW P E (mdV R) ops (i + 1) rest ks kn (s.put o.dst (.c undef)) k = k ks' s') → Rel w0 Z0 s' a' w' → Q .normal a' w') →
    (if Region.wanted o (yielded ops a.tmps) = true then o.wp P a w (wpList P ops Q rest) Q ∨ (o.asks P a w ∧ LetsOut Q) else wpList P ops Q rest (a.put o.dst undef) w) := by
   intro kn s hr hw h hq
   rw [if_neg hw]
   exact ih (i + 1) ks kn _ kS h (fun o' h => hx o' (List.mem_cons_of_mem _ h)) _ w (zpD hr o.dst (hx o List.mem_cons_self)) hq
  unfold wpList
  simp only [yW] at h
  cases hg : o.guard with
  | none =>
   rw [hg] at h
   simp only at h
   exact run kn s hr (by simp [Region.wanted, hg]) h fun ks' s' a' w' h1 h2 h3 => hq ks' s' a' w' h1 (fun R _ k => by simp only [yW, hg]; exact h2 R k) h3
  | some gw =>
   obtain ⟨g, want⟩ := gw
   rw [hg] at h
   simp only at h
   cases ht : (ops[g]?).bind (·.dst) with
   | none => rw [ht] at h; exact h.elim
   | some t =>
    rw [ht] at h
    simp only at h
    have yes : yielded ops a.tmps g = some want → Region.wanted o (yielded ops a.tmps) = true := by intro e; simp [Region.wanted, hg, e]
    have no : yielded ops a.tmps g ≠ some want → ¬ Region.wanted o (yielded ops a.tmps) = true := by intro e; simp [Region.wanted, hg]; exact e
    cases hv : s.r.getD t .any with
    | c x =>
     rw [hv] at h
     cases x with
     | bool b =>
      obtain ⟨hk, hy⟩ := zji hr ht hv
      have open_ : (match (generalizing := false) want with
        | true => mdS.cnd b (match opV P E ({ s with r := s.r.set t (.c (.bool true)) } : S).ev s.h o.op with
          | .bad => mdS.bad
          | .mk q ok v H => mdS.chk ok (yW P E mdS ops (i + 1) rest (zK5 i q o.op ({ s with r := s.r.set t (.c (.bool true)) } : S).ev s.h v :: ks) ((t, true) :: kn) ((({ s with r := s.r.set t (.c (.bool true)) } : S).upd q H).put o.dst v) kS)) (yW P E mdS ops (i + 1) rest ks ((t, false) :: kn) (({ s with r := s.r.set t (.c (.bool false)) } : S).put o.dst (.c undef)) kS)
        | false => mdS.cnd b (yW P E mdS ops (i + 1) rest ks ((t, true) :: kn) (({ s with r := s.r.set t (.c (.bool true)) } : S).put o.dst (.c undef)) kS) (match opV P E ({ s with r := s.r.set t (.c (.bool false)) } : S).ev s.h o.op with
          | .bad => mdS.bad
          | .mk q ok v H => mdS.chk ok (yW P E mdS ops (i + 1) rest (zK5 i q o.op ({ s with r := s.r.set t (.c (.bool false)) } : S).ev s.h v :: ks) ((t, false) :: kn) ((({ s with r := s.r.set t (.c (.bool false)) } : S).upd q H).put o.dst v) kS))) →
        (∀ ks' s' a' w', kS ks' s' → (∀ (R : Type) [Inhabited R] (k : List Kr → S → R), (match (generalizing := false) want with
        | true => (mdV R).cnd b (match opV P E ({ s with r := s.r.set t (.c (.bool true)) } : S).ev s.h o.op with
          | .bad => (mdV R).bad
          | .mk q ok v H => (mdV R).chk ok (yW P E (mdV R) ops (i + 1) rest (zK5 i q o.op ({ s with r := s.r.set t (.c (.bool true)) } : S).ev s.h v :: ks) ((t, true) :: kn) ((({ s with r := s.r.set t (.c (.bool true)) } : S).upd q H).put o.dst v) k)) (yW P E (mdV R) ops (i + 1) rest ks ((t, false) :: kn) (({ s with r := s.r.set t (.c (.bool false)) } : S).put o.dst (.c undef)) k)
        | false => (mdV R).cnd b (yW P E (mdV R) ops (i + 1) rest ks ((t, true) :: kn) (({ s with r := s.r.set t (.c (.bool true)) } : S).put o.dst (.c undef)) k) (match opV P E ({ s with r := s.r.set t (.c (.bool false)) } : S).ev s.h o.op with
          | .bad => (mdV R).bad
          | .mk q ok v H => (mdV R).chk ok (yW P E (mdV R) ops (i + 1) rest (zK5 i q o.op ({ s with r := s.r.set t (.c (.bool false)) } : S).ev s.h v :: ks) ((t, false) :: kn) ((({ s with r := s.r.set t (.c (.bool false)) } : S).upd q H).put o.dst v) k))) = k ks' s') → Rel w0 Z0 s' a' w' → Q .normal a' w') →
        (if Region.wanted o (yielded ops a.tmps) = true then o.wp P a w (wpList P ops Q rest) Q ∨ (o.asks P a w ∧ LetsOut Q) else wpList P ops Q rest (a.put o.dst undef) w) := by
       intro h hq
       cases want <;> cases b <;> simp only [mdS, cond_true, cond_false] at h
       ·exact run _ _ hk (yes hy) h fun ks' s' a' w' h1 h2 h3 => hq ks' s' a' w' h1 (fun R _ k => h2 R k) h3
       ·exact skip _ _ hk (no (by rw [hy]; simp)) h fun ks' s' a' w' h1 h2 h3 => hq ks' s' a' w' h1 (fun R _ k => h2 R k) h3
       ·exact skip _ _ hk (no (by rw [hy]; simp)) h fun ks' s' a' w' h1 h2 h3 => hq ks' s' a' w' h1 (fun R _ k => h2 R k) h3
       ·exact run _ _ hk (yes hy) h fun ks' s' a' w' h1 h2 h3 => hq ks' s' a' w' h1 (fun R _ k => h2 R k) h3
      cases hkn : zU5 kn t with
      | none =>
       rw [hkn] at h
       exact open_ h fun ks' s' a' w' h1 h2 h3 => hq ks' s' a' w' h1 (fun R _ k => by simp only [yW, hg, ht, hv, hkn]; exact h2 R k) h3
      | some c =>
       rw [hkn] at h
       cases c <;> cases b
       ·cases want <;> simp only at h
        ·exact run kn s hr (yes hy) h fun ks' s' a' w' h1 h2 h3 => hq ks' s' a' w' h1 (fun R _ k => by simp only [yW, hg, ht, hv, hkn]; exact h2 R k) h3
        ·exact skip kn s hr (no (by rw [hy]; simp)) h fun ks' s' a' w' h1 h2 h3 => hq ks' s' a' w' h1 (fun R _ k => by simp only [yW, hg, ht, hv, hkn]; exact h2 R k) h3
       ·exact open_ h fun ks' s' a' w' h1 h2 h3 => hq ks' s' a' w' h1 (fun R _ k => by simp only [yW, hg, ht, hv, hkn]; exact h2 R k) h3
       ·exact open_ h fun ks' s' a' w' h1 h2 h3 => hq ks' s' a' w' h1 (fun R _ k => by simp only [yW, hg, ht, hv, hkn]; exact h2 R k) h3
       ·cases want <;> simp only at h
        ·exact skip kn s hr (no (by rw [hy]; simp)) h fun ks' s' a' w' h1 h2 h3 => hq ks' s' a' w' h1 (fun R _ k => by simp only [yW, hg, ht, hv, hkn]; exact h2 R k) h3
        ·exact run kn s hr (yes hy) h fun ks' s' a' w' h1 h2 h3 => hq ks' s' a' w' h1 (fun R _ k => by simp only [yW, hg, ht, hv, hkn]; exact h2 R k) h3
     | tuple vs =>
      have hu := zmM hr hv
      have hy : yielded ops a.tmps g ≠ some want := by
       simp only [yielded, ht, Option.bind_some]
       intro e
       split at e
       ·rename_i b hb
        rw [Array.getD_eq_getD_getElem?, hb] at hu
        cases hu
       ·cases e
      have h' : yW P E mdS ops (i + 1) rest ks kn (s.put o.dst (.c undef)) kS := by
       cases hkn : zU5 kn t with
       | none => rw [hkn] at h; exact h
       | some c => rw [hkn] at h; cases c <;> exact h
      refine skip kn s hr (no hy) h' fun ks' s' a' w' h1 h2 h3 => hq ks' s' a' w' h1 (fun R _ k => ?_) h3
      simp only [yW, hg, ht, hv]
      cases hkn : zU5 kn t with
      | none => exact h2 R k
      | some c => cases c <;> exact h2 R k
     | _ => cases hkn : zU5 kn t <;> rw [hkn] at h <;> first | exact h.elim | (rename_i c; cases c <;> exact h.elim)
    | _ => rw [hv] at h; cases hkn : zU5 kn t <;> rw [hkn] at h <;> first | exact h.elim | (rename_i c; cases c <;> exact h.elim)
end
end Go.Proofs.YtkdidadegedmiaaGreat
namespace Go.Proofs.YtkdidadegedmiaaGreat
open Go.RowKit
def Ex.out : Ex → Exit
 | .nrm => .normal
 | .exit id => .exit id
 | .ret => .ret
def zpE (P : Program) (w0 : World) (Z0 : En) (c : Code) (lp : LP) : Prop :=
 ∀ s a w, okP (lp.safe s) → Rel w0 Z0 s a w → ∀ Q : Exit → Act → World → Prop,
  (∀ e s' a' w', (∀ (R : Type) (k : Ex → S → R), lp.el s R k = k e s') → Rel w0 Z0 s' a' w' → Q e.out a' w') → (Code.loop c).wp P Q a w
def zEy (P : Program) (E : Env) (w0 : World) (Z0 : En) : Code → Nat → Prop
 | .seq a b, n => zEy P E w0 Z0 a n ∧ zEy P E w0 Z0 b (n + xj a)
 | .cond _ a b, n => zEy P E w0 Z0 a n ∧ zEy P E w0 Z0 b (n + xj a)
 | .block _ c, n => zEy P E w0 Z0 c n
 | .loop c, n => ∀ lp, E.lp n = some lp → zpE P w0 Z0 c lp
 | .region _ ops _, _ => zaa Z0 ops.toList
 | _, _ => True
def zbZ (P : Program) (E : Env) (w0 : World) (Z0 : En) : Prop :=
 ∀ (id : Nat) (ops : Array Oper) (s : S) (kS : S → Prop), zaa Z0 ops.toList → yW P E mdS (zIi ops) 0 (zIi ops).toList [] [] s (fun ks s' => if (!zV2 (zIi ops).toList ks) = true then False else kS s') → ∀ a w, Rel w0 Z0 s a w →
  ∀ Q : Exit → Act → World → Prop, (∀ s' a' w', kS s' → (∀ (R : Type) [Inhabited R] (k : S → R), yW P E (mdV R) (zIi ops) 0 (zIi ops).toList [] [] s (fun ks s' => if (!zV2 (zIi ops).toList ks) = true then default else k s') = k s') →
   Rel w0 Z0 s' a' w' → Q .normal a' w') → (Code.region id ops true).wp P Q a w
theorem zKZ {P : Program} {E : Env} {w0 : World} {Z0 : En} (hE : EnvOk P E) (hD : zbZ P E w0 Z0) : ∀ (c : Code) (n : Nat) (s : S) (kS : Ex → S → Prop), zEy P E w0 Z0 c n → evC P E mdS c n s kS → ∀ a w, Rel w0 Z0 s a w →
  ∀ Q : Exit → Act → World → Prop, (∀ e s' a' w', kS e s' → (∀ (R : Type) [Inhabited R] (k : Ex → S → R), evC P E (mdV R) c n s k = k e s') → Rel w0 Z0 s' a' w' → Q e.out a' w') → c.wp P Q a w := by
 intro c
 induction c with
 | skip => intro n s kS _ h a w hr Q hq; exact wp_skip (hq .nrm s a w h (fun R _ k => rfl) hr)
 | ret => intro n s kS _ h a w hr Q hq; exact wp_ret (hq .ret s a w h (fun R _ k => rfl) hr)
 | exit id => intro n s kS _ h a w hr Q hq; exact wp_exit (hq (.exit id) s a w h (fun R _ k => rfl) hr)
 | seq x y ihx ihy =>
  intro n s kS hl h a w hr Q hq
  refine wp_seq (ihx n s _ hl.1 h a w hr _ fun e s' a' w' h1 h2 h3 => ?_)
  cases e with
  | nrm => exact ihy _ s' kS hl.2 h1 a' w' h3 Q fun e s'' a'' w'' g1 g2 g3 => hq e s'' a'' w'' g1 (fun R _ k => (h2 R _).trans (g2 R k)) g3
  | exit id => exact hq (.exit id) s' a' w' h1 (fun R _ k => h2 R _) h3
  | ret => exact hq .ret s' a' w' h1 (fun R _ k => h2 R _) h3
 | cond c x y ihx ihy =>
  intro n s kS hl h a w hr Q hq
  simp only [evC] at h
  cases hv : s.ev c with
  | c x' =>
   rw [hv] at h
   cases x' with
   | bool b =>
    have hc : a.eval c = .bool b := by
     obtain ⟨ρ, Z, h1, _⟩ := hr
     have := h1.ev c
     rw [hv] at this
     exact x8 this
    cases b with
    | true =>
     simp only [mdS, cond_true] at h
     exact wp_cond_true hc (ihx n s kS hl.1 h a w hr Q fun e s' a' w' h1 h2 h3 => hq e s' a' w' h1 (fun R _ k => by simp only [evC, hv]; exact h2 R k) h3)
    | false =>
     simp only [mdS, cond_false] at h
     exact wp_cond_false hc (ihy _ s kS hl.2 h a w hr Q fun e s' a' w' h1 h2 h3 => hq e s' a' w' h1 (fun R _ k => by simp only [evC, hv]; exact h2 R k) h3)
   | _ => exact h.elim
  | _ => rw [hv] at h; exact h.elim
 | block id c ih =>
  intro n s kS hl h a w hr Q hq
  refine wp_block (ih n s _ hl h a w hr _ fun e s' a' w' h1 h2 h3 => ?_)
  cases e with
  | nrm => exact hq .nrm s' a' w' h1 (fun R _ k => h2 R _) h3
  | ret => exact hq .ret s' a' w' h1 (fun R _ k => h2 R _) h3
  | exit i =>
   show if i = id then Q .normal a' w' else Q (.exit i) a' w'
   simp only at h1
   split
   ·rename_i e
    rw [if_pos e] at h1
    exact hq .nrm s' a' w' h1 (fun R _ k => (h2 R _).trans (by simp only; rw [if_pos e])) h3
   ·rename_i e
    rw [if_neg e] at h1
    exact hq (.exit i) s' a' w' h1 (fun R _ k => (h2 R _).trans (by simp only; rw [if_neg e])) h3
 | loop c ih =>
  intro n s kS hl h a w hr Q hq
  simp only [evC] at h
  cases hlp : E.lp n with
  | none => rw [hlp] at h; exact h.elim
  | some lp =>
   rw [hlp] at h
   have h' : okP (lp.safe s) ∧ lp.el s Prop kS := by
    cases hs : lp.safe s with
    | none => simp only [mdS, hs] at h; exact ⟨trivial, h⟩
    | some p => simp only [mdS, hs] at h; exact h
   refine hl lp hlp s a w h'.1 hr Q fun e s' a' w' h1 h2 => hq e s' a' w' ?_ (fun R _ k => ?_) h2
   ·rw [← h1 Prop kS]; exact h'.2
   ·simp only [evC, hlp]
    exact h1 R k
 | region id ops draw =>
  intro n s kS hx h a w hr Q hq
  cases draw with
  | false =>
   refine wp_region_list (zib hE ops Q ops.toList 0 [] [] s _ h hx a w hr fun ks' s' a' w' h1 h2 h3 => ?_)
   exact hq .nrm s' a' w' h1 (fun R _ k => h2 R _) h3
  | true =>
   exact hD id ops s (kS .nrm) hx h a w hr Q fun s' a' w' h1 h2 h3 => hq .nrm s' a' w' h1 (fun R _ k => h2 R (k .nrm)) h3
 | _ => intro n s kS _ h; exact h.elim
end Go.Proofs.YtkdidadegedmiaaGreat
namespace Go.Proofs.YtkdidadegedmiaaGreat
open Go.RowKit
section
variable {P : Program} {E : Env} {R R' : Type} {md : Md R} {md' : Md R'} (r : R → R' → Prop) (hb : r md.bad md'.bad) (hc : ∀ p x y, r x y → r (md.chk p x) (md'.chk p y))
 (hn : ∀ (b : Bool) x x' y y', (b = true → r x x') → (b = false → r y y') → r (md.cnd b x y) (md'.cnd b x' y'))
include hb hc hn
theorem zoF (ops : Array Oper) : ∀ (l : List Oper) (i : Nat) (ks : List Kr) (kn : List (Nat × Bool)) (s : S) (k : List Kr → S → R) (k' : List Kr → S → R'), (∀ ks s, r (k ks s) (k' ks s)) →
  r (yW P E md ops i l ks kn s k) (yW P E md' ops i l ks kn s k') := by
 intro l
 induction l with
 | nil => intro i ks kn s k k' hk; exact hk _ _
 | cons o rest ih =>
  intro i ks kn s k k' hk
  have run : ∀ (kn : List (Nat × Bool)) (s : S), r (match opV P E s.ev s.h o.op with
     | .bad => md.bad
     | .mk q ok v H => md.chk ok (yW P E md ops (i + 1) rest (zK5 i q o.op s.ev s.h v :: ks) kn ((s.upd q H).put o.dst v) k)) (match opV P E s.ev s.h o.op with
     | .bad => md'.bad
     | .mk q ok v H => md'.chk ok (yW P E md' ops (i + 1) rest (zK5 i q o.op s.ev s.h v :: ks) kn ((s.upd q H).put o.dst v) k')) := by
   intro kn s
   cases opV P E s.ev s.h o.op with
   | bad => exact hb
   | mk q ok v H => exact hc _ _ _ (ih _ _ _ _ _ _ hk)
  simp only [yW]
  cases hg : o.guard with
  | none => exact run kn s
  | some gw =>
   obtain ⟨g, want⟩ := gw
   simp only
   cases ht : (ops[g]?).bind (·.dst) with
   | none => exact hb
   | some t =>
    simp only
    cases hkn : zU5 kn t with
    | none =>
     cases hv : s.r.getD t .any with
     | c x =>
      cases x with
      | bool b =>
       simp only
       cases want with
       | true => exact hn _ _ _ _ _ (fun _ => run _ _) (fun _ => ih _ _ _ _ _ _ hk)
       | false => exact hn _ _ _ _ _ (fun _ => ih _ _ _ _ _ _ hk) (fun _ => run _ _)
      | tuple vs => exact ih _ _ _ _ _ _ hk
      | _ => exact hb
     | _ => exact hb
    | some c =>
     cases hv : s.r.getD t .any with
     | c x =>
      cases x with
      | bool b =>
       cases c <;> cases b <;> cases want <;> simp only
       all_goals first
        | exact run _ _
        | exact ih _ _ _ _ _ _ hk
        | exact hn _ _ _ _ _ (fun _ => run _ _) (fun _ => ih _ _ _ _ _ _ hk)
        | exact hn _ _ _ _ _ (fun _ => ih _ _ _ _ _ _ hk) (fun _ => run _ _)
      | tuple vs => cases c <;> exact ih _ _ _ _ _ _ hk
      | _ => cases c <;> exact hb
     | _ => cases c <;> exact hb
theorem zkz : ∀ (c : Code) (n : Nat) (s : S) (k : Ex → S → R) (k' : Ex → S → R'), (∀ e s, r (k e s) (k' e s)) → r (evC P E md c n s k) (evC P E md' c n s k') := by
 intro c
 induction c with
 | skip => intro n s k k' hk; exact hk _ _
 | ret => intro n s k k' hk; exact hk _ _
 | exit id => intro n s k k' hk; exact hk _ _
 | seq x y ihx ihy =>
  intro n s k k' hk
  refine ihx n s _ _ fun e s' => ?_
  cases e with
  | nrm => exact ihy _ _ _ _ hk
  | exit id => exact hk _ _
  | ret => exact hk _ _
 | cond c x y ihx ihy =>
  intro n s k k' hk
  simp only [evC]
  cases hv : s.ev c with
  | c x' =>
   cases x' with
   | bool b => exact hn _ _ _ _ _ (fun _ => ihx _ _ _ _ hk) (fun _ => ihy _ _ _ _ hk)
   | _ => exact hb
  | _ => exact hb
 | block id c ih =>
  intro n s k k' hk
  refine ih n s _ _ fun e s' => ?_
  cases e with
  | nrm => exact hk _ _
  | ret => exact hk _ _
  | exit i => simp only; split <;> exact hk _ _
 | loop c ih =>
  intro n s k k' hk
  simp only [evC]
  cases hlp : E.lp n with
  | none => exact hb
  | some lp =>
   simp only
   obtain ⟨p, hp⟩ := lp.par s
   rw [hp, hp]
   exact hc _ _ _ (hk _ _)
 | region id ops draw =>
  intro n s k k' hk
  refine zoF r hb hc hn (zrV draw ops) _ _ _ _ _ _ _ fun ks s' => ?_
  split
  ·exact hb
  ·exact hk _ _
 | _ => intro n s k k' hk; exact hb
end
section
variable {P : Program} {E : Env}
theorem zWa {X : Type} (c : Code) (n : Nat) (s : S) (k : Ex → S → Tr X) (kS : Ex → S → Prop) (hk : ∀ e s, (k e s).ok → kS e s) (h : (evC P E (mdT X) c n s k).ok) : evC P E mdS c n s kS :=
 zkz (md := mdT X) (md' := mdS) (fun t p => t.ok → p) (fun h => h) (fun p x y h => by cases p with
  | none => exact h
  | some p => exact fun g => ⟨g.1, h g.2⟩) (fun b x x' y y' h1 h2 => by cases b with
  | true => exact h1 rfl
  | false => exact h2 rfl) c n s k kS hk h
theorem zR4 {X : Type} [Inhabited X] (c : Code) (n : Nat) (s : S) (k : Ex → S → Tr X) : (evC P E (mdT X) c n s k).val = evC P E (mdV X) c n s (fun e s => (k e s).val) :=
 zkz (md := mdT X) (md' := mdV X) (fun t p => t.val = p) rfl (fun p x y h => by cases p <;> exact h) (fun b x x' y y' h1 h2 => by cases b with
  | true => exact h1 rfl
  | false => exact h2 rfl) c n s k _ (fun _ _ => rfl)
end
end Go.Proofs.YtkdidadegedmiaaGreat
namespace Go.Proofs.YtkdidadegedmiaaGreat
open Go.RowKit
def xG (H : List Ob) : Eff → Prop
 | .bad => True
 | .mk q _ _ H' => H.length ≤ H'.length ∧ (q < 2 → ∃ obs, H' = H ++ obs) ∧ (q = 0 → H' = H)
def Eff.k0 : Eff → Prop
 | .bad => False
 | .mk q _ _ _ => q = 0
theorem xG.refl (H : List Ob) (q : Nat) (ok : Option Prop) (v : V) : xG H (.mk q ok v H) := ⟨Nat.le_refl _, fun _ => ⟨[], by simp⟩, fun _ => rfl⟩
theorem xG.app (H : List Ob) (q : Nat) (ok : Option Prop) (v : V) (x : Ob) (hq : q ≠ 0) : xG H (.mk q ok v (H ++ [x])) := ⟨by simp, fun _ => ⟨[x], rfl⟩, fun e => absurd e hq⟩
theorem zrr (wr : Bool) (op : BinOp) (k : IntKind) (a b : Int) (H : List Ob) : xG H (zU2 wr op k a b H) := by
 have r := xG.refl H
 unfold zU2 zeF
 cases op <;> cases wr <;> simp only [zmf, if_true, Bool.false_eq_true, if_false] <;> first | exact r _ _ _ | trivial
theorem zp9 (op : BinOp) (k : IntKind) (a b : Int) (H : List Ob) : xG H (shV op k a b H) := by
 have r := xG.refl H
 unfold shV
 cases op <;> first | exact r _ _ _ | trivial
theorem zrO (op : BinOp) (a b : ByteArray) (H : List Ob) : xG H (match zhz op a b with
   | some r => .mk 0 none (.c (.bool r)) H
   | none => .bad) := by
 have r := xG.refl H
 cases op <;> simp only [zhz] <;> first | exact r _ _ _ | trivial
theorem zrP (P : Program) (wr : Bool) (op : BinOp) (t : TypeId) (x y : V) (H : List Ob) : xG H (zTN P wr op t x y H) := by
 have r := xG.refl H
 unfold zTN
 split
 ·split
  ·exact zp9 _ _ _ _ _
  ·exact zp9 _ _ _ _ _
  ·split
   ·exact zrr _ _ _ _ _ _
   ·trivial
 ·split
  ·exact r _ _ _
  ·exact zrO _ _ _ _
 ·unfold eqV
  split
  ·trivial
  ·split
   ·cases op <;> first | exact r _ _ _ | trivial
   ·trivial
theorem zXj {s : OT} {n : Nat} {cs : List V} {H H1 : List Ob} {xs : List (El s.ty)} {os : List Nat} {q : Nat} (h : zTn s n cs H = some (xs, H1, os, q)) : H1.length = H.length ∧ (q < 2 → H1 = H ∧ os = []) ∧ q ≠ 0 := by
 unfold zTn at h
 split at h
 ·rename_i a H1' os' bs hp
  cases h
  unfold zPZ at hp
  simp only at hp
  split at hp
  ·split at hp
   ·simp only [Option.some.injEq, Prod.mk.injEq] at hp
    obtain ⟨_, h1, h2, _⟩ := hp
    refine ⟨by rw [← h1, zEZ], fun hq => ?_, ?_⟩
    ·obtain ⟨k1, k2⟩ := zo7.2 hq
     refine ⟨?_, k2⟩
     rw [List.isEmpty_iff] at k1
     rw [← h1, k1]; rfl
    ·unfold zCe
     split
     ·split
      ·cases (zEt false H (List.replicate n (.val true s)) (zDk (zO s.ty) n cs)).isEmpty <;> simp
      ·simp
     ·simp [ye]
   ·cases hp
  ·cases hp
 ·cases h
theorem zcq (P : Program) (g : Gv) (t : TypeId) (n : Nat) (parts : List (Nat × V)) (H : List Ob) : xG H (zdt P g t n parts H) ∧ ¬ (zdt P g t n parts H).k0 := by
 have bad : xG H .bad ∧ ¬ (Eff.bad).k0 := ⟨trivial, fun h => h⟩
 unfold zdt
 split
 ·split
  ·split
   ·exact ⟨xG.refl _ _ _ _, fun h => by simp [Eff.k0] at h⟩
   ·split
    ·split
     ·rename_i cs _
      split
      ·rename_i xs H1 os q htk
       obtain ⟨h1, h2, h3⟩ := zXj htk
       refine ⟨⟨by simp [xJ, h1], fun hq => ?_, fun hq => absurd hq h3⟩, h3⟩
       obtain ⟨rfl, rfl⟩ := h2 hq
       exact ⟨_, rfl⟩
      ·exact bad
     ·exact bad
    ·exact bad
  ·exact bad
 ·exact bad
theorem zeg (P : Program) (g : Gv) (t : TypeId) (s x : V) (H : List Ob) : xG H (ze2 P g t s x H) ∧ ¬ (ze2 P g t s x H).k0 := by
 have bad : xG H .bad ∧ ¬ (Eff.bad).k0 := ⟨trivial, fun h => h⟩
 unfold ze2
 split
 ·split
  ·split
   ·split
    ·split
     ·split
      ·split
       ·split
        ·exact bad
        ·exact ⟨⟨by simp [xJ], fun hq => by simp only [ye] at hq; omega, fun hq => by simp only [ye] at hq; omega⟩, fun h => by simp only [Eff.k0, ye] at h; omega⟩
       ·exact bad
      ·exact bad
     ·exact bad
    ·split
     ·split
      ·exact ⟨xG.app _ _ _ _ _ (by decide), fun h => by simp [Eff.k0] at h⟩
      ·exact ⟨⟨by simp [xJ], fun hq => by simp only [ye] at hq; omega, fun hq => by simp only [ye] at hq; omega⟩, fun h => by simp only [Eff.k0, ye] at h; omega⟩
      ·exact bad
     ·exact bad
   ·exact bad
  ·exact bad
 ·exact bad
theorem zds (P : Program) (t : TypeId) (o : Nat) (hi : Option V) (H : List Ob) : xG H (zdk P t o hi H) ∧ ¬ (zdk P t o hi H).k0 := by
 have bad : xG H .bad ∧ ¬ (Eff.bad).k0 := ⟨trivial, fun h => h⟩
 unfold zdk
 split
 ·split
  ·split
   ·exact ⟨⟨by simp [xJ], fun hq => by simp only [ye] at hq; omega, fun hq => by simp only [ye] at hq; omega⟩, fun h => by simp only [Eff.k0, ye] at h; omega⟩
   ·exact bad
  ·exact bad
 ·exact bad
theorem zoz (mx : Bool) (x y : V) (H : List Ob) : xG H (mmV mx x y H) := by
 unfold mmV
 split
 ·split
  ·exact xG.refl _ _ _ _
  ·trivial
 ·trivial
theorem zXt (P : Program) (t : TypeId) (o : Nat) (lo hi : Option V) (H : List Ob) : xG H (zPm P t o lo hi H) ∧ ¬ (zPm P t o lo hi H).k0 := by
 have bad : xG H .bad ∧ ¬ (Eff.bad).k0 := ⟨trivial, fun h => h⟩
 unfold zPm
 split
 ·split
  ·split
   ·exact ⟨xG.refl _ _ _ _, fun h => by simp [Eff.k0] at h⟩
   ·exact bad
  ·exact bad
 ·exact bad
theorem zdu (P : Program) (t : TypeId) (x : V) (H : List Ob) : xG H (zg2 P t x H) ∧ ¬ (zg2 P t x H).k0 := by
 have bad : xG H .bad ∧ ¬ (Eff.bad).k0 := ⟨trivial, fun h => h⟩
 unfold zg2
 split
 ·split
  ·split
   ·split
    ·split
     ·exact ⟨⟨by simp, fun hq => by simp only [yG] at hq; omega, fun hq => by simp only [yG] at hq; omega⟩, fun h => by simp only [Eff.k0, yG] at h; omega⟩
     ·exact bad
    ·exact bad
   ·exact bad
  ·exact bad
 ·exact bad
theorem zWf (P : Program) (t : TypeId) (x y : V) (H : List Ob) : xG H (zUL P t x y H) ∧ ¬ (zUL P t x y H).k0 := by
 have bad : xG H .bad ∧ ¬ (Eff.bad).k0 := ⟨trivial, fun h => h⟩
 unfold zUL
 split
 ·split
  ·split
   ·split
    ·exact ⟨⟨by simp [xJ], fun hq => by simp only [ye] at hq; omega, fun hq => by simp only [ye] at hq; omega⟩, fun h => by simp only [Eff.k0, ye] at h; omega⟩
    ·exact bad
   ·exact bad
  ·exact bad
 ·exact bad
theorem zbR {H H1 : List Ob} {s : OT} {o : Nat} {i : Int} {off k : Nat} (h : zcW H s o i off k = some H1) : H.length ≤ H1.length := by
 unfold zcW at h
 split at h
 ·split at h
  ·split at h
   ·cases h; simp
   ·cases h
  ·cases h
 ·cases h
theorem zlc {H H1 : List Ob} {s : OT} {o : Nat} {i : Int} {off k n : Nat} {e : Eff} (h1 : H.length ≤ H1.length) (h : xG H1 e) : xG H (zSx H s o i off k n e) ∧ ¬ (zSx H s o i off k n e).k0 := by
 have bad : xG H .bad ∧ ¬ (Eff.bad).k0 := ⟨trivial, fun h => h⟩
 unfold zSx
 split
 ·exact bad
 ·rename_i q ok v H'
  split
  ·split
   ·rename_i H2 os hu
    refine ⟨⟨?_, fun hq => by simp only [yG] at hq; omega, fun hq => by simp only [yG] at hq; omega⟩, fun h => by simp only [Eff.k0, yG] at h; omega⟩
    have : H2.length = H'.length := by
     unfold zdg at hu
     split at hu
     ·split at hu
      ·split at hu
       ·split at hu
        ·split at hu
         ·rename_i htk
          cases hu
          simp [xJ, (zXj htk).1]
         ·cases hu
        ·cases hu
       ·cases hu
      ·cases hu
     ·cases hu
    rw [List.length_map, this]
    exact Nat.le_trans h1 h.1
   ·exact bad
  ·exact bad
theorem zcP (P : Program) (t : TypeId) (o off : Nat) (vs : List V) (H : List Ob) : xG H (zL8 P t o off vs H) ∧ ¬ (zL8 P t o off vs H).k0 := by
 have bad : xG H .bad ∧ ¬ (Eff.bad).k0 := ⟨trivial, fun h => h⟩
 unfold zL8
 split
 ·split
  ·exact ⟨⟨by simp, fun hq => by omega, fun hq => by omega⟩, fun h => by simp [Eff.k0] at h⟩
  ·exact bad
 ·exact bad
theorem zTG (P : Program) (t : TypeId) (x y : V) (H : List Ob) : xG H (zOR P t x y H) ∧ ¬ (zOR P t x y H).k0 := by
 have bad : xG H .bad ∧ ¬ (Eff.bad).k0 := ⟨trivial, fun h => h⟩
 unfold zOR
 split
 ·split
  ·exact zcP _ _ _ _ _ _
  ·exact bad
 ·split
  ·rename_i H1 vs hf _
   exact zlc (zbR hf) (zcP _ _ _ _ _ _).1
  ·exact bad
 ·exact bad
theorem zqH {d : FnD} {args : List V} {H : List Ob} {e : Eff} (h : zTw d args H = some e) : xG H e ∧ ¬ e = .bad := by
 unfold zTw at h
 split at h
 ·cases h
 ·rename_i a H1 os bs hp
  unfold zPZ at hp
  simp only at hp
  split at hp
  ·split at hp
   ·simp only [Option.some.injEq, Prod.mk.injEq] at hp
    obtain ⟨_, h1, h2, h3⟩ := hp
    simp only [Option.some.injEq] at h
    subst h
    refine ⟨⟨?_, fun hq => ?_, fun hq => ?_⟩, by simp⟩
    ·rw [List.length_append, zOH, xJ, ← h1, zEZ]; exact Nat.le_add_right _ _
    ·unfold zCe at hq
     cases os with
     | cons x l => simp only [ye] at hq; omega
     | nil =>
      cases bs with
      | cons x l => simp only at hq; omega
      | nil =>
       simp only at hq
       cases hz : zEt d.flat H d.args args with
       | cons x l => rw [hz] at hq; simp at hq
       | nil =>
        rw [hz] at h1
        have : H1 = H := h1.symm
        subst this
        exact ⟨zCu d.res (d.F a), by simp only [zDg, zy]⟩
    ·unfold zCe at hq
     cases os with
     | cons x l => simp only [ye] at hq; omega
     | nil =>
      cases bs with
      | cons x l => simp only at hq; omega
      | nil =>
       simp only at hq
       cases hz : (zEt d.flat H d.args args).isEmpty <;> rw [hz] at hq <;> simp at hq
   ·cases hp
  ·cases hp
theorem zgn : ∀ (l : List FnD) (args : List V) (H : List Ob), xG H (zKa l args H) := by
 intro l
 induction l with
 | nil => intro args H; trivial
 | cons d l ih =>
  intro args H
  simp only [zKa]
  split
  ·rename_i e h; exact (zqH h).1
  ·exact ih args H
theorem zpV : ∀ (l : List FnD) (args : List V) (H : List Ob) (ok : Option Prop) (v : V) (H' : List Ob), zKa l args H ≠ .mk 0 ok v H' := by
 intro l
 induction l with
 | nil => intro args H ok v H' h; cases h
 | cons d l ih =>
  intro args H ok v H' h
  simp only [zKa] at h
  split at h
  ·rename_i e hc
   subst h
   unfold zTw at hc
   split at hc
   ·cases hc
   ·simp only [Option.some.injEq, Eff.mk.injEq] at hc
    obtain ⟨hq, _⟩ := hc
    unfold zCe at hq
    split at hq
    ·split at hq
     ·cases hz : (zEt d.flat H d.args args).isEmpty <;> rw [hz] at hq <;> simp at hq
     ·omega
    ·simp only [ye] at hq; omega
  ·exact ih args H ok v H' h
theorem zgM (l : List FnD) (args : List V) (H : List Ob) : xG H (zKj l args H) ∧ ¬ (zKj l args H).k0 := by
 have bad : xG H .bad ∧ ¬ (Eff.bad).k0 := ⟨trivial, fun h => h⟩
 unfold zKj
 split
 ·refine ⟨zgn _ _ _, fun h => ?_⟩
  cases e : zKa l args H with
  | bad => rw [e] at h; exact h
  | mk q ok v H' =>
   rw [e] at h
   have : q = 0 := h
   subst this
   exact zpV _ _ _ _ _ _ e
 ·split
  ·exact bad
  ·split
   ·rename_i H1 hf
    exact zlc (zbR hf) (zgn _ _ _)
   ·exact bad
theorem zoh (d : NwD) (args : List V) (H : List Ob) : xG H (zTp d args H) ∧ ¬ (zTp d args H).k0 := by
 unfold zTp
 split
 ·split
  ·exact ⟨xG.app _ _ _ _ _ (by decide), by simp [Eff.k0]⟩
  ·exact ⟨trivial, fun h => h⟩
 ·exact ⟨trivial, fun h => h⟩
theorem zos {H H3 : List Ob} {o : Nat} {s : OT} {q : Nat} {ok : Option Prop} {us : List V} (h : H.length ≤ H3.length) : xG H (zcE H.length o s q ok us H3) ∧ ¬ (zcE H.length o s q ok us H3).k0 := by
 have bad : xG H .bad ∧ ¬ (Eff.bad).k0 := ⟨trivial, fun h => h⟩
 unfold zcE
 split
 ·split
  ·split
   ·split
    ·exact ⟨⟨by simpa [zW9] using h, fun hq => by simp only [yG] at hq; omega, fun hq => by simp only [yG] at hq; omega⟩, fun h => by simp only [Eff.k0, yG] at h; omega⟩
    ·exact bad
   ·exact bad
  ·exact bad
 ·exact bad
theorem zpX (l : LnD) (args : List V) (H : List Ob) : xG H (zPh l args H) ∧ ¬ (zPh l args H).k0 := by
 have bad : xG H .bad ∧ ¬ (Eff.bad).k0 := ⟨trivial, fun h => h⟩
 unfold zPh
 split
 ·split
  ·split
   ·rename_i hp
    refine zos ?_
    rw [List.length_append, zOH, xJ]
    unfold zPZ at hp
    simp only at hp
    split at hp
    ·split at hp
     ·cases hp
      rw [zEZ]
      simp only [zMv, List.length_append, List.length_map, List.length_set]
      omega
     ·cases hp
    ·cases hp
   ·exact bad
  ·exact bad
 ·exact bad
theorem zWy (E : Env) (f : Nat) (args : List V) (H : List Ob) : xG H (zT0 E f args H) ∧ ¬ (zT0 E f args H).k0 := by
 unfold zT0
 split
 ·split
  ·exact zgM _ _ _
  ·rename_i l _
   have := zpX l args H
   split
   ·exact zgM _ _ _
   ·rename_i e; rw [e] at this; exact this
 ·exact zoh _ _ _
theorem ztY (P : Program) (g : Gv) (ev : Operand → V) (H : List Ob) (op : Op) : xG H (xT P g ev H op) := by
 have r := xG.refl H
 cases op with
 | move x => exact r _ _ _
 | assign x => exact r _ _ _
 | pick c x y => simp only [xT]; split; exact r _ _ _; trivial
 | alloc t => simp only [xT]; split; exact xG.app _ _ _ _ _ (by decide); trivial
 | box t x => simp only [xT]; split; exact xG.app _ _ _ _ _ (by decide); trivial
 | build t parts =>
  simp only [xT, zOL]
  split
  ·split
   ·split
    ·exact r _ _ _
    ·trivial
   ·trivial
  ·trivial
 | buildSlice t n parts => exact (zcq _ _ _ _ _ _).1
 | load t x =>
  simp only [xT]
  split
  ·split
   ·exact r _ _ _
   ·trivial
  ·trivial
 | store t x y => exact (zTG _ _ _ _ _).1
 | nilCheck x => simp only [xT]; split <;> first | exact r _ _ _ | trivial
 | binOp op t x y u => exact zrP _ _ _ _ _ _ _
 | unOp op t x => simp only [xT, unV]; split <;> first | exact r _ _ _ | trivial
 | convert s d x =>
  simp only [xT]
  split
  ·unfold zf9
   repeat' split
   all_goals first | exact r _ _ _ | trivial
  ·simp only [zUF]; split <;> first | exact r _ _ _ | trivial
 | makeFunc fn first caps =>
  cases fn with
  | func f => simp only [xT]; split; exact r _ _ _; trivial
  | _ => trivial
 | makeSlice t x y =>
  simp only [xT, zUt]
  split
  ·split
   ·split
    ·split
     ·exact xG.app _ _ _ _ _ (by decide)
     ·trivial
    ·trivial
   ·trivial
  ·trivial
 | slice t x lo hi mx =>
  cases mx with
  | none =>
   simp only [xT]
   split
   ·split
    ·exact (zXt _ _ _ _ _ _).1
    ·exact (zds _ _ _ _ _).1
   simp only [zIq]
   split
   ·split
    ·split
     ·exact r _ _ _
     ·trivial
    ·trivial
   ·split
    ·split
     ·split
      ·exact r _ _ _
      ·trivial
     ·trivial
    ·trivial
   ·trivial
  | some m => trivial
 | fieldAddr t x f =>
  simp only [xT]
  split
  ·split
   ·trivial
   ·split
    ·exact r _ _ _
    ·trivial
  ·trivial
 | field t x f =>
  simp only [xT]
  split
  ·split
   ·exact r _ _ _
   ·trivial
  ·trivial
 | indexAddr t x y =>
  simp only [xT, zCR]
  split
  ·split
   ·exact r _ _ _
   ·trivial
  ·split
   ·split
    ·exact r _ _ _
    ·trivial
   ·split
    ·exact r _ _ _
    ·trivial
   ·trivial
  ·trivial
 | index t x y => simp only [xT, zhL]; split <;> first | exact r _ _ _ | trivial
 | extract x i =>
  simp only [xT]
  split
  ·split
   ·exact r _ _ _
   ·trivial
  ·trivial
 | call c =>
  obtain ⟨callee, args, argTypes⟩ := c
  cases callee with
  | builtin b =>
   cases b with
   | len =>
    simp only [xT]
    split
    ·unfold zQJ
     split
     ·exact r _ _ _
     ·exact r _ _ _
     ·exact r _ _ _
     ·exact r _ _ _
     ·split
      ·exact r _ _ _
      ·exact r _ _ _
      ·trivial
     ·trivial
    ·trivial
   | append =>
    simp only [xT]
    split
    ·split
     ·split
      ·exact (zWf _ _ _ _ _).1
      ·exact (zeg _ _ _ _ _ _).1
     ·trivial
    ·trivial
   | max => simp only [xT]; split; exact zoz _ _ _ _; trivial
   | min => simp only [xT]; split; exact zoz _ _ _ _; trivial
   | clear =>
    simp only [xT]
    split
    ·exact (zdu _ _ _ _).1
    ·trivial
   | _ => trivial
  | _ => trivial
 | _ => trivial
theorem zdy (P : Program) (E : Env) (ev : Operand → V) (H : List Ob) (op : Op) : xG H (opV P E ev H op) := by
 have other := ztY P E.g ev H op
 cases op with
 | call c =>
  obtain ⟨callee, args, argTypes⟩ := c
  cases callee with
  | value f =>
   simp only [opV]
   split
   ·exact (zWy _ _ _ _).1
   ·trivial
  | _ => exact other
 | _ => exact other
def Eff.setH (H2 : List Ob) : Eff → Eff
 | .bad => .bad
 | .mk q ok v _ => .mk q ok v H2
theorem zqX (wr : Bool) (op : BinOp) (k : IntKind) (a b : Int) (H H2 : List Ob) : zU2 wr op k a b H2 = (zU2 wr op k a b H).setH H2 := by
 unfold zU2 zeF
 cases op <;> cases wr <;> simp only [zmf, if_true, Bool.false_eq_true, if_false] <;> rfl
theorem zoe (op : BinOp) (a b : ByteArray) (H H2 : List Ob) : (match zhz op a b with
   | some r => Eff.mk 0 none (.c (.bool r)) H2
   | none => .bad) = (match zhz op a b with
   | some r => Eff.mk 0 none (.c (.bool r)) H
   | none => .bad).setH H2 := by
 cases op <;> simp only [zhz] <;> rfl
theorem zpH (P : Program) (wr : Bool) (op : BinOp) (t : TypeId) (x y : V) (H H2 : List Ob) : zTN P wr op t x y H2 = (zTN P wr op t x y H).setH H2 := by
 unfold zTN
 split
 ·split
  ·rfl
  ·rfl
  ·split
   ·exact zqX _ _ _ _ _ _ _
   ·rfl
 ·split
  ·rfl
  ·exact zoe _ _ _ _ _
 ·unfold eqV
  split
  ·rfl
  ·split
   ·cases op <;> rfl
   ·rfl
theorem zf2 (mx : Bool) (x y : V) (H H2 : List Ob) : mmV mx x y H2 = (mmV mx x y H).setH H2 := by
 unfold mmV
 split
 ·split <;> rfl
 ·rfl
theorem zpQ {P : Program} {g : Gv} {ev : Operand → V} {H H2 : List Ob} {op : Op} (h : (xT P g ev H op).k0) : xT P g ev H2 op = (xT P g ev H op).setH H2 := by
 cases op with
 | move x => rfl
 | assign x => rfl
 | pick c x y => simp only [xT]; split <;> rfl
 | alloc t => simp only [xT] at h; split at h <;> first | exact h.elim | (simp [Eff.k0] at h)
 | box t x => simp only [xT] at h; split at h <;> first | exact h.elim | (simp [Eff.k0] at h)
 | build t parts =>
  simp only [xT, zOL]
  split
  ·split
   ·split <;> rfl
   ·rfl
  ·rfl
 | buildSlice t n parts => exact absurd h (zcq _ _ _ _ _ _).2
 | load t x =>
  simp only [xT] at h
  split at h
  ·split at h
   ·simp [Eff.k0] at h
   ·exact h.elim
  ·exact h.elim
 | store t x y => exact absurd h (zTG _ _ _ _ _).2
 | nilCheck x => simp only [xT]; split <;> rfl
 | binOp op t x y u => exact zpH _ _ _ _ _ _ _ _
 | unOp op t x => simp only [xT, unV]; split <;> rfl
 | convert s d x =>
  simp only [xT] at h ⊢
  split at h
  ·unfold zf9 at h
   repeat' split at h
   all_goals first | exact h.elim | (simp [Eff.k0] at h)
  ·simp only [zUF]; split <;> rfl
 | makeFunc fn first caps =>
  cases fn with
  | func f => simp only [xT]; split <;> rfl
  | _ => rfl
 | makeSlice t x y =>
  simp only [xT, zUt] at h
  split at h
  ·split at h
   ·split at h
    ·split at h
     ·simp [Eff.k0] at h
     ·exact h.elim
    ·exact h.elim
   ·exact h.elim
  ·exact h.elim
 | slice t x lo hi mx =>
  cases mx with
  | none =>
   simp only [xT] at h ⊢
   split at h
   ·split at h
    ·exact absurd h (zXt _ _ _ _ _ _).2
    ·exact absurd h (zds _ _ _ _ _).2
   clear h
   simp only [zIq]
   split
   ·split
    ·split <;> rfl
    ·rfl
   ·split
    ·split
     ·split <;> rfl
     ·rfl
    ·rfl
   ·rfl
  | some m => rfl
 | fieldAddr t x f =>
  simp only [xT]
  split
  ·split
   ·rfl
   ·split <;> rfl
  ·rfl
 | field t x f =>
  simp only [xT]
  split
  ·split <;> rfl
  ·rfl
 | indexAddr t x y =>
  simp only [xT, zCR] at h
  split at h
  ·split at h
   ·simp [Eff.k0] at h
   ·exact h.elim
  ·split at h
   ·split at h
    ·simp [Eff.k0] at h
    ·exact h.elim
   ·split at h
    ·simp [Eff.k0] at h
    ·exact h.elim
   ·exact h.elim
  ·exact h.elim
 | index t x y => simp only [xT, zhL]; split <;> rfl
 | extract x i =>
  simp only [xT]
  split
  ·split <;> rfl
  ·rfl
 | call c =>
  obtain ⟨callee, args, argTypes⟩ := c
  cases callee with
  | builtin b =>
   cases b with
   | len =>
    simp only [xT] at h ⊢
    split at h
    ·rename_i x t e1 e2
     unfold zQJ at h ⊢
     split at h
     ·rename_i e3 e4; first | rfl | (simp only [e3, e4]; rfl)
     ·simp [Eff.k0] at h
     ·rename_i e3 e4; first | rfl | (simp only [e3, e4]; rfl)
     ·rename_i e3 e4; first | rfl | (simp only [e3, e4]; rfl)
     ·split at h
      ·simp [Eff.k0] at h
      ·simp [Eff.k0] at h
      ·exact h.elim
     ·exact h.elim
    ·exact h.elim
   | append =>
    simp only [xT] at h
    split at h
    ·split at h
     ·split at h
      ·exact absurd h (zWf _ _ _ _ _).2
      ·exact absurd h (zeg _ _ _ _ _ _).2
     ·exact h.elim
    ·exact h.elim
   | max => simp only [xT]; split; exact zf2 _ _ _ _ _; rfl
   | min => simp only [xT]; split; exact zf2 _ _ _ _ _; rfl
   | clear =>
    simp only [xT] at h
    split at h
    ·exact absurd h (zdu _ _ _ _).2
    ·exact h.elim
   | _ => rfl
  | _ => rfl
 | _ => rfl
theorem zXh {P : Program} {E : Env} {ev : Operand → V} {H H2 H' : List Ob} {op : Op} {ok : Option Prop} {v : V} (h : opV P E ev H op = .mk 0 ok v H') : opV P E ev H2 op = .mk 0 ok v H2 := by
 have other : xT P E.g ev H op = .mk 0 ok v H' → xT P E.g ev H2 op = .mk 0 ok v H2 := by
  intro h
  have := zpQ (H2 := H2) (P := P) (g := E.g) (ev := ev) (H := H) (op := op) (by rw [h]; rfl)
  rw [this, h]; rfl
 cases op with
 | call c =>
  obtain ⟨callee, args, argTypes⟩ := c
  cases callee with
  | value f =>
   simp only [opV] at h
   split at h
   ·rename_i f caps _
    have := (zWy E f (args.toList.map ev ++ caps) H).2
    rw [h] at this
    exact absurd rfl this
   ·cases h
  | _ => exact other h
 | _ => exact other h
end Go.Proofs.YtkdidadegedmiaaGreat
namespace Go.Proofs.YtkdidadegedmiaaGreat
open Go.RowKit
def zPd (ops : Array Oper) (i : Nat) : List Nat := (zjm ops.toList []).getD i []
def Clo (ops : Array Oper) (A : Nat → Prop) : Prop := ∀ (i : Nat) (o : Oper), ops[i]? = some o → A i → ∀ e ∈ o.after, Region.binds .any e = true → A e.on
theorem zjX {ops : Array Oper} {A : Nat → Prop} (hA : Clo ops A) : ∀ (l : List Oper) (acc : List (List Nat)), (∀ k, l[k]? = ops[acc.length + k]?) →
  (∀ (i : Nat) (b : List Nat), acc[i]? = some b → ∀ o, ops[i]? = some o → (∀ e ∈ o.after, Region.binds .any e = true → A e.on) → ∀ j ∈ b, A j) →
  ∀ (i : Nat) (b : List Nat), (zjm l acc)[i]? = some b → ∀ o, ops[i]? = some o → (∀ e ∈ o.after, Region.binds .any e = true → A e.on) → ∀ j ∈ b, A j := by
 intro l
 induction l with
 | nil => intro acc _ h; exact h
 | cons o rest ih =>
  intro acc hl h
  simp only [zjm]
  refine ih _ (fun k => ?_) (fun i b hb o' ho' hp j hj => ?_)
  ·have := hl (k + 1)
   simp only [List.getElem?_cons_succ] at this
   rw [this, List.length_append]
   congr 1
   simp; omega
  ·by_cases hi : i < acc.length
   ·rw [List.getElem?_append_left hi] at hb
    exact h i b hb o' ho' hp j hj
   ·have hlt := (List.getElem?_eq_some_iff.1 hb).1
    simp at hlt
    obtain rfl : i = acc.length := by omega
    rw [List.getElem?_append_right (Nat.le_refl _)] at hb
    simp at hb
    subst hb
    have ho : ops[acc.length]? = some o := by have := hl 0; simpa using this.symm
    rw [ho] at ho'; cases ho'
    rw [List.mem_flatMap] at hj
    obtain ⟨e, he, hj⟩ := hj
    rw [List.mem_filter] at he
    have hm : e ∈ o.after := by simpa using he.1
    have hAe := hp e hm he.2
    rcases List.mem_cons.1 hj with rfl | hj
    ·exact hAe
    ·cases hb : acc[e.on]? with
     | none => rw [hb] at hj; simp at hj
     | some b =>
      rw [hb] at hj
      have hlt := (List.getElem?_eq_some_iff.1 hb).1
      have hs : acc.length < ops.size := (Array.getElem?_eq_some_iff.1 ho).1
      have he : ops[e.on]? = some ops[e.on] := Array.getElem?_eq_getElem (by omega)
      exact h e.on b hb _ he (hA e.on _ he hAe) j hj
theorem zXs {ops : Array Oper} {A : Nat → Prop} (hA : Clo ops A) {i : Nat} {o : Oper} (ho : ops[i]? = some o) (hp : ∀ e ∈ o.after, Region.binds .any e = true → A e.on) : ∀ j ∈ zPd ops i, A j := by
 intro j hj
 unfold zPd at hj
 rw [List.getD_eq_getElem?_getD] at hj
 cases hb : (zjm ops.toList [])[i]? with
 | none => rw [hb] at hj; simp at hj
 | some b =>
  rw [hb] at hj
  exact zjX hA ops.toList [] (fun k => by simp) (fun i b h => by simp at h) i b hb o ho hp j hj
structure Ord (ops : Array Oper) (ks : List Kr) : Prop where
 dst : ∀ (i j : Nat) (o o' : Oper) (d : Tmp), ops[i]? = some o → ops[j]? = some o' → o'.dst = some d → (o.dst = some d → i = j) ∧ (d ∈ o.looksAt ops → (j < i ∧ j ∈ zPd ops i) ∨ (i < j ∧ i ∈ zPd ops j))
 on : ∀ (i : Nat) (o : Oper), ops[i]? = some o → ∀ e ∈ o.after, Region.binds .any e = true → e.on < i
 bar : ∀ j ∈ ks, 2 ≤ j.q → ∀ r ∈ ks, r.i = j.i ∨ (r.i < j.i ∧ r.i ∈ zPd ops j.i) ∨ (j.i < r.i ∧ j.i ∈ zPd ops r.i) ∨ zA5 r j = true
theorem zhN {ops : Array Oper} {ks : List Kr} (h : zV2 ops.toList ks = true) : Ord ops ks := by
 unfold zV2 at h
 simp only [Bool.and_eq_true ((ops.toList.zipIdx.all _) && _), Bool.and_eq_true (ops.toList.zipIdx.all _)] at h
 obtain ⟨⟨h1, h2⟩, h3⟩ := h
 have hzip : ∀ (i : Nat) (o : Oper), ops[i]? = some o → (o, i) ∈ ops.toList.zipIdx := by
  intro i o ho
  rw [List.mem_iff_getElem?]
  exact ⟨i, by rw [List.getElem?_zipIdx]; simp [ho]⟩
 have ord : ∀ i j : Nat, (decide (i < j) && ((zjm ops.toList []).getD j []).contains i) = true → i < j ∧ i ∈ zPd ops j := by
  intro i j h
  simpa [zPd] using h
 refine ⟨fun i j o o' d ho ho' hd => ?_, fun i o ho e he hb => ?_, fun j hj hk r hr => ?_⟩
 ·have k1 := List.all_eq_true.1 h1 (o, i) (hzip i o ho)
  have k2 := List.all_eq_true.1 k1 (d, j) (by
   rw [List.mem_filterMap]
   exact ⟨(o', j), hzip j o' ho', by simp [hd]⟩)
  rw [Bool.and_eq_true, Bool.or_eq_true, Bool.or_eq_true, Bool.or_eq_true] at k2
  refine ⟨fun e => ?_, fun e => ?_⟩
  ·rcases k2.1 with k | k
   ·rw [e] at k; simp at k
   ·simpa using k
  ·rcases k2.2 with (k | k) | k
   ·have : (o.looksAt ops).contains d = true := by simpa using e
    rw [this] at k; cases k
   ·exact .inl (ord _ _ k)
   ·exact .inr (ord _ _ k)
 ·have k1 := List.all_eq_true.1 h2 (o, i) (hzip i o ho)
  have k2 := List.all_eq_true.1 k1 e (by simpa using he)
  simp only [Bool.or_eq_true, Bool.not_eq_true', decide_eq_true_eq] at k2
  exact k2.resolve_left (by rw [hb]; simp)
 ·have k1 := List.all_eq_true.1 h3 j hj
  rw [Bool.or_eq_true, decide_eq_true_eq] at k1
  have k2 := List.all_eq_true.1 (k1.resolve_left (by omega)) r hr
  rw [Bool.or_eq_true, Bool.or_eq_true, Bool.or_eq_true] at k2
  rcases k2 with ((k | k) | k) | k
  ·exact .inl (by simpa using k)
  ·exact .inr (.inl (ord _ _ k))
  ·exact .inr (.inr (.inl (ord _ _ k)))
  ·exact .inr (.inr (.inr k))
def gw (ops : Array Oper) (s : S) (o : Oper) : Option Bool := match o.guard with
 | none => some true
 | some (g, want) => match (ops[g]?).bind (·.dst) with
  | none => none
  | some t => match s.r.getD t .any with
   | .c (.bool b) => some (b == want)
   | .c (.tuple _) => some false
   | _ => none
def zty (P : Program) (E : Env) (ops : Array Oper) (i : Nat) (o : Oper) (s s' : S) (x : Option Kr) : Prop :=
 (∃ q ok v H, x = some (zK5 i q o.op s.ev s.h v) ∧ gw ops s o = some true ∧ opV P E s.ev s.h o.op = .mk q ok v H ∧ okP ok ∧ s' = (s.upd q H).put o.dst v) ∨
 (x = none ∧ gw ops s o = some false ∧ s' = s.put o.dst (.c undef))
theorem zqt {s : S} {t : Nat} {x : Value} (h : s.r.getD t .any = .c x) : ({ s with r := s.r.set t (.c x) } : S) = s := by
 have hv : s.r[t]? = some (.c x) := by
  rw [List.getD_eq_getElem?_getD] at h
  cases e : s.r[t]? with
  | none => rw [e] at h; cases h
  | some v => rw [e] at h; simp at h; rw [h]
 obtain ⟨r, hh⟩ := s
 simp only at hv ⊢
 congr 1
 apply List.ext_getElem?
 intro i
 by_cases e : t = i
 ·subst e
  rw [List.getElem?_set_self (List.getElem?_eq_some_iff.1 hv).1, hv]
 ·rw [List.getElem?_set_ne e]
section
variable {P : Program} {E : Env} {w0 : World} {Z0 : En}
def zVs (P : Program) (E : Env) (ops : Array Oper) (i : Nat) (l : List Oper) (ks : List Kr) (kn : List (Nat × Bool)) (s : S) (kS : List Kr → S → Prop) : Prop :=
 ∃ (st : Nat → S) (info : Nat → Option Kr) (ks' : List Kr), st i = s ∧ (∀ (k : Nat) (o : Oper), l[k]? = some o → zty P E ops (i + k) o (st (i + k)) (st (i + k + 1)) (info (i + k))) ∧ kS ks' (st (i + l.length)) ∧
  (∀ (R : Type) [Inhabited R] (k : List Kr → S → R), yW P E (mdV R) ops i l ks kn s k = k ks' (st (i + l.length))) ∧ (∀ p ∈ ks, p ∈ ks') ∧ (∀ (k : Nat) (r : Kr), k < l.length → info (i + k) = some r → r ∈ ks')
theorem chain (ops : Array Oper) : ∀ (l : List Oper) (i : Nat) (ks : List Kr) (kn : List (Nat × Bool)) (s : S) (kS : List Kr → S → Prop), yW P E mdS ops i l ks kn s kS → zVs P E ops i l ks kn s kS := by
  intro l
  induction l with
  | nil =>
    intro i ks kn s kS h
    exact ⟨fun _ => s, fun _ => none, ks, rfl, by intro k o h; simp at h, h, fun R _ k => rfl, fun p h => h, by intro k q h; simp at h⟩
  | cons o rest ih =>
    intro i ks kn s kS h
    have cons : ∀ (s1 : S) (x : Option Kr) (ks1 : List Kr) (kn1 : List (Nat × Bool)), zty P E ops i o s s1 x → (∀ p ∈ ks, p ∈ ks1) → (∀ q, x = some q → q ∈ ks1) → yW P E mdS ops (i + 1) rest ks1 kn1 s1 kS →
        (∀ (R : Type) [Inhabited R] (k : List Kr → S → R), yW P E (mdV R) ops i (o :: rest) ks kn s k = yW P E (mdV R) ops (i + 1) rest ks1 kn1 s1 k) →
        zVs P E ops i (o :: rest) ks kn s kS := by
      intro s1 x ks1 kn1 hs h1 h2 he hv
      obtain ⟨st, info, ks', g1, g2, g3, g4, g5, g6⟩ := ih (i + 1) ks1 kn1 s1 kS he
      have hst : ∀ m, i < m → (if m ≤ i then s else st m) = st m := fun m hm => by rw [if_neg (by omega)]
      have hin : ∀ m, i < m → (if m ≤ i then x else info m) = info m := fun m hm => by rw [if_neg (by omega)]
      have hlen : i + (o :: rest).length = i + 1 + rest.length := by simp; omega
      refine ⟨fun m => if m ≤ i then s else st m, fun m => if m ≤ i then x else info m, ks', by simp, fun k o' hk => ?_, ?_, fun R _ k => ?_, fun p hp => g5 p (h1 p hp), fun k q hk hq => ?_⟩
      · cases k with
        | zero =>
          simp at hk
          subst hk
          simp only [Nat.add_zero, Nat.le_refl, if_true]
          rw [hst (i + 1) (by omega), g1]
          exact hs
        | succ k =>
          have := g2 k o' (by simpa using hk)
          simp only
          rw [hst (i + (k + 1)) (by omega), hst (i + (k + 1) + 1) (by omega), hin (i + (k + 1)) (by omega)]
          rwa [show i + 1 + k = i + (k + 1) by omega] at this
      · simp only
        rw [hst _ (by simp), hlen]; exact g3
      · simp only
        rw [hst _ (by simp), hlen, hv R k, g4 R k]
      · cases k with
        | zero =>
          simp only [Nat.add_zero, Nat.le_refl, if_true] at hq
          exact g5 _ (h2 q hq)
        | succ k =>
          simp only at hq
          rw [hin (i + (k + 1)) (by omega)] at hq
          exact g6 k q (by simpa using hk) (by rwa [show i + 1 + k = i + (k + 1) by omega])
    have run : ∀ (kn1 : List (Nat × Bool)), gw ops s o = some true → (match opV P E s.ev s.h o.op with
          | .bad => False
          | .mk q ok v H => mdS.chk ok (yW P E mdS ops (i + 1) rest (zK5 i q o.op s.ev s.h v :: ks) kn1 ((s.upd q H).put o.dst v) kS)) →
        (∀ (R : Type) [Inhabited R] (k : List Kr → S → R), yW P E (mdV R) ops i (o :: rest) ks kn s k = (match opV P E s.ev s.h o.op with
          | .bad => default
          | .mk q ok v H => yW P E (mdV R) ops (i + 1) rest (zK5 i q o.op s.ev s.h v :: ks) kn1 ((s.upd q H).put o.dst v) k)) → zVs P E ops i (o :: rest) ks kn s kS := by
      intro kn1 hg h hv
      cases e : opV P E s.ev s.h o.op with
      | bad => rw [e] at h; exact h.elim
      | mk q ok v H =>
        rw [e] at h
        simp only at h
        have hok : okP ok ∧ yW P E mdS ops (i + 1) rest (zK5 i q o.op s.ev s.h v :: ks) kn1 ((s.upd q H).put o.dst v) kS := by
          cases ok with
          | none => exact ⟨trivial, h⟩
          | some p => exact h
        exact cons _ (some (zK5 i q o.op s.ev s.h v)) (zK5 i q o.op s.ev s.h v :: ks) kn1 (.inl ⟨q, ok, v, H, rfl, hg, e, hok.1, rfl⟩) (fun p hp => List.mem_cons_of_mem _ hp) (fun q' e' => by cases e'; simp) hok.2 (fun R _ k => by rw [hv R k, e])
    have skip : ∀ (kn1 : List (Nat × Bool)), gw ops s o = some false → yW P E mdS ops (i + 1) rest ks kn1 (s.put o.dst (.c undef)) kS →
        (∀ (R : Type) [Inhabited R] (k : List Kr → S → R), yW P E (mdV R) ops i (o :: rest) ks kn s k = yW P E (mdV R) ops (i + 1) rest ks kn1 (s.put o.dst (.c undef)) k) → zVs P E ops i (o :: rest) ks kn s kS :=
      fun kn1 hg h hv => cons _ none ks kn1 (.inr ⟨rfl, hg, rfl⟩) (fun p hp => hp) (fun q e => by cases e) h hv
    simp only [yW] at h
    cases hg : o.guard with
    | none =>
      rw [hg] at h
      simp only at h
      exact run kn (by simp [gw, hg]) h fun R _ k => by simp only [yW, hg]; rfl
    | some p =>
      obtain ⟨g, want⟩ := p
      rw [hg] at h
      simp only at h
      cases ht : (ops[g]?).bind (·.dst) with
      | none => rw [ht] at h; exact h.elim
      | some t =>
        rw [ht] at h
        simp only at h
        cases hv : s.r.getD t .any with
        | c x =>
          rw [hv] at h
          cases x with
          | bool b =>
            have hgw : gw ops s o = some (b == want) := by simp only [gw, hg, ht, hv]
            have hsame := zqt hv
            cases hkn : zU5 kn t with
            | none =>
              rw [hkn] at h
              cases want <;> cases b <;> simp only [mdS, cond_true, cond_false] at h
              · rw [hsame] at h
                exact run _ hgw h fun R _ k => by simp only [yW, hg, ht, hv, hkn, mdV, cond_false, hsame]; rfl
              · rw [hsame] at h
                exact skip _ hgw h fun R _ k => by simp only [yW, hg, ht, hv, hkn, mdV, cond_true, hsame]
              · rw [hsame] at h
                exact skip _ hgw h fun R _ k => by simp only [yW, hg, ht, hv, hkn, mdV, cond_false, hsame]
              · rw [hsame] at h
                exact run _ hgw h fun R _ k => by simp only [yW, hg, ht, hv, hkn, mdV, cond_true, hsame]; rfl
            | some c =>
              rw [hkn] at h
              cases c <;> cases want <;> cases b <;> simp only [mdS, cond_true, cond_false] at h <;> first
                | (rw [hsame] at h
                   exact run _ hgw h fun R _ k => by simp only [yW, hg, ht, hv, hkn, mdV, cond_true, cond_false, hsame]; rfl)
                | (rw [hsame] at h
                   exact skip _ hgw h fun R _ k => by simp only [yW, hg, ht, hv, hkn, mdV, cond_true, cond_false, hsame])
                | exact run _ hgw h fun R _ k => by simp only [yW, hg, ht, hv, hkn]; rfl
                | exact skip _ hgw h fun R _ k => by simp only [yW, hg, ht, hv, hkn]
          | tuple vs =>
            have hgw : gw ops s o = some false := by simp only [gw, hg, ht, hv]
            have h' : yW P E mdS ops (i + 1) rest ks kn (s.put o.dst (.c undef)) kS := by
              cases hkn : zU5 kn t with
              | none => rw [hkn] at h; exact h
              | some c => rw [hkn] at h; cases c <;> exact h
            refine skip kn hgw h' fun R _ k => ?_
            simp only [yW, hg, ht, hv]
          | _ => cases hkn : zU5 kn t <;> rw [hkn] at h <;> first | exact h.elim | (rename_i c; cases c <;> exact h.elim)
        | _ => rw [hv] at h; cases hkn : zU5 kn t <;> rw [hkn] at h <;> first | exact h.elim | (rename_i c; cases c <;> exact h.elim)
end
end Go.Proofs.YtkdidadegedmiaaGreat
namespace Go.Proofs.YtkdidadegedmiaaGreat
open Go.RowKit
def yH.upto (ρ : yH) (m : Nat) : yH := fun o => if o < m then ρ o else none
theorem yH.upto_le {ρ : yH} {m : Nat} : ∀ o p, (ρ.upto m) o = some p → ρ o = some p := by
 intro o p e; unfold yH.upto at e; split at e; exact e; cases e
theorem yH.upto_lt {ρ : yH} {m o : Nat} {p : Pl} (h : ρ o = some p) (hm : o < m) : (ρ.upto m) o = some p := by unfold yH.upto; rw [if_pos hm]; exact h
theorem yH.upto_dom {ρ : yH} {m o : Nat} {p : Pl} (h : (ρ.upto m) o = some p) : o < m := by unfold yH.upto at h; split at h; assumption; cases h
inductive Wf (m : Nat) : V → Prop
 | any : Wf m .any
 | c (x : Value) : Wf m (.c x)
 | nil0 : Wf m .nil0
 | ext {q : Nat} (t : Ty) (l : List (El t)) (h : q ≤ m) : Wf m (.ext q t l)
 | ept {q : Nat} (t : Ty) (l : List (El t)) (i : Int) (off : Nat) (h : q ≤ m) : Wf m (.ept q t l i off)
 | ptr {o off : Nat} (h : o < m) : Wf m (.ptr o off)
 | obj {o : Nat} (h : o < m) : Wf m (.obj o)
 | opt {s : OT} {o off : Nat} {i : Int} (h : o < m) : Wf m (.opt s o i off)
 | sl {s : OT} {o : Nat} {a b : Int} (h : o < m) : Wf m (.sl s o a b)
 | agg {vs : List V} (h : ∀ u ∈ vs, Wf m u) : Wf m (.agg vs)
 | tup {vs : List V} (h : ∀ u ∈ vs, Wf m u) : Wf m (.tup vs)
 | fn {f : Nat} {vs : List V} (h : ∀ u ∈ vs, Wf m u) : Wf m (.fn f vs)
 | bx {vs : List V} {off : Nat} (h : ∀ u ∈ vs, Wf m u) : Wf m (.bx vs off)
theorem Wf.mono {m n : Nat} {v : V} (h : Wf m v) (hm : m ≤ n) : Wf n v := by
 induction h with
 | any => exact .any
 | c x => exact .c x
 | nil0 => exact .nil0
 | ext t l h => exact .ext t l (by omega)
 | ept t l i off h => exact .ept t l i off (by omega)
 | ptr h => exact .ptr (by omega)
 | obj h => exact .obj (by omega)
 | opt h => exact .opt (by omega)
 | sl h => exact .sl (by omega)
 | agg _ ih => exact .agg ih
 | tup _ ih => exact .tup ih
 | fn _ ih => exact .fn ih
 | bx _ ih => exact .bx ih
section
variable {P : Program} {E : Env} {ρ ρ' ρ0 : yH} {Z Z' : Zs} {H H' Hs : List Ob} {w w' w0 : World} {Z0 : En}
theorem zOC {vs : List V} {xs : List Value} {p : V → Value → Prop} (hl : xs.length = vs.length) (h : ∀ (i : Nat) (u : V) (y : Value), vs[i]? = some u → xs[i]? = some y → p u y) : ∀ u ∈ vs, ∃ y, p u y := by
 intro u hu
 obtain ⟨i, hi⟩ := List.mem_iff_getElem?.1 hu
 have hlt : i < xs.length := by rw [hl]; exact (List.getElem?_eq_some_iff.1 hi).1
 exact ⟨_, h i u _ hi (List.getElem?_eq_getElem hlt)⟩
theorem Qk.wf {q m : Nat} (h : Qk ρ q) (hd : ∀ o p, ρ o = some p → o < m) : q ≤ m := by
 cases q with
 | zero => omega
 | succ o => obtain ⟨p, e⟩ := h o rfl; have := hd o p e; omega
theorem Qk.upto {q m : Nat} (h : Qk ρ q) (hm : q ≤ m) : Qk (ρ.upto m) q := by
 intro o e
 obtain ⟨p, g⟩ := h o e
 exact ⟨p, yH.upto_lt g (by omega)⟩
theorem Bk.upto {q m b : Nat} (h : Bk ρ Z q b) (hm : q ≤ m) : Bk (ρ.upto m) Z q b := by
 rcases h with h | ⟨o, p, e, g, k⟩
 ·exact .inl h
 ·exact .inr ⟨o, p, e, yH.upto_lt g (by omega), k⟩
theorem Cn.wf {v : V} {x : Value} {m : Nat} (h : Cn ρ Z w v x) (hd : ∀ o p, ρ o = some p → o < m) : Wf m v := by
 induction h with
 | any x => exact .any
 | c x => exact .c x
 | nil0 a => exact .nil0
 | ext ys hq => exact .ext _ _ (hq.wf hd)
 | ept ys hq => exact .ept _ _ _ _ (hq.wf hd)
 | ptr h => exact .ptr (hd _ _ h)
 | obj h _ => exact .obj (hd _ _ h)
 | opt h _ _ => exact .opt (hd _ _ h)
 | sl h _ _ _ _ => exact .sl (hd _ _ h)
 | agg h0 _ ih => exact .agg fun u hu => (zOC h0 ih u hu).elim fun _ h => h
 | tup h0 _ ih => exact .tup fun u hu => (zOC h0 ih u hu).elim fun _ h => h
 | fn h0 _ ih => exact .fn fun u hu => (zOC h0 ih u hu).elim fun _ h => h
 | bx h0 h1 h2 _ ih =>
  rename_i xs _
  refine .bx fun u hu => ?_
  obtain ⟨i, hi⟩ := List.mem_iff_getElem?.1 hu
  have hlt := (List.getElem?_eq_some_iff.1 hi).1
  exact ih i u _ hi (Array.getElem?_eq_getElem (by omega))
theorem zeD {q m : Nat} (hm : q ≤ m) : ∀ (t : Ty) (x : El t), ∀ u ∈ enc q t x, Wf m u
 | .int, _, u, h => by simp [enc] at h; subst h; exact .c _
 | .u8, _, u, h => by simp [enc] at h; subst h; exact .c _
 | .bool, _, u, h => by simp [enc] at h; subst h; exact .c _
 | .str, _, u, h => by simp [enc] at h; subst h; exact .c _
 | .lst t, l, u, h => by simp [enc] at h; subst h; exact .ext t l hm
 | .pr a b, x, u, h => by
  simp only [enc, List.mem_append] at h
  rcases h with h | h
  ·exact zeD hm a x.1 u h
  ·exact zeD hm b x.2 u h
theorem Cn.upto {v : V} {x : Value} {m : Nat} (h : Cn ρ Z w v x) (hw : Wf m v) : Cn (ρ.upto m) Z w v x := by
 induction h with
 | any x => exact .any x
 | c x h => exact .c x h
 | nil0 a => exact .nil0 a
 | ext ys hq h0 h1 h2 h3 h4 h5 h6 ih => cases hw with | ext _ _ hm => exact .ext ys (hq.upto hm) h0 h1 h2 h3 (h4.imp id fun h => ⟨h.1, h.2.upto hm⟩) h5 fun i x j u hx hu => ih i x j u hx hu (zeD hm _ _ u (List.mem_of_getElem? hu))
 | ept ys hq h0 h4 h5 h6 ih => cases hw with | ept _ _ _ _ hm => exact .ept ys (hq.upto hm) h0 (h4.upto hm) h5 fun i x j u hx hu => ih i x j u hx hu (zeD hm _ _ u (List.mem_of_getElem? hu))
 | ptr h => cases hw with | ptr hm => exact .ptr (yH.upto_lt h hm)
 | obj h hx => cases hw with | obj hm => exact .obj (yH.upto_lt h hm) hx
 | opt h hx h0 => cases hw with | opt hm => exact .opt (yH.upto_lt h hm) hx h0
 | sl h hx h0 h1 h2 => cases hw with | sl hm => exact .sl (yH.upto_lt h hm) hx h0 h1 h2
 | agg h0 _ ih => cases hw with | agg hm => exact .agg h0 fun i u y hu hy => ih i u y hu hy (hm u (List.mem_of_getElem? hu))
 | tup h0 _ ih => cases hw with | tup hm => exact .tup h0 fun i u y hu hy => ih i u y hu hy (hm u (List.mem_of_getElem? hu))
 | fn h0 _ ih => cases hw with | fn hm => exact .fn h0 fun i u y hu hy => ih i u y hu hy (hm u (List.mem_of_getElem? hu))
 | bx h0 h1 h2 _ ih => cases hw with | bx hm => exact .bx h0 h1 h2 fun i u y hu hy => ih i u y hu hy (hm u (List.mem_of_getElem? hu))
theorem Wf.scrub0 {m o : Nat} {v : V} (h : Wf m v) : Wf m (scrub0 o v) := by
 cases h with
 | c x => exact .c x
 | nil0 => exact .nil0
 | any => exact .any
 | ext t l h =>
  rename_i q
  cases q with
  | zero => exact .ext t l h
  | succ q => simp only [Go.Proofs.YtkdidadegedmiaaGreat.scrub0]; split; exact .any; exact .ext t l h
 | ptr h => simp only [Go.Proofs.YtkdidadegedmiaaGreat.scrub0]; split; exact .any; exact .ptr h
 | obj h => simp only [Go.Proofs.YtkdidadegedmiaaGreat.scrub0]; split; exact .any; exact .obj h
 | opt h => simp only [Go.Proofs.YtkdidadegedmiaaGreat.scrub0]; split; exact .any; exact .opt h
 | sl h => simp only [Go.Proofs.YtkdidadegedmiaaGreat.scrub0]; split; exact .any; exact .sl h
 | bx h => simp only [Go.Proofs.YtkdidadegedmiaaGreat.scrub0]; split; exact .bx h; exact .any
 | _ => exact .any
theorem Wf.scrub {m o : Nat} {v : V} (h : Wf m v) : Wf m (scrub o v) := by
 have inner : ∀ vs : List V, (∀ u ∈ vs, Wf m u) → ∀ u ∈ vs.map (Go.Proofs.YtkdidadegedmiaaGreat.scrub0 o), Wf m u := by
  intro vs h u hu
  obtain ⟨u', h1, rfl⟩ := List.mem_map.1 hu
  exact (h u' h1).scrub0
 cases h with
 | agg h => exact .agg (inner _ h)
 | tup h => exact .tup (inner _ h)
 | fn h => exact .fn (inner _ h)
 | bx h => exact .bx (inner _ h)
 | c x => exact Wf.scrub0 (o := o) (.c x)
 | nil0 => exact Wf.scrub0 (o := o) .nil0
 | any => exact Wf.scrub0 (o := o) .any
 | ext t l h => exact Wf.scrub0 (o := o) (.ext t l h)
 | ept => exact .any
 | ptr h => exact Wf.scrub0 (o := o) (.ptr h)
 | obj h => exact Wf.scrub0 (o := o) (.obj h)
 | opt h => exact Wf.scrub0 (o := o) (.opt h)
 | sl h => exact Wf.scrub0 (o := o) (.sl h)
theorem zoB {m : Nat} {v : V} {vs : List V} (h : Wf m v) (hv : zKD v = some vs) : ∀ u ∈ vs, Wf m u := by
 unfold zKD at hv
 split at hv
 ·cases hv; cases h with | agg h => exact h
 ·cases hv
  intro u hu
  obtain ⟨x, _, rfl⟩ := List.mem_map.1 hu
  exact .c x
 ·split at hv
  ·cases hv; intro u hu; simp at hu; subst hu; exact h
  ·cases hv
theorem zpj {m : Nat} (place : Nat → Option (Nat × Nat)) : ∀ (parts : List (Nat × V)) (zs cs : List V), (∀ u ∈ zs, Wf m u) → (∀ p ∈ parts, Wf m p.2) → zNh place zs parts = some cs → ∀ u ∈ cs, Wf m u := by
 intro parts
 induction parts with
 | nil => intro zs cs h _ e; cases e; exact h
 | cons p parts ih =>
  intro zs cs h hp e
  obtain ⟨i, v⟩ := p
  simp only [zNh] at e
  split at e
  ·rename_i off size vs e1 e2
   split at e
   ·refine ih _ cs (fun u hu => ?_) (fun p hp' => hp p (List.mem_cons_of_mem _ hp')) e
    rcases List.mem_append.1 hu with hu | hu
    ·rcases List.mem_append.1 hu with hu | hu
     ·exact h u (List.mem_of_mem_take hu)
     ·exact zoB (hp (i, v) (by simp)) e2 u hu
    ·exact h u (List.mem_of_mem_drop hu)
   ·cases e
  ·cases e
theorem zqT {m : Nat} {t : TypeId} {cs : List V} {off : Nat} {v : V} (h : ∀ u ∈ cs, Wf m u) (hp : zKr P t cs off = some v) : Wf m v := by
 unfold zKr at hp
 split at hp
 ·split at hp
  ·cases hp; exact .agg fun u hu => h u (List.mem_of_mem_drop (List.mem_of_mem_take hu))
  ·cases hp
 ·exact h v (List.mem_of_getElem? hp)
 ·cases hp
theorem zs9 {wr : Bool} {op : BinOp} {t : TypeId} {x y : V} {q : Nat} {ok : Option Prop} {v : V} {m : Nat} (h : zTN P wr op t x y H = .mk q ok v H') : Wf m v := by
 have hi : ∀ {op : BinOp} {k : IntKind} {a b : Int}, zU2 wr op k a b H = .mk q ok v H' → Wf m v := by
  intro op k a b h
  unfold zU2 zeF at h
  cases op <;> cases wr <;> simp only [zmf, if_true, Bool.false_eq_true, if_false] at h <;> cases h <;> exact .c _
 unfold zTN at h
 split at h
 ·split at h
  ·simp only [shV] at h; cases h; exact .c _
  ·simp only [shV] at h; cases h; exact .c _
  ·split at h
   ·exact hi h
   ·cases h
 ·split at h
  ·cases h; exact .c _
  ·split at h
   ·cases h; exact .c _
   ·cases h
 ·unfold eqV at h
  split at h
  ·cases h
  ·split at h
   ·cases op <;> simp only at h <;> first | (cases h; exact .c _) | cases h
   ·cases h
theorem ztj {ev : Operand → V} {op : Op} {ok : Option Prop} {v : V} {m : Nat} (h : opV P E ev H op = .mk 0 ok v H') (hx : ∀ x ∈ op.operands, Wf m (ev x)) : Wf m v := by
 have other : xT P E.g ev H op = .mk 0 ok v H' → Wf m v := by
  intro h
  have hk : (xT P E.g ev H op).k0 := by rw [h]; rfl
  cases op with
  | move x => cases h; exact hx x (by simp [Op.operands])
  | assign x => cases h; exact hx x (by simp [Op.operands])
  | pick c x y =>
   simp only [xT] at h
   split at h
   ·rename_i q _
    cases h
    have h1 := hx x (by simp [Op.operands])
    have h2 := hx y (by simp [Op.operands])
    unfold zrD
    split
    ·split
     ·exact .c _
     ·cases q <;> exact .c _
    ·exact .c _
    ·exact .c _
    ·cases q
     ·exact h2
     ·exact h1
   ·cases h
  | build t parts =>
   simp only [xT, zOL] at h
   split at h
   ·split at h
    ·rename_i e3 _
     obtain ⟨_, z, _, _, _, rfl, _⟩ := zA7 e3
     split at h
     ·rename_i cs e
      cases h
      refine .agg (zpj _ _ _ cs (fun u hu => ?_) (fun p hp => ?_) e)
      ·obtain ⟨x, _, rfl⟩ := List.mem_map.1 hu
       exact .c x
      ·obtain ⟨q, hq, rfl⟩ := List.mem_map.1 hp
       exact hx q.2 (by simp only [Op.operands]; simp; exact ⟨q.1, by simpa using hq⟩)
     ·cases h
    ·cases h
   ·cases h
  | nilCheck x =>
   have h1 := hx x (by simp [Op.operands])
   simp only [xT] at h
   split at h
   ·rename_i e; cases h; rw [e] at h1; exact h1
   ·rename_i e; cases h; rw [e] at h1; exact h1
   ·rename_i e; cases h; rw [e] at h1; exact h1
   ·rename_i e; cases h; rw [e] at h1; exact h1
   ·cases h
  | binOp op t x y u =>
   simp only [xT] at h
   exact zs9 h
  | unOp op t x => simp only [xT, unV] at h; split at h <;> cases h <;> exact .c _
  | convert s d x =>
   simp only [xT] at h
   split at h
   ·unfold zf9 at h
    repeat' split at h
    all_goals cases h
   ·simp only [zUF] at h; split at h <;> cases h <;> exact .c _
  | makeFunc fn first caps =>
   cases fn with
   | func f =>
    simp only [xT] at h
    split at h
    ·cases h
     refine .fn fun u hu => ?_
     obtain ⟨x, hx', rfl⟩ := List.mem_map.1 hu
     exact hx x (by simp only [Op.operands]; simp; exact .inr (by simpa using hx'))
    ·cases h
   | _ => cases h
  | slice t x lo hi mx =>
   cases mx with
   | none =>
    simp only [xT] at h
    split at h
    ·split at h
     ·exact absurd (by rw [h]; rfl) (zXt _ _ _ _ _ _).2
     ·exact absurd (by rw [h]; rfl) (zds _ _ _ _ _).2
    simp only [zIq] at h
    split at h
    ·split at h
     ·split at h
      ·cases h; exact .c _
      ·cases h
     ·cases h
    ·split at h
     ·split at h
      ·split at h
       ·cases h
       ·cases h
      ·cases h
     ·cases h
    ·cases h
   | some m => cases h
  | fieldAddr t x f =>
   have h1 := hx x (by simp [Op.operands])
   simp only [xT] at h
   split at h
   ·split at h
    ·cases h
    ·split at h
     ·rename_i u e
      cases h
      generalize ev x = y at h1 e
      cases h1 with
      | ptr hm => cases e; exact .ptr hm
      | bx hm => cases e; exact .bx hm
      | ept _ _ _ _ hm => cases e; exact .ept _ _ _ _ hm
      | opt hm => cases e; exact .opt hm
      | _ => cases e
     ·cases h
   ·cases h
  | field t x f =>
   have h1 := hx x (by simp [Op.operands])
   simp only [xT] at h
   split at h
   ·rename_i off u cs e1 e2
    split at h
    ·rename_i v' e3
     cases h
     rw [e2] at h1
     cases h1 with
     | agg h1 => exact zqT h1 e3
    ·cases h
   ·cases h
  | index t x y => simp only [xT, zhL] at h; split at h <;> cases h <;> exact .c _
  | extract x i =>
   have h1 := hx x (by simp [Op.operands])
   simp only [xT] at h
   split at h
   ·rename_i vs e
    split at h
    ·rename_i v' e'
     cases h
     rw [e] at h1
     cases h1 with
     | tup h1 => exact h1 _ (List.mem_of_getElem? e')
    ·cases h
   ·cases h
  | call c =>
   obtain ⟨callee, args, argTypes⟩ := c
   cases callee with
   | builtin b =>
    cases b with
    | len =>
     simp only [xT] at h
     split at h
     ·unfold zQJ at h
      split at h
      ·cases h; exact .c _
      ·cases h
      ·cases h; exact .c _
      ·cases h; exact .c _
      ·split at h <;> cases h
      ·cases h
     ·cases h
    | append =>
     simp only [xT] at hk
     split at hk
     ·split at hk
      ·split at hk
       ·exact absurd hk (zWf _ _ _ _ _).2
       ·exact absurd hk (zeg _ _ _ _ _ _).2
      ·exact hk.elim
     ·exact hk.elim
    | max =>
     simp only [xT, mmV] at h
     repeat' split at h
     all_goals first | (cases h; exact .c _) | cases h
    | min =>
     simp only [xT, mmV] at h
     repeat' split at h
     all_goals first | (cases h; exact .c _) | cases h
    | clear =>
     simp only [xT] at hk
     split at hk
     ·exact absurd hk (zdu _ _ _ _).2
     ·exact hk.elim
    | _ => cases h
   | _ => cases h
  | alloc t => simp only [xT] at h; split at h <;> cases h
  | box t x => simp only [xT] at h; split at h <;> cases h
  | buildSlice t n parts => exact absurd hk (zcq _ _ _ _ _ _).2
  | load t x => simp only [xT] at h; split at h; split at h <;> cases h; cases h
  | store t x y => exact absurd hk (zTG _ _ _ _ _).2
  | makeSlice t x y =>
   simp only [xT, zUt] at h
   split at h
   ·split at h
    ·split at h
     ·split at h <;> cases h
     ·cases h
    ·cases h
   ·cases h
  | indexAddr t x y =>
   simp only [xT, zCR] at h
   split at h
   ·split at h <;> cases h
   ·split at h
    ·split at h <;> cases h
    ·split at h <;> cases h
    ·cases h
   ·cases h
  | _ => cases h
 cases op with
 | call c =>
  obtain ⟨callee, args, argTypes⟩ := c
  cases callee with
  | value f =>
   have := zXh (H2 := H) h
   simp only [opV] at h
   split at h
   ·rename_i f caps _
    have := (zWy E f (args.toList.map ev ++ caps) H).2
    rw [h] at this
    exact absurd rfl this
   ·cases h
  | _ => exact other h
 | _ => exact other h
end
end Go.Proofs.YtkdidadegedmiaaGreat
namespace Go.Proofs.YtkdidadegedmiaaGreat
open Go.RowKit
section
variable {P : Program} {E : Env}
theorem zd8 {H H2 : List Ob} {v : V} (h : ∀ o ∈ names v, H2[o]? = H[o]?) : zGQ H2 v = zGQ H v := by
 cases v with
 | ptr o off => simp only [zGQ]; rw [h o (by simp [names, names1, names0])]
 | opt s o i off => simp only [zGQ]; rw [h o (by simp [names, names1, names0])]
 | _ => rfl
theorem zpn {ev : Operand → V} {op : Op} {H H' : List Ob} {q : Nat} {ok : Option Prop} {v : V} (h : opV P E ev H op = .mk q ok v H') (hr : rdr q op = true) : H' = H ∧ ∀ H2, (∀ x ∈ op.operands, ∀ o ∈ names (ev x), H2[o]? = H[o]?) → opV P E ev H2 op = .mk q ok v H2 := by
 have zero : q = 0 → H' = H ∧ ∀ H2, (∀ x ∈ op.operands, ∀ o ∈ names (ev x), H2[o]? = H[o]?) → opV P E ev H2 op = .mk q ok v H2 := by
  intro hq
  subst hq
  have hk := zdy P E ev H op
  rw [h] at hk
  exact ⟨hk.2.2 rfl, fun H2 _ => zXh h⟩
 cases op with
 | load t a =>
  simp only [opV, xT] at h
  split at h
  ·rename_i cs off e
   split at h
   ·rename_i w e2
    cases h
    refine ⟨rfl, fun H2 hs => ?_⟩
    simp only [opV, xT]
    rw [zd8 (hs a (by simp [Op.operands])), e]
    simp only [e2]
   ·cases h
  ·cases h
 | indexAddr t x i =>
  simp only [opV, xT] at h
  unfold zCR at h
  split at h
  ·rename_i e1 e2 e3
   split at h
   ·rename_i e4
    cases h
    refine ⟨rfl, fun H2 hs => ?_⟩
    simp only [opV, xT, zCR, e1, e2, e3, if_pos e4]
   ·cases h
  ·rename_i e o i' e1 e2 e3
   split at h
   ·rename_i s l e4
    split at h
    ·rename_i e5
     cases h
     refine ⟨rfl, fun H2 hs => ?_⟩
     have := hs x (by simp [Op.operands]) o (by rw [e2]; simp [names, names1, names0])
     simp only [opV, xT, zCR, e1, e2, e3, this, e4, if_pos e5]
    ·cases h
   ·rename_i τ l e4
    split at h
    ·rename_i e5
     cases h
     refine ⟨rfl, fun H2 hs => ?_⟩
     have := hs x (by simp [Op.operands]) o (by rw [e2]; simp [names, names1, names0])
     simp only [opV, xT, zCR, e1, e2, e3, this, e4, if_pos e5]
    ·cases h
   ·cases h
  ·cases h
 | slice t x lo hi mx =>
  cases mx with
  | some m => cases h
  | none =>
   simp only [opV, xT] at h
   split at h
   ·rename_i ob e2
    split at h
    ·rename_i hg
     unfold zPm at h
     split at h
     rotate_left
     ·cases h
     rename_i e s l e1 e6
     split at h
     rotate_left
     ·cases h
     rename_i a b e3 e4
     split at h
     rotate_left
     ·cases h
     rename_i hk
     cases h
     refine ⟨rfl, fun H2 hs => ?_⟩
     have := hs x (by simp [Op.operands]) ob (by rw [e2]; simp [names, names1, names0])
     simp only [opV, xT, e2, hg, zPm, e1, this, e6, e3, e4, if_pos hk]
    ·have hq : q < 2 := by simpa [rdr] using hr
     unfold zdk at h
     split at h
     ·split at h
      ·split at h
       ·cases h; simp only [ye] at hq; omega
       ·cases h
      ·cases h
     ·cases h
   rename_i hno
   have hset : ∀ H2, zIq P t (ev x) (lo.map ev) (hi.map ev) H2 = (zIq P t (ev x) (lo.map ev) (hi.map ev) H).setH H2 := by
    intro H2
    simp only [zIq]
    split
    ·split
     ·split <;> rfl
     ·rfl
    ·split
     ·split
      ·split <;> rfl
      ·rfl
     ·rfl
    ·rfl
   have hH : H' = H := by
    have := hset H
    rw [h] at this
    simp only [Eff.setH, Eff.mk.injEq] at this
    exact this.2.2.2
   refine ⟨hH, fun H2 _ => ?_⟩
   simp only [opV, xT]
   rw [hset, h]; rfl
 | call c =>
  obtain ⟨callee, args, argTypes⟩ := c
  cases callee with
  | builtin b =>
   cases b with
   | len =>
    simp only [opV, xT] at h
    split at h
    ·rename_i x t e1 e2
     have hx : x ∈ args := by
      have : x ∈ args.toList := by rw [e1]; simp
      simpa using this
     unfold zQJ at h
     split at h
     ·rename_i e3 e4
      cases h
      exact ⟨rfl, fun H2 _ => by simp only [opV, xT, e1, e2, zQJ, e3, e4]⟩
     ·rename_i e3 e4
      cases h
      exact ⟨rfl, fun H2 _ => by simp only [opV, xT, e1, e2, zQJ, e3, e4]⟩
     ·rename_i e3 e4
      cases h
      exact ⟨rfl, fun H2 _ => by simp only [opV, xT, e1, e2, zQJ, e3, e4]⟩
     ·rename_i e3 e4
      cases h
      exact ⟨rfl, fun H2 _ => by simp only [opV, xT, e1, e2, zQJ, e3, e4]⟩
     ·rename_i o e3 e4
      have hn : ∀ H2 : List Ob, (∀ x ∈ (Op.call { callee := .builtin .len, args := args, argTypes := argTypes }).operands, ∀ o ∈ names (ev x), H2[o]? = H[o]?) → H2[o]? = H[o]? := fun H2 hs => hs x (by simp [Op.operands, Call.operands, hx]) o (by rw [e4]; simp [names, names1, names0])
      split at h
      ·rename_i e5
       cases h
       exact ⟨rfl, fun H2 hs => by simp only [opV, xT, e1, e2, zQJ, e3, e4, hn H2 hs, e5]⟩
      ·rename_i e5
       cases h
       exact ⟨rfl, fun H2 hs => by simp only [opV, xT, e1, e2, zQJ, e3, e4, hn H2 hs, e5]⟩
      ·cases h
     ·cases h
    ·cases h
   | _ => exact zero (by simpa [rdr] using hr)
  | _ => exact zero (by simpa [rdr] using hr)
 | _ => exact zero (by simpa [rdr] using hr)
end
end Go.Proofs.YtkdidadegedmiaaGreat
namespace Go.Proofs.YtkdidadegedmiaaGreat
open Go.RowKit
section
variable {P : Program} {E : Env} {H H1 H' : List Ob} {R : List Nat}
theorem zg6 {q : Nat} {v : V} (hk : zEY R v = true) (hq : ∀ o, vp q o = true ∨ zBf q o = true → o ∈ R) : scrub q v = v := by
 have hh : ∀ o, R.contains o = false → vp q o = false ∧ zBf q o = false := by
  intro o h
  constructor
  ·cases e : vp q o with
   | false => rfl
   | true => rw [List.contains_iff_mem.2 (hq o (.inl e))] at h; cases h
  ·cases e : zBf q o with
   | false => rfl
   | true => rw [List.contains_iff_mem.2 (hq o (.inr e))] at h; cases h
 cases v with
 | c x => rfl
 | nil0 => rfl
 | ext k t l =>
  cases k with
  | zero => rfl
  | succ o => simp only [zEY, Bool.not_eq_true'] at hk; simp [scrub, scrub0, (hh o hk).2]
 | obj o => simp only [zEY, Bool.not_eq_true'] at hk; simp [scrub, scrub0, (hh o hk).1]
 | opt s o i off => simp only [zEY, Bool.not_eq_true'] at hk; simp [scrub, scrub0, (hh o hk).1]
 | sl s o a b => simp only [zEY, Bool.not_eq_true'] at hk; simp [scrub, scrub0, (hh o hk).1]
 | ptr o off => simp only [zEY, Bool.not_eq_true'] at hk; simp [scrub, scrub0, (hh o hk).1]
 | _ => simp [zEY] at hk
theorem zUM {q : Nat} {x : Ob} (hk : zWT R x = true) (hq : ∀ o, vp q o = true ∨ zBf q o = true → o ∈ R) : vK q x = x := by
 cases x with
 | box cs =>
  simp only [zWT, List.all_eq_true] at hk
  simp only [vK, Ob.box.injEq]
  conv => rhs; rw [← List.map_id cs]
  exact List.map_congr_left fun v hv => zg6 (hk v hv) hq
 | _ => rfl
theorem zJD {fz : List Nat} : ∀ {H : List Ob} {o : Nat}, o ∉ fz → (freezeL H fz)[o]? = H[o]? := by
 induction fz with
 | nil => intro H o _; rfl
 | cons a fz ih =>
  intro H o h
  simp only [List.mem_cons, not_or] at h
  show (freezeL (freeze1 H a) fz)[o]? = _
  rw [ih h.2]
  unfold freeze1
  split
  ·rw [List.getElem?_set_ne (Ne.symm h.1)]
  ·rfl
theorem zEa {os : List Nat} {q o : Nat} (ho : o < H1.length) (hn : o ∉ R) (hk : zWT R (H1.getD o .gone) = true) (hos : ∀ x, x ∈ os → x ∈ R) (hq : ∀ o, vp q o = true ∨ zBf q o = true → o ∈ R) : (zy H1 os q)[o]? = H1[o]? := by
 unfold zy
 split
 ·rfl
 ·rename_i a l
  have e : H1[o]? = some H1[o] := List.getElem?_eq_getElem ho
  rw [List.getElem?_map, zH2, e]
  have hc : (a :: l).contains o = false := by
   cases e : (a :: l).contains o with
   | false => rfl
   | true => exact absurd (hos o (List.contains_iff_mem.1 e)) hn
  simp only [Option.map_some, hc, cond_false, Option.some.injEq]
  rw [List.getD_eq_getElem?_getD, e, Option.getD_some] at hk
  exact zUM hk hq
theorem zQX : ∀ {cs : List V} {o : Nat}, o ∈ zNl cs → V.obj o ∈ cs
 | [], _, h => by simp [zNl] at h
 | v :: cs, o, h => by
  have tail : o ∈ zNl cs → V.obj o ∈ v :: cs := fun h => List.mem_cons_of_mem _ (zQX h)
  cases v with
  | obj o' =>
   simp only [zNl, List.mem_cons] at h
   rcases h with rfl | h
   ·exact List.mem_cons_self
   ·exact tail h
  | _ => exact tail h
theorem zOO : ∀ {s : OT} {vs : List V} {o : Nat}, o ∈ zi5 s vs → V.obj o ∈ vs
 | .d t, vs, o, h => zQX h
 | .o s, vs, o, h => by simp [zi5] at h
 | .pr a b, vs, o, h => by
  simp only [zi5, List.mem_append] at h
  rcases h with h | h
  ·exact List.mem_of_mem_take (zOO h)
  ·exact List.mem_of_mem_drop (zOO h)
theorem zro {vs : List V} {o : Nat} (h : id1 vs = some o) : V.obj o ∈ vs := by
 unfold id1 at h
 split at h
 ·cases h; exact List.mem_cons_self
 ·cases h
theorem zNd : ∀ {s : OT} {vs : List V} {o : Nat}, some o ∈ zJ0 s vs → V.obj o ∈ vs
 | .d t, vs, o, h => by simp [zJ0] at h
 | .o s, vs, o, h => by
  simp only [zJ0, List.mem_singleton] at h
  exact zro h.symm
 | .pr a b, vs, o, h => by
  simp only [zJ0, List.mem_append] at h
  rcases h with h | h
  ·exact List.mem_of_mem_take (zNd h)
  ·exact List.mem_of_mem_drop (zNd h)
theorem zP7 {agg : Bool} {v : V} {o : Nat} (h : V.obj o ∈ (cellsOf agg v).getD []) : o ∈ names1 v := by
 unfold cellsOf at h
 split at h
 ·split at h
  ·rename_i vs
   simp only [Option.getD_some] at h
   simp only [names1, List.mem_flatMap]
   exact ⟨_, h, by simp [names0]⟩
  ·simp at h
 ·simp only [Option.getD_some, List.mem_singleton] at h
  rw [← h]; simp [names1, names0]
theorem zHs {H : List Ob} {vs : List V} {v : V} {o : Nat} (hv : v ∈ vs) (h : o ∈ names v) : o ∈ vB H (vs.flatMap names) :=
 List.mem_append_left _ (List.mem_flatMap.2 ⟨v, hv, h⟩)
def In1 (R : List Nat) (v : V) : Prop := ∀ o ∈ names1 v, o ∈ R
theorem zjs {H : List Ob} {v : V} {o : Nat} (hv : In1 R v) (h : o ∈ names1 v) : o ∈ vB H R := List.mem_append_left _ (hv o h)
theorem zel {H : List Ob} {v : V} {b o : Nat} {cs : List V} (hv : In1 R v) (h : b ∈ names1 v) (hb : H[b]? = some (.box cs)) (ho : V.obj o ∈ cs) : o ∈ vB H R := by
 refine List.mem_append_right _ (List.mem_flatMap.2 ⟨b, hv b h, ?_⟩)
 rw [hb]
 exact List.mem_flatMap.2 ⟨_, ho, by simp [names, names1, names0]⟩
theorem zX8 {H : List Ob} {n : Nat} {v : V} {u : V} (h : u ∈ (zQm H n v).getD []) : ∃ b off cs, v = .ptr b off ∧ H[b]? = some (.box cs) ∧ u ∈ cs := by
 unfold zQm at h
 split at h
 ·rename_i b off
  split at h
  ·rename_i cs e
   split at h
   ·exact ⟨b, off, cs, rfl, e, List.mem_of_mem_drop (List.mem_of_mem_take h)⟩
   ·simp at h
  ·simp at h
 ·simp at h
theorem znt {fl : Bool} {H : List Ob} {d : AD} {v : V} (hv : In1 R v) {o : Nat} (h : o ∈ d.frz fl H v) : o ∈ vB H R := by
 cases d with
 | val agg s =>
  simp only [AD.frz] at h
  cases fl with
  | true => simp at h
  | false => exact zjs hv (zP7 (zOO h))
 | ref s =>
  simp only [AD.frz] at h
  obtain ⟨b, off, cs, rfl, e, hc⟩ := zX8 (zOO h)
  exact zel hv (by simp [names1, names0]) e hc
 | bx t off =>
  simp only [AD.frz] at h
  cases fl with
  | true => simp at h
  | false =>
   simp only [cond_false, zsY] at h
   split at h
   ·rename_i b off'
    split at h
    ·rename_i cs e; exact zel hv (by simp [names1, names0]) e (zQX h)
    ·simp at h
   ·simp at h
 | _ => simp [AD.frz] at h
theorem zV4 {fl : Bool} {H : List Ob} : ∀ {ds : List AD} {vs : List V}, (∀ v ∈ vs, In1 R v) → ∀ {o : Nat}, o ∈ zEt fl H ds vs → o ∈ vB H R
 | [], vs, _, o, h => by cases vs <;> simp [zEt] at h
 | d :: ds, [], _, o, h => by simp [zEt] at h
 | d :: ds, v :: vs, hu, o, h => by
  simp only [zEt, List.mem_append] at h
  rcases h with h | h
  ·exact znt (hu v List.mem_cons_self) h
  ·exact zV4 (fun v hv => hu v (List.mem_cons_of_mem _ hv)) h
theorem zWk {fz : List Nat} {H : List Ob} : ∀ {ds : List AD} {vs : List V}, (∀ v ∈ vs, In1 R v) → ∀ {o : Nat}, some o ∈ zBh (freezeL H fz) ds vs → o ∈ vB H R
 | [], vs, _, o, h => by cases vs <;> simp [zBh] at h
 | d :: ds, [], _, o, h => by simp [zBh] at h
 | d :: ds, v :: vs, hu, o, h => by
  simp only [zBh, List.mem_append] at h
  rcases h with h | h
  ·have hv := hu v List.mem_cons_self
   cases d with
   | val agg s => exact zjs hv (zP7 (zNd h))
   | ref s =>
    obtain ⟨b, off, cs, rfl, e, hc⟩ := zX8 (zNd h)
    exact zel hv (by simp [names1, names0]) (zf1 (p0 := ⟨b, undef, 0, vm⟩) (b := b) e rfl) hc
   | _ => simp [AD.ids] at h
  ·exact zWk (fun v hv => hu v (List.mem_cons_of_mem _ hv)) h
theorem zWM {H : List Ob} : ∀ {ds : List AD} {vs : List V}, (∀ v ∈ vs, In1 R v) → ∀ {o : Nat}, o ∈ zAH ds vs → o ∈ vB H R
 | [], vs, _, o, h => by cases vs <;> simp [zAH] at h
 | d :: ds, [], _, o, h => by simp [zAH] at h
 | d :: ds, v :: vs, hu, o, h => by
  simp only [zAH, List.mem_append] at h
  rcases h with h | h
  ·cases d with
   | ref s =>
    simp only [AD.bxs, zrC] at h
    split at h
    ·simp only [List.mem_singleton] at h; subst h; exact zjs (hu _ List.mem_cons_self) (by simp [names1, names0])
    ·simp at h
   | _ => simp [AD.bxs] at h
  ·exact zWM (fun v hv => hu v (List.mem_cons_of_mem _ hv)) h
theorem zW3 {l : List (Option Nat)} {o : Nat} : o ∈ xm l → some o ∈ l := by
 induction l with
 | nil => intro h; simp [xm] at h
 | cons a l ih =>
  intro h
  cases a with
  | none => exact List.mem_cons_of_mem _ (ih h)
  | some b =>
   simp only [xm, List.mem_cons] at h
   rcases h with rfl | h
   ·exact List.mem_cons_self
   ·exact List.mem_cons_of_mem _ (ih h)
theorem zmU {d : FnD} {vs : List V} {H H' : List Ob} {q : Nat} {ok : Option Prop} {v : V} (h : zTw d vs H = some (.mk q ok v H')) (hu : ∀ v ∈ vs, In1 R v) {o : Nat} (ho : o < H.length) (h1 : o ∉ vB H R) (h2 : zWT (vB H R) (H.getD o .gone) = true) : H'[o]? = H[o]? := by
 unfold zTw at h
 split at h
 ·cases h
 rename_i a H1 os bs hp
 unfold zPZ at hp
 simp only at hp
 split at hp
 rotate_left
 ·cases hp
 split at hp
 rotate_left
 ·cases hp
 simp only [Option.some.injEq, Prod.mk.injEq] at hp
 obtain ⟨_, rfl, rfl, rfl⟩ := hp
 simp only [Option.some.injEq, Eff.mk.injEq] at h
 obtain ⟨hq, _, _, rfl⟩ := h
 have hf : o ∉ zEt d.flat H d.args vs := fun hm => h1 (zV4 hu hm)
 have hos : ∀ x, x ∈ xm (zBh (freezeL H (zEt d.flat H d.args vs)) d.args vs) → x ∈ vB H R := fun x hx => zWk hu (zW3 hx)
 have hl : (freezeL H (zEt d.flat H d.args vs)).length = H.length := zEZ _ _
 rw [List.getElem?_append_left (by rw [zOH, xJ, hl]; exact ho), zIo _ _ _ _ _ (fun hm => h1 (zWM hu hm)), zEa (R := vB H R) (by omega) h1 ?_ hos ?_, zJD hf]
 ·rw [List.getD_eq_getElem?_getD, zJD hf, ← List.getD_eq_getElem?_getD]; exact h2
 ·intro x hx
  have := zKM (hem := (zEt d.flat H d.args vs).isEmpty) (os := xm (zBh (freezeL H (zEt d.flat H d.args vs)) d.args vs)) (bs := zAH d.args vs) x
  rw [this.1, this.2] at hx
  exact hos x (List.contains_iff_mem.1 (hx.elim id id))
theorem zoR {H H' : List Ob} {o : Nat} (ho : o < H.length) (h1 : o ∉ vB H R) (h2 : zWT (vB H R) (H.getD o .gone) = true) : ∀ {l : List FnD} {vs : List V} {q : Nat} {ok : Option Prop} {v : V}, zKa l vs H = .mk q ok v H' → (∀ v ∈ vs, In1 R v) → H'[o]? = H[o]? := by
 intro l
 induction l with
 | nil => intro vs q ok v h; cases h
 | cons d l ih =>
  intro vs q ok v h hu
  unfold zKa at h
  split at h
  ·rename_i e he
   subst h
   exact zmU he hu ho h1 h2
  ·exact ih h hu
theorem zXN : ∀ {vs : List V} {j : Nat} {r : Nat × OT × Nat × Int × Nat}, zP8 vs j = some r → vs.any zTS = true
 | [], _, _, h => by simp [zP8] at h
 | v :: vs, j, r, h => by
  cases v with
  | opt s o i off => simp [zTS]
  | _ =>
   rw [List.any_cons, zXN (vs := vs) (j := j + 1) (r := r) h, Bool.or_true]
theorem zbA {place : Nat → Option (Nat × Nat)} {us : List V} {o : Nat} (hu : ∀ v ∈ us, o ∉ names v) : ∀ {parts : List (Nat × V)} {zs cs : List V}, (∀ p ∈ parts, p.2 ∈ us) → V.obj o ∉ zs → zNh place zs parts = some cs → V.obj o ∉ cs
 | [], zs, cs, _, hz, h => by cases h; exact hz
 | (i, v) :: parts, zs, cs, hp, hz, h => by
  simp only [zNh] at h
  split at h
  ·rename_i off size vs e1 e2
   split at h
   ·refine zbA hu (fun p hp' => hp p (List.mem_cons_of_mem _ hp')) (fun hm => ?_) h
    rcases List.mem_append.1 hm with hm | hm
    ·rcases List.mem_append.1 hm with hm | hm
     ·exact hz (List.mem_of_mem_take hm)
     ·have hv := hu v (hp (i, v) List.mem_cons_self)
      unfold zKD at e2
      split at e2
      ·cases e2
       exact hv (by simp only [names, names1, List.mem_flatMap]; exact ⟨_, hm, by simp [names0]⟩)
      ·cases e2
       obtain ⟨x, _, hx⟩ := List.mem_map.1 hm
       cases hx
      ·split at e2
       ·cases e2
        simp only [List.mem_singleton] at hm
        exact hv (by rw [← hm]; simp [names, names1, names0])
       ·cases e2
    ·exact hz (List.mem_of_mem_drop hm)
   ·cases h
  ·cases h
termination_by parts => parts.length
theorem zao {k : Nat} : ∀ {n : Nat} {cs : List V} {v : V}, v ∈ zDk k n cs → ∃ l : List V, v = .agg l ∧ ∀ u ∈ l, u ∈ cs
 | 0, _, _, h => by simp [zDk] at h
 | n + 1, cs, v, h => by
  simp only [zDk, List.mem_cons] at h
  rcases h with rfl | h
  ·exact ⟨_, rfl, fun u hu => List.mem_of_mem_take hu⟩
  ·obtain ⟨l, e, g⟩ := zao h
   exact ⟨l, e, fun u hu => List.mem_of_mem_drop (g u hu)⟩
theorem zbC {s : OT} {H : List Ob} : ∀ {n : Nat} {vs : List V} {o : Nat}, o ∈ zEt false H (List.replicate n (.val true s)) vs → ∃ v ∈ vs, V.obj o ∈ (cellsOf true v).getD []
 | 0, vs, o, h => by cases vs <;> simp [zEt] at h
 | n + 1, [], o, h => by simp [List.replicate, zEt] at h
 | n + 1, v :: vs, o, h => by
  simp only [List.replicate, zEt, List.mem_append, AD.frz, cond_false] at h
  rcases h with h | h
  ·exact ⟨v, List.mem_cons_self, zOO h⟩
  ·obtain ⟨u, h1, h2⟩ := zbC h
   exact ⟨u, List.mem_cons_of_mem _ h1, h2⟩
theorem zat {s : OT} {H : List Ob} : ∀ {n : Nat} {vs : List V} {o : Nat}, some o ∈ zBh H (List.replicate n (.val true s)) vs → ∃ v ∈ vs, V.obj o ∈ (cellsOf true v).getD []
 | 0, vs, o, h => by cases vs <;> simp [zBh] at h
 | n + 1, [], o, h => by simp [List.replicate, zBh] at h
 | n + 1, v :: vs, o, h => by
  simp only [List.replicate, zBh, List.mem_append, AD.ids] at h
  rcases h with h | h
  ·exact ⟨v, List.mem_cons_self, zNd h⟩
  ·obtain ⟨u, h1, h2⟩ := zat h
   exact ⟨u, List.mem_cons_of_mem _ h1, h2⟩
theorem zmL {s : OT} {n : Nat} {cs : List V} {H H1 : List Ob} {xs : List (El s.ty)} {os : List Nat} {q : Nat} (h : zTn s n cs H = some (xs, H1, os, q)) : ∃ fz : List Nat, H1 = freezeL H fz ∧ (∀ o ∈ fz, V.obj o ∈ cs) ∧ (∀ o ∈ os, V.obj o ∈ cs) ∧ ∀ o, vp q o = os.contains o ∧ zBf q o = os.contains o := by
 have inn : ∀ {v : V} {o : Nat}, v ∈ zDk (zO s.ty) n cs → V.obj o ∈ (cellsOf true v).getD [] → V.obj o ∈ cs := by
  intro v o hv ho
  obtain ⟨l, rfl, g⟩ := zao hv
  simp only [cellsOf, if_true, Option.getD_some] at ho
  exact g _ ho
 unfold zTn at h
 split at h
 ·rename_i a H1' os' bs hp
  cases h
  unfold zPZ at hp
  simp only at hp
  split at hp
  ·split at hp
   ·simp only [Option.some.injEq, Prod.mk.injEq] at hp
    obtain ⟨_, rfl, rfl, _⟩ := hp
    refine ⟨_, rfl, fun o ho => ?_, fun o ho => ?_, fun o => zKM o⟩
    ·obtain ⟨v, h1, h2⟩ := zbC ho; exact inn h1 h2
    ·obtain ⟨v, h1, h2⟩ := zat (zW3 ho); exact inn h1 h2
   ·cases hp
  ·cases hp
 ·cases h
theorem zhm {H : List Ob} {s : OT} {x : V} {l : List (El s.ty)} {os : List Nat} (h : zWE H s x = some (l, os)) : ∀ o ∈ os, x = .obj o := by
 intro o ho
 cases s with
 | d t => simp only [zWE, Option.map_eq_some_iff] at h; obtain ⟨_, _, e⟩ := h; cases e; cases ho
 | o s =>
  cases x with
  | obj b => simp only [zWE, Option.map_eq_some_iff] at h; obtain ⟨_, _, e⟩ := h; cases e; simp only [List.mem_singleton] at ho; rw [ho]
  | _ => simp only [zWE, Option.map_eq_some_iff] at h; obtain ⟨_, _, e⟩ := h; cases e; cases ho
 | pr a b =>
  cases x with
  | obj b => simp only [zWE, Option.map_eq_some_iff] at h; obtain ⟨_, _, e⟩ := h; cases e; simp only [List.mem_singleton] at ho; rw [ho]
  | _ => simp only [zWE, Option.map_eq_some_iff] at h; obtain ⟨_, _, e⟩ := h; cases e; cases ho
end
end Go.Proofs.YtkdidadegedmiaaGreat
