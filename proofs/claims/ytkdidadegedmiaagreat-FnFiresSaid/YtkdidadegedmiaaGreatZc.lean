/- Parts of a proof. -/
import Derived.Test.YtkdidadegedmiaaGreatZb
import Derived.Lib.SliceRun
namespace Go.Proofs.YtkdidadegedmiaaGreat
open Go.RowKit
section
variable {P : Program} {E : Env} {H H1 H' : List Ob} {R : List Nat}
theorem zol {vs : List V} {o : Nat} (ho : o < H.length) (h : o ∉ zs1 H vs) : vs.any zUj = false ∧ o ∉ vB H (vs.flatMap names) ∧ zWT (vB H (vs.flatMap names)) (H.getD o .gone) = true := by
 unfold zs1 at h
 split at h
 ·exact absurd (List.mem_range.2 ho) h
 ·rename_i h0
  simp only [List.mem_filter, List.mem_range, not_and, Bool.or_eq_true, not_or, Bool.not_eq_true', Bool.not_eq_true] at h
  have := h ho
  refine ⟨by simpa using h0, fun hm => ?_, by simpa using this.2⟩
  rw [List.contains_iff_mem.2 hm] at this
  exact absurd this.1 (by simp)
theorem ztw {wr : Bool} {op : BinOp} {t : TypeId} {x y : V} {q : Nat} {ok : Option Prop} {v : V} (h : zTN P wr op t x y H = .mk q ok v H') : q = 0 := by
 have hi : ∀ {op : BinOp} {k : IntKind} {a b : Int}, zU2 wr op k a b H = .mk q ok v H' → q = 0 := by
  intro op k a b h
  unfold zU2 zeF at h
  cases op <;> cases wr <;> simp only [zmf, if_true, Bool.false_eq_true, if_false] at h <;> cases h <;> rfl
 unfold zTN at h
 split at h
 ·split at h
  ·simp only [shV] at h; cases h; rfl
  ·simp only [shV] at h; cases h; rfl
  ·split at h
   ·exact hi h
   ·cases h
 ·split at h
  ·cases h; rfl
  ·split at h
   ·cases h; rfl
   ·cases h
 ·unfold eqV at h
  split at h
  ·cases h
  ·split at h
   ·cases op <;> simp only at h <;> first | (cases h; rfl) | cases h
   ·cases h
theorem znq {l : LnD} {args : List V} {q : Nat} {ok : Option Prop} {v : V} (h : zPh l args H = .mk q ok v H') : zpJ q H.length = true := by
 unfold zPh at h
 split at h
 ·split at h
  ·split at h
   ·unfold zcE at h
    split at h
    ·split at h
     ·split at h
      ·split at h
       ·rename_i n2 _ _ _ _ _ _ _ _ hl
        rw [Bool.and_eq_true, decide_eq_true_eq] at hl
        cases h
        unfold zpJ
        rw [decide_eq_true_eq]
        simp only [yG, List.foldl_cons, List.foldl_nil, Nat.add_sub_cancel_left]
        exact Nat.le_trans (Nat.pow_le_pow_right (by decide) (by omega)) Nat.right_le_or
       ·cases h
      ·cases h
     ·cases h
    ·cases h
   ·cases h
  ·cases h
 ·cases h
theorem zrY {ev : Operand → V} {op : Op} {q : Nat} {ok : Option Prop} {v : V} (h : opV P E ev H op = .mk q ok v H') {o : Nat} (ho : o < H.length) (hn : o ∉ zsD q H (op.operands.toList.map ev)) : H'[o]? = H[o]? := by
 by_cases hq : q < 2
 ·have hk := zdy P E ev H op
  rw [h] at hk
  obtain ⟨obs, e⟩ := hk.2.1 hq
  rw [e, List.getElem?_append_left ho]
 have hbig : zpJ q H.length = false := by
  cases e : zpJ q H.length with
  | false => rfl
  | true => unfold zsD at hn; rw [if_pos e] at hn; exact absurd (List.mem_range.2 ho) hn
 obtain ⟨n0, n1, n2⟩ := zol ho (by unfold zsD at hn; rwa [if_neg (by rw [hbig]; simp)] at hn)
 have hop : ∀ x ∈ op.operands, zUj (ev x) = false ∧ ev x ∈ op.operands.toList.map ev := fun x hx => by
  have hm : ev x ∈ op.operands.toList.map ev := List.mem_map.2 ⟨x, by simpa using hx, rfl⟩
  refine ⟨?_, hm⟩
  cases e : zUj (ev x) with
  | false => rfl
  | true => rw [List.any_eq_true.2 ⟨_, hm, e⟩] at n0; cases n0
 have nm : ∀ x ∈ op.operands, o ∉ names (ev x) := fun x hx hm => n1 (zHs (hop x hx).2 hm)
 have small : ∀ {q' : Nat} {ok' : Option Prop} {v' : V} {H2 : List Ob}, Eff.mk q' ok' v' H2 = Eff.mk q ok v H' → q' < 2 → H'[o]? = H[o]? := fun e hlt => by
  simp only [Eff.mk.injEq] at e
  omega
 cases op with
 | store t a x =>
  simp only [opV, xT] at h
  unfold zOR at h
  split at h
  ·rename_i ob off e1
   have hne : o ≠ ob := fun e => nm a (by simp [Op.operands]) (by rw [e1, e]; simp [names, names1, names0])
   split at h
   ·unfold zL8 at h
    split at h
    ·split at h
     ·cases h; rw [List.getElem?_set_ne (Ne.symm hne)]
     ·cases h
    ·cases h
   ·cases h
  ·rename_i e1
   have := (hop a (by simp [Op.operands])).1
   rw [e1] at this; simp [zUj, zTS] at this
  ·cases h
 | buildSlice t n parts =>
  simp only [opV, xT] at h
  unfold zdt at h
  split at h
  ·split at h
   ·rename_i s z e2 e3
    split at h
    ·exact small h (by decide)
    ·split at h
     ·split at h
      ·rename_i cs e4
       split at h
       ·rename_i xs H1 os q' e5
        cases h
        obtain ⟨fz, rfl, f1, f2, f3⟩ := zmL e5
        obtain ⟨_, z', _, _, _, rfl, _⟩ := zA7 e3
        have hobj : ∀ b, V.obj b ∈ cs → b ∈ vB H ((Op.buildSlice t n parts).operands.toList.map ev |>.flatMap names) := by
         intro b hb
         apply Classical.byContradiction
         intro hc
         refine zbA (o := b) (us := (Op.buildSlice t n parts).operands.toList.map ev) (fun v hv hm => hc (zHs hv hm)) (fun p hp => ?_) (fun hm => ?_) e4 hb
         ·obtain ⟨r, hr, rfl⟩ := List.mem_map.1 hp
          exact (hop r.2 (by simp only [Op.operands]; simp; exact ⟨r.1, by simpa using hr⟩)).2
         ·obtain ⟨i, _, hi⟩ := List.mem_map.1 hm
          rw [List.getD_eq_getElem?_getD, List.getElem?_map] at hi
          cases ez : z'.cells.toList[i % zO s.ty]? with
          | none => rw [ez] at hi; simp at hi
          | some y => rw [ez] at hi; simp at hi
        have hl : (freezeL H fz).length = H.length := zEZ _ _
        have hf : o ∉ fz := fun hm => n1 (hobj o (f1 o hm))
        rw [List.getElem?_append_left (by rw [xJ, hl]; exact ho), zEa (R := vB H ((Op.buildSlice t n parts).operands.toList.map ev |>.flatMap names)) (by omega) n1 ?_ (fun x hx => hobj x (f2 x hx)) (fun x hx => ?_), zJD hf]
        ·rw [List.getD_eq_getElem?_getD, zJD hf, ← List.getD_eq_getElem?_getD]; exact n2
        ·rw [(f3 x).1, (f3 x).2] at hx
         exact hobj x (f2 x (List.contains_iff_mem.1 (hx.elim id id)))
       ·cases h
      ·cases h
     ·cases h
   ·cases h
  ·cases h
 | call c =>
  obtain ⟨callee, args, argTypes⟩ := c
  cases callee with
  | value f =>
   simp only [opV] at h
   split at h
   ·rename_i fid caps e1
    have hf := hop f (by simp [Op.operands, Call.operands])
    have hargs : ∀ x ∈ args, zUj (ev x) = false ∧ ev x ∈ (Op.call { callee := .value f, args := args, argTypes := argTypes }).operands.toList.map ev := fun x hx => hop x (by simp [Op.operands, Call.operands, hx])
    unfold zT0 at h
    split at h
    rotate_left
    ·unfold zTp at h
     split at h
     ·split at h
      ·exact small h (by decide)
      ·cases h
     ·cases h
    have h : zKj (E.fn fid) (args.toList.map ev ++ caps) H = .mk q ok v H' := by
     split at h
     ·exact h
     ·split at h
      ·exact h
      ·rename_i e
       rw [h] at e
       rw [znq e] at hbig
       cases hbig
    unfold zKj at h
    have hno : zP8 (args.toList.map ev ++ caps) 0 = none := by
     cases e : zP8 (args.toList.map ev ++ caps) 0 with
     | none => rfl
     | some r =>
      have := zXN e
      rw [List.any_append, Bool.or_eq_true] at this
      rcases this with h' | h'
      ·obtain ⟨u, hu, hu2⟩ := List.any_eq_true.1 h'
       obtain ⟨x, hx, rfl⟩ := List.mem_map.1 hu
       have g := (hargs x (by simpa using hx)).1
       cases ex : ev x <;> rw [ex] at hu2 g <;> simp_all [zUj, zTS]
      ·have := hf.1
       rw [e1] at this
       simp only [zUj] at this
       rw [h'] at this; cases this
    rw [hno] at h
    have hsub : ∀ (u : V) (b : Nat), b ∈ names1 u → b ∈ names u := by
     intro u b hb
     cases u with
     | fn f us => simp [names1, names0] at hb
     | _ => exact hb
    refine zoR (R := ((Op.call { callee := .value f, args := args, argTypes := argTypes }).operands.toList.map ev).flatMap names) ho n1 n2 h (fun u hu b hb => ?_)
    rcases List.mem_append.1 hu with hu | hu
    ·obtain ⟨x, hx, rfl⟩ := List.mem_map.1 hu
     exact List.mem_flatMap.2 ⟨_, (hargs x (by simpa using hx)).2, hsub _ _ hb⟩
    ·refine List.mem_flatMap.2 ⟨_, hf.2, ?_⟩
     rw [e1]
     exact List.mem_flatMap.2 ⟨u, hu, hb⟩
   ·cases h
  | builtin b =>
   cases b with
   | append =>
    simp only [opV, xT] at h
    split at h
    ·rename_i s x t t' e1 e2
     have hs : s ∈ args := by
      have : s ∈ args.toList := by rw [e1]; simp
      simpa using this
     have hx : x ∈ args := by
      have : x ∈ args.toList := by rw [e1]; simp
      simpa using this
     have hin : ∀ y, y ∈ args → ∀ b, ev y = .obj b → b ∈ vB H (((Op.call { callee := .builtin .append, args := args, argTypes := argTypes }).operands.toList.map ev).flatMap names) := fun y hy b e =>
      zHs (hop y (by simp [Op.operands, Call.operands, hy])).2 (by rw [e]; simp [names, names1, names0])
     split at h
     ·split at h
      ·rename_i sv ob i1 i2 es
       have hob : ob ∈ vB H (((Op.call { callee := .builtin .append, args := args, argTypes := argTypes }).operands.toList.map ev).flatMap names) := zHs (hop s (by simp [Op.operands, Call.operands, hs])).2 (by rw [es]; simp [names, names1, names0])
       have hne : o ≠ ob := fun e => n1 (e ▸ hob)
       unfold zUL at h
       split at h
       rotate_left
       ·cases h
       rename_i ex ey
       rw [es] at ex; cases ex
       split at h
       rotate_left
       ·cases h
       split at h
       rotate_left
       ·cases h
       split at h
       rotate_left
       ·cases h
       cases h
       rw [List.getElem?_set_ne (Ne.symm hne), zEa (R := vB H (((Op.call { callee := .builtin .append, args := args, argTypes := argTypes }).operands.toList.map ev).flatMap names)) ho n1 n2 (fun b hb => by rw [List.mem_singleton.1 hb]; exact hob) (fun b hb => ?_)]
       rw [zFa, zF2] at hb
       rw [List.mem_singleton.1 (List.contains_iff_mem.1 (hb.elim id id))]
       exact hob
      ·unfold ze2 at h
       split at h
       ·split at h
        ·split at h
         ·split at h
          ·rename_i ob es
           have hne : o ≠ ob := fun e => n1 (e ▸ hin s hs ob es)
           split at h
           ·split at h
            ·split at h
             ·rename_i l2 os e3
              split at h
              ·cases h
              ·cases h
               have hos : ∀ b, b ∈ ob :: os → b ∈ vB H (((Op.call { callee := .builtin .append, args := args, argTypes := argTypes }).operands.toList.map ev).flatMap names) := by
                intro b hb
                rcases List.mem_cons.1 hb with rfl | hb
                ·exact hin s hs _ es
                ·exact hin x hx b (zhm e3 b hb)
               rw [List.getElem?_set_ne (Ne.symm hne), zEa (R := vB H (((Op.call { callee := .builtin .append, args := args, argTypes := argTypes }).operands.toList.map ev).flatMap names)) ho n1 n2 hos (fun b hb => ?_)]
               rw [zFa, zF2] at hb
               exact hos b (List.contains_iff_mem.1 (hb.elim id id))
             ·cases h
            ·cases h
           ·cases h
          ·split at h
           ·split at h
            ·exact small h (by decide)
            ·rename_i l2 b os e3
             cases h
             have hos : ∀ c, c ∈ b :: os → c ∈ vB H (((Op.call { callee := .builtin .append, args := args, argTypes := argTypes }).operands.toList.map ev).flatMap names) := fun c hc => hin x hx c (zhm e3 c hc)
             rw [List.getElem?_append_left (by rw [xJ]; exact ho), zEa (R := vB H (((Op.call { callee := .builtin .append, args := args, argTypes := argTypes }).operands.toList.map ev).flatMap names)) ho n1 n2 hos (fun c hc => ?_)]
             rw [zFa, zF2] at hc
             exact hos c (List.contains_iff_mem.1 (hc.elim id id))
            ·cases h
           ·cases h
         ·cases h
        ·cases h
       ·cases h
     ·cases h
    ·cases h
   | max =>
    simp only [opV, xT, mmV] at h
    repeat' split at h
    all_goals first | exact small h (by decide) | cases h
   | min =>
    simp only [opV, xT, mmV] at h
    repeat' split at h
    all_goals first | exact small h (by decide) | cases h
   | clear =>
    simp only [opV, xT] at h
    split at h
    rotate_left
    ·cases h
    rename_i x t e1 e2
    have hx : x ∈ args := by
     have : x ∈ args.toList := by rw [e1]; simp
     simpa using this
    unfold zg2 at h
    split at h
    rotate_left
    ·cases h
    rename_i sv ob i1 i2 es
    have hob : ob ∈ vB H (((Op.call { callee := .builtin .clear, args := args, argTypes := argTypes }).operands.toList.map ev).flatMap names) := zHs (hop x (by simp [Op.operands, Call.operands, hx])).2 (by rw [es]; simp [names, names1, names0])
    have hne : o ≠ ob := fun e => n1 (e ▸ hob)
    split at h
    rotate_left
    ·cases h
    split at h
    rotate_left
    ·cases h
    split at h
    rotate_left
    ·cases h
    split at h
    rotate_left
    ·cases h
    cases h
    rw [List.getElem?_map, List.getElem?_set_ne (Ne.symm hne)]
    cases e : H[o]? with
    | none => rfl
    | some y =>
     rw [Option.map_some, zUM (R := vB H (((Op.call { callee := .builtin .clear, args := args, argTypes := argTypes }).operands.toList.map ev).flatMap names)) (by rw [List.getD_eq_getElem?_getD, e] at n2; simpa using n2) (fun o' h' => by
      rw [zMU, zAf] at h'
      simp at h'
      rw [← h']; exact hob)]
   | len =>
    simp only [opV, xT] at h
    split at h
    ·unfold zQJ at h
     split at h
     ·exact small h (by decide)
     ·exact small h (by decide)
     ·exact small h (by decide)
     ·exact small h (by decide)
     ·split at h
      ·exact small h (by decide)
      ·exact small h (by decide)
      ·cases h
     ·cases h
    ·cases h
   | _ => cases h
  | _ => cases h
 | move x => exact small h (by decide)
 | assign x => exact small h (by decide)
 | pick c x y =>
  simp only [opV, xT] at h
  split at h
  ·exact small h (by decide)
  ·cases h
 | alloc t =>
  simp only [opV, xT] at h
  split at h
  ·exact small h (by decide)
  ·cases h
 | box t x =>
  simp only [opV, xT] at h
  split at h
  ·exact small h (by decide)
  ·cases h
 | build t parts =>
  simp only [opV, xT, zOL] at h
  repeat' split at h
  all_goals first | exact small h (by decide) | cases h
 | load t x =>
  simp only [opV, xT] at h
  repeat' split at h
  all_goals first | exact small h (by decide) | cases h
 | nilCheck x =>
  simp only [opV, xT] at h
  split at h
  all_goals first | exact small h (by decide) | cases h
 | binOp op t x y u =>
  simp only [opV, xT] at h
  exact absurd (ztw h) (by omega)
 | unOp op t x =>
  simp only [opV, xT, unV] at h
  split at h
  all_goals first | exact small h (by decide) | cases h
 | convert s d x =>
  simp only [opV, xT] at h
  split at h
  ·unfold zf9 at h
   repeat' split at h
   all_goals first | exact small h (by decide) | cases h
  ·simp only [zUF] at h
   split at h
   all_goals first | exact small h (by decide) | cases h
 | makeFunc fn first caps =>
  cases fn with
  | func f =>
   simp only [opV, xT] at h
   split at h
   ·exact small h (by decide)
   ·cases h
  | _ => cases h
 | makeSlice t x y =>
  simp only [opV, xT, zUt] at h
  repeat' split at h
  all_goals first | exact small h (by decide) | cases h
 | slice t x lo hi mx =>
  cases mx with
  | none =>
   simp only [opV, xT] at h
   split at h
   ·rename_i ob e2
    split at h
    ·unfold zPm at h
     repeat' split at h
     all_goals first | exact small h (by decide) | cases h
    ·have hob : ob ∈ vB H (((Op.slice t x lo hi none).operands.toList.map ev).flatMap names) := zHs (hop x (by simp [Op.operands])).2 (by rw [e2]; simp [names, names1, names0])
     have hne : o ≠ ob := fun e => n1 (e ▸ hob)
     unfold zdk at h
     split at h
     ·split at h
      ·split at h
       ·cases h
        rw [List.getElem?_set_ne (Ne.symm hne), zEa (R := vB H (((Op.slice t x lo hi none).operands.toList.map ev).flatMap names)) ho n1 n2 (fun b hb => by rw [List.mem_singleton.1 hb]; exact hob) (fun b hb => ?_)]
        rw [zFa, zF2] at hb
        rw [List.mem_singleton.1 (List.contains_iff_mem.1 (hb.elim id id))]
        exact hob
       ·cases h
      ·cases h
     ·cases h
   ·simp only [zIq] at h
    repeat' split at h
    all_goals first | exact small h (by decide) | cases h
  | some m => cases h
 | fieldAddr t x f =>
  simp only [opV, xT] at h
  repeat' split at h
  all_goals first | exact small h (by decide) | cases h
 | field t x f =>
  simp only [opV, xT] at h
  repeat' split at h
  all_goals first | exact small h (by decide) | cases h
 | indexAddr t x i =>
  simp only [opV, xT, zCR] at h
  repeat' split at h
  all_goals first | exact small h (by decide) | cases h
 | index t x i =>
  simp only [opV, xT, zhL] at h
  repeat' split at h
  all_goals first | exact small h (by decide) | cases h
 | extract x i =>
  simp only [opV, xT] at h
  repeat' split at h
  all_goals first | exact small h (by decide) | cases h
 | _ => cases h
end
end Go.Proofs.YtkdidadegedmiaaGreat
namespace Go.Proofs.YtkdidadegedmiaaGreat
open Go.RowKit
theorem zsk {p : Nat → Prop} (h : ∃ n, p n) : ∃ n, p n ∧ ∀ m, p m → n ≤ m := by
 obtain ⟨n, hn⟩ := h
 induction n using Nat.strongRecOn with
 | _ n ih =>
  by_cases hm : ∃ m, m < n ∧ p m
  ·obtain ⟨m, h1, h2⟩ := hm; exact ih m h1 h2
  ·exact ⟨n, hn, fun m h => Nat.le_of_not_lt fun hlt => hm ⟨m, hlt, h⟩⟩
section heaps
variable {ρ ρ' ρ0 : yH} {Z Z' : Zs} {H H' Hs obs : List Ob} {w w' w0 : World} {Z0 : En} {q : Nat}
theorem HR.more (h : HR ρ Z H w) (hp : ∃ obs, Hs = H ++ obs) : HR ρ Z Hs w := by
 obtain ⟨obs, rfl⟩ := hp
 have old : ∀ o p x, ρ o = some p → (H ++ obs)[o]? = some x → H[o]? = some x := fun o p x e hx => by rwa [List.getElem?_append_left (h.dom o p e)] at hx
 exact ⟨h.zl, fun o p e => by have := h.dom o p e; simp; omega, fun o p x e hx => h.ob o p x e (old o p x e hx), fun o o' p p' x x' b e e' hx hx' => h.dj o o' p p' x x' b e e' (old o p x e hx) (old o' p' x' e' hx')⟩
theorem HR.quiet (h : HR ρ Z Hs w) (hp : Post q ρ0 Z H w ρ' Z' H' w') (hq : q < 2) : HR ρ Z' Hs w' := by
 obtain ⟨q1, q2, q3, q4⟩ := hp.quiet hq
 refine ⟨hp.hr.zl, h.dom, fun o p x e hx => ?_, h.dj⟩
 refine (h.ob o p x e hx).mono ⟨fun _ _ h => h, hp.zm, (h.kp q1).h, (h.kp q1).f⟩ fun b hb => ⟨fun k hk => ?_, q1 _ (h.own e hx hb).2⟩
 rcases q2 k _ hk with hk | hk
 ·exact (h.own e hx hb).1 k hk
 ·have := (h.own e hx hb).2; omega
theorem HR.merge (h : HR ρ Z Hs w) (hp : Post q ρ0 Z H w ρ' Z' H' w') (hq : q < 2) (hsub : ∀ o p, ρ0 o = some p → ρ o = some p) (hfree : ∀ o, H.length ≤ o → o < H'.length → ρ o = Option.none)
  (hlen : H'.length ≤ Hs.length) (hobj : ∀ o, H.length ≤ o → o < H'.length → Hs[o]? = H'[o]?) : HR (fun o => if H.length ≤ o ∧ o < H'.length then ρ' o else ρ o) Z' Hs w' := by
 obtain ⟨q1, q2, q3, q4⟩ := hp.quiet hq
 have hq' := h.quiet hp hq
 have hin : ∀ o p, ρ' o = some p → (fun o => if H.length ≤ o ∧ o < H'.length then ρ' o else ρ o) o = some p := by
  intro o p e
  have hlt := hp.hr.dom o p e
  by_cases ho : H.length ≤ o
  ·simp only [ho, hlt, and_self, if_true]; exact e
  ·rcases hp.dom o p e with ⟨p0, e0⟩ | hge
   ·have := hp.rhoq (show q < 3 by omega) e0
    rw [e] at this; cases this
    simp only [ho, false_and, if_false]; exact hsub o p e0
   ·omega
 have hold : ∀ o p, ρ o = some p → (fun o => if H.length ≤ o ∧ o < H'.length then ρ' o else ρ o) o = some p := by
  intro o p e
  by_cases ho : H.length ≤ o ∧ o < H'.length
  ·rw [hfree o ho.1 ho.2] at e; cases e
  ·simp only [ho, if_false]; exact e
 have split : ∀ o p x, (fun o => if H.length ≤ o ∧ o < H'.length then ρ' o else ρ o) o = some p → Hs[o]? = some x → (H.length ≤ o ∧ ρ' o = some p ∧ H'[o]? = some x) ∨ ρ o = some p := by
  intro o p x e hx
  by_cases ho : H.length ≤ o ∧ o < H'.length
  ·simp only [ho, and_self, if_true] at e
   rw [hobj o ho.1 ho.2] at hx
   exact .inl ⟨ho.1, e, hx⟩
  ·simp only [ho, if_false] at e; exact .inr e
 have kp1 : Kp ρ' Z' w' (fun o => if H.length ≤ o ∧ o < H'.length then ρ' o else ρ o) Z' w' := ⟨hin, fun _ _ h => h, fun _ _ _ => rfl, fun _ _ _ _ _ => rfl⟩
 have kp2 : Kp ρ Z' w' (fun o => if H.length ≤ o ∧ o < H'.length then ρ' o else ρ o) Z' w' := ⟨hold, fun _ _ h => h, fun _ _ _ => rfl, fun _ _ _ _ _ => rfl⟩
 refine ⟨hp.hr.zl, fun o p e => ?_, fun o p x e hx => ?_, fun a b p p' x y bb e1 e2 h1 h2 hb1 hb2 => ?_⟩
 ·by_cases ho : H.length ≤ o ∧ o < H'.length
  ·omega
  ·simp only [ho, if_false] at e; exact h.dom o p e
 ·rcases split o p x e hx with ⟨g1, g2, g3⟩ | g
  ·exact (hp.hr.ob o p x g2 g3).mono kp1 fun b hb => ⟨(hp.hr.own g2 g3 hb).1, rfl⟩
  ·exact (hq'.ob o p x g hx).mono kp2 fun b hb => ⟨(hq'.own g hx hb).1, rfl⟩
 ·rcases split a p x e1 h1 with ⟨g1, g2, g3⟩ | g
  ·rcases split b p' y e2 h2 with ⟨k1, k2, k3⟩ | k
   ·exact hp.hr.dj a b p p' x y bb g2 k2 g3 k3 hb1 hb2
   ·have m1 := q4 a p x bb g1 g2 g3 hb1
    have m2 := (h.own k h2 hb2).2
    omega
  ·rcases split b p' y e2 h2 with ⟨k1, k2, k3⟩ | k
   ·have m1 := q4 b p' y bb k1 k2 k3 hb2
    have m2 := (h.own g h1 hb1).2
    omega
   ·exact h.dj a b p p' x y bb g k h1 h2 hb1 hb2
theorem Post.into (hp : Post q ρ0 Z H w ρ' Z' H' w') (hq : q < 2) (hsub : ∀ o p, ρ0 o = some p → ρ o = some p) : ∀ o p, ρ' o = some p → (fun o => if H.length ≤ o ∧ o < H'.length then ρ' o else ρ o) o = some p := by
 intro o p e
 have hlt := hp.hr.dom o p e
 by_cases ho : H.length ≤ o
 ·simp only [ho, hlt, and_self, if_true]; exact e
 ·rcases hp.dom o p e with ⟨p0, e0⟩ | hge
  ·have := hp.rhoq (show q < 3 by omega) e0
   rw [e] at this; cases this
   simp only [ho, false_and, if_false]; exact hsub o p e0
  ·omega
end heaps
theorem zUP (q p : Nat) (v : V) : scrub0 q (scrub0 p v) = scrub0 p (scrub0 q v) := by
 cases v with
 | obj o => by_cases h1 : vp q o = true <;> by_cases h2 : vp p o = true <;> simp [scrub0, h1, h2]
 | opt s o i off => by_cases h1 : vp q o = true <;> by_cases h2 : vp p o = true <;> simp [scrub0, h1, h2]
 | sl s o a b => by_cases h1 : vp q o = true <;> by_cases h2 : vp p o = true <;> simp [scrub0, h1, h2]
 | bx cs off => by_cases h : cs.all zYC = true <;> simp [scrub0, h]
 | ptr o off => by_cases h1 : vp q o = true <;> by_cases h2 : vp p o = true <;> simp [scrub0, h1, h2]
 | ext k t l =>
  cases k with
  | zero => rfl
  | succ o => by_cases h1 : zBf q o = true <;> by_cases h2 : zBf p o = true <;> simp [scrub0, h1, h2]
 | _ => rfl
theorem zpG {q : Nat} {cs : List V} (h : cs.all zYC = true) : cs.map (scrub0 q) = cs := by
 refine (List.map_congr_left fun u hu => ?_).trans (List.map_id cs)
 have := List.all_eq_true.1 h u hu
 unfold zYC at this
 split at this <;> first | rfl | cases this
theorem zQs (q p : Nat) (u : V) : scrub q (scrub0 p u) = scrub0 q (scrub0 p u) := by
 cases u with
 | obj o => by_cases h : vp p o = true <;> simp [scrub0, scrub, h]
 | opt s o i off => by_cases h : vp p o = true <;> simp [scrub0, scrub, h]
 | sl s o a b => by_cases h : vp p o = true <;> simp [scrub0, scrub, h]
 | bx cs off =>
  by_cases h : cs.all zYC = true
  ·simp only [scrub0, h, if_true, scrub, zpG h]
  ·simp [scrub0, scrub, h]
 | ptr o off => by_cases h : vp p o = true <;> simp [scrub0, scrub, h]
 | ext k t l =>
  cases k with
  | zero => rfl
  | succ o => by_cases h : zBf p o = true <;> simp [scrub0, scrub, h]
 | _ => rfl
theorem zUg (q : Nat) (v : V) : scrub0 q (scrub0 q v) = scrub0 q v := by
 cases v with
 | obj o => by_cases h : vp q o = true <;> simp [scrub0, h]
 | opt s o i off => by_cases h : vp q o = true <;> simp [scrub0, h]
 | sl s o a b => by_cases h : vp q o = true <;> simp [scrub0, h]
 | bx cs off => by_cases h : cs.all zYC = true <;> simp [scrub0, h]
 | ptr o off => by_cases h : vp q o = true <;> simp [scrub0, h]
 | ext k t l =>
  cases k with
  | zero => rfl
  | succ o => by_cases h : zBf q o = true <;> simp [scrub0, h]
 | _ => rfl
theorem zYy (q p : Nat) (v : V) : scrub q (scrub p v) = scrub p (scrub q v) := by
 have inner : ∀ vs : List V, (vs.map (scrub0 p)).map (scrub0 q) = (vs.map (scrub0 q)).map (scrub0 p) := by
  intro vs
  rw [List.map_map, List.map_map]
  exact List.map_congr_left fun u _ => zUP q p u
 have zI6 : ∀ u : V, scrub p u = scrub0 p u → scrub q u = scrub0 q u → scrub q (scrub p u) = scrub p (scrub q u) := fun u h1 h2 => by
  rw [h1, h2, zQs, zQs, zUP]
 cases v with
 | agg vs => simp only [scrub, inner]
 | tup vs => simp only [scrub, inner]
 | fn f vs => simp only [scrub, inner]
 | bx vs off => simp only [scrub, inner]
 | _ => exact zI6 _ rfl rfl
theorem zja (q : Nat) (v : V) : scrub q (scrub q v) = scrub q v := by
 have inner : ∀ vs : List V, (vs.map (scrub0 q)).map (scrub0 q) = vs.map (scrub0 q) := by
  intro vs
  rw [List.map_map]
  exact List.map_congr_left fun u _ => zUg q u
 have zI6 : ∀ u : V, scrub q u = scrub0 q u → scrub q (scrub q u) = scrub q u := fun u h => by
  rw [h, zQs, zUg]
 cases v with
 | agg vs => simp only [scrub, inner]
 | tup vs => simp only [scrub, inner]
 | fn f vs => simp only [scrub, inner]
 | bx vs off => simp only [scrub, inner]
 | _ => exact zI6 _ rfl
theorem zEm {q : Nat} {v : V} (hk : zEY [] v = true) (hn : ∀ o ∈ names0 v, vp q o = false ∧ zBf q o = false) : scrub0 q v = v := by
 cases v with
 | c x => rfl
 | nil0 => rfl
 | ext k t l =>
  cases k with
  | zero => rfl
  | succ o => have := hn o (by simp [names0]); simp [scrub0, this.2]
 | obj o => have := hn o (by simp [names0]); simp [scrub0, this.1]
 | opt s o i off => have := hn o (by simp [names0]); simp [scrub0, this.1]
 | sl s o a b => have := hn o (by simp [names0]); simp [scrub0, this.1]
 | ptr o off => have := hn o (by simp [names0]); simp [scrub0, this.1]
 | _ => simp [zEY] at hk
theorem zUi {q : Nat} {v : V} (hk : zo1 v = true) (hn : ∀ o ∈ names v, vp q o = false ∧ zBf q o = false) : scrub q v = v := by
 have inner : ∀ vs : List V, vs.all (zEY []) = true → (∀ u ∈ vs, ∀ o ∈ names0 u, vp q o = false ∧ zBf q o = false) → vs.map (scrub0 q) = vs := by
  intro vs h g
  conv => rhs; rw [← List.map_id vs]
  exact List.map_congr_left fun u hu => zEm (List.all_eq_true.1 h u hu) (g u hu)
 cases v with
 | agg vs => simp only [scrub]; rw [inner vs hk fun u hu o ho => hn o (by simp only [names, names1, List.mem_flatMap]; exact ⟨u, hu, ho⟩)]
 | tup vs => simp only [scrub]; rw [inner vs hk fun u hu o ho => hn o (by simp only [names, names1, List.mem_flatMap]; exact ⟨u, hu, ho⟩)]
 | bx vs off => simp only [scrub]; rw [inner vs hk fun u hu o ho => hn o (by simp only [names, names1, List.mem_flatMap]; exact ⟨u, hu, ho⟩)]
 | fn f vs =>
  simp only [scrub]
  rw [inner vs hk fun u hu o ho => hn o (by
   simp only [names, List.mem_flatMap]
   refine ⟨u, hu, ?_⟩
   have := List.all_eq_true.1 hk u hu
   cases u with
   | agg us => simp [zEY] at this
   | tup us => simp [zEY] at this
   | bx us off => simp [zEY] at this
   | _ => exact ho)]
 | c x => rfl
 | nil0 => rfl
 | ext k t l => exact zEm (v := .ext k t l) hk hn
 | obj o => exact zEm (v := .obj o) hk hn
 | opt s o i off => exact zEm (v := .opt s o i off) hk hn
 | sl s o a b => exact zEm (v := .sl s o a b) hk hn
 | ptr o off => exact zEm (v := .ptr o off) hk hn
 | _ => simp [zo1, zEY] at hk
theorem ztX {m : Nat} {v : V} (h : okN m v = true) : Wf m v := by
 have zero : ∀ u : V, zaI m u = true → Wf m u := by
  intro u h
  cases u with
  | any => exact .any
  | c x => exact .c x
  | nil0 => exact .nil0
  | ext q t l => exact .ext t l (by simpa [zaI] using h)
  | ept q t l i off => exact .ept t l i off (by simpa [zaI] using h)
  | ptr o off => exact .ptr (by simpa [zaI] using h)
  | obj o => exact .obj (by simpa [zaI] using h)
  | opt s o i off => exact .opt (by simpa [zaI] using h)
  | sl s o a b => exact .sl (by simpa [zaI] using h)
  | _ => simp [zaI] at h
 cases v with
 | agg vs => exact .agg fun u hu => zero u (List.all_eq_true.1 h u hu)
 | _ => exact zero _ h
theorem Wf.names0 {m : Nat} {v : V} (h : Wf m v) : ∀ o ∈ names0 v, o < m := by
 intro o ho
 cases h with
 | ext t l h =>
  rename_i q
  cases q with
  | zero => simp [Go.Proofs.YtkdidadegedmiaaGreat.names0] at ho
  | succ q => simp [Go.Proofs.YtkdidadegedmiaaGreat.names0] at ho; omega
 | ept t l i off h =>
  rename_i q
  cases q with
  | zero => simp [Go.Proofs.YtkdidadegedmiaaGreat.names0] at ho
  | succ q => simp [Go.Proofs.YtkdidadegedmiaaGreat.names0] at ho; omega
 | ptr h => simp [Go.Proofs.YtkdidadegedmiaaGreat.names0] at ho; omega
 | obj h => simp [Go.Proofs.YtkdidadegedmiaaGreat.names0] at ho; omega
 | opt h => simp [Go.Proofs.YtkdidadegedmiaaGreat.names0] at ho; omega
 | sl h => simp [Go.Proofs.YtkdidadegedmiaaGreat.names0] at ho; omega
 | _ => simp [Go.Proofs.YtkdidadegedmiaaGreat.names0] at ho
theorem Wf.names1 {m : Nat} {v : V} (h : Wf m v) : ∀ o ∈ names1 v, o < m := by
 intro o ho
 have list : ∀ vs : List V, (∀ u ∈ vs, Wf m u) → o ∈ vs.flatMap Go.Proofs.YtkdidadegedmiaaGreat.names0 → o < m := by
  intro vs h ho
  obtain ⟨u, hu, ho⟩ := List.mem_flatMap.1 ho
  exact (h u hu).names0 o ho
 cases v with
 | agg vs => cases h with | agg h => exact list vs h ho
 | tup vs => cases h with | tup h => exact list vs h ho
 | bx vs off => cases h with | bx h => exact list vs h ho
 | _ => exact h.names0 o ho
theorem Wf.names {m : Nat} {v : V} (h : Wf m v) : ∀ o ∈ names v, o < m := by
 intro o ho
 cases v with
 | fn f vs =>
  cases h with
  | fn h =>
   obtain ⟨u, hu, ho⟩ := List.mem_flatMap.1 ho
   exact (h u hu).names1 o ho
 | _ => exact h.names1 o ho
theorem Cn.weak {ρ : yH} {Z : Zs} {w : World} {q : Nat} {v : V} {x : Value} (h : Cn ρ Z w v x) : Cn ρ Z w (Go.Proofs.YtkdidadegedmiaaGreat.scrub q v) x :=
 h.scrub ⟨fun _ p e _ => ⟨p.fp, e, fun _ => rfl⟩, fun _ _ h => h, fun _ _ _ => rfl, fun _ _ _ _ _ _ => rfl⟩
theorem zmc {P : Program} {E : Env} {ev : Operand → V} {op : Op} {H H' : List Ob} {q : Nat} {ok : Option Prop} {v : V} (h : opV P E ev H op = .mk q ok v H') (hf : zQj op = true) (hq : q < 2) : H'.length ≤ H.length + 1 := by
 unfold zQj at hf
 rw [Bool.and_eq_true] at hf
 cases op with
 | alloc t =>
  simp only [opV, xT] at h
  split at h
  ·cases h; simp
  ·cases h
 | buildSlice t n parts =>
  simp only [opV, xT, zdt] at h
  repeat' split at h
  all_goals first
   | (cases h; done)
   | (cases h; omega)
   | skip
  rename_i htk
  cases h
  obtain ⟨h1, h2, h3⟩ := zXj htk
  simp [xJ, h1]
 | _ => exact absurd hf.1 (by simp)
structure Can (P : Program) (E : Env) (ops : Array Oper) (st : Nat → S) (info : Nat → Option Kr) : Prop where
 step : ∀ (i : Nat) (o : Oper), ops[i]? = some o → zty P E ops i o (st i) (st (i + 1)) (info i)
 dst : ∀ (i j : Nat) (o o' : Oper) (d : Tmp), ops[i]? = some o → ops[j]? = some o' → o'.dst = some d → (o.dst = some d → i = j) ∧ (d ∈ o.looksAt ops → (j < i ∧ j ∈ zPd ops i) ∨ (i < j ∧ i ∈ zPd ops j))
 on : ∀ (i : Nat) (o : Oper), ops[i]? = some o → ∀ e ∈ o.after, Region.binds .any e = true → e.on < i
 bar : ∀ (i j : Nat) (r k : Kr), j < ops.size → i < ops.size → info j = some k → 2 ≤ k.q → info i = some r → i = j ∨ (i < j ∧ i ∈ zPd ops j) ∨ (j < i ∧ j ∈ zPd ops i) ∨ zA5 r k = true
section
variable {P : Program} {E : Env} {ops : Array Oper} {st : Nat → S} {info : Nat → Option Kr}
def zIN (ops : Array Oper) (info : Nat → Option Kr) (j : Nat) : Prop := j < ops.size ∧ ∃ k, info j = some k ∧ 2 ≤ k.q
theorem zLf {i : Nat} (h : i < ops.size) : ∃ o, ops[i]? = some o := ⟨_, Array.getElem?_eq_getElem h⟩
variable (C : Can P E ops st info)
include C
theorem Can.idx {i : Nat} {r : Kr} (h : i < ops.size) (hr : info i = some r) : r.i = i := by
 obtain ⟨o, ho⟩ := zLf h
 rcases C.step i o ho with ⟨q, ok, v, H, e1, _⟩ | ⟨e1, _⟩
 ·rw [e1] at hr; cases hr; rfl
 ·rw [e1] at hr; cases hr
theorem Can.len1 {i : Nat} (h : i < ops.size) : (st i).h.length ≤ (st (i + 1)).h.length ∧ (¬ zIN ops info i → ∃ obs, (st (i + 1)).h = (st i).h ++ obs) ∧ (st (i + 1)).r.length = (st i).r.length := by
 obtain ⟨o, ho⟩ := zLf h
 rcases C.step i o ho with ⟨q, ok, v, H, e1, e2, e3, e4, e5⟩ | ⟨e1, e2, e3⟩
 ·have hk := zdy P E (st i).ev (st i).h o.op
  rw [e3] at hk
  rw [e5, S.put_h, S.upd_h]
  refine ⟨hk.1, fun hb => hk.2.1 ?_, ?_⟩
  ·by_cases hq : q < 2
   ·exact hq
   ·exact absurd ⟨h, _, e1, Nat.le_of_not_lt hq⟩ hb
  ·have : ((st i).upd q H).r.length = (st i).r.length := by unfold S.upd; split <;> simp
   rw [← this]; cases o.dst <;> simp [S.put]
 ·rw [e3, S.put_h]
  refine ⟨Nat.le_refl _, fun _ => ⟨[], by simp⟩, ?_⟩
  cases o.dst <;> simp [S.put]
theorem Can.len {i m : Nat} (h : i ≤ m) (hm : m ≤ ops.size) : (st i).h.length ≤ (st m).h.length ∧ ((∀ j, i ≤ j → j < m → ¬ zIN ops info j) → ∃ obs, (st m).h = (st i).h ++ obs) ∧ (st m).r.length = (st i).r.length := by
 obtain ⟨d, rfl⟩ := Nat.exists_eq_add_of_le h
 induction d with
 | zero => exact ⟨Nat.le_refl _, fun _ => ⟨[], by simp⟩, rfl⟩
 | succ d ih =>
  obtain ⟨g1, g2, g3⟩ := ih (by omega) (by omega)
  obtain ⟨k1, k2, k3⟩ := C.len1 (i := i + d) (by omega)
  refine ⟨Nat.le_trans g1 k1, fun hb => ?_, k3.trans g3⟩
  obtain ⟨o1, e1⟩ := g2 fun j h1 h2 => hb j h1 (by omega)
  obtain ⟨o2, e2⟩ := k2 (hb (i + d) (by omega) (by omega))
  exact ⟨o1 ++ o2, by rw [show i + (d + 1) = i + d + 1 by omega, e2, e1, List.append_assoc]⟩
theorem Can.obj {i m b : Nat} (h : i ≤ m) (hm : m ≤ ops.size) (hb : b < (st i).h.length) (hn : ∀ j k, i ≤ j → j < m → info j = some k → 2 ≤ k.q → b ∉ k.tc) : (st m).h[b]? = (st i).h[b]? := by
 obtain ⟨d, rfl⟩ := Nat.exists_eq_add_of_le h
 induction d with
 | zero => rfl
 | succ d ih =>
  refine Eq.trans ?_ (ih (by omega) (by omega) fun j k h1 h2 => hn j k h1 (by omega))
  have hl := (C.len (i := i) (m := i + d) (by omega) (by omega)).1
  obtain ⟨o, ho⟩ := zLf (ops := ops) (i := i + d) (by omega)
  rw [show i + (d + 1) = i + d + 1 by omega]
  rcases C.step (i + d) o ho with ⟨q, ok, v, H, e1, e2, e3, e4, e5⟩ | ⟨e1, e2, e3⟩
  ·rw [e5, S.put_h, S.upd_h]
   by_cases hq : q < 2
   ·have hk := zdy P E (st (i + d)).ev (st (i + d)).h o.op
    rw [e3] at hk
    obtain ⟨obs, e⟩ := hk.2.1 hq
    rw [e, List.getElem?_append_left (by omega)]
   ·refine zrY e3 (by omega) ?_
    have := hn (i + d) _ (by omega) (by omega) e1 (Nat.le_of_not_lt hq)
    simpa only [zK5, if_neg hq] using this
  ·rw [e3, S.put_h]
theorem Can.reg1 {i t : Nat} {o : Oper} (ho : ops[i]? = some o) (hd : o.dst ≠ some t) : (st (i + 1)).r[t]? = (st i).r[t]? ∨ ∃ k, info i = some k ∧ 3 ≤ k.q ∧ (st (i + 1)).r[t]? = ((st i).r[t]?).map (scrub k.q) := by
 have put : ∀ (s : S) (v : V), (s.put o.dst v).r[t]? = s.r[t]? := by
  intro s v
  cases e : o.dst with
  | none => rfl
  | some d =>
   have : d ≠ t := fun h => hd (by rw [e, h])
   simp only [S.put]; rw [List.getElem?_set_ne this]
 rcases C.step i o ho with ⟨q, ok, v, H, e1, e2, e3, e4, e5⟩ | ⟨e1, e2, e3⟩
 ·rw [e5, put]
  by_cases hq : q < 3
  ·left; unfold S.upd; rw [if_pos hq]
  ·right
   refine ⟨_, e1, Nat.le_of_not_lt hq, ?_⟩
   unfold S.upd; rw [if_neg hq]
   simp [zK5]
 ·left; rw [e3, put]
theorem Can.regP {p : V → Prop} (hp : ∀ q v, p v → p (scrub q v)) {i m t : Nat} (h : i ≤ m) (hm : m ≤ ops.size) (hd : ∀ j o, i ≤ j → j < m → ops[j]? = some o → o.dst ≠ some t) (h0 : ∀ v, (st i).r[t]? = some v → p v) : ∀ v, (st m).r[t]? = some v → p v := by
 obtain ⟨d, rfl⟩ := Nat.exists_eq_add_of_le h
 induction d with
 | zero => exact h0
 | succ d ih =>
  intro v hv
  have g := ih (by omega) (by omega) (fun j o h1 h2 => hd j o h1 (by omega))
  obtain ⟨o, ho⟩ := zLf (ops := ops) (i := i + d) (by omega)
  rw [show i + (d + 1) = i + d + 1 by omega] at hv
  rcases C.reg1 ho (hd _ o (by omega) (by omega) ho) with e | ⟨k, _, _, e⟩
  ·rw [e] at hv; exact g v hv
  ·rw [e, Option.map_eq_some_iff] at hv
   obtain ⟨u, hu, rfl⟩ := hv
   exact hp _ _ (g u hu)
theorem Can.keepS {i m t : Nat} {k : Kr} {o : Oper} (ho : ops[i]? = some o) (hk : info i = some k) (h3 : 3 ≤ k.q) (h : i < m) (hm : m ≤ ops.size) (hd : ∀ j o, i ≤ j → j < m → ops[j]? = some o → o.dst ≠ some t) : ∀ v, (st m).r[t]? = some v → scrub k.q v = v := by
 refine C.regP (p := fun v => scrub k.q v = v) (fun q v e => by rw [zYy, e]) (i := i + 1) h hm (fun j o h1 h2 => hd j o (by omega) h2) fun v hv => ?_
 rcases C.step i o ho with ⟨q, ok, v', H, e1, e2, e3, e4, e5⟩ | ⟨e1, e2, e3⟩
 ·rw [e1] at hk; cases hk
  have hdi := hd i o (Nat.le_refl _) h ho
  have put : (((st i).upd q H).put o.dst v').r[t]? = ((st i).upd q H).r[t]? := by
   cases e : o.dst with
   | none => rfl
   | some d =>
    have : d ≠ t := fun h => hdi (by rw [e, h])
    simp only [S.put]; rw [List.getElem?_set_ne this]
  rw [e5, put] at hv
  unfold S.upd at hv
  have h3' : ¬ q < 3 := Nat.not_lt.2 h3
  rw [if_neg h3'] at hv
  simp only [List.getElem?_map, Option.map_eq_some_iff] at hv
  obtain ⟨u, _, rfl⟩ := hv
  exact zja q u
 ·rw [e1] at hk; cases hk
end
def Dn (l : Array Bool) (j : Nat) : Prop := l.getD j false = true
def zSM (ops : Array Oper) (info : Nat → Option Kr) (D : Nat → Prop) (m : Nat) : Prop := (∀ j, j < m → zIN ops info j → D j) ∧ (∀ j, m ≤ j → zIN ops info j → ¬ D j)
def Mis (D : Nat → Prop) (m j : Nat) : Prop := (j < m ∧ ¬ D j) ∨ (m ≤ j ∧ D j)
structure Inv (ops : Array Oper) (st : Nat → S) (info : Nat → Option Kr) (w0 : World) (Z0 : En) (D : Nat → Prop) (a : Act) (w : World) (ρ : yH) (Z : Zs) (ms : Nat) : Prop where
 le : ms ≤ ops.size
 cur : zSM ops info D ms
 nxt : ms = ops.size ∨ zIN ops info ms
 hr : ∀ m, m ≤ ops.size → zSM ops info D m → HR (ρ.upto (st m).h.length) Z (st m).h w
 frm : Frm w0 Z0 ρ Z (st ms).h w
 dom : ∀ o p, ρ o = some p → o < (st ms).h.length
 free : ∀ i, i < ops.size → ¬ D i → ∀ o, (st i).h.length ≤ o → o < (st (i + 1)).h.length → ρ o = none
 size : a.tmps.size = (st 0).r.length
 defers : Dfx Z0 a
 reg : ∀ m t v, m ≤ ops.size → (∀ j o, ops[j]? = some o → o.dst = some t → (j < m ∧ D j) ∨ (m ≤ j ∧ ¬ D j)) → (st m).r[t]? = some v → (∀ j k, info j = some k → j < ops.size → 3 ≤ k.q → Mis D m j → scrub k.q v = v) → Cn ρ Z w v (a.tmps.getD t undef) ∧ Wf (st m).h.length v
end Go.Proofs.YtkdidadegedmiaaGreat
namespace Go.Proofs.YtkdidadegedmiaaGreat
open Go.RowKit
section
variable {P : Program} {E : Env} {ops : Array Oper} {st : Nat → S} {info : Nat → Option Kr} {w0 : World} {Z0 : En} {D : Nat → Prop} {a : Act} {w : World} {ρ : yH} {Z : Zs} {ms : Nat}
theorem zUo (a : Act) {d : Option Tmp} {t : Nat} (x : Value) (h : d ≠ some t) : (a.put d x).tmps.getD t undef = a.tmps.getD t undef := by
 cases d with
 | none => rfl
 | some d =>
  have : d ≠ t := fun e => h (by rw [e])
  simp only [Act.put]
  rw [Array.getD_eq_getD_getElem?, Array.getElem?_setIfInBounds_ne this, ← Array.getD_eq_getD_getElem?]
theorem zgj (a : Act) {t : Nat} (x : Value) (h : t < a.tmps.size) : (a.put (some t) x).tmps.getD t undef = x := by
 simp only [Act.put]
 rw [Array.getD_eq_getD_getElem?, Array.getElem?_setIfInBounds_self_of_lt h]; rfl
theorem zSd (a : Act) (d : Option Tmp) (x : Value) : (a.put d x).tmps.size = a.tmps.size := by cases d <;> simp [Act.put]
theorem zlX (ops : Array Oper) (info : Nat → Option Kr) {i : Nat} (hi : i ≤ ops.size) : ∃ ms, i ≤ ms ∧ ms ≤ ops.size ∧ (∀ j, i ≤ j → j < ms → ¬ zIN ops info j) ∧ (ms = ops.size ∨ zIN ops info ms) := by
 by_cases h : ∃ j, i ≤ j ∧ zIN ops info j
 ·obtain ⟨m, ⟨h1, h2⟩, h3⟩ := zsk h
  exact ⟨m, h1, Nat.le_of_lt h2.1, fun j h4 h5 h6 => by have := h3 j ⟨h4, h6⟩; omega, .inr h2⟩
 ·exact ⟨ops.size, hi, Nat.le_refl _, fun j h1 _ h2 => h ⟨j, h1, h2⟩, .inl rfl⟩
theorem zSM.skip {i m : Nat} (hi : ¬ zIN ops info i) : zSM ops info (fun j => D j ∨ j = i) m ↔ zSM ops info D m := by
 constructor
 ·rintro ⟨h1, h2⟩
  exact ⟨fun j hj hb => (h1 j hj hb).resolve_right fun e => hi (e ▸ hb), fun j hj hb hd => h2 j hj hb (.inl hd)⟩
 ·rintro ⟨h1, h2⟩
  exact ⟨fun j hj hb => .inl (h1 j hj hb), fun j hj hb hd => hd.elim (h2 j hj hb) fun e => hi (e ▸ hb)⟩
theorem zLJ {ρ : yH} {m : Nat} (h : ∀ o p, ρ o = some p → o < m) : ρ.upto m = ρ := by
 funext o
 unfold yH.upto
 split
 ·rfl
 ·rename_i hn
  cases e : ρ o with
  | none => rfl
  | some p => exact absurd (h o p e) hn
theorem Cn.names0 {ρ : yH} {Z : Zs} {w : World} {v : V} {x : Value} (h : Cn ρ Z w v x) : ∀ o ∈ names0 v, ∃ p, ρ o = some p := by
 intro o ho
 cases h with
 | ptr h => simp [Go.Proofs.YtkdidadegedmiaaGreat.names0] at ho; subst ho; exact ⟨_, h⟩
 | obj h _ => simp [Go.Proofs.YtkdidadegedmiaaGreat.names0] at ho; subst ho; exact ⟨_, h⟩
 | opt h _ _ => simp [Go.Proofs.YtkdidadegedmiaaGreat.names0] at ho; subst ho; exact ⟨_, h⟩
 | sl h _ _ _ _ => simp [Go.Proofs.YtkdidadegedmiaaGreat.names0] at ho; subst ho; exact ⟨_, h⟩
 | ext ys hq =>
  rename_i q _ _ _ _ _ _ _ _ _ _ _ _ _
  cases q with
  | zero => simp [Go.Proofs.YtkdidadegedmiaaGreat.names0] at ho
  | succ q => simp [Go.Proofs.YtkdidadegedmiaaGreat.names0] at ho; subst ho; exact hq _ rfl
 | ept ys hq =>
  rename_i q _ _ _ _ _ _ _ _ _ _
  cases q with
  | zero => simp [Go.Proofs.YtkdidadegedmiaaGreat.names0] at ho
  | succ q => simp [Go.Proofs.YtkdidadegedmiaaGreat.names0] at ho; subst ho; exact hq _ rfl
 | _ => simp [Go.Proofs.YtkdidadegedmiaaGreat.names0] at ho
theorem Cn.names1 {ρ : yH} {Z : Zs} {w : World} {v : V} {x : Value} (h : Cn ρ Z w v x) : ∀ o ∈ names1 v, ∃ p, ρ o = some p := by
 intro o ho
 have list : ∀ (vs : List V) (xs : List Value), xs.length = vs.length → (∀ (i : Nat) (u : V) (y : Value), vs[i]? = some u → xs[i]? = some y → Cn ρ Z w u y) → o ∈ vs.flatMap Go.Proofs.YtkdidadegedmiaaGreat.names0 → ∃ p, ρ o = some p := by
  intro vs xs hl h ho
  obtain ⟨u, hu, ho⟩ := List.mem_flatMap.1 ho
  obtain ⟨y, hy⟩ := zOC hl h u hu
  exact hy.names0 o ho
 cases v with
 | agg vs => cases h with | agg h0 h => exact list _ _ h0 h ho
 | tup vs => cases h with | tup h0 h => exact list _ _ h0 h ho
 | bx vs off =>
  cases h with
  | bx h0 h1 h2 h =>
   obtain ⟨u, hu, ho⟩ := List.mem_flatMap.1 ho
   obtain ⟨i, hi⟩ := List.mem_iff_getElem?.1 hu
   have hlt := (List.getElem?_eq_some_iff.1 hi).1
   exact (h i u _ hi (Array.getElem?_eq_getElem (by omega))).names0 o ho
 | _ => exact h.names0 o ho
theorem Cn.names {ρ : yH} {Z : Zs} {w : World} {v : V} {x : Value} (h : Cn ρ Z w v x) : ∀ o ∈ names v, ∃ p, ρ o = some p := by
 intro o ho
 cases v with
 | fn f vs =>
  cases h with
  | fn h0 h =>
   obtain ⟨u, hu, ho⟩ := List.mem_flatMap.1 ho
   obtain ⟨y, hy⟩ := zOC h0 h u hu
   exact hy.names1 o ho
 | _ => exact h.names1 o ho
theorem zWt {r k : Kr} (h : zA5 r k = true) (hk : 3 ≤ k.q) : r.kp = true ∧ ∀ o ∈ r.nm, vp k.q o = false ∧ zBf k.q o = false := by
 unfold zA5 at h
 rw [Bool.and_eq_true, Bool.or_eq_true (decide _)] at h
 have h2 := h.2.resolve_left (by simpa using hk)
 rw [Bool.and_eq_true] at h2
 refine ⟨h2.1, fun o ho => ?_⟩
 have := List.all_eq_true.1 h2.2 o ho
 simpa using this
theorem zcT {r k : Kr} (h : zA5 r k = true) (hq : r.q ≠ 0) : ∀ o ∈ r.nm, o ∉ k.tc := by
 unfold zA5 at h
 rw [Bool.and_eq_true, Bool.and_eq_true] at h
 have h1 := h.1.2
 rw [Bool.or_eq_true] at h1
 have h2 := h1.resolve_left (by simpa using hq)
 intro o ho
 have := List.all_eq_true.1 h2 o ho
 simpa using this
theorem zpr {r k : Kr} (h : zA5 r k = true) : r.rd = true ∨ (r.fr = true ∧ r.i < k.i ∧ r.n ∉ k.tc) := by
 unfold zA5 at h
 rw [Bool.and_eq_true, Bool.and_eq_true, Bool.or_eq_true, Bool.and_eq_true, Bool.and_eq_true, decide_eq_true_eq] at h
 exact h.1.1.imp id fun g => ⟨g.1.1, g.1.2, by simpa using g.2⟩
theorem Inv.step (hE : EnvOk P E) (C : Can P E ops st info) (I : Inv ops st info w0 Z0 D a w ρ Z ms) {i : Nat} {o : Oper} (ho : ops[i]? = some o) (hfx : NoF Z0 o.dst) (hnd : ¬ D i) (hpre : ∀ j ∈ zPd ops i, D j) (hcl : ∀ j, j < ops.size → D j → ∀ k ∈ zPd ops j, D k)
  {K : Act → World → Prop} {Q : Exit → Act → World → Prop} (hK : ∀ a' w' ρ' Z' ms', Inv ops st info w0 Z0 (fun j => D j ∨ j = i) a' w' ρ' Z' ms' → K a' w') : wpOp P ops Q i K a w := by
 have hi : i < ops.size := (Array.getElem?_eq_some_iff.1 ho).1
 have un : ∀ (j : Nat) (k r : Kr), info i = some r → info j = some k → 2 ≤ k.q → j < ops.size → Mis D i j → zA5 r k = true := by
  intro j k r hr hk h2 hj hmis
  rcases C.bar i j r k hj hi hk h2 hr with h | ⟨h1, h3⟩ | ⟨h1, h3⟩ | h
  ·subst h
   rcases hmis with h | h
   ·omega
   ·exact absurd h.2 hnd
  ·rcases hmis with h | h
   ·omega
   ·exact absurd (hcl j hj h.2 i h3) hnd
  ·rcases hmis with h | h
   ·exact absurd (hpre j h3) h.2
   ·omega
  ·exact h
 have opnd : ∀ t ∈ o.looksAt ops, (∀ j k, info j = some k → j < ops.size → 3 ≤ k.q → Mis D i j → scrub k.q ((st i).r.getD t .any) = (st i).r.getD t .any) → Cn ρ Z w ((st i).r.getD t .any) (a.tmps.getD t undef) ∧ Wf (st i).h.length ((st i).r.getD t .any) := by
  intro t ht hkeep
  cases e : (st i).r[t]? with
  | none => rw [List.getD_eq_getElem?_getD, e]; exact ⟨.any _, .any⟩
  | some v =>
   rw [List.getD_eq_getElem?_getD, e] at hkeep ⊢
   refine I.reg i t v (Nat.le_of_lt hi) (fun j o' ho' hd => ?_) e hkeep
   rcases (C.dst i j o o' t ho ho' hd).2 ht with ⟨h1, h2⟩ | ⟨h1, h2⟩
   ·exact .inl ⟨h1, hpre j h2⟩
   ·exact .inr ⟨Nat.le_of_lt h1, fun hD => hnd (hcl j (Array.getElem?_eq_some_iff.1 ho').1 hD i h2)⟩
 have want : ∀ b, gw ops (st i) o = some b → Region.wanted o (yielded ops a.tmps) = b := by
  intro b hb
  unfold gw at hb
  cases hg : o.guard with
  | none => rw [hg] at hb; cases hb; simp [Region.wanted, hg]
  | some p =>
   obtain ⟨g, wt⟩ := p
   rw [hg] at hb
   simp only at hb
   cases ht : (ops[g]?).bind (·.dst) with
   | none => rw [ht] at hb; cases hb
   | some t =>
    rw [ht] at hb
    simp only at hb
    have hm : t ∈ o.looksAt ops := by
     unfold Oper.looksAt
     rw [hg]
     simp only [ht]
     exact List.mem_append_right _ (by simp)
    split at hb
    ·rename_i b' e
     cases hb
     obtain ⟨c1, _⟩ := opnd t hm (fun j k _ _ _ _ => by rw [e]; rfl)
     rw [e] at c1
     have hx := x8 c1
     have hy : a.tmps[t]? = some (.bool b') := by
      rw [Array.getD_eq_getD_getElem?] at hx
      cases e2 : a.tmps[t]? with
      | none => rw [e2] at hx; cases hx
      | some z => rw [e2] at hx; simp at hx; rw [hx]
     simp [Region.wanted, hg, yielded, ht, hy]
    ·rename_i vs e
     cases hb
     obtain ⟨c1, _⟩ := opnd t hm (fun j k _ _ _ _ => by rw [e]; rfl)
     rw [e] at c1
     have hx := x8 c1
     have hy : yielded ops a.tmps g ≠ some wt := by
      simp only [yielded, ht, Option.bind_some]
      intro e3
      split at e3
      ·rename_i b hb
       rw [Array.getD_eq_getD_getElem?, hb] at hx
       cases hx
      ·cases e3
     simp [Region.wanted, hg]
     exact hy
    ·cases hb
 have hsize : ∀ m, m ≤ ops.size → (st m).r.length = (st 0).r.length := fun m hm => (C.len (Nat.zero_le m) hm).2.2
 have uniq : ∀ j o' t, ops[j]? = some o' → o'.dst = some t → o.dst = some t → i = j := fun j o' t ho' hd hd' => (C.dst i j o o' t ho ho' hd).1 hd'
 have written : ∀ (x : Value) (ρ' : yH) (Z' : Zs) (w' : World), (∀ t, o.dst = some t → ∀ u, (st (i + 1)).r[t]? = some u → Cn ρ' Z' w' u x ∧ Wf (st (i + 1)).h.length u) →
   ∀ m t u, m ≤ ops.size → (∀ j o', ops[j]? = some o' → o'.dst = some t → (j < m ∧ (D j ∨ j = i)) ∨ (m ≤ j ∧ ¬ (D j ∨ j = i))) → o.dst = some t → (st m).r[t]? = some u → Cn ρ' Z' w' u ((a.put o.dst x).tmps.getD t undef) ∧ Wf (st m).h.length u := by
  intro x ρ' Z' w' hc m t u hm hw hd hu
  have him : i < m := by
   rcases hw i o ho hd with h | h
   ·exact h.1
   ·exact absurd (.inr rfl) h.2
  have htl : t < a.tmps.size := by rw [I.size, ← hsize m hm]; exact (List.getElem?_eq_some_iff.1 hu).1
  rw [hd, zgj a x htl]
  refine C.regP (p := fun v => Cn ρ' Z' w' v x ∧ Wf (st m).h.length v) (fun q v h => ⟨h.1.weak, h.2.scrub⟩) (i := i + 1) him hm (fun j o' h1 h2 h3 h4 => ?_) (fun v hv => ?_) u hu
  ·have := uniq j o' t h3 h4 hd; omega
  ·obtain ⟨c1, c2⟩ := hc t hd v hv
   exact ⟨c1, c2.mono (C.len him hm).1⟩
 have regs : ∀ (x : Value) (ρ' : yH) (Z' : Zs) (w' : World), (∀ k, info i = some k → k.q < 3) → (∀ t, o.dst = some t → ∀ u, (st (i + 1)).r[t]? = some u → Cn ρ' Z' w' u x ∧ Wf (st (i + 1)).h.length u) → Kp ρ Z w ρ' Z' w' →
   ∀ m t u, m ≤ ops.size → (∀ j o', ops[j]? = some o' → o'.dst = some t → (j < m ∧ (D j ∨ j = i)) ∨ (m ≤ j ∧ ¬ (D j ∨ j = i))) → (st m).r[t]? = some u → (∀ j k, info j = some k → j < ops.size → 3 ≤ k.q → Mis (fun j => D j ∨ j = i) m j → scrub k.q u = u) →
    Cn ρ' Z' w' u ((a.put o.dst x).tmps.getD t undef) ∧ Wf (st m).h.length u := by
  intro x ρ' Z' w' hnc hc kp m t u hm hw hu hmis
  by_cases hd : o.dst = some t
  ·exact written x ρ' Z' w' hc m t u hm hw hd hu
  ·have hne : ∀ j o', ops[j]? = some o' → o'.dst = some t → j ≠ i := fun j o' h1 h2 e => by subst e; rw [ho] at h1; cases h1; exact hd h2
   have := I.reg m t u hm (fun j o' h1 h2 => by
    have hji := hne j o' h1 h2
    rcases hw j o' h1 h2 with h | h
    ·exact .inl ⟨h.1, h.2.resolve_right hji⟩
    ·exact .inr ⟨h.1, fun h' => h.2 (.inl h')⟩) hu (fun j k h1 h2 h3 h4 => by
    refine hmis j k h1 h2 h3 ?_
    have hji : j ≠ i := fun e => by subst e; have := hnc k h1; omega
    rcases h4 with h4 | h4
    ·exact .inl ⟨h4.1, fun h => h4.2 (h.resolve_right hji)⟩
    ·exact .inr ⟨h4.1, .inl h4.2⟩)
   rw [zUo a x hd]
   exact ⟨this.1.mono kp, this.2⟩
 unfold wpOp
 simp only [ho]
 rcases C.step i o ho with ⟨q, ok, v, H, e1, e2, e3, e4, e5⟩ | ⟨e1, e2, e3⟩
 ·rw [if_pos (want true e2)]
  left
  have hH : (st (i + 1)).h = H := by rw [e5, S.put_h, S.upd_h]
  have hput : ∀ t, o.dst = some t → ∀ u, (st (i + 1)).r[t]? = some u → u = v := by
   intro t hd u hu
   have ht : t < ((st i).upd q H).r.length := by
    have := (List.getElem?_eq_some_iff.1 hu).1
    rw [e5, hd] at this
    simpa [S.put] using this
   rw [e5, hd] at hu
   simp only [S.put] at hu
   rw [List.getElem?_set_self ht] at hu
   exact (Option.some.inj hu).symm
  have opx : ∀ x ∈ o.op.operands, Cn ρ Z w ((st i).ev x) (a.eval x) ∧ Wf (st i).h.length ((st i).ev x) := by
   intro x hx
   cases x with
   | tmp t =>
    refine opnd t (List.mem_append_left _ (List.mem_filterMap.2 ⟨.tmp t, by simpa using hx, rfl⟩)) fun j k hk hj h3 hmis => ?_
    obtain ⟨k1, k2⟩ := zWt (un j k _ e1 hk (by omega) hj hmis) h3
    have hm : (st i).ev (.tmp t) ∈ v :: o.op.operands.toList.map (st i).ev := List.mem_cons_of_mem _ (List.mem_map.2 ⟨_, by simpa using hx, rfl⟩)
    exact zUi (List.all_eq_true.1 k1 _ hm) fun o' ho' => k2 o' (List.mem_flatMap.2 ⟨_, hm, ho'⟩)
   | const x =>
    show Cn ρ Z w (zN4 x) x ∧ Wf (st i).h.length (zN4 x)
    unfold zN4
    split
    ·rename_i e; exact ⟨.c x (zQo e), .c x⟩
    ·exact ⟨.any _, .any⟩
   | global g => exact ⟨.any _, .any⟩
   | func f => exact ⟨Cn.fn (vs := []) (xs := []) rfl (by intro i u y h; simp at h), .fn (by simp)⟩
  have hop := zbt hE o (st i).ev
  by_cases hrd : (decide (q < 2) && (rdr q o.op && (q == 0 || okN (st i).h.length v))) = true
  ·-- it only reads
   rw [Bool.and_eq_true, Bool.and_eq_true, decide_eq_true_eq] at hrd
   obtain ⟨hq2, hrr, hok⟩ := hrd
   have hnb : ¬ zIN ops info i := by rintro ⟨_, k, h1, h2⟩; rw [e1] at h1; cases h1; exact absurd h2 (Nat.not_le.2 hq2)
   have hnc : ∀ k, info i = some k → k.q < 3 := by intro k h1; rw [e1] at h1; cases h1; exact Nat.lt_succ_of_lt hq2
   have hrm := I.hr ms I.le I.cur
   rw [zLJ I.dom] at hrm
   obtain ⟨hHi, hre⟩ := zpn e3 hrr
   have hwfv : Wf (st (i + 1)).h.length v := by
    by_cases h0 : q = 0
    ·subst h0
     exact (ztj e3 fun x hx => (opx x hx).2).mono (C.len1 hi).1
    ·refine (ztX (m := (st i).h.length) (v := v) ?_).mono (C.len1 hi).1
     rw [Bool.or_eq_true] at hok
     exact hok.resolve_left (by simpa using h0)
   have hs := hop (st ms).h
   have hsame : opV P E (st i).ev (st ms).h o.op = .mk q ok v (st ms).h := by
    by_cases h0 : q = 0
    ·subst h0; exact zXh e3
    ·refine hre _ fun x hx b hb => ?_
     have hm : b ∈ (zK5 i q o.op (st i).ev (st i).h v).nm := List.mem_flatMap.2 ⟨_, List.mem_cons_of_mem _ (List.mem_map.2 ⟨x, by simpa using hx, rfl⟩), hb⟩
     rcases Nat.le_total i ms with h | h
     ·refine C.obj h I.le ((opx x hx).2.names b hb) fun j k h1 h2 h3 h4 => ?_
      have hj : j < ops.size := Nat.lt_of_lt_of_le h2 I.le
      exact zcT (un j k _ e1 h3 h4 hj (.inr ⟨h1, I.cur.1 j h2 ⟨hj, k, h3, h4⟩⟩)) h0 b hm
     ·refine (C.obj h (Nat.le_of_lt hi) ?_ fun j k h1 h2 h3 h4 => ?_).symm
      ·obtain ⟨p, hp⟩ := (opx x hx).1.names b hb
       exact I.dom b p hp
      ·have hj : j < ops.size := Nat.lt_trans h2 hi
       exact zcT (un j k _ e1 h3 h4 hj (.inl ⟨h2, I.cur.2 j h1 ⟨hj, k, h3, h4⟩⟩)) h0 b hm
   rw [hsame] at hs
   refine hs ρ Z w a hrm (fun x hx => (opx x hx).1) e4 K Q fun ρ' Z' w' x hp hv => ?_
   obtain ⟨q1, q2, q3, q4⟩ := hp.quiet hq2
   have hsub : ∀ o p, ρ' o = some p → ρ o = some p := by
    intro o p e
    rcases hp.dom o p e with ⟨p0, e0⟩ | h
    ·have := hp.rhoq (show q < 3 by omega) e0
     rw [e] at this
     rw [e0, Option.some.inj this]
    ·have := hp.hr.dom o p e; omega
   have hv' : Cn ρ Z' w' v x := hv.mono ⟨hsub, fun _ _ h => h, fun _ _ _ => rfl, fun _ _ _ _ _ => rfl⟩
   refine hK _ w' ρ Z' ms ⟨I.le, (zSM.skip hnb).2 I.cur, I.nxt, fun m hm hc => (I.hr m hm ((zSM.skip hnb).1 hc)).quiet hp hq2, ⟨I.frm.size.trans hp.size, fun b hb hm => by rw [q1 b (Nat.lt_of_lt_of_le hb I.frm.size.le)]; exact I.frm.same b hb hm, I.frm.own, fun b hb => ?_, fun j p n e => by
     obtain ⟨h1, ⟨cs, h2, h3⟩, h4⟩ := I.frm.refs j p n e
     exact ⟨h1, ⟨cs, h2, h3⟩, h4.trans (zBF.same (q1 _ (hrm.own h1 h2 rfl).2))⟩⟩,
    I.dom, fun j hj hnj => I.free j hj fun h => hnj (.inl h), by rw [zSd]; exact I.size, I.defers.put hfx _,
    regs x ρ Z' w' hnc (fun t hd u hu => by rw [hput t hd u hu]; exact ⟨hv', hwfv⟩) ⟨fun _ _ h => h, hp.zm, (hrm.kp q1).h, (hrm.kp q1).f⟩⟩
   rcases q2 false b hb with hb | hb
   ·exact I.frm.zs b hb
   ·exact .inr (.inl (Nat.le_trans I.frm.size.le hb))
  ·have hfr : ∀ {j : Nat} {r k : Kr}, info i = some r → info j = some k → j < ops.size → zA5 r k = true → q < 2 ∧ zQj o.op = true ∧ i < j ∧ (st i).h.length ∉ k.tc := by
    intro j r k hr hk hj h
    rw [e1] at hr; cases hr
    rcases zpr h with h | ⟨h1, h2, h3⟩
    ·exact absurd h hrd
    ·rw [C.idx hj hk] at h2
     simp only [zK5, Bool.and_eq_true, decide_eq_true_eq] at h1
     exact ⟨h1.1, h1.2, h2, h3⟩
   by_cases hq2 : q < 2
   ·-- quiet
    have hnb : ¬ zIN ops info i := by rintro ⟨_, k, h1, h2⟩; rw [e1] at h1; cases h1; exact absurd h2 (Nat.not_le.2 hq2)
    have hnc : ∀ k, info i = some k → k.q < 3 := by intro k h1; rw [e1] at h1; cases h1; exact Nat.lt_succ_of_lt hq2
    have ahead : ∀ j, j < i → zIN ops info j → D j := by
     rintro j hj ⟨h1, k, h2, h3⟩
     rcases C.bar i j _ k h1 hi h2 h3 e1 with h | h | h | h
     ·omega
     ·omega
     ·exact hpre j h.2
     ·have := (hfr e1 h2 h1 h).2.2.1; omega
    have him : i < ms := by
     rcases I.nxt with h | h
     ·omega
     ·by_cases e : i < ms
      ·exact e
      ·by_cases e' : ms = i
       ·subst e'; exact absurd h hnb
       ·exact absurd (ahead ms (by omega) h) (I.cur.2 ms (Nat.le_refl _) h)
    have hl1 := (C.len1 hi).1
    obtain ⟨ρ0, r1, r2, r3, hobj⟩ : ∃ ρ0 : yH, HR ρ0 Z (st i).h w ∧ (∀ o p, ρ0 o = some p → ρ o = some p ∧ o < (st i).h.length) ∧ (∀ x ∈ o.op.operands, Cn ρ0 Z w ((st i).ev x) (a.eval x)) ∧
      (∀ m, i < m → m ≤ ops.size → zSM ops info D m → ∀ b, (st i).h.length ≤ b → b < (st (i + 1)).h.length → (st m).h[b]? = (st (i + 1)).h[b]?) := by
     by_cases hf : zQj o.op = true
     ·have hrm := I.hr ms I.le I.cur
      refine ⟨fun _ => Option.none, ⟨hrm.zl, fun o p e => (by cases e), fun o p x e => (by cases e), fun o o' p p' x x' b e => (by cases e)⟩, fun o p e => (by cases e), fun x hx => ?_, fun m h1 h2 h3 b b1 b2 => ?_⟩
      ·have hc : zo3 x = true := by
        unfold zQj at hf
        rw [Bool.and_eq_true] at hf
        exact List.all_eq_true.1 hf.2 x (by simpa using hx)
       cases x with
       | const x =>
        show Cn _ Z w (zN4 x) x
        unfold zN4
        split
        ·rename_i e; exact .c x (zQo e)
        ·exact .any _
       | _ => cases hc
      ·refine C.obj (i := i + 1) h1 h2 b2 fun j k g1 g2 g3 g4 => ?_
       have hj : j < ops.size := Nat.lt_of_lt_of_le g2 h2
       have hb : b = (st i).h.length := by
        have := zmc e3 hf hq2
        rw [hH] at b2
        omega
       rcases C.bar i j _ k hj hi g3 g4 e1 with h | h | h | h
       ·omega
       ·exact absurd (hcl j hj (h3.1 j g2 ⟨hj, k, g3, g4⟩) i h.2) hnd
       ·omega
       ·rw [hb]; exact (hfr e1 g3 hj h).2.2.2
     ·have curBI : zSM ops info D i := by
       refine ⟨ahead, fun j hj hc hd => ?_⟩
       by_cases e : j = i
       ·subst e; exact hnd hd
       ·obtain ⟨h1, k, h2, h3⟩ := hc
        rcases C.bar i j _ k h1 hi h2 h3 e1 with h | h | h | h
        ·omega
        ·exact hnd (hcl j h1 hd i h.2)
        ·omega
        ·exact hf (hfr e1 h2 h1 h).2.1
      refine ⟨_, I.hr i (Nat.le_of_lt hi) curBI, fun o p e => ⟨yH.upto_le o p e, yH.upto_dom e⟩, fun x hx => (opx x hx).1.upto (opx x hx).2, fun m h1 h2 h3 b b1 b2 => ?_⟩
      obtain ⟨obs, e⟩ := (C.len (i := i + 1) h1 h2).2.1 fun j h4 h5 h6 => curBI.2 j (by omega) h6 (h3.1 j h5 h6)
      rw [e, List.getElem?_append_left b2]
    have hs := hop (st i).h
    rw [e3] at hs
    refine hs ρ0 Z w a r1 r3 e4 K Q fun ρ' Z' w' x hp hv => ?_
    obtain ⟨q1, q2, q3, q4⟩ := hp.quiet hq2
    rw [← hH] at hp q3 q4
    have hin := hp.into (ρ := ρ) hq2 fun o p e => (r2 o p e).1
    have hfree := I.free i hi hnd
    let ρ1 : yH := fun o => if (st i).h.length ≤ o ∧ o < (st (i + 1)).h.length then ρ' o else ρ o
    have hold : ∀ o p, ρ o = some p → ρ1 o = some p := by
     intro o p e
     by_cases hr : (st i).h.length ≤ o ∧ o < (st (i + 1)).h.length
     ·rw [hfree o hr.1 hr.2] at e; cases e
     ·simp only [ρ1, if_neg hr]; exact e
    have hkp : Kp ρ Z w ρ1 Z' w' := by
     have hrm := I.hr ms I.le I.cur
     rw [zLJ I.dom] at hrm
     exact ⟨hold, hp.zm, (hrm.kp q1).h, (hrm.kp q1).f⟩
    refine hK _ w' ρ1 Z' ms ⟨I.le, (zSM.skip hnb).2 I.cur, I.nxt, fun m hm hc => ?_, ⟨I.frm.size.trans hp.size, fun b hb hm => by rw [q1 b (Nat.lt_of_lt_of_le hb I.frm.size.le)]; exact I.frm.same b hb hm, fun ob p y b k1 k2 k3 => ?_, fun b hb => ?_, fun j p n e => by
      obtain ⟨h1, ⟨cs, h2, h3⟩, h4⟩ := I.frm.refs j p n e
      have hrm := I.hr ms I.le I.cur
      rw [zLJ I.dom] at hrm
      exact ⟨hold _ _ h1, ⟨cs, h2, h3⟩, h4.trans (zBF.same (q1 _ (hrm.own h1 h2 rfl).2))⟩⟩,
     fun ob p k1 => ?_, fun j hj hnj ob k1 k2 => ?_, by rw [zSd]; exact I.size, I.defers.put hfx _,
     regs x ρ1 Z' w' hnc (fun t hd u hu => by rw [hput t hd u hu]; exact ⟨hv.mono ⟨hin, fun _ _ h => h, fun _ _ _ => rfl, fun _ _ _ _ _ => rfl⟩, hv.wf hp.hr.dom⟩) hkp⟩
    ·have hc := (zSM.skip hnb).1 hc
     by_cases hmi : m ≤ i
     ·have := (I.hr m hm hc).quiet hp hq2
      have e : ρ1.upto (st m).h.length = ρ.upto (st m).h.length := by
       funext o'
       unfold yH.upto
       split
       ·rename_i hlt
        have := (C.len hmi (Nat.le_of_lt hi)).1
        simp only [ρ1]
        rw [if_neg (by omega)]
       ·rfl
      rw [e]; exact this
     ·have hlm := (C.len (i := i + 1) (m := m) (by omega) hm).1
      have := (I.hr m hm hc).merge hp hq2 (fun o' p e => yH.upto_lt (r2 o' p e).1 (by have := (r2 o' p e).2; omega)) (fun o' h1 h2 => by unfold yH.upto; split; exact hfree o' h1 h2; rfl) hlm (hobj m (by omega) hm hc)
      have e : ρ1.upto (st m).h.length = (fun o' => if (st i).h.length ≤ o' ∧ o' < (st (i + 1)).h.length then ρ' o' else (ρ.upto (st m).h.length) o') := by
       funext o'
       unfold yH.upto
       by_cases hlt : o' < (st m).h.length
       ·simp only [hlt, if_true, ρ1]
       ·simp only [hlt, if_false]
        rw [if_neg (by omega)]
      rw [e]; exact this
    ·by_cases hr : (st i).h.length ≤ ob ∧ ob < (st (i + 1)).h.length
     ·simp only [ρ1, if_pos hr] at k1
      rw [hobj ms him I.le I.cur ob hr.1 hr.2] at k2
      exact .inl (Nat.le_trans I.frm.size.le (q4 ob p y b hr.1 k1 k2 k3))
     ·simp only [ρ1, if_neg hr] at k1
      exact I.frm.own ob p y b k1 k2 k3
    ·rcases q2 false b hb with hb | hb
     ·exact I.frm.zs b hb
     ·exact .inr (.inl (Nat.le_trans I.frm.size.le hb))
    ·by_cases hr : (st i).h.length ≤ ob ∧ ob < (st (i + 1)).h.length
     ·have := (C.len (i := i + 1) him I.le).1; omega
     ·simp only [ρ1, if_neg hr] at k1; exact I.dom ob p k1
    ·have hji : j ≠ i := fun e => hnj (.inr e)
     have hnr : ¬ ((st i).h.length ≤ ob ∧ ob < (st (i + 1)).h.length) := by
      rintro ⟨m1, m2⟩
      rcases Nat.lt_or_gt_of_ne hji with h | h
      ·have := (C.len (i := j + 1) (m := i) h (Nat.le_of_lt hi)).1; omega
      ·have := (C.len (i := i + 1) (m := j) h (Nat.le_of_lt hj)).1; omega
     simp only [ρ1, if_neg hnr]
     exact I.free j hj (fun h => hnj (.inl h)) ob k1 k2
   ·-- what changes memory
    have hb : zIN ops info i := ⟨hi, _, e1, Nat.le_of_not_lt hq2⟩
    have hmi : ms = i := by
     have curBI : ∀ j, j < i → zIN ops info j → D j := by
      rintro j hj ⟨h1, k, h2, h3⟩
      rcases C.bar i j _ k h1 hi h2 h3 e1 with h | h | h | h
      ·omega
      ·omega
      ·exact hpre j h.2
      ·exact absurd (hfr e1 h2 h1 h).1 hq2
     rcases Nat.lt_trichotomy ms i with h | h | h
     ·rcases I.nxt with h' | h'
      ·omega
      ·exact absurd (curBI ms h h') (I.cur.2 ms (Nat.le_refl _) h')
     ·exact h
     ·exact absurd (I.cur.1 i h hb) hnd
    subst hmi
    have hρ : ρ.upto (st ms).h.length = ρ := zLJ I.dom
    have hr := I.hr ms I.le I.cur
    rw [hρ] at hr
    have hs := hop (st ms).h
    rw [e3] at hs
    refine hs ρ Z w a hr (fun x hx => (opx x hx).1) e4 K Q fun ρ' Z' w' x hp hv => ?_
    rw [← hH] at hp
    obtain ⟨m', n1, n2, n3, n4⟩ := zlX ops info (i := ms + 1) hi
    have hlen' := (C.len n1 n2).1
    have hpref := (C.len n1 n2).2.1 n3
    have hzk := hr.zsame hp
    refine hK _ w' ρ' Z' m' ⟨n2, ⟨fun j hj hc => ?_, fun j hj hc hd => ?_⟩, n4, fun m hm hc => ?_, ⟨I.frm.size.trans hp.size, (I.frm.post hp).same, fun ob p y b k1 k2 k3 => ?_, (I.frm.post hp).zs, fun j p n e => by
      obtain ⟨h1, ⟨cs, h2, h3⟩, h4⟩ := (I.frm.post hp).refs j p n e
      obtain ⟨obs, eo⟩ := hpref
      exact ⟨h1, ⟨cs, by rw [eo, List.getElem?_append_left (List.getElem?_eq_some_iff.1 h2).1]; exact h2, h3⟩, h4⟩⟩,
     fun ob p k1 => Nat.lt_of_lt_of_le (hp.hr.dom ob p k1) hlen', fun j hj hnj ob k1 k2 => ?_, by rw [zSd]; exact I.size, I.defers.put hfx _, ?_⟩
    ·rcases Nat.lt_trichotomy j ms with h | h | h
     ·exact .inl (I.cur.1 j h hc)
     ·exact .inr h
     ·exact absurd hc (n3 j h hj)
    ·rcases hd with hd | hd
     ·exact I.cur.2 j (by omega) hc hd
     ·omega
    ·have him : ms < m := by
      by_cases h : ms < m
      ·exact h
      ·exact absurd (.inr rfl) (hc.2 ms (by omega) hb)
     have hp2 := (C.len (i := ms + 1) him hm).2.1 fun j h1 h2 h3 => by
      rcases hc.1 j h2 h3 with h | h
      ·exact I.cur.2 j (by omega) h3 h
      ·omega
     have hd2 : ∀ o' p, ρ' o' = some p → o' < (st m).h.length := fun o' p e => Nat.lt_of_lt_of_le (hp.hr.dom o' p e) (C.len (i := ms + 1) him hm).1
     rw [zLJ hd2]
     exact hp.hr.more hp2
    ·obtain ⟨obs, e⟩ := hpref
     rw [e, List.getElem?_append_left (hp.hr.dom ob p k1)] at k2
     exact (I.frm.post hp).own ob p y b k1 k2 k3
    ·cases e : ρ' ob with
     | none => rfl
     | some p =>
      have hji : j ≠ ms := fun e => hnj (.inr e)
      have m3 := hp.hr.dom ob p e
      rcases hp.dom ob p e with ⟨p0, e0⟩ | m1
      ·rw [I.free j hj (fun h => hnj (.inl h)) ob k1 k2] at e0; cases e0
      ·rcases Nat.lt_or_gt_of_ne hji with h | h
       ·have := (C.len (i := j + 1) (m := ms) h (Nat.le_of_lt hi)).1; omega
       ·have := (C.len (i := ms + 1) (m := j) h (Nat.le_of_lt hj)).1; omega
    ·have hwr : ∀ t, o.dst = some t → ∀ u, (st (ms + 1)).r[t]? = some u → Cn ρ' Z' w' u x ∧ Wf (st (ms + 1)).h.length u := fun t hd u hu => by rw [hput t hd u hu]; exact ⟨hv, hv.wf hp.hr.dom⟩
     by_cases hq3 : q < 3
     ·exact regs x ρ' Z' w' (by intro k h1; rw [e1] at h1; cases h1; exact hq3) hwr (hp.kp hr hq3)
     ·intro m t u hm hw hu hmis
      by_cases hd : o.dst = some t
      ·exact written x ρ' Z' w' hwr m t u hm hw hd hu
      ·have hne : ∀ j o', ops[j]? = some o' → o'.dst = some t → j ≠ ms := fun j o' h1 h2 e => by subst e; rw [ho] at h1; cases h1; exact hd h2
       have hself : scrub q u = u := by
        rcases Nat.lt_or_ge ms m with him | him
        ·by_cases hlate : ∃ j o', ms < j ∧ j < m ∧ ops[j]? = some o' ∧ o'.dst = some t
         ·obtain ⟨j, o', j1, j2, j3, j4⟩ := hlate
          have hjn : j < ops.size := (Array.getElem?_eq_some_iff.1 j3).1
          have hDj : D j := by
           rcases hw j o' j3 j4 with h | h
           ·exact h.2.resolve_right (by omega)
           ·omega
          refine C.regP (p := fun v => scrub q v = v) (fun q' v e => by rw [zYy, e]) (i := j + 1) j2 hm (fun j' o2 h1 h2 h3 h4 => ?_) (fun u' hu' => ?_) u hu
          ·have := (C.dst j j' o' o2 t j3 h3 h4).1 j4; omega
          ·rcases C.step j o' j3 with ⟨q', ok', v', H', f1, f2, f3, f4, f5⟩ | ⟨f1, f2, f3⟩
           ·have hu2 : u' = v' := by
             have ht : t < ((st j).upd q' H').r.length := by
              have := (List.getElem?_eq_some_iff.1 hu').1
              rw [f5, j4] at this
              simpa [S.put] using this
             rw [f5, j4] at hu'
             simp only [S.put] at hu'
             rw [List.getElem?_set_self ht] at hu'
             exact (Option.some.inj hu').symm
            subst hu2
            rcases C.bar j ms _ _ hi hjn e1 (Nat.le_of_not_lt hq2) f1 with h | h | h | h
            ·omega
            ·omega
            ·exact absurd (hcl j hjn hDj ms h.2) hnd
            ·obtain ⟨k1, k2⟩ := zWt h (Nat.le_of_not_lt hq3)
             exact zUi (List.all_eq_true.1 k1 _ List.mem_cons_self) fun b hb => k2 b (List.mem_flatMap.2 ⟨_, List.mem_cons_self, hb⟩)
           ·have hu2 : u' = .c undef := by
             have ht : t < (st j).r.length := by
              have := (List.getElem?_eq_some_iff.1 hu').1
              rw [f3, j4] at this
              simpa [S.put] using this
             rw [f3, j4] at hu'
             simp only [S.put] at hu'
             rw [List.getElem?_set_self ht] at hu'
             exact (Option.some.inj hu').symm
            rw [hu2]; rfl
         ·refine C.keepS ho e1 (Nat.le_of_not_lt hq3) him hm (fun j o' h1 h2 h3 h4 => ?_) u hu
          have := hne j o' h3 h4
          exact hlate ⟨j, o', by omega, h2, h3, h4⟩
        ·exact hmis ms _ e1 hi (Nat.le_of_not_lt hq3) (.inr ⟨him, .inr rfl⟩)
       obtain ⟨c1, c2⟩ := I.reg m t u hm (fun j o' h1 h2 => by
        have hji := hne j o' h1 h2
        rcases hw j o' h1 h2 with h | h
        ·exact .inl ⟨h.1, h.2.resolve_right hji⟩
        ·exact .inr ⟨h.1, fun h' => h.2 (.inl h')⟩) hu (fun j k h1 h2 h3 h4 => by
        by_cases hji : j = ms
        ·subst hji; rw [e1] at h1; cases h1; exact hself
        ·refine hmis j k h1 h2 h3 ?_
         rcases h4 with h4 | h4
         ·exact .inl ⟨h4.1, fun h => h4.2 (h.resolve_right hji)⟩
         ·exact .inr ⟨h4.1, .inl h4.2⟩)
       rw [zUo a x hd]
       have := c1.scrub (hp.sk hr)
       rw [hself] at this
       exact ⟨this, c2⟩
 ·have hw := want false e2
  rw [if_neg (by rw [hw]; simp)]
  have hnb : ¬ zIN ops info i := by rintro ⟨_, k, h1, h2⟩; rw [e1] at h1; cases h1
  refine hK _ w ρ Z ms ⟨I.le, (zSM.skip hnb).2 I.cur, I.nxt, fun m hm hc => I.hr m hm ((zSM.skip hnb).1 hc), I.frm, I.dom, fun j hj hnj => I.free j hj fun h => hnj (.inl h), by rw [zSd]; exact I.size, I.defers.put hfx _,
   regs undef ρ Z w (by intro k h; rw [e1] at h; cases h) (fun t hd u hu => ?_) ⟨fun _ _ h => h, fun _ _ h => h, fun _ _ _ => rfl, fun _ _ _ _ _ => rfl⟩⟩
  have hu2 : u = .c undef := by
   have ht : t < (st i).r.length := by
    have := (List.getElem?_eq_some_iff.1 hu).1
    rw [e3, hd] at this
    simpa [S.put] using this
   rw [e3, hd] at hu
   simp only [S.put] at hu
   rw [List.getElem?_set_self ht] at hu
   exact (Option.some.inj hu).symm
  rw [hu2]
  exact ⟨.c _ trivial, .c _⟩
end
end Go.Proofs.YtkdidadegedmiaaGreat
namespace Go.Proofs.YtkdidadegedmiaaGreat
open Go.RowKit
section
variable {P : Program} {ops ops' : Array Oper} {Q : Exit → Act → World → Prop} {f g : Nat → Nat}
theorem zUe (l : Array Bool) (i j : Nat) (d : Bool) : (l.setIfInBounds i true).getD j d = if i = j ∧ i < l.size then true else l.getD j d := by
 rw [Array.getD_eq_getD_getElem?, Array.getD_eq_getD_getElem?]
 by_cases h : i = j
 ·subst h
  by_cases hl : i < l.size
  ·rw [Array.getElem?_setIfInBounds_self_of_lt hl, if_pos ⟨rfl, hl⟩]; rfl
  ·rw [if_neg (by simp [hl])]
   congr 1
   rw [Array.getElem?_eq_none (by simp; omega), Array.getElem?_eq_none (by omega)]
 ·rw [Array.getElem?_setIfInBounds_ne h, if_neg (by simp [h])]
variable (hfg : ∀ j, g (f j) = j) (hgf : ∀ j, f (g j) = j) (hop : ∀ j, ops'[f j]? = (ops[j]?).map (zUK f))
include hop
theorem zgg (tmps : Array Value) (j : Nat) : yielded ops' tmps (f j) = yielded ops tmps j := by
 unfold yielded
 rw [hop]
 cases ops[j]? <;> rfl
theorem zqv {i : Nat} {K : Act → World → Prop} {a : Act} {w : World} (h : wpOp P ops' Q (f i) K a w) : wpOp P ops Q i K a w := by
 unfold wpOp at h ⊢
 rw [hop] at h
 cases e : ops[i]? with
 | none => rw [e] at h; exact h
 | some o =>
  rw [e] at h
  simp only [Option.map_some] at h ⊢
  have hw : Region.wanted (zUK f o) (yielded ops' a.tmps) = Region.wanted o (yielded ops a.tmps) := by
   unfold Region.wanted
   cases hg : o.guard with
   | none => simp [zUK, hg]
   | some p => simp only [zUK, hg, Option.map_some]; rw [zgg hop]
  rw [hw] at h
  exact h
theorem zS2 {l l' : Array Bool} (hl : ∀ j d, l'.getD (f j) d = l.getD j d) (i : Nat) : f i ∈ Region.ready .any ops' l' ↔ i ∈ Region.ready .any ops l := by
 rw [mem_ready, mem_ready, hl, hop]
 refine and_congr Iff.rfl ?_
 cases ops[i]? with
 | none => simp
 | some o =>
  simp only [Option.map_some, Option.some.injEq, exists_eq_left']
  constructor
  ·intro h e he hb
   have := h { e with on := f e.on } (by simp only [zUK]; exact Array.mem_map.2 ⟨e, he, rfl⟩) hb
   rwa [hl] at this
  ·intro h e he hb
   simp only [zUK] at he
   obtain ⟨e0, he0, rfl⟩ := Array.mem_map.1 he
   simp only
   rw [hl]
   exact h e0 he0 hb
include hfg hgf
theorem zmk (hn : ∀ j, f j < ops.size ↔ j < ops.size) : ∀ (zEO : Nat) (l l' : Array Bool) (a : Act) (w : World), l.size = ops.size → l'.size = ops.size → (∀ j d, l'.getD (f j) d = l.getD j d) →
  wpAny P .any ops' Q zEO l' a w → wpAny P .any ops Q zEO l a w := by
 have nil : ∀ (l l' : Array Bool), (∀ j d, l'.getD (f j) d = l.getD j d) → (Region.ready .any ops l = [] ↔ Region.ready .any ops' l' = []) := by
  intro l l' hl
  constructor
  ·intro h
   rw [List.eq_nil_iff_forall_not_mem] at h ⊢
   intro j hj
   rw [← hgf j, zS2 hop hl] at hj
   exact h _ hj
  ·intro h
   rw [List.eq_nil_iff_forall_not_mem] at h ⊢
   intro j hj
   rw [← zS2 hop hl] at hj
   exact h _ hj
 intro zEO
 induction zEO with
 | zero => intro l l' a w _ _ hl h; exact ⟨(nil l l' hl).2 h.1, h.2⟩
 | succ zEO ih =>
  intro l l' a w hs hs' hl h
  refine ⟨fun e => h.1 ((nil l l' hl).1 e), fun i hi => ?_⟩
  refine wpOp_mono (fun a' w' => ih _ _ a' w' (by simp [hs]) (by simp [hs']) fun j d => ?_) (zqv hop (h.2 (f i) ((zS2 hop hl i).2 hi)))
  rw [zUe, zUe, hl, hs, hs']
  have : (f i = f j ∧ f i < ops.size) ↔ (i = j ∧ i < ops.size) := by
   rw [hn]
   exact and_congr_left fun _ => ⟨fun e => by have := congrArg g e; rwa [hfg, hfg] at this, fun e => by rw [e]⟩
  simp only [this]
end
theorem zgA {P : Program} {ops : Array Oper} {Q : Exit → Act → World → Prop} {a : Act} {w : World} (h : wpAny P .any (zIi ops) Q (zIi ops).size (Array.replicate (zIi ops).size false) a w) :
  wpAny P .any ops Q ops.size (Array.replicate ops.size false) a w := by
 unfold zIi at h
 split at h
 ·rename_i hc
  rw [Bool.and_eq_true] at hc
  have hk := hc.2
  clear hc
  revert h hk
  generalize zim (zQn ops) ops.size = t
  generalize zQn ops = s
  intro h hk
  unfold zlB at hk
  rw [Bool.and_eq_true, Bool.and_eq_true] at hk
  obtain ⟨⟨h1, h2⟩, h3⟩ := hk
  simp only [beq_iff_eq] at h1 h2
  have hk : ∀ i, i < ops.size → s.getD (t.getD i ops.size) ops.size = i ∧ t.getD (s.getD i ops.size) ops.size = i := by
   intro i hi
   have := List.all_eq_true.1 h3 i (List.mem_range.2 hi)
   rw [Bool.and_eq_true] at this
   simpa using this
  have gd : ∀ (l : List Nat) (i : Nat), l.length = ops.size → i < ops.size → l.getD i ops.size = l.getD i i := by
   intro l i hl hi
   rw [List.getD_eq_getElem?_getD, List.getD_eq_getElem?_getD, List.getElem?_eq_getElem (by omega)]; rfl
  have go : ∀ (l : List Nat) (i d : Nat), l.length = ops.size → ¬ i < ops.size → l.getD i d = d := by
   intro l i d hl hi
   rw [List.getD_eq_getElem?_getD, List.getElem?_eq_none (by omega)]; rfl
  have lt : ∀ (l k : List Nat) (i : Nat), l.length = ops.size → k.length = ops.size → i < ops.size → k.getD (l.getD i ops.size) ops.size = i → l.getD i i < ops.size := by
   intro l k i hl hk' hi e
   rw [← gd l i hl hi]
   apply Classical.byContradiction
   intro hn
   rw [go k _ _ hk' hn] at e
   omega
  have inv : ∀ (l k : List Nat), l.length = ops.size → k.length = ops.size → (∀ i, i < ops.size → k.getD (l.getD i ops.size) ops.size = i) → ∀ j, k.getD (l.getD j j) (l.getD j j) = j := by
   intro l k hl hk' h j
   by_cases hj : j < ops.size
   ·have h1 := lt l k j hl hk' hj (h j hj)
    rw [← gd k _ hk' h1, ← gd l j hl hj]
    exact h j hj
   ·rw [go l j j hl hj, go k j j hk' hj]
  have hn : ∀ j, t.getD j j < ops.size ↔ j < ops.size := by
   intro j
   by_cases hj : j < ops.size
   ·exact ⟨fun _ => hj, fun _ => lt t s j h2 h1 hj (hk j hj).1⟩
   ·rw [go t j j h2 hj]
  have hsz : ((s.map fun i => zUK (fun j => t.getD j j) (ops.getD i default)).toArray).size = ops.size := by simp [h1]
  rw [hsz] at h
  refine zmk (f := fun j => t.getD j j) (g := fun j => s.getD j j) (inv t s h2 h1 fun i hi => (hk i hi).1) (inv s t h1 h2 fun i hi => (hk i hi).2) (fun j => ?_) hn ops.size _ _ a w (by simp) (by simp) (fun j d => ?_) h
  ·by_cases hj : j < ops.size
   ·have hl := (hn j).2 hj
    have := inv t s h2 h1 (fun i hi => (hk i hi).1) j
    have e : s[t.getD j j]? = some j := by
     rw [List.getD_eq_getElem?_getD, List.getElem?_eq_getElem (by omega)] at this
     rw [List.getElem?_eq_getElem (by omega)]
     exact congrArg some this
    rw [List.getElem?_toArray, List.getElem?_map, e, Array.getElem?_eq_getElem hj]
    simp only [Option.map_some, Array.getD_eq_getD_getElem?, Array.getElem?_eq_getElem hj, Option.getD_some]
   ·have hl : ¬ t.getD j j < ops.size := fun h => hj ((hn j).1 h)
    rw [Array.getElem?_eq_none (by rw [hsz]; exact Nat.le_of_not_lt hl), Array.getElem?_eq_none (by omega)]; rfl
  ·rw [Array.getD_eq_getD_getElem?, Array.getD_eq_getD_getElem?]
   have := hn j
   by_cases hj : j < ops.size
   ·rw [Array.getElem?_replicate, Array.getElem?_replicate, if_pos hj, if_pos (this.2 hj)]
   ·rw [Array.getElem?_replicate, Array.getElem?_replicate, if_neg hj, if_neg (fun h => hj (this.1 h))]
 ·exact h
end Go.Proofs.YtkdidadegedmiaaGreat
namespace Go.Proofs.YtkdidadegedmiaaGreat
open Go.RowKit
section
variable {P : Program} {E : Env} {ops : Array Oper} {st : Nat → S} {info : Nat → Option Kr} {w0 : World} {Z0 : En}
theorem zoj {Z0 : En} {ops : Array Oper} (h : zaa Z0 ops.toList) : zaa Z0 (zIi ops).toList := by
 unfold zIi
 split
 ·intro o ho
  simp only [List.mem_map] at ho
  obtain ⟨i, hi, rfl⟩ := ho
  have hlt : i < ops.size := by
   unfold zQn at hi
   rcases List.mem_append.1 hi with hi | hi <;> exact List.mem_range.1 (List.mem_filter.1 hi).1
  have : ops.getD i default = ops[i] := by simp [hlt]
  intro p hp
  rw [this]
  exact h ops[i] (by simp) p hp
 ·exact h
theorem zXn {l : Array Bool} {j : Nat} (h : l.getD j true = false) : l.getD j false = false ∧ j < l.size := by
 rw [Array.getD_eq_getD_getElem?] at h ⊢
 cases e : l[j]? with
 | none => rw [e] at h; cases h
 | some b => rw [e] at h; exact ⟨by simpa using h, (Array.getElem?_eq_some_iff.1 e).1⟩
def zVV (n : Nat) (l : Array Bool) : List Nat := (List.range n).filter fun i => !l.getD i false
theorem zpN {n i : Nat} {l : Array Bool} (hi : i < n) (h : l.getD i false = false) (hs : l.size = n) : (zVV n (l.setIfInBounds i true)).length < (zVV n l).length := by
 have e : zVV n (l.setIfInBounds i true) = (zVV n l).filter (fun j => j != i) := by
  unfold zVV
  rw [List.filter_filter]
  apply List.filter_congr
  intro j _
  by_cases hj : i = j
  ·subst hj
   rw [Array.getD_eq_getD_getElem?, Array.getElem?_setIfInBounds_self_of_lt (by omega)]
   simp
  ·rw [getD_set_ne false hj]
   have : (j != i) = true := by simp; omega
   rw [this]; simp
 rw [e]
 have hm : i ∈ zVV n l := by
  unfold zVV
  rw [List.mem_filter]
  exact ⟨List.mem_range.2 hi, by rw [h]; rfl⟩
 exact List.length_filter_lt_length_iff_exists.2 ⟨i, hm, by simp⟩
theorem zrq (hE : EnvOk P E) (hfx : zaa Z0 ops.toList) (C : Can P E ops st info) {Q : Exit → Act → World → Prop} (hQ : ∀ a w, Rel w0 Z0 (st ops.size) a w → Q .normal a w) :
  ∀ (zEO : Nat) (l : Array Bool) (a : Act) (w : World) (ρ : yH) (Z : Zs) (ms : Nat), (zVV ops.size l).length ≤ zEO → l.size = ops.size → Clo ops (Dn l) → Inv ops st info w0 Z0 (Dn l) a w ρ Z ms → wpAny P .any ops Q zEO l a w := by
 have done : ∀ (l : Array Bool) (a : Act) (w : World) (ρ : yH) (Z : Zs) (ms : Nat), (∀ j, j < ops.size → Dn l j) → Inv ops st info w0 Z0 (Dn l) a w ρ Z ms → Q .normal a w := by
  intro l a w ρ Z ms hall I
  have hm : ms = ops.size := by
   rcases I.nxt with h | h
   ·exact h
   ·exact absurd (hall ms h.1) (I.cur.2 ms (Nat.le_refl _) h)
  subst hm
  have hρ : ρ.upto (st ops.size).h.length = ρ := zLJ I.dom
  have hr := I.hr _ I.le I.cur
  rw [hρ] at hr
  refine hQ a w ⟨ρ, Z, ⟨by rw [I.size]; exact (C.len (Nat.zero_le _) (Nat.le_refl _)).2.2, fun t v hv => ?_⟩, hr, I.frm, I.defers⟩
  refine (I.reg ops.size t v (Nat.le_refl _) (fun j o ho _ => ?_) hv (fun j k _ hj _ hmis => ?_)).1
  ·have := (Array.getElem?_eq_some_iff.1 ho).1
   exact .inl ⟨this, hall j this⟩
  ·rcases hmis with h | h
   ·exact absurd (hall j hj) h.2
   ·omega
 have stuck : ∀ (l : Array Bool), l.size = ops.size → Region.ready .any ops l = [] → ∀ j, j < ops.size → Dn l j := by
  intro l hs hrd j
  induction j using Nat.strongRecOn with
  | _ j ih =>
   intro hj
   by_cases hd : Dn l j
   ·exact hd
   ·exfalso
    obtain ⟨o, ho⟩ := zLf hj
    have hlt : j < l.size := by omega
    have hf : l.getD j true = false := by
     have h1 : l.getD j false = false := by
      cases e : l.getD j false with
      | false => rfl
      | true => exact absurd e hd
     rw [Array.getD_eq_getD_getElem?, Array.getElem?_eq_getElem hlt] at h1 ⊢
     exact h1
    have : j ∈ Region.ready .any ops l := mem_ready.2 ⟨hf, o, ho, fun e he hb => ih e.on (C.on j o ho e he hb) (by have := C.on j o ho e he hb; omega)⟩
    rw [hrd] at this; cases this
 intro zEO
 induction zEO with
 | zero =>
  intro l a w ρ Z ms hf hs hc I
  have hnil : zVV ops.size l = [] := List.eq_nil_of_length_eq_zero (by omega)
  have hall : ∀ j, j < ops.size → Dn l j := by
   intro j hj
   unfold Dn
   cases e : l.getD j false with
   | true => rfl
   | false =>
    have : j ∈ zVV ops.size l := by unfold zVV; rw [List.mem_filter]; exact ⟨List.mem_range.2 hj, by rw [e]; rfl⟩
    rw [hnil] at this; cases this
  refine ⟨?_, done l a w ρ Z ms hall I⟩
  cases hr : Region.ready .any ops l with
  | nil => rfl
  | cons i rest =>
   have hm : i ∈ Region.ready .any ops l := by rw [hr]; simp
   obtain ⟨h1, o, ho, _⟩ := mem_ready.1 hm
   have := hall i (Array.getElem?_eq_some_iff.1 ho).1
   have h2 := (zXn h1).1
   unfold Dn at this
   rw [this] at h2; cases h2
 | succ zEO ih =>
  intro l a w ρ Z ms hf hs hc I
  refine ⟨fun hr => done l a w ρ Z ms (stuck l hs hr) I, fun i hi => ?_⟩
  obtain ⟨h1, o, ho, hp⟩ := mem_ready.1 hi
  have hi' : i < ops.size := (Array.getElem?_eq_some_iff.1 ho).1
  have hnd : ¬ Dn l i := by unfold Dn; rw [(zXn h1).1]; simp
  have hpre : ∀ j ∈ zPd ops i, Dn l j := zXs hc ho fun e he hb => hp e he hb
  have hcl : ∀ j, j < ops.size → Dn l j → ∀ k ∈ zPd ops j, Dn l k := by
   intro j hj hd
   obtain ⟨o', ho'⟩ := zLf hj
   exact zXs hc ho' fun e he hb => hc j o' ho' hd e he hb
  have hD : Dn (l.setIfInBounds i true) = fun j => Dn l j ∨ j = i := by
   funext j
   apply propext
   unfold Dn
   by_cases e : i = j
   ·subst e
    rw [Array.getD_eq_getD_getElem?, Array.getElem?_setIfInBounds_self_of_lt (by omega)]
    simp
   ·rw [getD_set_ne false e]
    constructor
    ·exact .inl
    ·rintro (h | h)
     ·exact h
     ·exact absurd h.symm e
  refine I.step hE C ho (hfx o (by simpa using Array.mem_of_getElem? ho)) hnd hpre hcl fun a' w' ρ' Z' ms' I' => ih _ a' w' ρ' Z' ms' ?_ (by simp [hs]) ?_ (by rw [hD]; exact I')
  ·have := zpN hi' (zXn h1).1 hs; omega
  ·intro j o' ho' hj e he hb
   rw [hD] at hj ⊢
   rcases hj with hj | rfl
   ·exact .inl (hc j o' ho' hj e he hb)
   ·rw [ho] at ho'; cases ho'
    exact .inl (hp e he hb)
theorem zbq (hE : EnvOk P E) (hm : P.follows .mixedOrders = true) (w0 : World) (Z0 : En) : zbZ P E w0 Z0 := by
 intro id ops0 s kS hfx0 h a w hr Q hq
 refine wp_region_any hm (zgA ?_)
 have hfx : zaa Z0 (zIi ops0).toList := zoj hfx0
 clear hfx0
 revert h hq hfx
 generalize zIi ops0 = ops
 intro h hq hfx
 obtain ⟨st, info, ks', c1, c2, c3, c4, c5, c6⟩ := chain ops ops.toList 0 [] [] s _ h
 simp only [Nat.zero_add, Array.length_toList] at c2 c3 c4 c6
 have hord : zV2 ops.toList ks' = true := by
  cases e : zV2 ops.toList ks' with
  | true => rfl
  | false => rw [e] at c3; simp at c3
 have hO := zhN hord
 have hkS : kS (st ops.size) := by rw [hord] at c3; simpa using c3
 have idx : ∀ (i : Nat) (r : Kr), i < ops.size → info i = some r → r.i = i := by
  intro i r hi hr
  obtain ⟨o, ho⟩ := zLf hi
  rcases c2 i o (by simpa using ho) with ⟨q, ok, v, H, e1, _⟩ | ⟨e1, _⟩
  ·rw [e1] at hr; cases hr; rfl
  ·rw [e1] at hr; cases hr
 have C : Can P E ops st info := ⟨fun i o ho => c2 i o (by simpa using ho), hO.dst, hO.on, fun i j r k hj hi e1 h2 e2 => by
  have := hO.bar k (c6 j k hj e1) h2 r (c6 i r hi e2)
  rwa [idx i r hi e2, idx j k hj e1] at this⟩
 have hQ : ∀ a w, Rel w0 Z0 (st ops.size) a w → Q .normal a w := by
  intro a' w' hr'
  refine hq (st ops.size) a' w' hkS (fun R _ k => ?_) hr'
  rw [c4 R]
  simp [hord]
 have hdn : ∀ j, ¬ Dn (Array.replicate ops.size false) j := by
  intro j
  unfold Dn
  rw [Array.getD_eq_getD_getElem?]
  by_cases hj : j < ops.size
  ·rw [Array.getElem?_replicate, if_pos hj]; simp
  ·rw [Array.getElem?_replicate, if_neg hj]; simp
 obtain ⟨ρ, Z, r1, r2, r3, r4⟩ := hr
 obtain ⟨ms, n1, n2, n3, n4⟩ := zlX ops info (i := 0) (Nat.zero_le _)
 have hr2 : HR ρ Z s.h { w with drawn := w.drawn + 1 } := r2.keep (Nat.le_refl _) (fun b _ => rfl)
 have hzero : ∀ m, m ≤ ops.size → zSM ops info (Dn (Array.replicate ops.size false)) m → ∃ obs, (st m).h = (st 0).h ++ obs := fun m hm hc => (C.len (Nat.zero_le m) hm).2.1 fun j _ h2 h3 => hdn j (hc.1 j h2 h3)
 refine zrq hE hfx C hQ ops.size _ a _ ρ Z ms ?_ (by simp) (fun i o _ h => absurd h (hdn i)) ⟨n2, ⟨fun j hj hb => absurd hb (n3 j (Nat.zero_le _) hj), fun j _ _ => hdn j⟩, n4, fun m hm hc => ?_, ?_, fun o p e => ?_, fun i hi _ o h1 _ => ?_, ?_, r4, fun m t v hm hw hv _ => ?_⟩
 ·unfold zVV
  exact Nat.le_trans (List.length_filter_le _ _) (by simp)
 ·have hp := hzero m hm hc
  have hd : ∀ o p, ρ o = some p → o < (st m).h.length := by
   intro o p e
   have := r2.dom o p e
   rw [← c1] at this
   exact Nat.lt_of_lt_of_le this (C.len (Nat.zero_le m) hm).1
  rw [zLJ hd]
  rw [← c1] at hr2
  exact hr2.more hp
 ·have hp := hzero ms n2 ⟨fun j hj hb => absurd hb (n3 j (Nat.zero_le _) hj), fun j _ _ => hdn j⟩
  obtain ⟨obs, e⟩ := hp
  refine ⟨⟨r3.size.le, r3.size.os, r3.size.tape, r3.size.output⟩, r3.same, fun o p x b k1 k2 k3 => ?_, r3.zs, fun j p k e0 => by
   obtain ⟨h1, ⟨cs, h2, h3⟩, h4⟩ := r3.refs j p k e0
   exact ⟨h1, ⟨cs, by rw [e, c1, List.getElem?_append_left (List.getElem?_eq_some_iff.1 h2).1]; exact h2, h3⟩, h4⟩⟩
  rw [e, c1, List.getElem?_append_left (r2.dom o p k1)] at k2
  exact r3.own o p x b k1 k2 k3
 ·have := r2.dom o p e
  rw [← c1] at this
  exact Nat.lt_of_lt_of_le this (C.len (Nat.zero_le ms) n2).1
 ·cases e : ρ o with
  | none => rfl
  | some p =>
   have h2 := r2.dom o p e
   rw [← c1] at h2
   have := (C.len (Nat.zero_le i) (Nat.le_of_lt hi)).1
   omega
 ·rw [c1]; exact r1.1.symm
 ·-- registers at the start
  refine C.regP (p := fun v => Cn ρ Z { w with drawn := w.drawn + 1 } v (a.tmps.getD t undef) ∧ Wf (st m).h.length v) (fun q v h => ⟨h.1.weak, h.2.scrub⟩) (Nat.zero_le m) hm (fun j o _ h2 ho hd => ?_) (fun v hv => ?_) v hv
  ·rcases hw j o ho hd with h | h
   ·exact hdn j h.2
   ·omega
  ·rw [c1] at hv
   have hcn := r1.2 t v hv
   refine ⟨hcn.mono ⟨fun _ _ h => h, fun _ _ h => h, fun _ _ _ => rfl, fun _ _ _ _ _ => rfl⟩, ?_⟩
   have := hcn.wf r2.dom
   rw [← c1] at this
   exact this.mono (C.len (Nat.zero_le m) hm).1
end
end Go.Proofs.YtkdidadegedmiaaGreat
namespace Go.Proofs.YtkdidadegedmiaaGreat
open Go.RowKit
def Wd : (t : Ty) → El t → Prop
 | .int, (n : Int) => InK .i64 n
 | .u8, (n : Int) => InK .u8 n
 | .bool, _ => True
 | .str, (s : ByteArray) => s.size ≤ 9223372036854775807
 | .lst t, (l : List (El t)) => l.length ≤ lim t ∧ ∀ x ∈ l, Wd t x
 | .pr a b, (x : El a × El b) => Wd a x.1 ∧ Wd b x.2
def WdL : (ts : List Ty) → TyL ts → Prop
 | [], _ => True
 | t :: ts, x => Wd t x.1 ∧ WdL ts x.2
def AD.Wd : (d : AD) → d.T → Prop
 | .val _ s, x => Go.Proofs.YtkdidadegedmiaaGreat.Wd s.ty x
 | .bx t _, x => Go.Proofs.YtkdidadegedmiaaGreat.Wd t x
 | .fn _ ts, x => WdL ts x
 | .ref s, x => Go.Proofs.YtkdidadegedmiaaGreat.Wd s.ty x
 | .pt _ _, _ => True
 | .ep t _, x => (0 ≤ x.2 ∧ x.2 < (x.1.length : Nat)) ∧ ∀ y ∈ x.1, Go.Proofs.YtkdidadegedmiaaGreat.Wd t y
def WdA : (ds : List AD) → xC ds → Prop
 | [], _ => True
 | d :: ds, x => d.Wd x.1 ∧ WdA ds x.2
section
variable {ρ : yH} {Z : Zs} {w : World}
theorem zLT {q : Nat} : ∀ (t : Ty) (x : El t), (∀ (j : Nat) (u : V), (enc q t x)[j]? = some u → ∃ y, Cn ρ Z w u y) → Wd t x
 | .int, x, h => by obtain ⟨y, h⟩ := h 0 _ rfl; exact zKF h
 | .u8, x, h => by obtain ⟨y, h⟩ := h 0 _ rfl; exact zKF h
 | .bool, x, h => trivial
 | .str, x, h => by obtain ⟨y, h⟩ := h 0 _ rfl; exact zKF h
 | .lst t, l, h => by
  obtain ⟨y, h⟩ := h 0 _ rfl
  obtain ⟨a, c, b, o, ys, _, g0, _, _, _, _, _, g6⟩ := h.ext_inv
  refine ⟨g0, fun x hx => ?_⟩
  obtain ⟨i, hi⟩ := List.mem_iff_getElem?.1 hx
  exact zLT t x fun j u hu => ⟨_, g6 i x j u hi hu⟩
 | .pr a b, x, h => by
  refine ⟨zLT (q := q) a x.1 fun j u hu => h j u ?_, zLT (q := q) b x.2 fun j u hu => h (zO a + j) u ?_⟩
  ·simp only [enc]; rw [List.getElem?_append_left (List.getElem?_eq_some_iff.1 hu).1]; exact hu
  ·simp only [enc]; rw [List.getElem?_append_right (by rw [yB]; omega), yB, Nat.add_sub_cancel_left]; exact hu
theorem TrO.wd : ∀ {s : OT} {x : El s.ty} {vs : List Value} {fp : Nat → Prop}, TrO Z w s x vs fp → Wd s.ty x
 | .d t, x, vs, fp, h => by
  refine zLT (q := 0) (ρ := zAX) (Z := Z) (w := w) t x fun j u hu => ?_
  have hj : j < vs.length := by rw [h.2.1, ← yB (q := 0) t x]; exact (List.getElem?_eq_some_iff.1 hu).1
  exact ⟨_, h.2.2 j u _ hu (List.getElem?_eq_getElem hj)⟩
 | .o s, l, vs, fp, h => by
  obtain ⟨v, b, rfl, h⟩ := h
  rcases h with ⟨_, h, _⟩ | ⟨cur, e, c, fs, h⟩
  ·subst h; exact ⟨Nat.zero_le _, by intro x h; cases h⟩
  ·refine ⟨h.hl, fun x hx => ?_⟩
   obtain ⟨i, hi⟩ := List.mem_iff_getElem?.1 hx
   exact TrO.wd (h.ht i x hi)
 | .pr a b, x, vs, fp, h => by
  obtain ⟨f, g, h1, h2, _⟩ := h
  exact ⟨h1.wd, h2.wd⟩
theorem zVr : ∀ (s : OT) (x : El s.ty) (k : Nat), (∀ (j : Nat) (u : V), (zBI s x k)[j]? = some u → ∃ y, Cn ρ Z w u y) → (∀ (i : Nat) (ob : Ob), (zG4 s x)[i]? = some ob → ∃ p, ObR ρ Z w ob p) → Wd s.ty x
 | .d t, x, k, h, _ => zLT t x h
 | .o s, l, k, _, h => by
  obtain ⟨p, h⟩ := h 0 _ rfl
  exact TrO.wd (s := .o s) (vs := [p.x]) ⟨p.x, p.b, rfl, h⟩
 | .pr a b, x, k, h, g => by
  refine ⟨zVr a x.1 k (fun j u hu => h j u ?_) (fun i ob e => g i ob ?_), zVr b x.2 (k + a.n) (fun j u hu => h (zO a.ty + j) u ?_) (fun i ob e => g (a.n + i) ob ?_)⟩
  ·simp only [zBI]; rw [List.getElem?_append_left (List.getElem?_eq_some_iff.1 hu).1]; exact hu
  ·simp only [zG4]; rw [List.getElem?_append_left (List.getElem?_eq_some_iff.1 e).1]; exact e
  ·simp only [zBI]; rw [List.getElem?_append_right (by rw [yd]; omega), yd, Nat.add_sub_cancel_left]; exact hu
  ·simp only [zG4]; rw [List.getElem?_append_right (by rw [zGl]; omega), zGl, Nat.add_sub_cancel_left]; exact e
theorem znM {agg : Bool} {s : OT} {x : El s.ty} {k : Nat} {y : Value} (h : Cn ρ Z w (one agg (zBI s x k)) y) (ha : agg = false → zO s.ty = 1) : ∀ (j : Nat) (u : V), (zBI s x k)[j]? = some u → ∃ y, Cn ρ Z w u y := by
 intro j u hu
 cases agg with
 | true =>
  cases h with
  | agg h0 h =>
   rename_i xs
   have hj := (List.getElem?_eq_some_iff.1 hu).1
   exact ⟨_, h j u _ hu (List.getElem?_eq_getElem (by omega))⟩
 | false =>
  have hj := (List.getElem?_eq_some_iff.1 hu).1
  rw [yd, ha rfl] at hj
  have : j = 0 := by omega
  subst this
  have : (zBI s x k).getD 0 .any = u := by rw [List.getD_eq_getElem?_getD, hu]; rfl
  simp only [one, Bool.false_eq_true, if_false, this] at h
  exact ⟨y, h⟩
theorem zfM {vs : List V} {off : Nat} {y : Value} (h : Cn ρ Z w (.bx vs off) y) : ∀ (j : Nat) (u : V), vs[j]? = some u → ∃ y, Cn ρ Z w u y := by
 intro j u hu
 cases h with
 | bx h0 h1 h2 h =>
  rename_i b base e xs
  have hj := (List.getElem?_eq_some_iff.1 hu).1
  have : base + j < xs.size := by omega
  exact ⟨_, h j u _ hu (Array.getElem?_eq_getElem this)⟩
theorem zfY : ∀ (ts : List Ty) (x : TyL ts), (∀ (j : Nat) (u : V), (zOE ts x)[j]? = some u → ∃ y, Cn ρ Z w u y) → WdL ts x
 | [], _, _ => trivial
 | t :: ts, x, h => by
  refine ⟨?_, zfY ts x.2 fun j u hu => h (j + 1) u (by simpa [zOE] using hu)⟩
  obtain ⟨y, g⟩ := h 0 _ rfl
  exact zLT t x.1 (zfM g)
theorem zlP : ∀ (ds : List AD) (a : xC ds) (i k : Nat), ds.all AD.one1 = true → (∀ (j : Nat) (u : V), (zGY ds a i k)[j]? = some u → ∃ y, Cn ρ Z w u y) → (∀ (j : Nat) (ob : Ob), (xA ds a k)[j]? = some ob → ∃ p, ObR ρ Z w ob p) →
  (∀ (j : Nat) (ob : Ob), (zCu ds a)[j]? = some ob → ∃ p, ObR ρ Z w ob p) → WdA ds a
 | [], _, _, _, _, _, _, _ => trivial
 | d :: ds, a, i, k, ho, h, g, e => by
  simp only [List.all_cons, Bool.and_eq_true] at ho
  refine ⟨?_, zlP ds a.2 (i + d.r) (k + d.n) ho.2 (fun j u hu => h (j + 1) u (by simpa [zGY] using hu)) (fun j ob hj => g (d.r + j) ob ?_) (fun j ob hj => e ((d.arrs a.1).length + j) ob ?_)⟩
  ·obtain ⟨y, h0⟩ := h 0 _ rfl
   have e0 : ∀ (j : Nat) (ob : Ob), (d.arrs a.1)[j]? = some ob → ∃ p, ObR ρ Z w ob p := fun j ob hj => e j ob (by simp only [zCu]; rw [List.getElem?_append_left (List.getElem?_eq_some_iff.1 hj).1]; exact hj)
   cases d with
   | val agg s => exact zVr s a.1 k (znM h0 fun h => by subst h; simpa [AD.one1] using ho.1) e0
   | bx t off => exact zLT t a.1 (zfM h0)
   | fn f ts =>
    cases h0 with
    | fn g0 g1 =>
     refine zfY (ρ := ρ) (Z := Z) (w := w) ts a.1 fun j u hu => ?_
     have hj := (List.getElem?_eq_some_iff.1 hu).1
     exact ⟨_, g1 j u _ hu (List.getElem?_eq_getElem (by omega))⟩
   | ref s =>
    obtain ⟨p, _, _, xs, _, _, h3, h4⟩ := g 0 (.box (zBI s a.1 k)) (by simp [xA, AD.boxes])
    refine zVr s a.1 k (fun j u hu => ?_) e0
    have hj := (List.getElem?_eq_some_iff.1 hu).1
    have : p.off + j < xs.size := by omega
    exact ⟨_, h4 j u _ hu (Array.getElem?_eq_getElem this)⟩
   | pt o off => trivial
   | ep t off =>
    cases h0 with
    | ept ys hq g0 g4 g5 g6 =>
     refine ⟨g0, fun x hx => ?_⟩
     obtain ⟨i, hi⟩ := List.mem_iff_getElem?.1 hx
     exact zLT t x fun j u hu => ⟨_, g6 i x j u hi hu⟩
  ·simp only [xA]; rw [List.getElem?_append_right (by rw [AD.boxes_len]; omega), AD.boxes_len, Nat.add_sub_cancel_left]; exact hj
  ·simp only [zCu]; rw [List.getElem?_append_right (by omega), Nat.add_sub_cancel_left]; exact hj
theorem zlH {ds : List AD} {a : xC ds} {xs : List Value} (h1 : ds.all AD.one1 = true) (hr : HR ρ Z (yM ds a) w) (hl : xs.length = ds.length) (hc : ∀ (i : Nat) (u : V) (y : Value), (zC8 ds a)[i]? = some u → xs[i]? = some y → Cn ρ Z w u y)
  (ht : ∀ o, o < (yM ds a).length → ∃ p, ρ o = some p) : WdA ds a := by
 have ob : ∀ (j : Nat) (x : Ob), (yM ds a)[j]? = some x → ∃ p, ObR ρ Z w x p := fun j x hj => by
  obtain ⟨p, hp⟩ := ht j (List.getElem?_eq_some_iff.1 hj).1
  exact ⟨p, hr.ob j p x hp hj⟩
 refine zlP ds a 0 (zi ds) h1 (fun j u hu => ?_) (fun j x hj => ob j x ?_) (fun j x hj => ob (zi ds + j) x ?_)
 ·have hj := (List.getElem?_eq_some_iff.1 hu).1
  rw [zKz] at hj
  exact ⟨_, hc j u _ hu (List.getElem?_eq_getElem (by omega))⟩
 ·simp only [yM]; rw [List.getElem?_append_left (List.getElem?_eq_some_iff.1 hj).1]; exact hj
 ·simp only [yM]; rw [List.getElem?_append_right (by rw [xy]; omega), xy, Nat.add_sub_cancel_left]; exact hj
end
end Go.Proofs.YtkdidadegedmiaaGreat
namespace Go.Proofs.YtkdidadegedmiaaGreat
open Go.RowKit
structure SD where
 n : Nat
 bxs : List OT
 regs : List (Nat × AD)
 al : List (Nat × Nat × Nat)
abbrev SD.ds (d : SD) : List AD := d.bxs.map AD.ref ++ d.regs.map Prod.snd
abbrev SD.T (d : SD) : Type := xC d.ds
def zGZ (m : Nat) : List V := (List.range m).map fun i => .ptr i 0
def SD.srcs (d : SD) (s : S) : List V := zGZ d.bxs.length ++ d.regs.map fun p => s.r.getD p.1 .any
def zcY (H : List Ob) (ds : List AD) (vs : List V) : Option (xC ds) := (zPZ false false H ds vs).map (·.1)
def zlQ (H : List Ob) (o j : Nat) : Option Nat := match H[o]? with
 | some (.box cs) => match cs[j]? with
  | some (.obj k) => some k
  | _ => none
 | _ => none
def zuJ (s : S) (p : Nat × Nat × Nat) : Bool := match s.r.getD p.1 .any, zlQ s.h p.2.1 p.2.2 with
 | .obj a, some b => a == b
 | _, _ => false
def zkJ (H : List Ob) : List (Nat × Nat × Nat) → List V → List V
 | [], r => r
 | p :: l, r => match zlQ H p.2.1 p.2.2 with
  | some k => zkJ H l (r.set p.1 (.obj k))
  | none => zkJ H l r
theorem zX2 {H : List Ob} : ∀ (l : List (Nat × Nat × Nat)) (r : List V), (zkJ H l r).length = r.length
 | [], _ => rfl
 | p :: l, r => by
  simp only [zkJ]
  split
  ·rw [zX2 l, List.length_set]
  ·exact zX2 l r
theorem zW6 {H : List Ob} : ∀ (l : List (Nat × Nat × Nat)) (r : List V) (t : Nat) (v : V), (zkJ H l r)[t]? = some v → r[t]? = some v ∨ ∃ p ∈ l, p.1 = t ∧ ∃ k, zlQ H p.2.1 p.2.2 = some k ∧ v = .obj k
 | [], _, _, _, h => .inl h
 | p :: l, r, t, v, h => by
  simp only [zkJ] at h
  split at h
  ·rename_i k e
   rcases zW6 l _ t v h with h | ⟨q, h1, h2⟩
   ·by_cases ht : p.1 = t
    ·subst ht
     rw [List.getElem?_set] at h
     simp only [if_true] at h
     split at h
     ·cases h; exact .inr ⟨p, List.mem_cons_self, rfl, k, e, rfl⟩
     ·cases h
    ·rw [List.getElem?_set_ne ht] at h; exact .inl h
   ·exact .inr ⟨q, List.mem_cons_of_mem _ h1, h2⟩
  ·rcases zW6 l _ t v h with h | ⟨q, h1, h2⟩
   ·exact .inl h
   ·exact .inr ⟨q, List.mem_cons_of_mem _ h1, h2⟩
def SD.rd (d : SD) (s : S) : Option d.T := if d.n = s.r.length ∧ d.al.all (zuJ s) = true then zcY s.h d.ds (d.srcs s) else none
def zeM (r : List V) : List (Nat × AD) → List V → List V
 | p :: l, v :: vs => zeM (r.set p.1 v) l vs
 | _, _ => r
def SD.mk' (d : SD) (x : d.T) : S := { r := zkJ (yM d.ds x) d.al (zeM (List.replicate d.n .any) d.regs ((zC8 d.ds x).drop d.bxs.length)), h := yM d.ds x }
def ztS (i : Nat) : AD → Bool
 | .pt o _ => o == i
 | _ => false
def ztG (m : Nat) : AD → Bool
 | .pt o _ => decide (o < m)
 | _ => true
def SD.ok (rs : List Nat) (d : SD) : Bool := d.al.all (fun p => decide (p.2.1 < rs.length)) && d.ds.all AD.one1 && d.regs.all (fun p => p.2.r == 0 && ztG d.bxs.length p.2) && ((List.range d.bxs.length).all fun i => decide (i < rs.length) || d.regs.any fun p => ztS i p.2) && decide ((vY d.ds).take rs.length = rs)
theorem zY6 : ∀ (a b : List AD), zi (a ++ b) = zi a + zi b
 | [], b => by simp [zi]
 | x :: a, b => by simp only [List.cons_append, zi, zY6 a b]; omega
theorem zb9 : ∀ (l : List OT), zi (l.map AD.ref) = l.length
 | [] => rfl
 | x :: l => by simp only [List.map_cons, zi, zb9 l, AD.r, List.length_cons]; omega
theorem zbJ : ∀ (l : List AD), (∀ d ∈ l, d.r = 0) → zi l = 0
 | [], _ => rfl
 | x :: l, h => by simp only [zi, h x List.mem_cons_self, zbJ l fun d hd => h d (List.mem_cons_of_mem _ hd)]
theorem zXd : ∀ (a b : List AD) (vs us : List V), vs.length = a.length → zAH (a ++ b) (vs ++ us) = zAH a vs ++ zAH b us
 | [], b, [], us, _ => by simp [zAH]
 | d :: a, b, v :: vs, us, h => by simp only [List.cons_append, zAH, zXd a b vs us (by simpa using h), List.append_assoc]
theorem zS6 : ∀ (a b : List AD) (vs us : List V), vs.length = a.length → vu (a ++ b) (vs ++ us) = vu a vs ++ vu b us
 | [], b, [], us, _ => by simp [vu]
 | d :: a, b, v :: vs, us, h => by simp only [List.cons_append, vu, zS6 a b vs us (by simpa using h), List.append_assoc]
theorem zXR : ∀ (l : List OT) (k : Nat), zAH (l.map AD.ref) ((List.range' k l.length).map fun i => V.ptr i 0) = List.range' k l.length ∧ vu (l.map AD.ref) ((List.range' k l.length).map fun i => V.ptr i 0) = List.replicate l.length 0
 | [], k => ⟨rfl, rfl⟩
 | x :: l, k => by
  obtain ⟨h1, h2⟩ := zXR l (k + 1)
  simp only [List.map_cons, List.length_cons, List.range'_succ, zAH, vu, AD.bxs, AD.offs, zrC, ztq, List.singleton_append, h1, h2, List.replicate_succ, and_self]
theorem zXK : ∀ (l : List AD) (vs : List V), (∀ d ∈ l, d.r = 0) → zAH l vs = [] ∧ vu l vs = []
 | [], vs, _ => by cases vs <;> simp [zAH, vu]
 | d :: l, [], _ => by simp [zAH, vu]
 | d :: l, v :: vs, h => by
  obtain ⟨h1, h2⟩ := zXK l vs fun d hd => h d (List.mem_cons_of_mem _ hd)
  have h0 := h d List.mem_cons_self
  cases d with
  | ref s => simp [AD.r] at h0
  | _ => simp only [zAH, vu, AD.bxs, AD.offs, h1, h2, List.nil_append, and_self]
theorem zdG (m : Nat) : zGZ m = (List.range' 0 m).map fun i => V.ptr i 0 := by unfold zGZ; rw [List.range_eq_range']
theorem zo4 : ∀ (l : List (Nat × AD)) (r vs : List V) (t : Nat) (v : V), (zeM r l vs)[t]? = some v → r[t]? = some v ∨ ∃ (i : Nat) (ad : AD), l[i]? = some (t, ad) ∧ vs[i]? = some v := by
 intro l
 induction l with
 | nil => intro r vs t v h; exact .inl (by simpa [zeM] using h)
 | cons p l ih =>
  intro r vs t v h
  cases vs with
  | nil => exact .inl (by simpa [zeM] using h)
  | cons u vs =>
   rcases ih _ vs t v h with h | ⟨i, ad, h1, h2⟩
   ·by_cases e : p.1 = t
    ·subst e
     have hlt : p.1 < r.length := by have := (List.getElem?_eq_some_iff.1 h).1; simpa using this
     rw [List.getElem?_set_self hlt] at h
     cases h
     exact .inr ⟨0, p.2, rfl, rfl⟩
    ·rw [List.getElem?_set_ne e] at h; exact .inl h
   ·exact .inr ⟨i + 1, ad, by simpa using h1, by simpa using h2⟩
theorem zq5 : ∀ (l : List (Nat × AD)) (r vs : List V), (zeM r l vs).length = r.length := by
 intro l
 induction l with
 | nil => intro r vs; simp [zeM]
 | cons p l ih =>
  intro r vs
  cases vs with
  | nil => simp [zeM]
  | cons v vs => simp only [zeM, ih, List.length_set]
theorem zKO : ∀ (ds : List AD), (vY ds).length = zi ds
 | [] => rfl
 | d :: ds => by simp only [vY, List.length_append, AD.szs_len, zKO ds, zi]
theorem zSs : ∀ (ds : List AD) (a : xC ds) (k j : Nat) (ob : Ob), (xA ds a k)[j]? = some ob → ∃ cs : List V, ob = .box cs ∧ (vY ds)[j]? = some cs.length
 | [], _, _, j, ob, h => by simp [xA] at h
 | d :: ds, a, k, j, ob, h => by
  simp only [xA] at h
  by_cases hj : j < d.r
  ·rw [List.getElem?_append_left (by rw [AD.boxes_len]; exact hj)] at h
   cases d with
   | ref s =>
    have : j = 0 := by simp [AD.r] at hj; exact hj
    subst this
    simp [AD.boxes] at h
    exact ⟨_, h.symm, by simp [vY, AD.szs, yd]⟩
   | _ => simp [AD.r] at hj
  ·rw [List.getElem?_append_right (by rw [AD.boxes_len]; omega), AD.boxes_len] at h
   obtain ⟨cs, h1, h2⟩ := zSs ds a.2 _ _ ob h
   refine ⟨cs, h1, ?_⟩
   simp only [vY]
   rw [List.getElem?_append_right (by rw [AD.szs_len]; omega), AD.szs_len]; exact h2
theorem zqJ {c : Cx} : ∀ (ds : List AD) (vs : List V) (a : xC ds), rdA c ds vs = some a → ∀ (i : Nat) (d : AD), ds[i]? = some d → ∃ v x, vs[i]? = some v ∧ d.rd c v = some x
 | [], _, _, _, i, d, h => by simp at h
 | d0 :: ds, [], _, h, _, _, _ => by simp [rdA] at h
 | d0 :: ds, v :: vs, a, h, i, d, hi => by
  simp only [rdA] at h
  split at h
  ·rename_i p q e1 e2
   cases i with
   | zero => simp at hi; subst hi; exact ⟨v, p, rfl, e1⟩
   | succ i => exact zqJ ds vs q e2 i d (by simpa using hi)
  ·cases h
theorem zt0 {c : Cx} {d : SD} {s : S} {a : xC d.ds} (h : rdA c d.ds (d.srcs s) = some a) {t o off : Nat} (hp : (t, AD.pt o off) ∈ d.regs) : s.r.getD t .any = .ptr o off := by
 obtain ⟨i, hi⟩ := List.mem_iff_getElem?.1 hp
 have h1 : d.ds[d.bxs.length + i]? = some (.pt o off) := by
  show (d.bxs.map AD.ref ++ d.regs.map Prod.snd)[d.bxs.length + i]? = _
  rw [List.getElem?_append_right (by simp), List.length_map, Nat.add_sub_cancel_left, List.getElem?_map, hi]; rfl
 obtain ⟨v, x, g1, g2⟩ := zqJ d.ds (d.srcs s) a h _ _ h1
 simp only [SD.srcs] at g1
 rw [List.getElem?_append_right (by simp [zGZ]), show (zGZ d.bxs.length).length = d.bxs.length by simp [zGZ], Nat.add_sub_cancel_left, List.getElem?_map, hi] at g1
 simp only [Option.map_some, Option.some.injEq] at g1
 simp only [AD.rd] at g2
 rw [g1]
 split at g2
 ·rename_i o' off'
  split at g2
  ·rename_i e; obtain ⟨rfl, rfl⟩ := e; rfl
  ·cases g2
 ·cases g2
section
variable {P : Program} {w0 : World} {Z0 : En} {ρ ρ' : yH} {Z Z' : Zs} {w w' : World} {H H' : List Ob}
theorem zlD {ds : List AD} {vs : List V} {ys : List Value} {a : xC ds} (hr : HR ρ Z H w) (hf : Frm w0 Z0 ρ Z H w) (hl : ys.length = vs.length) (hc : ∀ (i : Nat) (u : V) (y : Value), vs[i]? = some u → ys[i]? = some y → Cn ρ Z w u y)
  (hd : zcY H ds vs = some a) (hpt : ∀ o off, .pt o off ∈ ds → o < zi ds ∧ (zAH ds vs)[o]? = some o ∧ (vu ds vs)[o]? = some 0)
  (hrf : ∀ i, i < Z0.r.length → (zAH ds vs)[i]? = some i ∧ (vu ds vs)[i]? = some 0) (hsz : (vY ds).take Z0.r.length = Z0.r.map Prod.snd) :
  ∃ ρ2 Z2, HR ρ2 Z2 (yM ds a) w ∧ (∀ (j : Nat) (u : V) (y : Value), (zC8 ds a)[j]? = some u → ys[j]? = some y → Cn ρ2 Z2 w u y) ∧ vs.length = ds.length ∧ Frm w0 Z0 ρ2 Z2 (yM ds a) w ∧ ∀ o, o < (yM ds a).length → ∃ p, ρ2 o = some p := by
 unfold zcY zPZ at hd
 simp only [Option.map_eq_some_iff] at hd
 obtain ⟨⟨a', H1, os, bs⟩, hp, rfl⟩ := hd
 split at hp
 rotate_left
 ·cases hp
 rename_i hnd
 have hnd := zFT hnd
 split at hp
 rotate_left
 ·cases hp
 rename_i a hrd
 simp only [Option.some.injEq, Prod.mk.injEq] at hp
 obtain ⟨rfl, rfl, rfl, rfl⟩ := hp
 obtain ⟨Z1, a1, a2, a3, a4, a5⟩ := hr.freezeL (zEt false H ds vs)
 generalize hH1 : freezeL H (zEt false H ds vs) = H1 at *
 have mz : ∀ b, zID ρ H1 (xm (zBh H1 ds vs) ++ zAH ds vs) b → ∀ k, ¬ Z1 k b := by
  rintro b ⟨o0, p0, x0, _, g1, g2, g3⟩
  exact (a3.own g1 g2 g3).1
 have hv : Vw ρ Z1 w ⟨false, false, H1, zJi H1 (xm (zBh H1 ds vs) ++ zAH ds vs)⟩ Z1 :=
  ⟨fun _ _ h => h, a3.zl, fun o x e => by
   rw [zH2, Option.map_eq_some_iff] at e
   obtain ⟨y, e1, e2⟩ := e
   cases hc : (xm (zBh H1 ds vs) ++ zAH ds vs).contains o with
   | true => rw [hc] at e2; exact .inl e2.symm
   | false => rw [hc] at e2; exact .inr (by rw [e1]; exact congrArg some e2), fun h => (by cases h), fun h => (by cases h)⟩
 obtain ⟨ρ2, r1, r2, r3, r4, r5, r6, r7, r8, r9, r10⟩ := zlW (c := ⟨false, false, H1, zJi H1 (xm (zBh H1 ds vs) ++ zAH ds vs)⟩) a3 hv hl (fun i u y hu hy => (hc i u y hu hy).mono (Kp.rz a1)) hrd hnd mz hpt
 refine ⟨ρ2, Z1, r1, r2, r3, ⟨hf.size, hf.same, fun o p x b e1 e2 e3 => ?_, fun b hb => ?_, fun i p n e => ?_⟩, r5⟩
 ·obtain ⟨o0, p0, x0, _, g1, g2, g3⟩ := r6 o p x b e1 e2 e3
  exact hf.own o0 p0 x0 b g1 (a5 o0 p0 x0 b g2 g3) g3
 ·rcases a2 false b hb with hb | ⟨o0, p0, x0, g1, g2, g3⟩
  ·exact hf.zs b hb
  ·exact .inr (hf.own o0 p0 x0 b g1 g2 g3)
 ·obtain ⟨h1, ⟨cs, h2, h3⟩, h4⟩ := hf.refs i p n e
  have hi : i < Z0.r.length := (List.getElem?_eq_some_iff.1 e).1
  obtain ⟨b1, b2⟩ := hrf i hi
  have b3 : (vY ds)[i]? = some n := by
   have : ((vY ds).take Z0.r.length)[i]? = (Z0.r.map Prod.snd)[i]? := by rw [hsz]
   rw [List.getElem?_take, if_pos hi, List.getElem?_map, e] at this
   exact this
  obtain ⟨p0, cs0, g1, g2, g3, g4⟩ := r7 i i 0 n b1 b2 b3
  rw [h1] at g1; cases g1
  have hlt : i < zi ds := by rw [← r8]; exact (List.getElem?_eq_some_iff.1 b1).1
  obtain ⟨cs', k1, k2⟩ := zSs ds a (zi ds) i _ (List.getElem?_eq_getElem (by rw [xy]; exact hlt))
  have hnf : p.fp = vm := funext fun b => propext ⟨fun hb => (hr.ob i p _ h1 h2).1 b hb, fun hb => hb.elim⟩
  refine ⟨by rw [g3, Nat.add_zero, ← hnf], ⟨cs', ?_, ?_⟩, h4⟩
  ·simp only [yM]
   rw [List.getElem?_append_left (by rw [xy]; exact hlt), ← k1]
   exact List.getElem?_eq_getElem _
  ·rw [b3] at k2; exact (by simpa using k2 : n = cs'.length).symm
theorem Rel.rd {rs : List Nat} {d : SD} {s : S} {a : Act} (h : Rel w0 Z0 s a w) (hok : d.ok rs = true) (hrs : Z0.r.map Prod.snd = rs) {x : d.T} (hd : d.rd s = some x) : Rel w0 Z0 (d.mk' x) a w ∧ WdA d.ds x := by
 obtain ⟨ρ, Z, h1, h2, h3, h4⟩ := h
 unfold SD.rd at hd
 split at hd
 rotate_left
 ·cases hd
 rename_i hn
 obtain ⟨hn, hal⟩ := hn
 simp only [SD.ok, Bool.and_eq_true, decide_eq_true_eq] at hok
 obtain ⟨⟨⟨⟨ka, k0⟩, k1⟩, k2⟩, k3⟩ := hok
 have hreg : ∀ p ∈ d.regs, p.2.r = 0 ∧ ztG d.bxs.length p.2 = true := fun p hp => by
  have := List.all_eq_true.1 k1 p hp
  simpa using this
 have hr0 : ∀ q ∈ d.regs.map Prod.snd, q.r = 0 := fun q hq => by
  obtain ⟨p, hp, rfl⟩ := List.mem_map.1 hq
  exact (hreg p hp).1
 have hnr : zi d.ds = d.bxs.length := by
  show zi (d.bxs.map AD.ref ++ d.regs.map Prod.snd) = _
  rw [zY6, zb9, zbJ _ hr0, Nat.add_zero]
 have hrl : Z0.r.length = rs.length := by rw [← hrs]; simp
 have hlen : rs.length ≤ d.bxs.length := by
  have : ((vY d.ds).take rs.length).length = rs.length := by rw [k3]
  rw [List.length_take, zKO, hnr] at this
  omega
 have hbx : zAH d.ds (d.srcs s) = List.range' 0 d.bxs.length ∧ vu d.ds (d.srcs s) = List.replicate d.bxs.length 0 := by
  obtain ⟨g1, g2⟩ := zXR d.bxs 0
  obtain ⟨g3, g4⟩ := zXK (d.regs.map Prod.snd) (d.regs.map fun p => s.r.getD p.1 .any) hr0
  constructor
  ·show zAH (d.bxs.map AD.ref ++ d.regs.map Prod.snd) (zGZ d.bxs.length ++ _) = _
   rw [zXd _ _ _ _ (by simp [zGZ]), g3, zdG, g1, List.append_nil]
  ·show vu (d.bxs.map AD.ref ++ d.regs.map Prod.snd) (zGZ d.bxs.length ++ _) = _
   rw [zS6 _ _ _ _ (by simp [zGZ]), g4, zdG, g2, List.append_nil]
 have hat : ∀ o, o < d.bxs.length → (zAH d.ds (d.srcs s))[o]? = some o ∧ (vu d.ds (d.srcs s))[o]? = some 0 := fun o ho => by
  rw [hbx.1, hbx.2]
  refine ⟨?_, ?_⟩
  ·rw [List.getElem?_range' ho]; simp
  ·rw [List.getElem?_replicate, if_pos ho]
 have regc : ∀ t, Cn ρ Z w (s.r.getD t .any) (a.tmps.getD t undef) := fun t => h1.ev (s := s) (.tmp t)
 have hd2 := hd
 have known : ∀ i, i < d.bxs.length → ∃ p, ρ i = some p := by
  intro i hi
  have := List.all_eq_true.1 k2 i (List.mem_range.2 hi)
  simp only [Bool.or_eq_true, decide_eq_true_eq] at this
  rcases this with hlt | hany
  ·have e : Z0.r[i]? = some (Z0.r[i]'(by omega)) := List.getElem?_eq_getElem _
   exact ⟨_, (h3.refs i _ _ e).1⟩
  ·obtain ⟨p, hp, hpt⟩ := List.any_eq_true.1 hany
   obtain ⟨t, ad⟩ := p
   cases ad with
   | pt o off =>
    simp [ztS] at hpt; subst hpt
    have hval : s.r.getD t .any = .ptr o off := by
     unfold zcY zPZ at hd2
     simp only [Option.map_eq_some_iff] at hd2
     obtain ⟨y, hy, _⟩ := hd2
     split at hy
     ·split at hy
      ·rename_i a' hrd
       exact zt0 hrd hp
      ·cases hy
     ·cases hy
    have := regc t
    rw [hval] at this
    generalize a.tmps.getD t undef = y at this
    cases this with
    | ptr h => exact ⟨_, h⟩
   | _ => simp [ztS] at hpt
 let ys : List Value := (List.range d.bxs.length).map (fun i => match ρ i with | some p => .pointer (some ⟨p.b, p.off + 0, none⟩) | none => undef) ++ d.regs.map fun p => a.tmps.getD p.1 undef
 have hys : ys.length = (d.srcs s).length := by simp [ys, SD.srcs, zGZ]
 have hcn : ∀ (i : Nat) (u : V) (y : Value), (d.srcs s)[i]? = some u → ys[i]? = some y → Cn ρ Z w u y := by
  intro i u y hu hy
  simp only [SD.srcs, ys] at hu hy
  by_cases hi : i < d.bxs.length
  ·rw [List.getElem?_append_left (by simpa [zGZ] using hi)] at hu
   rw [List.getElem?_append_left (by simpa using hi)] at hy
   simp only [zGZ, List.getElem?_map, List.getElem?_range hi, Option.map_some, Option.some.injEq] at hu hy
   obtain ⟨p, hp⟩ := known i hi
   rw [hp] at hy
   subst hu hy
   exact .ptr hp
  ·rw [List.getElem?_append_right (by simp [zGZ]; omega)] at hu
   rw [List.getElem?_append_right (by simp; omega)] at hy
   simp only [zGZ, List.length_map, List.length_range, List.getElem?_map, Option.map_eq_some_iff] at hu hy
   obtain ⟨p, g1, rfl⟩ := hu
   obtain ⟨p', g2, rfl⟩ := hy
   rw [g1] at g2; cases g2
   exact regc p.1
 obtain ⟨ρ2, Z2, r1, r2, r3, r4, r5⟩ := zlD h2 h3 hys hcn hd (fun o off hm => by
  have ho : o < d.bxs.length := by
   have hm : AD.pt o off ∈ d.bxs.map AD.ref ++ d.regs.map Prod.snd := hm
   rcases List.mem_append.1 hm with hm | hm
   ·obtain ⟨_, _, e⟩ := List.mem_map.1 hm; cases e
   ·obtain ⟨p, hp, e⟩ := List.mem_map.1 hm
    have := (hreg p hp).2
    rw [e] at this
    simpa [ztG] using this
  exact ⟨by rw [hnr]; exact ho, hat o ho⟩) (fun i hi => hat i (by omega)) (by rw [hrs, hrl]; exact k3)
 refine ⟨?_, zlH k0 r1 (by rw [hys]; exact r3) r2 r5⟩
 refine ⟨ρ2, Z2, ⟨by simp only [SD.mk']; rw [zX2, zq5, List.length_replicate, hn, h1.1], fun t v hv => ?_⟩, r1, r4, h4⟩
 rcases zW6 d.al _ t v hv with hv | ⟨⟨t', o, j⟩, hp, rfl, k, hk, rfl⟩
 rotate_left
 ·have ho : o < rs.length := by simpa using List.all_eq_true.1 ka _ hp
  have hsm := List.all_eq_true.1 hal _ hp
  unfold zuJ at hsm
  split at hsm
  rotate_left
  ·cases hsm
  rename_i b b' e1 e2
  obtain rfl : b = b' := by simpa using hsm
  obtain ⟨pz, nz, e⟩ : ∃ p n, Z0.r[o]? = some (p, n) := ⟨_, _, List.getElem?_eq_getElem (by omega)⟩
  obtain ⟨f1, ⟨cs1, f2, f3⟩, _⟩ := h3.refs o _ _ e
  obtain ⟨g1, ⟨cs2, g2, g3⟩, _⟩ := r4.refs o _ _ e
  obtain ⟨_, _, xs, e0, m1, m2, m3⟩ := h2.ob o _ _ f1 f2
  obtain ⟨_, _, xs', e0', n1, n2, n3⟩ := r1.ob o _ _ g1 g2
  rw [m1] at n1; cases n1
  unfold zlQ at e2 hk
  rw [f2] at e2; rw [g2] at hk
  simp only at e2 hk
  split at e2
  rotate_left
  ·cases e2
  rename_i q1 i1
  cases e2
  split at hk
  rotate_left
  ·cases hk
  rename_i q2 i2
  cases hk
  have hlt : j < cs1.length := (List.getElem?_eq_some_iff.1 i1).1
  have hx := Array.getElem?_eq_getElem (xs := xs) (i := pz.off + j) (by omega)
  have c1 := m3 j _ _ i1 hx
  have c2 := n3 j _ _ i2 hx
  have c3 := regc t'
  rw [e1] at c3
  obtain ⟨p1, u1, u2⟩ := c1.obj_inv
  obtain ⟨p2, u3, u4⟩ := c3.obj_inv
  rw [u1] at u3; cases u3
  rw [u4, ← u2]; exact c2
 rcases zo4 d.regs _ _ t v hv with hv | ⟨i, ad, g1, g2⟩
 ·rw [List.getElem?_replicate] at hv
  split at hv
  ·cases hv; exact .any _
  ·cases hv
 ·rw [List.getElem?_drop] at g2
  refine r2 _ v _ g2 ?_
  simp only [ys]
  rw [List.getElem?_append_right (by simp), List.length_map, List.length_range, Nat.add_sub_cancel_left, List.getElem?_map, g1]; rfl
end
def ren0 (os : List Nat) : V → V
 | .obj o => match os.idxOf? o with
  | some n => .obj n
  | none => .any
 | .opt s o i off => match os.idxOf? o with
  | some n => .opt s n i off
  | none => .any
 | .sl s o a b => match os.idxOf? o with
  | some n => .sl s n a b
  | none => .any
 | .bx cs off => if cs.all zYC then .bx cs off else .any
 | .ptr o off => match os.idxOf? o with
  | some n => .ptr n off
  | none => .any
 | .c x => .c x
 | .ext 0 t l => .ext 0 t l
 | .ext (o + 1) t l => match os.idxOf? o with
  | some n => .ext (n + 1) t l
  | none => .any
 | .ept 0 t l i off => .ept 0 t l i off
 | .nil0 => .nil0
 | _ => .any
def ren (os : List Nat) : V → V
 | .agg vs => .agg (vs.map (ren0 os))
 | .tup vs => .tup (vs.map (ren0 os))
 | .fn f vs => .fn f (vs.map (ren0 os))
 | .bx cs off => .bx (cs.map (ren0 os)) off
 | v => ren0 os v
def znW (os : List Nat) : Ob → Ob
 | .box cs => .box (cs.map (ren os))
 | x => x
def zfn (n : Nat) (pos : List Nat) : List Nat := pos ++ (List.range n).filter fun i => !pos.contains i
def S.ren (pos : List Nat) (s : S) : S := match pos with
 | [] => s
 | _ :: _ => { r := s.r.map (Go.Proofs.YtkdidadegedmiaaGreat.ren (zfn s.h.length pos)), h := (zfn s.h.length pos).map fun o => znW (zfn s.h.length pos) (s.h.getD o .gone) }
def zbT (rs pos : List Nat) : Bool := pos.isEmpty || (zWK pos && decide (pos.take rs.length = List.range rs.length))
theorem zmT {os : List Nat} {o n : Nat} (h : os.idxOf? o = some n) : os[n]? = some o := by
 rw [List.idxOf?, List.findIdx?_eq_some_iff_getElem] at h
 obtain ⟨h1, h2, _⟩ := h
 rw [List.getElem?_eq_getElem h1]
 simp at h2; rw [h2]
section
variable {w0 : World} {Z0 : En} {ρ : yH} {Z : Zs} {w : World} {os : List Nat}
def yH.ren (ρ : yH) (os : List Nat) : yH := fun n => (os[n]?).bind ρ
theorem yH.ren_at {o n : Nat} {p : Pl} (h : os.idxOf? o = some n) (hp : ρ o = some p) : (ρ.ren os) n = some p := by
 unfold yH.ren; rw [zmT h]; exact hp
theorem yH.ren_some {n : Nat} {p : Pl} (h : (ρ.ren os) n = some p) : ∃ o, os[n]? = some o ∧ ρ o = some p := by
 unfold yH.ren at h
 rw [Option.bind_eq_some_iff] at h
 exact h
theorem Cn.ren0 {v : V} {x : Value} (h : Cn ρ Z w v x) : Cn (ρ.ren os) Z w (ren0 os v) x := by
 cases h with
 | c x h => exact .c x h
 | nil0 a => exact .nil0 a
 | ptr h => simp only [Go.Proofs.YtkdidadegedmiaaGreat.ren0]; split; exact .ptr (yH.ren_at (by assumption) h); exact .any _
 | obj h hx => simp only [Go.Proofs.YtkdidadegedmiaaGreat.ren0]; split; exact .obj (yH.ren_at (by assumption) h) hx; exact .any _
 | opt h hx h0 => simp only [Go.Proofs.YtkdidadegedmiaaGreat.ren0]; split; exact .opt (yH.ren_at (by assumption) h) hx h0; exact .any _
 | sl h hx h0 h1 h2 => simp only [Go.Proofs.YtkdidadegedmiaaGreat.ren0]; split; exact .sl (yH.ren_at (by assumption) h) hx h0 h1 h2; exact .any _
 | ext ys hq h0 h1 h2 h3 h4 h5 h6 =>
  rename_i q t l a c b o
  have h : Cn ρ Z w (.ext q t l) (.slice a l.length c) := .ext ys hq h0 h1 h2 h3 h4 h5 h6
  cases q with
  | zero => exact h.clF rfl (fun _ h => h) (fun _ _ => rfl)
  | succ q =>
   simp only [Go.Proofs.YtkdidadegedmiaaGreat.ren0]
   split
   ·rename_i n hn
    refine h.tagR (fun o1 e1 => ?_) (fun b hb => ?_) (fun _ _ => rfl)
    ·cases e1
     obtain ⟨p, hp⟩ := hq q rfl
     exact ⟨p, yH.ren_at hn hp⟩
    ·rcases hb with hb | ⟨o1, p, e1, e2, e3⟩
     ·exact .inl hb
     ·cases e1
      exact .inr ⟨n, p, rfl, yH.ren_at hn e2, e3⟩
   ·exact .any _
 | bx h0 h1 h2 h3 =>
  simp only [Go.Proofs.YtkdidadegedmiaaGreat.ren0]
  split
  ·rename_i hs
   refine .bx h0 h1 h2 fun i u y hu hy => ?_
   have hst := List.all_eq_true.1 hs u (List.mem_of_getElem? hu)
   have hc := h3 i u y hu hy
   cases hc with
   | c _ h => exact .c _ h
   | nil0 _ => exact .nil0 _
   | ext ys hq g0 g1 g2 g3 g4 g5 g6 =>
    rename_i q' t l a c b o'
    have h : Cn ρ Z w (.ext q' t l) (.slice a l.length c) := .ext ys hq g0 g1 g2 g3 g4 g5 g6
    cases q' with
    | zero => exact h.clF rfl (fun _ h => h) (fun _ _ => rfl)
    | succ o => cases hst
   | _ => cases hst
  ·exact .any _
 | ept ys hq h0 h4 h5 h6 =>
  rename_i q t l b o off i
  cases q with
  | zero => exact .ept ys .zero h0 (.inl h4.zero) h5 fun i x j u hx hu => (h6 i x j u hx hu).clF (zFQ _ _ u (List.mem_of_getElem? hu)) (fun _ h => h) (fun _ _ => rfl)
  | succ q => exact .any _
 | _ => exact .any _
theorem Cn.ren {v : V} {x : Value} (h : Cn ρ Z w v x) : Cn (ρ.ren os) Z w (ren os v) x := by
 have inner : ∀ (vs : List V) (xs : List Value), (∀ (i : Nat) (u : V) (y : Value), vs[i]? = some u → xs[i]? = some y → Cn ρ Z w u y) →
   ∀ (i : Nat) (u : V) (y : Value), (vs.map (Go.Proofs.YtkdidadegedmiaaGreat.ren0 os))[i]? = some u → xs[i]? = some y → Cn (ρ.ren os) Z w u y := by
  intro vs xs h i u y hu hy
  simp only [List.getElem?_map, Option.map_eq_some_iff] at hu
  obtain ⟨u', h1, rfl⟩ := hu
  exact (h i u' y h1 hy).ren0
 cases h with
 | agg h0 h => exact .agg (by simpa using h0) (inner _ _ h)
 | tup h0 h => exact .tup (by simpa using h0) (inner _ _ h)
 | fn h0 h => exact .fn (by simpa using h0) (inner _ _ h)
 | bx h0 h1 h2 h3 =>
  refine .bx h0 h1 (by simpa using h2) fun i u y hu hy => ?_
  simp only [List.getElem?_map, Option.map_eq_some_iff] at hu
  obtain ⟨u', g1, rfl⟩ := hu
  exact (h3 i u' y g1 hy).ren0
 | c x h => exact Cn.ren0 (.c x h)
 | nil0 a => exact Cn.ren0 (.nil0 a)
 | any x => exact Cn.ren0 (.any x)
 | ptr h => exact Cn.ren0 (.ptr h)
 | obj h hx => exact Cn.ren0 (.obj h hx)
 | opt h hx h0 => exact Cn.ren0 (.opt h hx h0)
 | sl h hx h0 h1 h2 => exact Cn.ren0 (.sl h hx h0 h1 h2)
 | ext ys hq h0 h1 h2 h3 h4 h5 h6 => exact Cn.ren0 (.ext ys hq h0 h1 h2 h3 h4 h5 h6)
 | ept ys hq h0 h4 h5 h6 => exact Cn.ren0 (.ept ys hq h0 h4 h5 h6)
theorem zh3 {n : Nat} {pos : List Nat} (h : pos.Nodup) : (zfn n pos).Nodup := by
 unfold zfn
 refine List.nodup_append.2 ⟨h, List.nodup_range.filter _, fun a ha b hb e => ?_⟩
 subst e
 have := (List.mem_filter.1 hb).2
 simp [ha] at this
theorem Rel.ren {s : S} {a : Act} (h : Rel w0 Z0 s a w) {rs pos : List Nat} (hrs : Z0.r.map Prod.snd = rs) (hp : zbT rs pos = true) : Rel w0 Z0 (s.ren pos) a w := by
 unfold S.ren
 split
 ·exact h
 rename_i o1 os1
 unfold zbT at hp
 simp only [List.isEmpty_cons, Bool.false_or, Bool.and_eq_true, decide_eq_true_eq] at hp
 have hnd := zh3 (n := s.h.length) (zFT hp.1)
 have hpre : ∀ i, i < rs.length → (zfn s.h.length (o1 :: os1))[i]? = some i := by
  intro i hi
  have h2 : ((o1 :: os1).take rs.length)[i]? = some i := by rw [hp.2, List.getElem?_range hi]
  rw [List.getElem?_take, if_pos hi] at h2
  unfold zfn
  rw [List.getElem?_append_left (List.getElem?_eq_some_iff.1 h2).1]; exact h2
 generalize zfn s.h.length (o1 :: os1) = os at hnd hpre
 obtain ⟨ρ, Z, h1, h2, h3, h4⟩ := h
 have hget : ∀ (n : Nat) (x : Ob), (os.map fun o => znW os (s.h.getD o .gone))[n]? = some x → ∃ o, os[n]? = some o ∧ x = znW os (s.h.getD o .gone) := by
  intro n x e
  rw [List.getElem?_map, Option.map_eq_some_iff] at e
  obtain ⟨o, e1, e2⟩ := e
  exact ⟨o, e1, e2.symm⟩
 have hob : ∀ (n : Nat) (p : Pl) (x : Ob), (ρ.ren os) n = some p → (os.map fun o => znW os (s.h.getD o .gone))[n]? = some x → ∃ o z, os[n]? = some o ∧ ρ o = some p ∧ s.h[o]? = some z ∧ x = znW os z := by
  intro n p x e1 e2
  obtain ⟨o, g1, g2⟩ := yH.ren_some e1
  obtain ⟨o', g3, g4⟩ := hget n x e2
  rw [g1] at g3; cases g3
  obtain ⟨z, hz⟩ := h2.at g2
  exact ⟨o, z, g1, g2, hz, by rw [g4, List.getD_eq_getElem?_getD, hz]; rfl⟩
 have own : ∀ {z : Ob} {p : Pl} {b : Nat}, vy (znW os z) p b ↔ vy z p b := by intro z p b; cases z <;> exact Iff.rfl
 refine ⟨ρ.ren os, Z, ⟨by simp [h1.1], fun t v hv => ?_⟩, ⟨h2.zl, fun n p e => ?_, fun n p x e1 e2 => ?_, fun n n' p p' x x' b e1 e2 e3 e4 b1 b2 => ?_⟩, ⟨h3.size, h3.same, fun n p x b e1 e2 e3 => ?_, h3.zs, fun i p n e => ?_⟩, h4⟩
 ·simp only [List.getElem?_map, Option.map_eq_some_iff] at hv
  obtain ⟨u, g1, rfl⟩ := hv
  exact (h1.2 t u g1).ren
 ·obtain ⟨o, g1, _⟩ := yH.ren_some e
  rw [List.length_map]; exact (List.getElem?_eq_some_iff.1 g1).1
 ·obtain ⟨o, z, g1, g2, g3, rfl⟩ := hob n p x e1 e2
  have := h2.ob o p z g2 g3
  cases z with
  | box cells =>
   obtain ⟨nf, nz, xs, e', k2, k3, k4⟩ := this
   refine ⟨nf, nz, xs, e', k2, by simpa using k3, fun i u y hu hy => ?_⟩
   rw [List.getElem?_map, Option.map_eq_some_iff] at hu
   obtain ⟨u', m1, rfl⟩ := hu
   exact (k4 i u' y m1 hy).ren
  | arr s l => exact this
  | frz t l => exact this
  | gone => exact this
 ·obtain ⟨o, z, g1, g2, g3, rfl⟩ := hob n p x e1 e3
  obtain ⟨o', z', k1, k2, k3, rfl⟩ := hob n' p' x' e2 e4
  have := h2.dj o o' p p' z z' b g2 k2 g3 k3 (own.1 b1) (own.1 b2)
  subst this
  have hlt : n < os.length := (List.getElem?_eq_some_iff.1 g1).1
  exact (List.getElem?_inj hlt hnd).1 (g1.trans k1.symm)
 ·obtain ⟨o, z, g1, g2, g3, rfl⟩ := hob n p x e1 e2
  exact h3.own o p z b g2 g3 (own.1 e3)
 ·obtain ⟨g1, ⟨cs, g2, g3⟩, g4⟩ := h3.refs i p n e
  have hi : i < rs.length := by rw [← hrs, List.length_map]; exact (List.getElem?_eq_some_iff.1 e).1
  refine ⟨by unfold yH.ren; rw [hpre i hi]; exact g1, ⟨cs.map (Go.Proofs.YtkdidadegedmiaaGreat.ren os), ?_, by simpa using g3⟩, g4⟩
  rw [List.getElem?_map, hpre i hi, Option.map_some, List.getD_eq_getElem?_getD, g2]; rfl
end
end Go.Proofs.YtkdidadegedmiaaGreat
namespace Go.Proofs.YtkdidadegedmiaaGreat
open Go.RowKit
noncomputable section
inductive St (R σ : Type) where
 | ret (r : R)
 | brk (s : σ)
 | go (s : σ)
instance {R σ : Type} [Inhabited R] : Inhabited (St R σ) := ⟨.ret default⟩
def whl {R σ : Type} (b : σ → St R σ) : Nat → σ → St R σ
 | 0, s => .go s
 | n + 1, s => match b s with
  | .go t => whl b n t
  | .ret r => .ret r
  | .brk t => .brk t
def zk3 : (ts : List Ty) → TyL ts
 | [] => ()
 | t :: ts => (dflt t, zk3 ts)
def AD.dflt : (d : AD) → d.T
 | .val _ s => Go.Proofs.YtkdidadegedmiaaGreat.dflt s.ty
 | .bx t _ => Go.Proofs.YtkdidadegedmiaaGreat.dflt t
 | .fn _ ts => zk3 ts
 | .ref s => Go.Proofs.YtkdidadegedmiaaGreat.dflt s.ty
 | .pt _ _ => ()
 | .ep _ _ => ([], 0)
def zpR : (ds : List AD) → xC ds
 | [] => ()
 | d :: ds => (d.dflt, zpR ds)
def SD.dflt (d : SD) : d.T := zpR d.ds
instance (ds : List AD) : Inhabited (xC ds) := ⟨zpR ds⟩
instance (d : SD) : Inhabited d.T := ⟨d.dflt⟩
def St.fin {R σ X : Type} (f : R → X) (g : σ → X) : St R σ → X
 | .ret r => f r
 | .brk t => g t
 | .go t => g t
def Sf {R σ : Type} (wd : σ → Prop) (b : σ → St R σ) (p : σ → Prop) : Nat → σ → Prop
 | 0, _ => False
 | n + 1, x => wd x → p x ∧ ∀ y, b x = .go y → Sf wd b p n y
def zEO : Nat := 18446744073709551616
structure LB where
 pos : List Nat
 d : SD
 r : SD
 xe : Nat
 T : d.T → Tr (St r.T d.T)
def LB.b (l : LB) (x : l.d.T) : St l.r.T l.d.T := (l.T x).val
def LB.p (l : LB) (x : l.d.T) : Prop := (l.T x).ok
def St.done {R σ : Type} : St R σ → Bool
 | .go _ => false
 | _ => true
theorem zhS {R σ : Type} {b : σ → St R σ} : ∀ (n m : Nat) (x : σ), n ≤ m → (whl b n x).done = true → whl b m x = whl b n x := by
 intro n
 induction n with
 | zero => intro m x _ h; cases h
 | succ n ih =>
  intro m x h hd
  cases m with
  | zero => omega
  | succ m =>
   simp only [whl] at hd ⊢
   cases e : b x with
   | go t => rw [e] at hd; exact ih m t (by omega) hd
   | ret r => rfl
   | brk t => rfl
open Classical in
def LB.run (l : LB) (x : l.d.T) : St l.r.T l.d.T := if h : ∃ n, (whl l.b n x).done = true then whl l.b (Classical.choose h) x else .go x
theorem LB.run_eq {l : LB} {x : l.d.T} {n : Nat} (h : (whl l.b n x).done = true) : l.run x = whl l.b n x := by
 have hx : ∃ n, (whl l.b n x).done = true := ⟨n, h⟩
 unfold LB.run
 rw [dif_pos hx]
 rcases Nat.le_total n (Classical.choose hx) with h3 | h3
 ·exact zhS _ _ _ h3 h
 ·exact (zhS _ _ _ h3 (Classical.choose_spec hx)).symm
def LB.sf (l : LB) (x : l.d.T) : Prop := Sf (WdA l.d.ds) l.b l.p zEO x
def LB.el (l : LB) (s : S) (R : Type) (k : Ex → S → R) : R := (l.run ((l.d.rd (s.ren l.pos)).getD l.d.dflt)).fin (fun r => k .ret (l.r.mk' r)) (fun t => k (.exit l.xe) (l.d.mk' t))
def LB.lp (l : LB) : LP where
 safe s := match l.d.rd (s.ren l.pos) with
  | some x => some (l.sf x)
  | none => some False
 el := l.el
 par s := by
  unfold LB.el
  cases l.run ((l.d.rd (s.ren l.pos)).getD l.d.dflt) with
  | ret r => exact ⟨(_, _), fun R k => rfl⟩
  | brk t => exact ⟨(_, _), fun R k => rfl⟩
  | go t => exact ⟨(_, _), fun R k => rfl⟩
def LB.kT (l : LB) : Ex → S → Tr (St l.r.T l.d.T)
 | .nrm, s => match l.d.rd s with | some x => .v (.go x) | none => .bad
 | .exit i, s => if i = l.xe then (match l.d.rd s with | some x => .v (.brk x) | none => .bad) else .bad
 | .ret, s => match l.r.rd s with | some x => .v (.ret x) | none => .bad
section
variable {P : Program} {w0 : World} {Z0 : En}
theorem LB.ok {E : Env} (hE : EnvOk P E) (hD : zbZ P E w0 Z0) {c : Code} {n : Nat} (hL : zEy P E w0 Z0 c n) (l : LB) {rs : List Nat} (hrs : Z0.r.map Prod.snd = rs) (hps : zbT rs l.pos = true) (hd : l.d.ok rs = true) (hr' : l.r.ok rs = true)
  (hT : ∀ x, evC P E (mdT (St l.r.T l.d.T)) c n (l.d.mk' x) l.kT = l.T x) : zpE P w0 Z0 c l.lp := by
 intro s a w hs hr Q hq
 simp only [LB.lp] at hs
 cases hrd : l.d.rd (s.ren l.pos) with
 | none => rw [hrd] at hs; exact hs.elim
 | some x0 =>
  rw [hrd] at hs
  have hs : Sf (WdA l.d.ds) l.b l.p zEO x0 := hs
  obtain ⟨hr0, hw0⟩ := (hr.ren hrs hps).rd hd hrs hrd
  have hq : ∀ e s' a' w', (∀ (R : Type) (k : Ex → S → R), l.el s R k = k e s') → Rel w0 Z0 s' a' w' → Q e.out a' w' := hq
  obtain ⟨R0, hR0⟩ : ∃ R0, whl l.b zEO x0 = R0 := ⟨_, rfl⟩
  let G : Act → World → Nat → Prop := fun a w m => ∃ x, Rel w0 Z0 (l.d.mk' x) a w ∧ WdA l.d.ds x ∧ Sf (WdA l.d.ds) l.b l.p m x ∧ whl l.b m x = R0
  have hmin : ∀ (a : Act) (w : World), ∃ m : Nat, (∃ n, G a w n) → G a w m ∧ ∀ n, G a w n → m ≤ n := by
   intro a w
   by_cases h : ∃ n, G a w n
   ·obtain ⟨m, h1, h2⟩ := zsk h
    exact ⟨m, fun _ => ⟨h1, h2⟩⟩
   ·exact ⟨0, fun h' => absurd h' h⟩
  refine wp_loop (fun a w => ∃ n, G a w n) (fun a w => Classical.choose (hmin a w)) ⟨zEO, x0, hr0, hw0, hs, hR0⟩ fun a w hI0 => ?_
  obtain ⟨⟨x, g1, gw, g2, g3⟩, _⟩ := Classical.choose_spec (hmin a w) hI0
  generalize Classical.choose (hmin a w) = m at g2 g3
  cases m with
  | zero => exact g2.elim
  | succ m =>
   obtain ⟨g4, g5⟩ := g2 gw
   refine zKZ hE hD c n (l.d.mk' x) (fun e s => (l.kT e s).ok) hL (zWa c n _ l.kT _ (fun _ _ h => h) (by rw [hT x]; exact g4)) a w g1 _ fun e s' a' w' h1 h2 h3 => ?_
   have h2 := h2 (St l.r.T l.d.T) fun e s => (l.kT e s).val
   rw [← zR4, hT x] at h2
   have h2 : l.b x = (l.kT e s').val := h2
   cases e with
   | nrm =>
    simp only [LB.kT] at h1 h2
    split at h1
    ·rename_i y hy
     rw [hy] at h2
     simp only [Tr.val] at h2
     have k1 : G a' w' m := ⟨y, (h3.rd hd hrs hy).1, (h3.rd hd hrs hy).2, g5 y h2, by rw [← g3]; simp only [whl, h2]⟩
     refine ⟨⟨m, k1⟩, ?_⟩
     show Classical.choose (hmin a' w') < m + 1
     have := (Classical.choose_spec (hmin a' w') ⟨m, k1⟩).2 m k1
     omega
    ·exact h1.elim
   | exit i =>
    simp only [LB.kT] at h1 h2
    split at h1
    ·rename_i hi
     subst hi
     split at h1
     ·rename_i y hy
      rw [if_pos rfl, hy] at h2
      simp only [Tr.val] at h2
      have k3 : R0 = .brk y := by rw [← g3]; simp only [whl, h2]
      have hrun : l.run x0 = R0 := by rw [LB.run_eq (n := zEO) (by rw [hR0, k3]; rfl), hR0]
      refine hq (.exit l.xe) (l.d.mk' y) a' w' (fun R k => ?_) (h3.rd hd hrs hy).1
      simp only [LB.el, hrd, Option.getD_some, hrun, k3, St.fin]
     ·exact h1.elim
    ·exact h1.elim
   | ret =>
    simp only [LB.kT] at h1 h2
    split at h1
    ·rename_i y hy
     rw [hy] at h2
     simp only [Tr.val] at h2
     have k3 : R0 = .ret y := by rw [← g3]; simp only [whl, h2]
     have hrun : l.run x0 = R0 := by rw [LB.run_eq (n := zEO) (by rw [hR0, k3]; rfl), hR0]
     refine hq .ret (l.r.mk' y) a' w' (fun R k => ?_) (h3.rd hr' hrs hy).1
     simp only [LB.el, hrd, Option.getD_some, hrun, k3, St.fin]
    ·exact h1.elim
end
def zFD : Code → Nat → Code
 | .seq a b, n => if n < xj a then zFD a n else zFD b (n - xj a)
 | .cond _ a b, n => if n < xj a then zFD a n else zFD b (n - xj a)
 | .block _ c, n => zFD c n
 | .loop c, n => match n with
  | 0 => c
  | n + 1 => zFD c n
 | _, _ => .skip
def zTv (P : Program) (s : S) : List ResultVar → Option (List V)
 | [] => some []
 | .tmp t :: rs => (zTv P s rs).map (s.r.getD t .any :: ·)
 | .cell a t :: rs => match zGQ s.h (s.r.getD a .any) with
  | some (cs, off) => match zKr P t cs off with
   | some v => (zTv P s rs).map (v :: ·)
   | none => none
  | none => none
def zCl (fn : Func) (vs : List V) (H : List Ob) : S := { r := vs ++ List.replicate (fn.ntmps - vs.length) .any, h := H }
def fin : Ex → Bool
 | .exit _ => false
 | _ => true
def zqU (lj : Option Nat) (s : S) : List V := match lj with
 | none => []
 | some j => [s.r.getD j .any]
def zit (P : Program) (fn : Func) (d : FnD) (lj : Option Nat) (s : S) : Option (xC d.res) := (zTv P s fn.results.toList).bind fun vs => zcY s.h d.res ((vs ++ zqU lj s) ++ zGZ (zi d.res))
def zox (P : Program) (fn : Func) (d : FnD) (s : S) : Option (xC d.res) := zit P fn d none s
def zlF (lj : Option Nat) : List Value → List Value → Value → Prop := match lj with
 | none => fun _ ys x => x = zhq ys
 | some j => fun xs ys x => x = zhq ys.dropLast ∧ ys.getLast? = xs[j]?
def zkU (lj : Option Nat) (xs : List Value) : List (Nat × Value) := match lj with
 | none => []
 | some j => [(j, xs.getD j undef)]
def kT (P : Program) (fn : Func) (d : FnD) (e : Ex) (s : S) : Tr (xC d.res) := bif fin e then (match zox P fn d s with | some y => .v y | none => .bad) else .bad
theorem zse {P : Program} {fn : Func} {d : FnD} {e : Ex} {s : S} (h : (kT P fn d e s).ok) : ∃ y, fin e = true ∧ zox P fn d s = some y ∧ (kT P fn d e s).val = y := by
 unfold kT at h ⊢
 cases hf : fin e with
 | false => rw [hf] at h; exact h.elim
 | true =>
  rw [hf] at h
  cases he : zox P fn d s with
  | none => rw [he] at h; exact h.elim
  | some y => exact ⟨y, rfl, rfl, rfl⟩
structure OkT {X : Type} [Inhabited X] (t : Tr X) (y : X) : Prop where
 ok : t.ok
 val : t.val = y
theorem okv {X : Type} [Inhabited X] {t : Tr X} {x : X} (h : t = .v x) : OkT t x := by subst h; exact ⟨trivial, rfl⟩
theorem okT {X : Type} [Inhabited X] {t t' : Tr X} {y : X} (h : t = t') (ho : t'.ok) (hv : t'.val = y) : OkT t y := by subst h; exact ⟨ho, hv⟩
section
variable {P : Program} {ρ ρ' : yH} {Z Z' : Zs} {w w' : World} {H H' : List Ob}
theorem zfC {s : S} {a : Act} (h1 : zWx ρ Z w s.r a) (hr : HR ρ Z s.h w) : ∀ (rs : List ResultVar) (vs : List V), zTv P s rs = some vs →
  ∃ ys : List Value, ys.length = vs.length ∧ (∀ (i : Nat) (u : V) (y : Value), vs[i]? = some u → ys[i]? = some y → Cn ρ Z w u y) ∧
   (rs.mapM (fun (r : ResultVar) => match r with | .tmp t => (pure (a.tmps.getD t undef) : Sem Value) | .cell c t => (do loadVar t (← asAddr (a.tmps.getD c undef)) : Sem Value))).run P w = .ok ys w := by
 intro rs
 induction rs with
 | nil => intro vs h; cases h; exact ⟨[], rfl, by intro i u y h; simp at h, rfl⟩
 | cons r rs ih =>
  intro vs h
  cases r with
  | tmp t =>
   simp only [zTv, Option.map_eq_some_iff] at h
   obtain ⟨vs', h2, rfl⟩ := h
   obtain ⟨ys, g1, g2, g3⟩ := ih vs' h2
   refine ⟨a.tmps.getD t undef :: ys, by simp [g1], fun i u y hu hy => ?_, ?_⟩
   ·cases i with
    | zero => simp only [List.getElem?_cons_zero, Option.some.injEq] at hu hy; subst hu hy; exact h1.ev (s := s) (.tmp t)
    | succ i => exact g2 i u y (by simpa using hu) (by simpa using hy)
   ·simp only [List.mapM_cons, Sem.run_bind, Sem.run_pure, Result.andThen_ok, g3]
  | cell c t =>
   simp only [zTv] at h
   split at h
   ·rename_i cs off e1
    split at h
    ·rename_i v e2
     simp only [Option.map_eq_some_iff] at h
     obtain ⟨vs', h2, rfl⟩ := h
     obtain ⟨ys, g1, g2, g3⟩ := ih vs' h2
     obtain ⟨b, base, ex, hm⟩ := zQC hr (h1.ev (s := s) (.tmp c)) e1
     obtain ⟨y, k1, k2⟩ := zbD (P := P) hm e2
     have ex : a.tmps.getD c undef = .pointer (some ⟨b, base + off, none⟩) := ex
     refine ⟨y :: ys, by simp [g1], fun i u z hu hz => ?_, ?_⟩
     ·cases i with
      | zero => simp at hu hz; subst hu hz; exact k2
      | succ i => exact g2 i u z (by simpa using hu) (by simpa using hz)
     ·have hA : (asAddr (.pointer (some ⟨b, base + off, none⟩))).run P w = .ok ⟨b, base + off, none⟩ w := rfl
      simp only [List.mapM_cons, Sem.run_bind, ex, Sem.run_pure, Result.andThen_ok, hA, k1, g3]
    ·cases h
   ·cases h
theorem zPy {s : S} {a : Act} (h1 : zWx ρ Z w s.r a) (hr : HR ρ Z s.h w) {fn : Func} {vs : List V} (h : zTv P s fn.results.toList = some vs) :
  ∃ ys : List Value, ys.length = vs.length ∧ (∀ (i : Nat) (u : V) (y : Value), vs[i]? = some u → ys[i]? = some y → Cn ρ Z w u y) ∧
   (results fn a.tmps).run P w = .ok (if h : ys.toArray.size = 1 then ys.toArray[0] else .tuple ys.toArray) w := by
 obtain ⟨ys, g1, g2, g3⟩ := zfC (P := P) h1 hr fn.results.toList vs h
 refine ⟨ys, g1, g2, ?_⟩
 unfold results
 rw [Array.mapM_eq_mapM_toList]
 rw [Sem.run_bind]
 have : ∀ (x : Sem (List Value)) (ys : List Value), x.run P w = .ok ys w → (List.toArray <$> x : Sem (Array Value)).run P w = .ok ys.toArray w := by
  intro x ys hx
  show (x >>= fun l => pure l.toArray : Sem (Array Value)).run P w = _
  rw [Sem.run_bind, hx]; rfl
 refine (congrArg (fun r => Result.andThen r _) (this _ ys g3)).trans ?_
 rfl
theorem zXm {c : Cx} : ∀ {ds : List AD} {vs : List V} {a : xC ds}, rdA c ds vs = some a → vs.length = ds.length
 | [], [], _, _ => rfl
 | [], v :: vs, _, h => by simp [rdA] at h
 | d :: ds, [], _, h => by simp [rdA] at h
 | d :: ds, v :: vs, a, h => by
  simp only [rdA] at h
  split at h
  ·rename_i p q e1 e2
   simp only [List.length_cons, zXm e2]
  ·cases h
theorem zmd : ∀ (ds : List AD) (m : Nat), zi ds = zi (ds.take m) + zi (ds.drop m) := fun ds m => by
 rw [← zY6, List.take_append_drop]
theorem zlM : ∀ (l : List AD), zi l = l.length → ∀ d ∈ l, d.r = 1
 | [], _, d, h => by cases h
 | a :: l, h, d, hd => by
  have hle : ∀ l : List AD, zi l ≤ l.length := by
   intro l
   induction l with
   | nil => exact Nat.le_refl _
   | cons x l ih =>
    have : x.r ≤ 1 := by cases x <;> simp [AD.r]
    simp only [zi, List.length_cons]; omega
  have h1 := hle l
  have h2 : a.r ≤ 1 := by cases a <;> simp [AD.r]
  simp only [zi, List.length_cons] at h
  rcases List.mem_cons.1 hd with rfl | hd
  ·omega
  ·exact zlM l (by omega) d hd
theorem ztV {l : List AD} (h : ∀ d ∈ l, d.r = 1) : ∃ os : List OT, l = os.map AD.ref := by
 induction l with
 | nil => exact ⟨[], rfl⟩
 | cons a l ih =>
  obtain ⟨os, e⟩ := ih fun d hd => h d (List.mem_cons_of_mem _ hd)
  have := h a List.mem_cons_self
  cases a with
  | ref s => exact ⟨s :: os, by rw [e]; rfl⟩
  | _ => simp [AD.r] at this
theorem zpf (lj : Option Nat) {f : Nat} {fn : Func} {c : Code} (hf : P.funcs[f]? = some fn) (hb : fn.body = some c) (hn : (fn.name == "runtime.NumGoroutine") = false) (d : FnD) (hok : d.ok = true) (hj : ∀ j, lj = some j → j < d.args.length)
  (hW : ∀ a, WdA d.args a → okP (d.pre a) → ∀ w0 (Z0 : En), Z0.r.map Prod.snd = vY d.args → Z0.fx.map Prod.fst = lj.toList → ∀ act w, Rel w0 Z0 (zCl fn (zC8 d.args a) (yM d.args a)) act w → ∀ Q : Exit → Act → World → Prop,
   (∀ e s' a' w', fin e = true → zit P fn d lj s' = some (d.F a) → Rel w0 Z0 s' a' w' → Q e.out a' w') → c.wp P Q act w) : FnG P f d (zlF lj) where
 ok := hok
 enter args w := by
  unfold callFunc
  simp only [program, Sem.run_bind, Sem.run, Result.andThen_ok, hf, hn, hb, Option.isNone_some, Bool.false_eq_true, if_false, Sem.run_pure]
 call w Z ρ a xs hr hl hc htot hpre := by
  obtain ⟨ok1, ok2, ok3, ok4, ok5⟩ := FnD.ok_eq hok
  refine calls_of_wp hf hb ?_
  have hnr : zi d.args ≤ (yM d.args a).length := by simp only [yM, List.length_append, xy]; omega
  let N : En := { z := Z, m := fun b => ∃ (o : Nat) (p : Pl) (y : Ob), ρ o = some p ∧ (yM d.args a)[o]? = some y ∧ vy y p b, r := (List.range (zi d.args)).map fun i => ((ρ i).getD ⟨0, undef, 0, vm⟩, (vY d.args).getD i 0), fx := zkU lj xs }
  have hNs : N.r.map Prod.snd = vY d.args := by
   show ((List.range (zi d.args)).map _).map Prod.snd = _
   rw [List.map_map]
   apply List.ext_getElem?
   intro i
   rw [List.getElem?_map]
   by_cases hi : i < zi d.args
   ·rw [List.getElem?_range hi]
    have : i < (vY d.args).length := by rw [zKO]; exact hi
    simp [List.getD_eq_getElem?_getD, this]
   ·rw [List.getElem?_eq_none (by simp; omega), List.getElem?_eq_none (by rw [zKO]; omega)]; rfl
  have hNr : ∀ i p n, N.r[i]? = some (p, n) → i < zi d.args ∧ ρ i = some p ∧ (vY d.args)[i]? = some n := by
   intro i p n e
   have hi : i < zi d.args := by have := (List.getElem?_eq_some_iff.1 e).1; simpa [N] using this
   obtain ⟨p', hp'⟩ := htot i (by omega)
   have hs : i < (vY d.args).length := by rw [zKO]; exact hi
   simp only [N, List.getElem?_map, List.getElem?_range hi, Option.map_some, Option.some.injEq, Prod.mk.injEq, hp', Option.getD_some] at e
   refine ⟨hi, by rw [hp', e.1], ?_⟩
   rw [← e.2, List.getD_eq_getElem?_getD, List.getElem?_eq_getElem hs]; rfl
  have hrel : Rel w N (zCl fn (zC8 d.args a) (yM d.args a)) { tmps := xs.toArray ++ Array.replicate (fn.ntmps - xs.toArray.size) undef, defers := [] } w := by
   have hvl : (zC8 d.args a).length = xs.length := by rw [hl]; exact zKz _ _ _ _
   refine ⟨ρ, Z, ⟨by simp [zCl, hvl], fun t u hu => ?_⟩, hr, ⟨Gr.refl w, fun _ _ _ => rfl, fun o p x b e1 e2 e3 => .inr ⟨o, p, x, e1, e2, e3⟩, fun b h => .inl h, fun i p n e => ?_⟩, rfl, fun p hp => ?_⟩
   ·simp only [zCl] at hu
    by_cases ht : t < (zC8 d.args a).length
    ·rw [List.getElem?_append_left ht] at hu
     have hx : xs[t]? = some xs[t] := List.getElem?_eq_getElem (by omega)
     have := hc t u _ hu hx
     rw [Array.getD_eq_getD_getElem?, Array.getElem?_append_left (by simp; omega)]
     simpa [hx] using this
    ·rw [List.getElem?_append_right (by omega), List.getElem?_replicate] at hu
     split at hu
     ·cases hu; exact .any _
     ·cases hu
   ·obtain ⟨h1, h2, h3⟩ := hNr i p n e
    obtain ⟨cs, k1, k2⟩ := zSs d.args a (zi d.args) i _ (List.getElem?_eq_getElem (by rw [xy]; exact h1))
    refine ⟨h2, ⟨cs, ?_, ?_⟩, zBF.same rfl⟩
    ·show (xA d.args a (zi d.args) ++ zCu d.args a)[i]? = _
     rw [List.getElem?_append_left (by rw [xy]; exact h1), ← k1]; exact List.getElem?_eq_getElem _
    ·rw [h3] at k2; exact (by simpa using k2 : n = cs.length).symm
   ·cases lj with
    | none => cases hp
    | some j =>
     have hjl := hj j rfl
     simp only [N, zkU, List.mem_singleton] at hp
     subst hp
     simp only
     rw [Array.getD_eq_getD_getElem?, Array.getElem?_append_left (by simp; omega), List.getD_eq_getElem?_getD]
     simp
  refine hW a (zlH (FnD.ok_one hok) hr hl hc htot) hpre w N hNs (by cases lj <;> rfl) _ w hrel _ fun e s' a' w' kf hy k3 => ?_
  obtain ⟨ρf, Z1, r1, r2, r3, r4⟩ := k3
  obtain ⟨y, hFy⟩ : ∃ y, d.F a = y := ⟨_, rfl⟩
  rw [hFy] at hy
  simp only [zit, Option.bind_eq_some_iff] at hy
  obtain ⟨rvs0, hy1, hy2⟩ := hy
  obtain ⟨ys0, m1, m2, m3⟩ := zPy (P := P) r1 r2 hy1
  obtain ⟨rvs, ys, hrs, m1, m2, hrel⟩ : ∃ rvs ys, rvs = rvs0 ++ zqU lj s' ∧ ys.length = rvs.length ∧ (∀ (i : Nat) (u : V) (y : Value), rvs[i]? = some u → ys[i]? = some y → Cn ρf Z1 w' u y) ∧ zlF lj xs ys (zhq ys0) := by
   cases lj with
   | none => exact ⟨rvs0, ys0, by simp [zqU], m1, m2, rfl⟩
   | some j =>
    refine ⟨rvs0 ++ [s'.r.getD j .any], ys0 ++ [a'.tmps.getD j undef], rfl, by simp [m1], fun i u y hu hy => ?_, by simp, ?_⟩
    ·by_cases hi : i < rvs0.length
     ·rw [List.getElem?_append_left hi] at hu
      rw [List.getElem?_append_left (by omega)] at hy
      exact m2 i u y hu hy
     ·rw [List.getElem?_append_right (by omega)] at hu hy
      rw [m1] at hy
      cases ei : i - rvs0.length with
      | zero =>
       rw [ei] at hu hy
       simp only [List.getElem?_cons_zero, Option.some.injEq] at hu hy
       subst hu hy
       exact r1.ev (s := s') (.tmp j)
      | succ k => rw [ei] at hu; simp at hu
    ·have hjl := hj j rfl
     have := r4.2 (j, xs.getD j undef) (by simp [N, zkU])
     simp only at this
     rw [List.getLast?_concat, this, List.getD_eq_getElem?_getD, List.getElem?_eq_getElem (by omega)]; rfl
  rw [← hrs] at hy2
  let m := d.res.length - zi d.res
  have hle : zi d.res ≤ d.res.length := by
   have : ∀ l : List AD, zi l ≤ l.length := by
    intro l
    induction l with
    | nil => exact Nat.le_refl _
    | cons x l ih =>
     have : x.r ≤ 1 := by cases x <;> simp [AD.r]
     simp only [zi, List.length_cons]; omega
   exact this _
  have hdrop : zi (d.res.drop m) = zi d.res := by have := zmd d.res m; have h0 : zi (d.res.take m) = 0 := ok3; omega
  have hdl : (d.res.drop m).length = zi d.res := by simp only [List.length_drop, m]; omega
  obtain ⟨os, hos⟩ := ztV (zlM (d.res.drop m) (by rw [hdrop, hdl]))
  have hosl : os.length = zi d.res := by rw [← hdl, hos, List.length_map]
  have hrv : rvs.length = m := by
   have h0 : (rvs ++ zGZ (zi d.res)).length = d.res.length := by
    unfold zcY zPZ at hy2
    simp only [Option.map_eq_some_iff] at hy2
    obtain ⟨z, hz, _⟩ := hy2
    split at hz
    ·split at hz
     ·rename_i b hrd; exact zXm hrd
     ·cases hz
    ·cases hz
   simp only [List.length_append, zGZ, List.length_map, List.length_range] at h0
   omega
  have hres : d.res = d.res.take m ++ os.map AD.ref := by rw [← hos, List.take_append_drop]
  have hbx : zAH d.res (rvs ++ zGZ (zi d.res)) = List.range' 0 (zi d.res) ∧ vu d.res (rvs ++ zGZ (zi d.res)) = List.replicate (zi d.res) 0 := by
   have g := zXK (d.res.take m) rvs (zpg ok3)
   have g2 := zXR os 0
   rw [hosl, ← zdG] at g2
   have hl' : rvs.length = (d.res.take m).length := by rw [hrv, List.length_take]; omega
   generalize hq : zi d.res = q at g2 ⊢
   rw [hres, zXd _ _ _ _ hl', zS6 _ _ _ _ hl', g.1, g.2, g2.1, g2.2]
   exact ⟨rfl, rfl⟩
  have hat : ∀ o, o < zi d.res → (zAH d.res (rvs ++ zGZ (zi d.res)))[o]? = some o ∧ (vu d.res (rvs ++ zGZ (zi d.res)))[o]? = some 0 := fun o ho => by
   rw [hbx.1, hbx.2]
   exact ⟨by rw [List.getElem?_range' ho]; simp, by rw [List.getElem?_replicate, if_pos ho]⟩
  have hNl : N.r.length = zi d.args := by simp [N]
  have hzs : ∀ i, i < zi d.args → ∃ p, N.r[i]? = some (p, (vY d.args).getD i 0) := fun i hi => ⟨(ρ i).getD ⟨0, undef, 0, vm⟩, by simp [N, hi]⟩
  have hfr : ∀ i, i < zi d.args → ∃ p n, N.r[i]? = some (p, n) := fun i hi => by obtain ⟨p, e⟩ := hzs i hi; exact ⟨p, _, e⟩
  let zs : List Value := ys ++ (List.range (zi d.res)).map fun i => match ρf i with | some p => .pointer (some ⟨p.b, p.off + 0, none⟩) | none => undef
  have hcn : ∀ (i : Nat) (u : V) (z : Value), (rvs ++ zGZ (zi d.res))[i]? = some u → zs[i]? = some z → Cn ρf Z1 w' u z := by
   intro i u z hu hz
   simp only [zs] at hz
   by_cases hi : i < rvs.length
   ·rw [List.getElem?_append_left hi] at hu
    rw [List.getElem?_append_left (by omega)] at hz
    exact m2 i u z hu hz
   ·rw [List.getElem?_append_right (by omega)] at hu hz
    rw [m1] at hz
    have hj : i - rvs.length < zi d.res := by have := (List.getElem?_eq_some_iff.1 hu).1; simpa [zGZ] using this
    simp only [zGZ, List.getElem?_map, List.getElem?_range hj, Option.map_some, Option.some.injEq] at hu hz
    obtain ⟨p, n, e⟩ := hfr (i - rvs.length) (by omega)
    have hp := (r3.refs _ p n e).1
    rw [hp] at hz
    subst hu hz
    exact .ptr hp
  obtain ⟨ρ2, Z2, n1, n2, n3, n4, _⟩ := zlD r2 r3 (by simp [zs, zGZ, m1]) hcn hy2 (fun o off hm => by
   have := List.all_eq_true.1 ok1 _ hm; simp [zPv] at this) (fun i hi => hat i (by omega)) (by rw [hNl, hNs, ← ok5, List.take_of_length_le (by rw [zKO]; omega)])
  have hvals : ∀ (i : Nat) (u : V) (z : Value), (zCc d.res y (zi d.res))[i]? = some u → ys[i]? = some z → Cn ρ2 Z2 w' u z := by
   intro i u z hu hz
   simp only [zCc, List.getElem?_take] at hu
   split at hu
   ·refine n2 i u z hu ?_
    simp only [zs]
    rw [List.getElem?_append_left (List.getElem?_eq_some_iff.1 hz).1]; exact hz
   ·cases hu
  have hvl : ys.length = (zCc d.res y (zi d.res)).length := by
   simp only [zCc, List.length_take, zKz]; omega
  have post : a'.defers = [] ∧ ∃ v', (results fn a'.tmps).run P w' = .ok v' w' ∧ (fun (e : Ending) (w' : World) => ∃ x rs ρ' Z', e = .returned x ∧ zlF lj xs rs x ∧ Gr w w' ∧
   (∀ b, b < w.heap.size → (∀ (o : Nat) (p : Pl) (y : Ob), ρ o = some p → (yM d.args a)[o]? = some y → ¬ vy y p b) → w'.heap[b]? = w.heap[b]?) ∧
   (∀ b, Z' false b → Z false b ∨ w.heap.size ≤ b ∨ ∃ (o : Nat) (p : Pl) (y : Ob), ρ o = some p ∧ (yM d.args a)[o]? = some y ∧ vy y p b) ∧
   HR ρ' Z' (yM d.res (d.F a)) w' ∧
   (∀ (o : Nat) (p : Pl) (y : Ob) (b : Nat), ρ' o = some p → (yM d.res (d.F a))[o]? = some y → vy y p b → w.heap.size ≤ b ∨ ∃ (o0 : Nat) (p0 : Pl) (y0 : Ob), ρ o0 = some p0 ∧ (yM d.args a)[o0]? = some y0 ∧ vy y0 p0 b) ∧
   (∀ i, i < zi d.args → ρ' i = ρ i) ∧
   (∀ (i : Nat) (p : Pl) (n : Nat), i < zi d.args → ρ i = some p → (vY d.args)[i]? = some n → zBF p.b p.off (p.off + n) w w') ∧
   rs.length = (zCc d.res (d.F a) (zi d.res)).length ∧ ∀ (i : Nat) (u : V) (y : Value), (zCc d.res (d.F a) (zi d.res))[i]? = some u → rs[i]? = some y → Cn ρ' Z' w' u y) (.returned v') w' := by
   rw [hFy]
   refine ⟨r4.1, _, m3, _, ys, ρ2, Z2, rfl, hrel, n4.size, fun b hb hne => n4.same b hb ?_, n4.zs, n1, n4.own, fun i hi => ?_, fun i p n hi hp hs => ?_, hvl, hvals⟩
   ·rintro ⟨o, p, y, g1, g2, g3⟩; exact hne o p y g1 g2 g3
   ·obtain ⟨p, n, e⟩ := hfr i hi
    rw [(n4.refs i p n e).1, (hNr i p n e).2.1]
   ·obtain ⟨p', n', e⟩ := hfr i hi
    obtain ⟨_, h2, h3⟩ := hNr i p' n' e
    rw [hp] at h2; cases h2
    rw [hs] at h3; cases h3
    exact (n4.refs i p n e).2.2
  cases e with
  | nrm => exact post
  | ret => exact post
  | exit id => cases kf
theorem zsj {f : Nat} {fn : Func} {c : Code} (hf : P.funcs[f]? = some fn) (hb : fn.body = some c) (hn : (fn.name == "runtime.NumGoroutine") = false) (d : FnD) (hok : d.ok = true)
  (hW : ∀ a, WdA d.args a → okP (d.pre a) → ∀ w0 (Z0 : En), Z0.r.map Prod.snd = vY d.args → Z0.fx = [] → ∀ act w, Rel w0 Z0 (zCl fn (zC8 d.args a) (yM d.args a)) act w → ∀ Q : Exit → Act → World → Prop,
   (∀ e s' a' w', fin e = true → zox P fn d s' = some (d.F a) → Rel w0 Z0 s' a' w' → Q e.out a' w') → c.wp P Q act w) : zKC P f d :=
 zpf none hf hb hn d hok (fun j h => by cases h) fun a h1 h2 w0 Z0 h3 h4 => hW a h1 h2 w0 Z0 h3 (List.map_eq_nil_iff.1 h4)
theorem zud {E : Env} (hE : EnvOk P E) (hD : ∀ w0 Z0, zbZ P E w0 Z0) {f : Nat} {fn : Func} {c : Code} (hf : P.funcs[f]? = some fn) (hb : fn.body = some c) (hn : (fn.name == "runtime.NumGoroutine") = false) (d : FnD) (hok : d.ok = true)
  (hL : ∀ w0 (Z0 : En), Z0.r.map Prod.snd = vY d.args → Z0.fx = [] → zEy P E w0 Z0 c 0) (hT : ∀ a, WdA d.args a → okP (d.pre a) → OkT (evC P E (mdT (xC d.res)) c 0 (zCl fn (zC8 d.args a) (yM d.args a)) (kT P fn d)) (d.F a)) : zKC P f d :=
 zsj hf hb hn d hok fun a hw hpre w0 Z0 hrs hfx act w hrel Q hQ => by
  obtain ⟨ho, hv⟩ := hT a hw hpre
  refine zKZ hE (hD w0 Z0) c 0 _ (fun e s => (kT P fn d e s).ok) (hL w0 Z0 hrs hfx) (zWa c 0 _ _ _ (fun _ _ h => h) ho) act w hrel Q fun e s' a' w' k1 k2 k3 => ?_
  have k2 := k2 (xC d.res) fun e s => (kT P fn d e s).val
  rw [← zR4, hv] at k2
  obtain ⟨y, kf, hy, h3⟩ := zse k1
  exact hQ e s' a' w' kf (by rw [hy, k2, h3]) k3
end
structure Con (P : Program) where
 f : Nat
 d : FnD
 ok : zKC P f d
def zpb {P : Program} : List (Con P) → Nat → List FnD
 | [], _ => []
 | c :: cs, f => if c.f = f then c.d :: zpb cs f else zpb cs f
structure NCon (P : Program) where
 f : Nat
 d : NwD
 ok : NwOk P f d
def zlO {P : Program} : List (NCon P) → Nat → Option NwD
 | [], _ => none
 | c :: cs, f => if c.f = f then some c.d else zlO cs f
structure LCon (P : Program) where
 f : Nat
 l : LnD
 ok : zpu P f l
def zlL {P : Program} : List (LCon P) → Nat → Option LnD
 | [], _ => none
 | c :: cs, f => if c.f = f then some c.l else zlL cs f
def zSK {P : Program} (g : Gv) (cs : List (Con P)) (ls : List LB) (ns : List (NCon P)) (lcs : List (LCon P)) : Env := ⟨g, zpb cs, fun n => (ls[n]?).map LB.lp, zlO ns, zlL lcs⟩
def zj0 {P : Program} (g : Gv) (cs : List (Con P)) (ls : List LB) (ns : List (NCon P)) : Env := zSK g cs ls ns []
def env {P : Program} (g : Gv) (cs : List (Con P)) (ls : List LB) : Env := zj0 g cs ls []
section
variable {P : Program} {w0 : World} {Z0 : En}
theorem zrI : ∀ (cs : List (Con P)) (f : Nat) (d : FnD), d ∈ zpb cs f → zKC P f d := by
 intro cs
 induction cs with
 | nil => intro f d h; cases h
 | cons c cs ih =>
  intro f d h
  simp only [zpb] at h
  split at h
  ·rename_i e
   subst e
   rcases List.mem_cons.1 h with rfl | h
   ·exact c.ok
   ·exact ih _ d h
  ·exact ih f d h
theorem zp7 : ∀ (ns : List (NCon P)) (f : Nat) (d : NwD), zlO ns f = some d → NwOk P f d := by
 intro ns
 induction ns with
 | nil => intro f d h; cases h
 | cons c ns ih =>
  intro f d h
  simp only [zlO] at h
  split at h
  ·rename_i e
   subst e
   cases h
   exact c.ok
  ·exact ih f d h
theorem zqO : ∀ (ls : List (LCon P)) (f : Nat) (l : LnD), zlL ls f = some l → zpu P f l := by
 intro ls
 induction ls with
 | nil => intro f l h; cases h
 | cons c ls ih =>
  intro f l h
  simp only [zlL] at h
  split at h
  ·rename_i e
   subst e
   cases h
   exact c.ok
  ·exact ih f l h
theorem zdL (g : Gv) (cs : List (Con P)) (ls : List LB) (ns : List (NCon P)) (lcs : List (LCon P)) : EnvOk P (zSK g cs ls ns lcs) := ⟨fun f d h => zrI cs f d h, fun f d h => zp7 ns f d h, fun f l h => zqO lcs f l h⟩
theorem zrm (g : Gv) (cs : List (Con P)) (ls : List LB) (ns : List (NCon P)) : EnvOk P (zj0 g cs ls ns) := zdL g cs ls ns []
structure LOk (P : Program) (E : Env) (rs : List Nat) (c : Code) (n : Nat) (l : LB) : Prop where
 v : ∀ x, evC P E (mdT (St l.r.T l.d.T)) (zFD c n) (n + 1) (l.d.mk' x) l.kT = l.T x
 d : (zbT rs l.pos && l.d.ok rs) = true
 r : l.r.ok rs = true
def zS4 (P : Program) (E : Env) (rs : List Nat) (c : Code) : Nat → List LB → Prop
 | _, [] => True
 | n, l :: ls => LOk P E rs c n l ∧ zS4 P E rs c (n + 1) ls
theorem zS4.get {E : Env} {rs : List Nat} {c : Code} : ∀ (ls : List LB) (n : Nat), zS4 P E rs c n ls → ∀ i l, ls[i]? = some l → LOk P E rs c (n + i) l := by
 intro ls
 induction ls with
 | nil => intro n _ i l h; simp at h
 | cons l0 ls ih =>
  intro n h i l hl
  cases i with
  | zero => simp at hl; subst hl; exact h.1
  | succ i =>
   have := ih (n + 1) h.2 i l (by simpa using hl)
   rwa [show n + (i + 1) = n + 1 + i by omega]
def zd2 (Z0 : En) : Code → Prop
 | .seq a b => zd2 Z0 a ∧ zd2 Z0 b
 | .cond _ a b => zd2 Z0 a ∧ zd2 Z0 b
 | .block _ c => zd2 Z0 c
 | .loop c => zd2 Z0 c
 | .region _ ops _ => zaa Z0 ops.toList
 | _ => True
theorem zhT (h : Z0.fx = []) : ∀ c : Code, zd2 Z0 c := by
 have : ∀ l, zaa Z0 l := fun l o _ p hp => by rw [h] at hp; cases hp
 intro c
 induction c with
 | seq a b iha ihb => exact ⟨iha, ihb⟩
 | cond x a b iha ihb => exact ⟨iha, ihb⟩
 | block id c ih => exact ih
 | loop c ih => exact ih
 | region id ops d => exact this _
 | _ => trivial
theorem zXf {E : Env} (hE : EnvOk P E) (hD : zbZ P E w0 Z0) {rs : List Nat} (hrs : Z0.r.map Prod.snd = rs) : ∀ (c : Code) (n : Nat), zd2 Z0 c → (∀ i, i < xj c → ∀ lp, E.lp (n + i) = some lp → ∃ l : LB, lp = l.lp ∧ (zbT rs l.pos && l.d.ok rs) = true ∧ l.r.ok rs = true ∧ (∀ x, evC P E (mdT (St l.r.T l.d.T)) (zFD c i) (n + i + 1) (l.d.mk' x) l.kT = l.T x)) → zEy P E w0 Z0 c n := by
 intro c
 induction c with
 | seq a b iha ihb =>
  intro n hx h
  refine ⟨iha n hx.1 fun i hi lp hlp => ?_, ihb _ hx.2 fun i hi lp hlp => ?_⟩
  ·obtain ⟨l, h1, d1, d2, h2⟩ := h i (by simp only [xj]; omega) lp hlp
   simp only [zFD, if_pos hi] at h2
   exact ⟨l, h1, d1, d2, h2⟩
  ·obtain ⟨l, h1, d1, d2, h2⟩ := h (xj a + i) (by simp only [xj]; omega) lp (by rw [← Nat.add_assoc]; exact hlp)
   have e : ¬ (xj a + i < xj a) := by omega
   simp only [zFD, if_neg e, Nat.add_sub_cancel_left, ← Nat.add_assoc] at h2
   exact ⟨l, h1, d1, d2, h2⟩
 | cond x a b iha ihb =>
  intro n hx h
  refine ⟨iha n hx.1 fun i hi lp hlp => ?_, ihb _ hx.2 fun i hi lp hlp => ?_⟩
  ·obtain ⟨l, h1, d1, d2, h2⟩ := h i (by simp only [xj]; omega) lp hlp
   simp only [zFD, if_pos hi] at h2
   exact ⟨l, h1, d1, d2, h2⟩
  ·obtain ⟨l, h1, d1, d2, h2⟩ := h (xj a + i) (by simp only [xj]; omega) lp (by rw [← Nat.add_assoc]; exact hlp)
   have e : ¬ (xj a + i < xj a) := by omega
   simp only [zFD, if_neg e, Nat.add_sub_cancel_left, ← Nat.add_assoc] at h2
   exact ⟨l, h1, d1, d2, h2⟩
 | block id c ih => intro n hx h; exact ih n hx fun i hi lp hlp => h i hi lp hlp
 | loop c ih =>
  intro n hx h lp hlp
  obtain ⟨l, h1, d1, d2, h2⟩ := h 0 (by simp only [xj]; omega) lp hlp
  subst h1
  rw [Bool.and_eq_true] at d1
  refine LB.ok hE hD (ih (n + 1) hx fun i hi lp hlp => ?_) l hrs d1.1 d1.2 d2 h2
  obtain ⟨l, h1, d1, d2, h2⟩ := h (i + 1) (by simp only [xj]; omega) lp (by rw [show n + (i + 1) = n + 1 + i by omega]; exact hlp)
  simp only [zFD, show n + (i + 1) = n + 1 + i by omega] at h2
  exact ⟨l, h1, d1, d2, h2⟩
 | region id ops d => intro n hx _; exact hx
 | _ => intro n _ _; trivial
theorem zlY (hm : P.follows .mixedOrders = true) (g : Gv) (cs : List (Con P)) (ls : List LB) (ns : List (NCon P)) (lcs : List (LCon P)) {f : Nat} {fn : Func} {c : Code} (hf : P.funcs[f]? = some fn) (hb : fn.body = some c) (hn : (fn.name == "runtime.NumGoroutine") = false) (d : FnD) (hok : d.ok = true)
  (hL : zS4 P (zSK g cs ls ns lcs) (vY d.args) c 0 ls) (hT : ∀ a, WdA d.args a → okP (d.pre a) → OkT (evC P (zSK g cs ls ns lcs) (mdT (xC d.res)) c 0 (zCl fn (zC8 d.args a) (yM d.args a)) (kT P fn d)) (d.F a)) : zKC P f d := by
 have hE := zdL g cs ls ns lcs
 refine zud hE (fun w0 Z0 => zbq hE hm w0 Z0) hf hb hn d hok (fun w0 Z0 hrs hfx => zXf hE (zbq hE hm w0 Z0) hrs c 0 (zhT hfx c) fun i _ lp hlp => ?_) hT
 simp only [zSK, Nat.zero_add, Option.map_eq_some_iff] at hlp
 obtain ⟨l, h1, rfl⟩ := hlp
 have h2 := hL.get ls 0 i l h1
 rw [Nat.zero_add] at h2
 exact ⟨l, rfl, h2.d, h2.r, by rw [Nat.zero_add]; exact h2.v⟩
theorem zk5 (hm : P.follows .mixedOrders = true) (g : Gv) (cs : List (Con P)) (ls : List LB) (ns : List (NCon P)) {f : Nat} {fn : Func} {c : Code} (hf : P.funcs[f]? = some fn) (hb : fn.body = some c) (hn : (fn.name == "runtime.NumGoroutine") = false) (d : FnD) (hok : d.ok = true)
  (hL : zS4 P (zj0 g cs ls ns) (vY d.args) c 0 ls) (hT : ∀ a, WdA d.args a → okP (d.pre a) → OkT (evC P (zj0 g cs ls ns) (mdT (xC d.res)) c 0 (zCl fn (zC8 d.args a) (yM d.args a)) (kT P fn d)) (d.F a)) : zKC P f d :=
 zlY hm g cs ls ns [] hf hb hn d hok hL hT
theorem zc0 (hm : P.follows .mixedOrders = true) (g : Gv) (cs : List (Con P)) (ls : List LB) {f : Nat} {fn : Func} {c : Code} (hf : P.funcs[f]? = some fn) (hb : fn.body = some c) (hn : (fn.name == "runtime.NumGoroutine") = false) (d : FnD) (hok : d.ok = true)
  (hL : zS4 P (env g cs ls) (vY d.args) c 0 ls) (hT : ∀ a, WdA d.args a → okP (d.pre a) → OkT (evC P (env g cs ls) (mdT (xC d.res)) c 0 (zCl fn (zC8 d.args a) (yM d.args a)) (kT P fn d)) (d.F a)) : zKC P f d :=
 zk5 hm g cs ls [] hf hb hn d hok hL hT
end
theorem ztN {P : Program} {f : Nat} {d : FnD} (hok : d.ok = true) {fn : Func} (hf : P.funcs[f]? = some fn) {c : Code} (hb : fn.body = some c) (hn : (fn.name == "runtime.NumGoroutine") = false) (h : ∀ a, ¬ okP (d.pre a)) : zKC P f d where
 ok := hok
 enter args w := by
  unfold callFunc
  simp only [program, Sem.run_bind, Sem.run, Result.andThen_ok, hf, hn, hb, Option.isNone_some, Bool.false_eq_true, if_false, Sem.run_pure]
 call _ _ _ a _ _ _ _ _ hp := absurd hp (h a)
def g0 : Gv := ⟨false, fun _ => none, false⟩
end
end Go.Proofs.YtkdidadegedmiaaGreat
namespace Go.Proofs.YtkdidadegedmiaaGreat
open Go.RowKit
section
variable {P : Program} {E : Env} {w0 : World} {Z0 : En}
theorem zYL (hE : EnvOk P E) {ops : Array Oper} {Q : Exit → Act → World → Prop} {o : Oper} {rest : List Oper} (hg : o.guard = none) (hd : NoF Z0 o.dst) {s : S} {q : Nat} {ok : Option Prop} {v : V} {H' : List Ob} (h : opV P E s.ev s.h o.op = .mk q ok v H') (hok : okP ok)
  {a : Act} {w : World} (hr : Rel w0 Z0 s a w) (hK : ∀ a' w', Rel w0 Z0 ((s.upd q H').put o.dst v) a' w' → wpList P ops Q rest a' w') : wpList P ops Q (o :: rest) a w := by
 unfold wpList
 rw [if_pos (by simp [Region.wanted, hg])]
 exact .inl (zpd hE hd h hok hr fun x w' hr' => hK _ w' hr')
theorem zq3 {ops : Array Oper} {Q : Exit → Act → World → Prop} {o : Oper} {rest : List Oper} (hg : o.guard = none) (hd : NoF Z0 o.dst) {t e u : TypeId} {r : Tmp} (ho : o.op = .binOp .eql t (.tmp r) (.const (.slice none 0 0)) u) (ht : P.underlying t = some (.slice e))
  {s : S} {q : Nat} {τ : Ty} {l : List (El τ)} (hx : s.r[r]? = some (.ext q τ l)) {a : Act} {w : World} (hr : Rel w0 Z0 s a w)
  (hK : ∀ (b : Bool) a' w', (b = true → l = []) → Rel w0 Z0 (s.put o.dst (.c (.bool b))) a' w' → wpList P ops Q rest a' w') : wpList P ops Q (o :: rest) a w := by
 obtain ⟨ρ, Z, h1, h2, h3, h4⟩ := hr
 have hv := h1.2 r _ hx
 obtain ⟨ad, c, b, off, ys, hval, _, g1, _, g3, _, _, _⟩ := hv.ext_inv
 have hval : a.tmps.getD r undef = .slice ad l.length c := hval
 unfold wpList
 rw [if_pos (by simp [Region.wanted, hg])]
 left
 unfold Oper.wp
 have hrun : (execOp a.eval o).run P w = .ok (.value (.bool ad.isNone)) w := by
  have e1 := Lib.run_eql_slice_nil (P := P) w t e ad l.length c 0 0 ht
  have e0 : a.eval (.tmp r) = .slice ad l.length c := hval
  have e2 : a.eval (.const (.slice none 0 0)) = .slice none 0 0 := rfl
  simp only [execOp, ho, e0, e2, Sem.run_bind, eqGuard, Sem.run_pure, Bool.not_true, Bool.false_eq_true, if_false, Result.andThen_ok, e1]
 rw [hrun]
 refine hK ad.isNone _ w (fun h => ?_) ⟨ρ, Z, ?_, by rw [S.put_h]; exact h2, by rw [S.put_h]; exact h3, h4.put hd _⟩
 ·have := g3 (by simpa using h)
  exact List.eq_nil_of_length_eq_zero (by omega)
 ·exact h1.put o.dst (v := .c (.bool ad.isNone)) (.c _ trivial) s.h
end
def zco (t : TypeId) (p3 : String) : Code :=
 .seq (.region 3 #[⟨some 5, .buildSlice t 0 #[], t, p3, #[], none⟩, ⟨some 6, .move (.tmp 0), t, p3, #[], none⟩,
   ⟨some 7, .call { callee := .builtin .append, args := #[.tmp 5, .tmp 6], argTypes := #[t, t] }, t, p3, #[⟨0, .data⟩, ⟨1, .data⟩], none⟩,
   ⟨some 2, .assign (.tmp 7), t, p3, #[⟨2, .data⟩, ⟨2, .chain⟩, ⟨0, .phase⟩, ⟨1, .phase⟩, ⟨2, .phase⟩], none⟩] false) .ret
def zpm (t u : TypeId) (p0 p1 p2 p3 : String) : Code :=
 .seq (.region 0 #[⟨some 2, .assign (.const (.slice none 0 0)), t, p0, #[], none⟩] false)
  (.seq (.seq (.region 1 #[⟨some 3, .move (.tmp 0), t, p1, #[], none⟩, ⟨some 4, .binOp .eql t (.tmp 3) (.const (.slice none 0 0)) t, u, p1, #[⟨0, .data⟩], none⟩] false)
   (.cond (.tmp 4) (.seq (.region 2 #[⟨some 2, .assign (.const (.slice none 0 0)), t, p2, #[], none⟩] false) .ret) .skip))
  (zco t p3))
abbrev zIc (τ : Ty) (pr : Bool) : FnD := ⟨[.val false (.d (.lst τ))], [.val false (.o (.d τ))], zFE τ, fun a => bif pr then some ((a.1.length : Int) ≤ 16777216) else none, fun a => (a.1, ())⟩
def zdY {τ : Ty} (l : List (El τ)) (b : Bool) : S := { r := [.ext 0 τ l, .any, .c (.slice none 0 0), .ext 0 τ l, .c (.bool b), .any, .any, .any], h := [] }
abbrev zoc : Env := ⟨⟨false, fun _ => none, false⟩, fun _ => [], fun _ => none, fun _ => none, fun _ => none⟩
theorem zV3 {P : Program} (hm : P.follows .mixedOrders = true) {f : Nat} {fn : Func} {t u e : TypeId} {p0 p1 p2 p3 : String} (hf : P.funcs[f]? = some fn) (hb : fn.body = some (zpm t u p0 p1 p2 p3)) (hn : (fn.name == "runtime.NumGoroutine") = false) (hk : fn.ntmps = 8)
  (hres : fn.results = #[.tmp 2]) (τ : Ty) (pr : Bool) (hu : P.underlying t = some (.slice e)) (h1 : ∀ (l : List (El τ)), evC P zoc (mdT (xC (zIc τ pr).res)) (zco t p3) 0 (zdY l false) (kT P fn (zIc τ pr)) = .ck ((l.length : Int) ≤ 16777216) (.v (l, ()))) (hl : pr = true ∨ lim τ = 16777216) : zKC P f (zIc τ pr) := by
 have hE : EnvOk P zoc := ⟨fun f d h => (by cases h), fun f d h => (by cases h), fun f d h => (by cases h)⟩
 have hD := fun w0 Z0 => zbq hE hm w0 Z0
 refine zsj hf hb hn (zIc τ pr) (by cases e : zFE τ <;> simp [FnD.ok, AD.one1, zPv, ztt, zi, vY, AD.szs, AD.r, zO, zBG, e]) fun a hw hpre w0 Z0 hrs hfx act w hrel Q hQ => ?_
 have nf : ∀ d, NoF Z0 d := fun d p hp => by rw [hfx] at hp; cases hp
 have nfx : ∀ l, zaa Z0 l := fun l o _ => nf _
 obtain ⟨l, ⟨⟩⟩ := a
 have hlen : (l.length : Int) ≤ 16777216 := by
  rcases hl with rfl | hl
  ·exact hpre
  ·have : l.length ≤ lim τ := hw.1.1
   omega
 have hs0 : zCl fn (zC8 (zIc τ pr).args (l, ())) (yM (zIc τ pr).args (l, ())) = { r := [.ext 0 τ l, .any, .any, .any, .any, .any, .any, .any], h := [] } := by
  unfold zCl; rw [hk]; rfl
 rw [hs0] at hrel
 unfold zpm
 refine wp_seq (wp_region_list (zYL hE rfl (nf _) (q := 0) (ok := none) (v := .c (.slice none 0 0)) (H' := []) rfl trivial hrel fun a1 w1 r1 => ?_))
 refine wp_seq (wp_seq (wp_region_list (zYL hE rfl (nf _) (q := 0) (ok := none) (v := .ext 0 τ l) (H' := []) rfl trivial r1 fun a2 w2 r2 => ?_)))
 refine zq3 rfl (nf _) rfl hu (s := { r := [.ext 0 τ l, .any, .c (.slice none 0 0), .ext 0 τ l, .any, .any, .any, .any], h := [] }) (q := 0) (τ := τ) (l := l) rfl r2 fun b a3 w3 hbl r3 => ?_
 have r3 : Rel w0 Z0 (zdY l b) a3 w3 := r3
 have hcase : a3.eval (.tmp 4) = .bool b := by
  obtain ⟨ρ, Z, g1, _⟩ := r3
  exact x8 (g1.ev (s := zdY l b) (.tmp 4))
 cases b with
 | true =>
  refine wp_cond_true hcase (wp_seq (wp_region_list (zYL hE rfl (nf _) (q := 0) (ok := none) (v := .c (.slice none 0 0)) (H' := []) rfl trivial r3 fun a4 w4 r4 => wp_ret (hQ .ret _ a4 w4 rfl ?_ r4))))
  have hl := hbl rfl
  subst hl
  unfold zox zit
  rw [hres]; rfl
 | false =>
  refine wp_cond_false hcase (wp_skip ?_)
  show (zco t p3).wp P Q a3 w3
  refine zKZ hE (hD w0 Z0) (zco t p3) 0 (zdY l false) (fun e s => (kT P fn (zIc τ pr) e s).ok) ⟨nfx _, trivial⟩ (zWa _ _ _ _ _ (fun _ _ h => h) (by rw [h1 l]; exact ⟨hlen, trivial⟩)) a3 w3 r3 Q fun e s' a' w' k1 k2 k3 => ?_
  have k2 := k2 _ fun e s => (kT P fn (zIc τ pr) e s).val
  rw [← zR4, h1 l] at k2
  obtain ⟨y, kf, hy, h3⟩ := zse k1
  exact hQ e s' a' w' kf (hy.trans (congrArg some (h3.symm.trans k2.symm))) k3
end Go.Proofs.YtkdidadegedmiaaGreat
namespace Go.Proofs.YtkdidadegedmiaaGreat
open Go.RowKit
theorem Sf.of {R σ : Type} {wd : σ → Prop} {b : σ → St R σ} {p : σ → Prop} (I : σ → Prop) (μ : σ → Nat) (h : ∀ x, I x → wd x → p x ∧ ∀ y, b x = .go y → I y ∧ μ y < μ x) : ∀ (n : Nat) (x : σ), I x → μ x < n → Sf wd b p n x := by
 intro n
 induction n with
 | zero => intro x _ h; omega
 | succ n ih =>
  intro x hx hm hw
  obtain ⟨h1, h2⟩ := h x hx hw
  exact ⟨h1, fun y hy => ih y (h2 y hy).1 (by have := (h2 y hy).2; omega)⟩
theorem LB.safe {l : LB} (I : l.d.T → Prop) (μ : l.d.T → Nat) (h : ∀ x, I x → WdA l.d.ds x → l.p x ∧ ∀ y, l.b x = .go y → I y ∧ μ y < μ x) {x : l.d.T} (hx : I x) (hm : μ x < zEO) : l.sf x := Sf.of I μ h zEO x hx hm
end Go.Proofs.YtkdidadegedmiaaGreat
namespace Go.Proofs.YtkdidadegedmiaaGreat
open Go.RowKit
section
variable {w w' w1 w2 : World} {Z Z' Z1 Z2 : Zs} {ρ : yH} {H : List Ob}
end
end Go.Proofs.YtkdidadegedmiaaGreat
namespace Go.Proofs.YtkdidadegedmiaaGreat
open Go.RowKit
section
variable {P : Program} {ρ : yH} {H : List Ob}
end
end Go.Proofs.YtkdidadegedmiaaGreat
namespace Go.Proofs.YtkdidadegedmiaaGreat
open Go.RowKit
def St.all {R σ : Type} (A : R → Prop) (B G : σ → Prop) : St R σ → Prop
 | .ret r => A r
 | .brk t => B t
 | .go y => G y
section
variable {R σ X : Type} {A : R → Prop} {B G : σ → Prop}
theorem zRR {t : σ} (h : B t) : St.all A B G (.brk t) := h
theorem zNg {y : σ} (h : G y) : St.all A B G (.go y) := h
theorem zDu {c : Bool} {x y : St R σ} (h1 : c = true → St.all A B G x) (h2 : c = false → St.all A B G y) : St.all A B G (bif c then x else y) := by
 cases c with
 | true => exact h1 rfl
 | false => exact h2 rfl
theorem zVq {R' σ' : Type} {s : St R' σ'} {f : R' → St R σ} {g : σ' → St R σ} {A' : R' → Prop} {B' : σ' → Prop} (h : s.all A' B' B') (h1 : ∀ r, A' r → St.all A B G (f r)) (h2 : ∀ t, B' t → St.all A B G (g t)) : St.all A B G (s.fin f g) := by
 cases s with
 | ret r => exact h1 r h
 | brk t => exact h2 t h
 | go t => exact h2 t h
theorem zg {p : Prop} {t : Tr X} (h1 : p) (h2 : t.ok) : (Tr.ck p t).ok := ⟨h1, h2⟩
theorem yK {c : Bool} {x y : Tr X} (h1 : c = true → x.ok) (h2 : c = false → y.ok) : (bif c then x else y : Tr _).ok := by
 cases c with
 | true => exact h1 rfl
 | false => exact h2 rfl
theorem zJ1 {R' σ' : Type} {s : St R' σ'} {f : R' → Tr X} {g : σ' → Tr X} {A' : R' → Prop} {B' : σ' → Prop} (h : s.all A' B' B') (h1 : ∀ r, A' r → (f r).ok) (h2 : ∀ t, B' t → (g t).ok) : (s.fin f g).ok := by
 cases s with
 | ret r => exact h1 r h
 | brk t => exact h2 t h
 | go t => exact h2 t h
theorem zhB (s : St R σ) : s.all (fun _ => True) (fun _ => True) (fun _ => True) := by cases s <;> trivial
end
theorem Sf.pre {R σ : Type} {wd : σ → Prop} {b : σ → St R σ} {p : σ → Prop} : ∀ {n : Nat} {x : σ}, 0 < n → (wd x → Sf wd b p n x) → Sf wd b p n x
 | 0, _, h, _ => absurd h (Nat.lt_irrefl 0)
 | _ + 1, _, _, h => fun hw => h hw hw
theorem LB.safe' {l : LB} (I : l.d.T → Prop) (μ : l.d.T → Nat) (h : ∀ x, I x → WdA l.d.ds x → l.p x ∧ (l.b x).all (fun _ => True) (fun _ => True) (fun y => I y ∧ μ y < μ x)) {x : l.d.T} (hx : I x) (hm : WdA l.d.ds x → μ x < zEO) : l.sf x :=
 Sf.pre (by unfold zEO; decide) fun hw => LB.safe I μ (fun x hx hw => ⟨(h x hx hw).1, fun y hy => by have := (h x hx hw).2; rw [hy] at this; exact this⟩) hx (hm hw)
theorem LB.post {l : LB} (I : l.d.T → Prop) {A : l.r.T → Prop} (h : ∀ x, I x → (l.b x).all A I I) {x : l.d.T} (hx : I x) : (l.run x).all A I I := by
 have : ∀ (n : Nat) (x : l.d.T), I x → (whl l.b n x).all A I I := by
  intro n
  induction n with
  | zero => intro x hx; exact hx
  | succ n ih =>
   intro x hx
   have hb := h x hx
   cases e : l.b x with
   | ret r => rw [e] at hb; simp only [whl, e]; exact hb
   | brk t => rw [e] at hb; simp only [whl, e]; exact hb
   | go y => rw [e] at hb; simp only [whl, e]; exact ih y hb
 unfold LB.run
 split
 ·exact this _ x hx
 ·exact hx
theorem zAT {b : Bool} (h : (!b) = false) : b = true := by cases b <;> simp_all
theorem zlA {a b : Int} (h : (a != b) = true) : a ≠ b := by simpa using h
theorem zT9 {a b : Int} (h : (a != b) = false) : a = b := by simpa using h
theorem zuX {a b : Int} (h : (a == b) = true) : a = b := by simpa using h
theorem zuN {a b : Int} (h : (a == b) = false) : a ≠ b := by simpa using h
theorem vC {α : Type} {l : List α} {n : Nat} (h : l.length ≤ n) : (l.length : Int) ≤ (n : Int) := Int.ofNat_le.2 h
theorem zlR {s : ByteArray} (h : s.size ≤ 9223372036854775807) : (s.size : Int) ≤ 9223372036854775807 := Int.ofNat_le.2 h
theorem ink {n : Int} (h1 : -9223372036854775808 ≤ n) (h2 : n ≤ 9223372036854775807) : InK .i64 n := by
 unfold InK IntKind.wrap
 simp [IntKind.bits, IntKind.signed]
 omega
theorem zAd {n : Int} (h : InK .i64 n) : -9223372036854775808 ≤ n ∧ n ≤ 9223372036854775807 := by
 unfold InK IntKind.wrap at h
 simp [IntKind.bits, IntKind.signed] at h
 omega
theorem zeA {n : Int} (h : InK .u8 n) : 0 ≤ n ∧ n ≤ 255 := by
 unfold InK IntKind.wrap at h
 simp [IntKind.bits, IntKind.signed] at h
 omega
theorem zk4 {t : Ty} {l : List (El t)} {i : Int} (h : ∀ x ∈ l, Wd t x) (hi : 0 ≤ i ∧ i < (l.length : Nat)) : Wd t (zB t l i) := by
 have hlt : i.toNat < l.length := by omega
 have : zB t l i = l[i.toNat] := by
  unfold zB
  rw [List.getD_eq_getElem?_getD, List.getElem?_eq_getElem hlt]; rfl
 rw [this]
 exact h _ (List.getElem_mem hlt)
theorem zuh (s : ByteArray) (i : Int) : (bt s i).toNat ≤ 255 := by have := (bt s i).toNat_lt; omega
theorem zV {t : Ty} {l : List (El t)} {i : Int} (hi : 0 ≤ i ∧ i < (l.length : Nat)) : zB t l i ∈ l := by
 have hlt : i.toNat < l.length := by omega
 have : zB t l i = l[i.toNat] := by
  unfold zB
  rw [List.getD_eq_getElem?_getD, List.getElem?_eq_getElem hlt]; rfl
 rw [this]
 exact List.getElem_mem hlt
end Go.Proofs.YtkdidadegedmiaaGreat
namespace Go.Proofs.YtkdidadegedmiaaGreat
open Go.RowKit
theorem zQ {t : Ty} {l : List (El t)} {i : Nat} {x : El t} (h : l[i]? = some x) : zB t l (i : Int) = x := by
 show l.getD (Int.toNat (i : Int)) (dflt t) = x
 rw [Int.toNat_natCast, List.getD_eq_getElem?_getD, h]; rfl
theorem zsw {s : ByteArray} {i : Nat} {x : UInt8} (h : s.data.toList[i]? = some x) : bt s (i : Int) = x := by
 show s.data.getD (Int.toNat (i : Int)) 0 = x
 rw [Int.toNat_natCast, Array.getD_eq_getD_getElem?]
 have : s.data[i]? = some x := by rw [← Array.getElem?_toList]; exact h
 rw [this]; rfl
theorem ltT {i n : Nat} (h : i < n) : decide ((i : Int) < ((n : Nat) : Int)) = true := decide_eq_true (by omega)
theorem ltF (n : Nat) : decide ((n : Int) < ((n : Nat) : Int)) = false := decide_eq_false (by omega)
theorem LB.post3 {l : LB} (I : l.d.T → Prop) {A : l.r.T → Prop} {B : l.d.T → Prop} (h : ∀ x, I x → (l.b x).all A B I) (hI : ∀ x, I x → B x) {x : l.d.T} (hx : I x) : (l.run x).all A B B := by
 have : ∀ (n : Nat) (x : l.d.T), I x → (whl l.b n x).all A B B := by
  intro n
  induction n with
  | zero => intro x hx; exact hI x hx
  | succ n ih =>
   intro x hx
   have hb := h x hx
   cases e : l.b x with
   | ret r => rw [e] at hb; simp only [whl, e]; exact hb
   | brk t => rw [e] at hb; simp only [whl, e]; exact hb
   | go y => rw [e] at hb; simp only [whl, e]; exact ih y hb
 unfold LB.run
 split
 ·exact this _ x hx
 ·exact hI x hx
def zAo {α σ R : Type} (f : Nat → α → σ → R ⊕ σ) : Nat → List α → σ → R ⊕ σ
 | _, [], s => .inr s
 | i, x :: xs, s => match f i x s with
  | .inl r => .inl r
  | .inr s' => zAo f (i + 1) xs s'
def vX {α R : Type} (f : Nat → α → Option R) : Nat → List α → Option R
 | _, [] => none
 | i, x :: xs => match f i x with
  | some r => some r
  | none => vX f (i + 1) xs
def xU {α : Type} (p : Nat → α → Bool) : Nat → List α → Bool
 | _, [] => true
 | i, x :: xs => p i x && xU p (i + 1) xs
def yC {α σ : Type} (f : Nat → α → σ → σ) : Nat → List α → σ → σ
 | _, [], s => s
 | i, x :: xs, s => yC f (i + 1) xs (f i x s)
theorem LB.run_forS {l : LB} {α σ : Type} (L : List α) (emb : Nat → σ → l.d.T) (f : Nat → α → σ → l.r.T ⊕ σ)
  (hb : ∀ i x s, L[i]? = some x → l.b (emb i s) = match f i x s with | .inl r => .ret r | .inr s' => .go (emb (i + 1) s')) (he : ∀ s, l.b (emb L.length s) = .brk (emb L.length s)) (s : σ) :
  l.run (emb 0 s) = match zAo f 0 L s with | .inl r => .ret r | .inr s' => .brk (emb L.length s') := by
 have key : ∀ (d i : Nat) (s : σ), i + d = L.length → whl l.b (d + 1) (emb i s) = match zAo f i (L.drop i) s with | .inl r => .ret r | .inr s' => .brk (emb L.length s') := by
  intro d
  induction d with
  | zero =>
   intro i s h
   have : i = L.length := by omega
   subst this
   simp only [whl, he s, List.drop_length, zAo]
  | succ d ih =>
   intro i s h
   have hi : i < L.length := by omega
   rw [List.drop_eq_getElem_cons hi]
   have e := hb i _ s (List.getElem?_eq_getElem hi)
   simp only [zAo]
   rw [whl, e]
   cases f i L[i] s with
   | inl r => rfl
   | inr s' => exact ih (i + 1) s' (by omega)
 have k := key L.length 0 s (by omega)
 rw [List.drop_zero] at k
 have hd : (whl l.b (L.length + 1) (emb 0 s)).done = true := by
  rw [k]
  cases zAo f 0 L s <;> rfl
 rw [LB.run_eq hd, k]
def zku {R σ : Type} : Option R → σ → St R σ
 | some r, _ => .ret r
 | none, t => .brk t
theorem LB.run_scan {l : LB} {α : Type} {L : List α} (emb : Nat → l.d.T) {f : Nat → α → Option l.r.T}
  (hb : ∀ i x, L[i]? = some x → l.b (emb i) = match f i x with | some r => .ret r | none => .go (emb (i + 1))) (he : l.b (emb L.length) = .brk (emb L.length)) :
  l.run (emb 0) = zku (vX f 0 L) (emb L.length) := by
 have := LB.run_forS (l := l) L (fun i (_ : Unit) => emb i) (fun i x _ => match f i x with | some r => .inl r | none => .inr ()) (fun i x s h => by
  rw [hb i x h]; cases f i x <;> rfl) (fun _ => he) ()
 rw [this]
 have e : ∀ i (K : List α), zAo (fun i x (_ : Unit) => match f i x with | some r => (.inl r : l.r.T ⊕ Unit) | none => .inr ()) i K () = match vX f i K with | some r => .inl r | none => .inr () := by
  intro i K
  induction K generalizing i with
  | nil => rfl
  | cons x K ih =>
   simp only [zAo, vX]
   cases f i x with
   | some r => rfl
   | none => exact ih (i + 1)
 rw [e]
 cases vX f 0 L <;> rfl
theorem LB.run_all {l : LB} {α : Type} {L : List α} (emb : Nat → l.d.T) {p : Nat → α → Bool} {r : l.r.T}
  (hb : ∀ i x, L[i]? = some x → l.b (emb i) = bif p i x then .go (emb (i + 1)) else .ret r) (he : l.b (emb L.length) = .brk (emb L.length)) :
  l.run (emb 0) = bif xU p 0 L then .brk (emb L.length) else .ret r := by
 rw [LB.run_scan (L := L) emb (f := fun i x => bif p i x then none else some r) (fun i x h => by rw [hb i x h]; cases p i x <;> rfl) he]
 have e : ∀ i (K : List α), vX (fun i x => bif p i x then none else some r) i K = bif xU p i K then none else some r := by
  intro i K
  induction K generalizing i with
  | nil => rfl
  | cons x K ih =>
   simp only [vX, xU]
   cases p i x with
   | true => exact ih (i + 1)
   | false => rfl
 rw [e]
 cases xU p 0 L <;> rfl
theorem LB.run_fold {l : LB} {α σ : Type} {L : List α} (emb : Nat → σ → l.d.T) {f : Nat → α → σ → σ}
  (hb : ∀ i x s, L[i]? = some x → l.b (emb i s) = .go (emb (i + 1) (f i x s))) (he : ∀ s, l.b (emb L.length s) = .brk (emb L.length s)) {s : σ} :
  l.run (emb 0 s) = .brk (emb L.length (yC f 0 L s)) := by
 rw [LB.run_forS L emb (fun i x s => .inr (f i x s)) (fun i x s h => hb i x s h) he s]
 have e : ∀ i (K : List α) (s : σ), zAo (fun i x s => (.inr (f i x s) : l.r.T ⊕ σ)) i K s = .inr (yC f i K s) := by
  intro i K
  induction K generalizing i with
  | nil => intro s; rfl
  | cons x K ih => intro s; simp only [zAo, yC]; exact ih (i + 1) _
 rw [e]
theorem zkF {α : Type} {p q : Nat → α → Bool} : ∀ {L : List α} {k : Nat}, (∀ i x, L[i]? = some x → p (k + i) x = q (k + i) x) → xU p k L = xU q k L
 | [], _, _ => rfl
 | x :: L, k, h => by
  simp only [xU]
  have h0 : p k x = q k x := h 0 x rfl
  rw [h0, zkF (p := p) (q := q) (L := L) (k := k + 1) fun i y hy => by
   have := h (i + 1) y (by simpa using hy)
   rwa [show k + 1 + i = k + (i + 1) by omega]]
theorem zR {α : Type} {p : Nat → α → Bool} : ∀ {L : List α} {k : Nat}, xU p k L = true ↔ ∀ i x, L[i]? = some x → p (k + i) x = true
 | [], _ => by simp [xU]
 | x :: L, k => by
  simp only [xU, Bool.and_eq_true]
  rw [zR (L := L) (k := k + 1)]
  constructor
  ·rintro ⟨h1, h2⟩ i y hy
   cases i with
   | zero => simp at hy; subst hy; exact h1
   | succ i => have := h2 i y (by simpa using hy); rwa [show k + (i + 1) = k + 1 + i by omega]
  ·intro h
   exact ⟨h 0 x rfl, fun i y hy => by have := h (i + 1) y (by simpa using hy); rwa [show k + 1 + i = k + (i + 1) by omega]⟩
theorem zDU {α : Type} (p : α → Bool) : ∀ (L : List α) (k : Nat) (s : List α), yC (fun _ x s => bif p x then s ++ [x] else s) k L s = s ++ L.filter p
 | [], _, s => by simp [yC]
 | x :: L, k, s => by
  simp only [yC]
  rw [zDU p L (k + 1)]
  cases h : p x with
  | true => simp [h]
  | false => simp [h]
theorem vM {α β : Type} (f : α → β) : ∀ (L : List α) (k : Nat) (s : List β), yC (fun _ x s => s ++ [f x]) k L s = s ++ L.map f
 | [], _, s => by simp [yC]
 | x :: L, k, s => by simp only [yC]; rw [vM f L (k + 1)]; simp
theorem zJO {α : Type} (p : α → Bool) : ∀ (L : List α) (k : Nat) (s : Int), yC (fun _ x (s : Int) => bif p x then (s + (1 : Int)) else s) k L s = s + ((L.filter p).length : Int)
 | [], _, s => by simp [yC]
 | x :: L, k, s => by
  simp only [yC]
  rw [zJO p L (k + 1)]
  cases h : p x with
  | true => simp [h]; omega
  | false => simp [h]
theorem zs3 {α : Type} {L : List α} {i : Nat} {x : α} (h : L[i]? = some x) : decide ((i : Int) < (L.length : Int)) = true := ltT (List.getElem?_eq_some_iff.1 h).1
theorem zvI {s : ByteArray} {i : Nat} {x : UInt8} (h : s.data.toList[i]? = some x) : decide ((i : Int) < (s.size : Int)) = true := ltT (List.getElem?_eq_some_iff.1 h).1
def zUw {R X : Type} (o : Option R) (f : R → X) (x : X) : X := match o with
 | some r => f r
 | none => x
theorem z3 {R σ X : Type} (c : Bool) (r : R) (t : σ) (f : R → X) (g : σ → X) : (bif c then St.brk t else St.ret r : St R σ).fin f g = bif c then g t else f r := by cases c <;> rfl
theorem xH {R σ X : Type} (o : Option R) (t : σ) (f : R → X) (g : σ → X) : (zku o t : St R σ).fin f g = zUw o f (g t) := by cases o <;> rfl
theorem xL {R σ X : Type} (t : σ) (f : R → X) (g : σ → X) : (St.brk t : St R σ).fin f g = g t := rfl
theorem v7 {α β : Type} (c : Bool) (x y : α × β) : (bif c then x else y).1 = bif c then x.1 else y.1 := by cases c <;> rfl
theorem zB1 {c x : Bool} : (bif c then false else x) = true ↔ c = false ∧ x = true := by cases c <;> cases x <;> simp
theorem zJy {c x : Bool} : (bif c then x else false) = true ↔ c = true ∧ x = true := by cases c <;> cases x <;> simp
section
variable {X R σ : Type} {c : Bool} {x y : X} {p : Prop} {t u : Tr X}
abbrev Tr.ix {τ : Type} (i : Int) (l : List τ) (t : Tr X) : Tr X := .ck (0 ≤ i ∧ i < (l.length : Int)) t
abbrev Tr.is (i : Int) (s : ByteArray) (t : Tr X) : Tr X := .ck (0 ≤ i ∧ i < (s.size : Int)) t
abbrev Tr.ik (n : Int) (t : Tr X) : Tr X := .ck (InK .i64 n) t
@[reducible] noncomputable def Tr.lp (l : LB) (x : l.d.T) (f : l.r.T → Tr X) (g : l.d.T → Tr X) : Tr X := .ck (l.sf x) ((l.run x).fin f g)
@[simp] theorem okB : (Tr.bad : Tr X).ok ↔ False := Iff.rfl
@[simp] theorem okV : (Tr.v x).ok ↔ True := Iff.rfl
@[simp] theorem okK : (Tr.ck p t).ok ↔ p ∧ t.ok := Iff.rfl
@[simp] theorem zu6 : (bif c then t else u).ok ↔ (c = true → t.ok) ∧ (c = false → u.ok) := by cases c <;> simp
@[simp] theorem zvf {q : Prop} [Decidable q] : (if q then t else u).ok ↔ (q → t.ok) ∧ (¬ q → u.ok) := by split <;> simp_all
@[simp] theorem okF {s : St R σ} {f : R → Tr X} {g : σ → Tr X} : (s.fin f g).ok ↔ s.fin (fun r => (f r).ok) (fun t => (g t).ok) := by cases s <;> exact Iff.rfl
variable [Inhabited X]
@[simp] theorem vlB : (Tr.bad : Tr X).val = default := rfl
@[simp] theorem zY : (Tr.v x).val = x := rfl
@[simp] theorem ze : (Tr.ck p t).val = t.val := rfl
@[simp] theorem z0 : (bif c then t else u).val = bif c then t.val else u.val := by cases c <;> rfl
@[simp] theorem zvZ {q : Prop} [Decidable q] : (if q then t else u).val = if q then t.val else u.val := by split <;> rfl
@[simp] theorem zq {s : St R σ} {f : R → Tr X} {g : σ → Tr X} : (s.fin f g).val = s.fin (fun r => (f r).val) (fun t => (g t).val) := by cases s <;> rfl
end
section
variable {R σ : Type} {G : σ → Prop} {c : Bool} {t u : Tr (St R σ)} {p : Prop}
def Tr.sg (G : σ → Prop) : Tr (St R σ) → Prop
 | .bad => False
 | .v x => x.all (fun _ => True) (fun _ => True) G
 | .ck p t => p ∧ t.sg G
@[simp] theorem sgB : (Tr.bad : Tr (St R σ)).sg G ↔ False := Iff.rfl
@[simp] theorem sgR {r : R} : (Tr.v (.ret r) : Tr (St R σ)).sg G ↔ True := Iff.rfl
@[simp] theorem sgK {t : σ} : (Tr.v (.brk t) : Tr (St R σ)).sg G ↔ True := Iff.rfl
@[simp] theorem sgG {t : σ} : (Tr.v (.go t) : Tr (St R σ)).sg G ↔ G t := Iff.rfl
@[simp] theorem sgP : (Tr.ck p t).sg G ↔ p ∧ t.sg G := Iff.rfl
@[simp] theorem sgC : (bif c then t else u).sg G ↔ (c = true → t.sg G) ∧ (c = false → u.sg G) := by cases c <;> simp
@[simp] theorem zvl {q : Prop} [Decidable q] : (if q then t else u).sg G ↔ (q → t.sg G) ∧ (¬ q → u.sg G) := by split <;> simp_all
@[simp] theorem sgF {R' σ' : Type} {s : St R' σ'} {f : R' → Tr (St R σ)} {g : σ' → Tr (St R σ)} : (s.fin f g).sg G ↔ s.fin (fun r => (f r).sg G) (fun t => (g t).sg G) := by cases s <;> exact Iff.rfl
theorem Tr.sg_ok [Inhabited (St R σ)] : ∀ {t : Tr (St R σ)}, t.sg G → t.ok ∧ t.val.all (fun _ => True) (fun _ => True) G
 | .v _, h => ⟨trivial, h⟩
 | .ck _ _, h => ⟨⟨h.1, (Tr.sg_ok h.2).1⟩, (Tr.sg_ok h.2).2⟩
end
@[simp] theorem zve {n : Int} : InK .i64 n ↔ -9223372036854775808 ≤ n ∧ n ≤ 9223372036854775807 := ⟨zAd, fun h => ink h.1 h.2⟩
section
variable {R σ : Type} {G : σ → Prop} {R' σ' : Type} {s : St R' σ'} {f : R' → Tr (St R σ)} {g : σ' → Tr (St R σ)}
theorem z7 {p : Prop} {t : Tr (St R σ)} (h1 : p) (h2 : t.sg G) : (Tr.ck p t).sg G := ⟨h1, h2⟩
theorem xI {c : Bool} {x y : Tr (St R σ)} (h1 : c = true → x.sg G) (h2 : c = false → y.sg G) : (bif c then x else y : Tr _).sg G := sgC.2 ⟨h1, h2⟩
theorem zQi {A' : R' → Prop} {B' : σ' → Prop} (h : s.all A' B' B') (h1 : ∀ r, A' r → (f r).sg G) (h2 : ∀ t, B' t → (g t).sg G) : (s.fin f g).sg G := by
 cases s with
 | ret r => exact h1 r h
 | brk t => exact h2 t h
 | go t => exact h2 t h
theorem zc2 {t : σ'} {r : R'} {c : Bool} (h : s = bif c then .brk t else .ret r) (h1 : (g t).sg G) (h2 : (f r).sg G) : (s.fin f g).sg G := by
 rw [h]; cases c
 ·exact h2
 ·exact h1
end
def SF (l : LB) (J : l.d.T → Prop × Int) : Prop := ∀ x, (J x).1 → l.sf x
theorem sfk {l : LB} {J : l.d.T → Prop × Int} (h : ∀ x, (J x).1 → WdA l.d.ds x → (J x).2 ≤ 9223372036854775807 ∧ (l.T x).sg fun y => (J y).1 ∧ (J y).2 < (J x).2 ∧ 0 < (J x).2) : SF l J := fun _ hx =>
 LB.safe' (fun x => (J x).1) (fun x => (J x).2.toNat) (fun x hx hw => by
  obtain ⟨h1, h2⟩ := Tr.sg_ok (h x hx hw).2
  refine ⟨h1, ?_⟩
  show St.all _ _ _ (l.b x)
  cases e : l.b x with
  | ret r => trivial
  | brk t => trivial
  | go y =>
   have h2 : St.all _ _ _ (l.b x) := h2
   rw [e] at h2
   obtain ⟨g1, g2, g3⟩ := h2
   exact ⟨g1, by omega⟩) hx fun hw => by
  have := (h _ hx hw).1
  unfold zEO; omega
theorem zk7 {X : Type} {l : LB} {x t : l.d.T} {f : l.r.T → Tr X} {g : l.d.T → Tr X} (h : l.run x = .brk t) (h1 : (g t).ok) : ((l.run x).fin f g).ok := by rw [h]; exact h1
theorem zoa {X : Type} {l : LB} {x t : l.d.T} {r : l.r.T} {c : Bool} {f : l.r.T → Tr X} {g : l.d.T → Tr X} (h : l.run x = bif c then .brk t else .ret r) (h1 : (g t).ok) (h2 : (f r).ok) : ((l.run x).fin f g).ok := by
 rw [h]; cases c
 ·exact h2
 ·exact h1
@[simp] theorem zvj {R σ : Type} {s : St R σ} : s.fin (fun _ => True) (fun _ => True) = True := by cases s <;> rfl
theorem lk {P : Program} {E : Env} {rs : List Nat} {c : Code} {n : Nat} {l : LB} (v : ∀ x, evC P E (mdT (St l.r.T l.d.T)) (zFD c n) (n + 1) (l.d.mk' x) l.kT = l.T x := by intro x; kernel_rfl) (d : (zbT rs l.pos && l.d.ok rs) = true := by kernel_rfl) (r : l.r.ok rs = true := by kernel_rfl) : LOk P E rs c n l := ⟨v, d, r⟩
def con {P : Program} (hm : P.follows .mixedOrders = true) (g : Gv) (cs : List (Con P)) (ls : List LB) (f : Nat) (d : FnD) {fn : Func} (hL : zS4 P (env g cs ls) (vY d.args) (fn.body.getD .skip) 0 ls)
  (hT : ∀ a, WdA d.args a → okP (d.pre a) → OkT (evC P (env g cs ls) (mdT (xC d.res)) (fn.body.getD .skip) 0 (zCl fn (zC8 d.args a) (yM d.args a)) (kT P fn d)) (d.F a))
  (hf : P.funcs[f]? = some fn := by kernel_rfl) (hb : fn.body = some (fn.body.getD .skip) := by kernel_rfl) (hn : (fn.name == "runtime.NumGoroutine") = false := by kernel_rfl) (hok : d.ok = true := by kernel_rfl) : Con P := ⟨f, d, zc0 hm g cs ls hf hb hn d hok hL hT⟩
def zu0 {P : Program} (hm : P.follows .mixedOrders = true) (g : Gv) (cs : List (Con P)) (ls : List LB) (ns : List (NCon P)) (f : Nat) (d : FnD) {fn : Func} (hL : zS4 P (zj0 g cs ls ns) (vY d.args) (fn.body.getD .skip) 0 ls)
  (hT : ∀ a, WdA d.args a → okP (d.pre a) → OkT (evC P (zj0 g cs ls ns) (mdT (xC d.res)) (fn.body.getD .skip) 0 (zCl fn (zC8 d.args a) (yM d.args a)) (kT P fn d)) (d.F a))
  (hf : P.funcs[f]? = some fn := by kernel_rfl) (hb : fn.body = some (fn.body.getD .skip) := by kernel_rfl) (hn : (fn.name == "runtime.NumGoroutine") = false := by kernel_rfl) (hok : d.ok = true := by kernel_rfl) : Con P := ⟨f, d, zk5 hm g cs ls ns hf hb hn d hok hL hT⟩
abbrev vd (t : Ty) : AD := .val false (.d t)
abbrev va (t : Ty) : AD := .val true (.d t)
abbrev vo (t : Ty) : AD := .val false (.o (.d t))
end Go.Proofs.YtkdidadegedmiaaGreat
namespace Go.Proofs.YtkdidadegedmiaaGreat
open Go.RowKit
def zrh (P : Program) (fn : Func) (t : Ty) (s : S) : Option (El t) := match zTv P s fn.results.toList with
 | some [.ptr o 0] => match s.h[o]? with
  | some (.box cs) => dec [] t cs
  | _ => none
 | _ => none
def kN (P : Program) (fn : Func) (t : Ty) (e : Ex) (s : S) : Tr (El t) := bif fin e then (match zrh P fn t s with | some y => .v y | none => .bad) else .bad
theorem zue {P : Program} {fn : Func} {t : Ty} [Inhabited (El t)] {e : Ex} {s : S} (h : (kN P fn t e s).ok) : ∃ y, fin e = true ∧ zrh P fn t s = some y ∧ (kN P fn t e s).val = y := by
 unfold kN at h ⊢
 cases hf : fin e with
 | false => rw [hf] at h; exact h.elim
 | true =>
  rw [hf] at h
  cases he : zrh P fn t s with
  | none => rw [he] at h; exact h.elim
  | some y => exact ⟨y, rfl, rfl, rfl⟩
section
variable {P : Program}
theorem zum {E : Env} (hE : EnvOk P E) (hD : ∀ w0 Z0, zbZ P E w0 Z0) {f : Nat} {fn : Func} {c : Code} (hf : P.funcs[f]? = some fn) (hb : fn.body = some c) (hn : (fn.name == "runtime.NumGoroutine") = false) (d : NwD) [Inhabited (El d.t)]
  (hL : ∀ w0 (Z0 : En), Z0.r.map Prod.snd = [] → Z0.fx = [] → zEy P E w0 Z0 c 0) (hT : ∀ x, Wd d.a x → OkT (evC P E (mdT (El d.t)) c 0 (zCl fn [(enc 0 d.a x).getD 0 .any] []) (kN P fn d.t)) (d.F x)) : NwOk P f d where
 enter args w := by
  unfold callFunc
  simp only [program, Sem.run_bind, Sem.run, Result.andThen_ok, hf, hn, hb, Option.isNone_some, Bool.false_eq_true, if_false, Sem.run_pure]
 call w Z ρ v x y hz hdec hcn := by
  refine calls_of_wp hf hb ?_
  have hlen : zO d.a = 1 := (zLs hdec).symm
  have hel : (enc 0 d.a x).length = 1 := by rw [yB, hlen]
  have hcl : Cl v := zIV d.a [v] x hdec v (by simp)
  have hr0 : HR zAX Z [] w := ⟨hz, fun o p e => (by cases e), fun o p x e => (by cases e), fun o o' p p' x x' b e => (by cases e)⟩
  have hv0 : Cn zAX Z w v y := hcn.cl hcl (fun _ _ h => h) (fun _ _ _ => rfl)
  have hu : ∀ u, (enc 0 d.a x)[0]? = some u → Cn zAX Z w u y := by
   intro u hu
   obtain ⟨y', h1, h2⟩ := zOW hr0 hdec (xs := [y]) rfl (fun i u' y' a b => by
    cases i with
    | zero => simp at a b; subst a b; exact hv0
    | succ i => simp at a) 0 u hu
   simp at h1; subst h1; exact h2
  have hwd : Wd d.a x := zLT (q := 0) d.a x fun j u hj => by
   have : j = 0 := by have := (List.getElem?_eq_some_iff.1 hj).1; omega
   subst this
   exact ⟨y, hu u hj⟩
  let N : En := { z := Z, m := fun _ => False, r := [], fx := [] }
  have hrel : Rel w N (zCl fn [(enc 0 d.a x).getD 0 .any] []) { tmps := #[y] ++ Array.replicate (fn.ntmps - (#[y] : Array Value).size) undef, defers := [] } w := by
   refine ⟨zAX, Z, ⟨by simp [zCl, Nat.add_comm], fun t u ht => ?_⟩, hr0, ⟨Gr.refl w, fun _ _ _ => rfl, fun o p x b e => (by cases e), fun b h => .inl h, fun i p n e => (by simp [N] at e)⟩, rfl, fun p hp => (by cases hp)⟩
   simp only [zCl] at ht
   cases t with
   | zero =>
    simp at ht
    subst ht
    have : (enc 0 d.a x)[0]? = some ((enc 0 d.a x).getD 0 .any) := by
     rw [List.getD_eq_getElem?_getD, List.getElem?_eq_getElem (by omega)]; rfl
    rw [Array.getD_eq_getD_getElem?, Array.getElem?_append_left (by simp)]
    have h0 := hu _ this
    simpa using h0
   | succ t =>
    rw [List.getElem?_append_right (by simp), List.getElem?_replicate] at ht
    split at ht
    ·cases ht; exact .any _
    ·cases ht
  obtain ⟨ho, hv⟩ := hT x hwd
  refine zKZ hE (hD w N) c 0 _ (fun e s => (kN P fn d.t e s).ok) (hL w N rfl rfl) (zWa c 0 _ _ _ (fun _ _ h => h) ho) _ w hrel _ fun e s' a' w' k1 k2 k3 => ?_
  have k2 := k2 (El d.t) fun e s => (kN P fn d.t e s).val
  rw [← zR4, hv] at k2
  obtain ⟨yv, kf, hy, h3⟩ := zue k1
  have hF : d.F x = yv := k2.trans h3
  obtain ⟨ρf, Z1, r1, r2, r3, r4⟩ := k3
  unfold zrh at hy
  split at hy
  ·rename_i o hres
   split at hy
   ·rename_i cs hob
    obtain ⟨ys, m1, m2, m3⟩ := zPy (P := P) r1 r2 hres
    obtain ⟨y0, hy0⟩ : ∃ y0, ys = [y0] := List.length_eq_one_iff.1 m1
    subst hy0
    have hp := m2 0 _ _ rfl rfl
    have hmw : ∀ b, b < w.heap.size → w'.heap[b]? = w.heap[b]? := fun b hb => r3.same b hb (fun h => h)
    cases hp with
    | ptr hp =>
     rename_i p
     obtain ⟨o1, o2, xs, te, o3, o4, o5⟩ := r2.ob o p _ hp hob
     have hnew : w.heap.size ≤ p.b := (r3.own o p _ p.b hp hob rfl).resolve_right (fun h => h)
     let Z' : Zs := fun k b => Z k b ∨ (k = false ∧ Z1 false b)
     have post : a'.defers = [] ∧ ∃ v', (results fn a'.tmps).run P w' = .ok v' w' ∧ (fun (e : Ending) (w' : World) => ∃ (p : Pl) (Z' : Zs), e = .returned (.pointer (some ⟨p.b, p.off, none⟩)) ∧ Gr w w' ∧ (∀ b, b < w.heap.size → w'.heap[b]? = w.heap[b]?) ∧
       (∀ k b, Z k b → Z' k b) ∧ (∀ k b, Z' k b → Z k b ∨ w.heap.size ≤ b) ∧ (∀ k b, Z' k b → b < w'.heap.size) ∧ w.heap.size ≤ p.b ∧
       ∀ ρ', ObR ρ' Z' w' (.box (enc 0 d.t (d.F x))) p) (.returned v') w' := by
      refine ⟨r4.1, _, m3, p, Z', rfl, r3.size, hmw, fun _ _ h => .inl h, fun k b h => ?_, fun k b h => ?_, hnew, fun ρ' => ⟨o1, fun k hk => ?_, xs, te, o3, ?_, fun i u z hi hz' => ?_⟩⟩
      ·rcases h with h | ⟨rfl, h⟩
       ·exact .inl h
       ·rcases r3.zs b h with h | h | h
        ·exact .inl h
        ·exact .inr h
        ·exact h.elim
      ·rcases h with h | ⟨rfl, h⟩
       ·exact Nat.lt_of_lt_of_le (hz k b h) r3.size.le
       ·exact r2.zl _ b h
      ·rcases hk with hk | ⟨rfl, hk⟩
       ·have := hz k _ hk; omega
       ·exact o2 _ hk
      ·rw [yB, ← zLs hy]; exact o4
      ·rw [hF] at hi
       have hcs := zIV d.t cs yv hy
       have hr1 : HR zAX Z1 [] w' := ⟨r2.zl, fun o p e => (by cases e), fun o p x e => (by cases e), fun o o' p p' x x' b e => (by cases e)⟩
       obtain ⟨z', g1, g2⟩ := zOW hr1 hy (xs := (xs.toList.drop p.off).take cs.length) (by simp; omega) (fun j u' y' a b => by
        rw [List.getElem?_take] at b
        split at b
        ·rw [List.getElem?_drop] at b
         exact (o5 j u' y' a (by simpa using b)).cl (hcs u' (List.mem_of_getElem? a)) (fun _ _ h => h) (fun _ _ _ => rfl)
        ·cases b) i u hi
       rw [List.getElem?_take] at g1
       split at g1
       ·rw [List.getElem?_drop] at g1
        have : z = z' := by
         have g1 : xs[p.off + i]? = some z' := by simpa using g1
         rw [hz'] at g1; cases g1; rfl
        subst this
        exact g2.clF (zFQ _ _ u (List.mem_of_getElem? hi)) (fun b h => .inr ⟨rfl, h⟩) (fun _ _ => rfl)
       ·cases g1
     cases e with
     | nrm => exact post
     | ret => exact post
     | exit id => cases kf
   ·cases hy
  ·cases hy
end
def zvJ {P : Program} (hm : P.follows .mixedOrders = true) (g : Gv) (cs : List (Con P)) (ls : List LB) (f : Nat) (d : NwD) [Inhabited (El d.t)] {fn : Func} (hL : zS4 P (env g cs ls) [] (fn.body.getD .skip) 0 ls)
  (hT : ∀ x, Wd d.a x → OkT (evC P (env g cs ls) (mdT (El d.t)) (fn.body.getD .skip) 0 (zCl fn [(enc 0 d.a x).getD 0 .any] []) (kN P fn d.t)) (d.F x))
  (hf : P.funcs[f]? = some fn := by kernel_rfl) (hb : fn.body = some (fn.body.getD .skip) := by kernel_rfl) (hn : (fn.name == "runtime.NumGoroutine") = false := by kernel_rfl) : NCon P :=
 ⟨f, d, by
  have hE := zrm g cs ls ([] : List (NCon P))
  refine zum hE (fun w0 Z0 => zbq hE hm w0 Z0) hf hb hn d (fun w0 Z0 hrs hfx => zXf hE (zbq hE hm w0 Z0) hrs _ 0 (zhT hfx _) fun i _ lp hlp => ?_) hT
  simp only [zj0, zSK, Nat.zero_add, Option.map_eq_some_iff] at hlp
  obtain ⟨l, h1, rfl⟩ := hlp
  have h2 := hL.get ls 0 i l h1
  rw [Nat.zero_add] at h2
  exact ⟨l, rfl, h2.d, h2.r, by rw [Nat.zero_add]; exact h2.v⟩⟩
def kL (P : Program) (fn : Func) (d : FnD) (j : Nat) (e : Ex) (s : S) : Tr (xC d.res) := bif fin e then (match zit P fn d (some j) s with | some y => .v y | none => .bad) else .bad
theorem zuO {P : Program} {fn : Func} {d : FnD} {j : Nat} {e : Ex} {s : S} (h : (kL P fn d j e s).ok) : ∃ y, fin e = true ∧ zit P fn d (some j) s = some y ∧ (kL P fn d j e s).val = y := by
 unfold kL at h ⊢
 cases hf : fin e with
 | false => rw [hf] at h; exact h.elim
 | true =>
  rw [hf] at h
  cases he : zit P fn d (some j) s with
  | none => rw [he] at h; exact h.elim
  | some y => exact ⟨y, rfl, rfl, rfl⟩
def noW (j : Nat) : Code → Bool
 | .seq a b => noW j a && noW j b
 | .cond _ a b => noW j a && noW j b
 | .block _ c => noW j c
 | .loop c => noW j c
 | .region _ ops _ => ops.toList.all fun o => o.dst != some j
 | _ => true
theorem zrJ {Z0 : En} {j : Nat} (h : ∀ p ∈ Z0.fx, p.1 = j) : ∀ c : Code, noW j c = true → zd2 Z0 c := by
 intro c
 induction c with
 | seq a b iha ihb => intro hw; simp only [noW, Bool.and_eq_true] at hw; exact ⟨iha hw.1, ihb hw.2⟩
 | cond x a b iha ihb => intro hw; simp only [noW, Bool.and_eq_true] at hw; exact ⟨iha hw.1, ihb hw.2⟩
 | block id c ih => intro hw; exact ih hw
 | loop c ih => intro hw; exact ih hw
 | region id ops d =>
  intro hw o ho p hp e
  have := List.all_eq_true.1 hw o ho
  rw [h p hp] at e
  rw [e] at this; simp at this
 | _ => intro _; trivial
theorem zub {P : Program} (hm : P.follows .mixedOrders = true) (g : Gv) (cs : List (Con P)) (ls : List LB) (ns : List (NCon P)) (lcs : List (LCon P)) {f : Nat} {fn : Func} {c : Code} (hf : P.funcs[f]? = some fn) (hb : fn.body = some c) (hn : (fn.name == "runtime.NumGoroutine") = false)
  (l : LnD) (hok : l.d.ok = true) (hj : l.j < l.d.args.length) (hw : noW l.j c = true) (hL : zS4 P (zSK g cs ls ns lcs) (vY l.d.args) c 0 ls)
  (hT : ∀ a, WdA l.d.args a → okP (l.d.pre a) → OkT (evC P (zSK g cs ls ns lcs) (mdT (xC l.d.res)) c 0 (zCl fn (zC8 l.d.args a) (yM l.d.args a)) (kL P fn l.d l.j)) (l.d.F a)) : zpu P f l := by
 have hE := zdL g cs ls ns lcs
 have hD := fun w0 Z0 => zbq (P := P) hE hm w0 Z0
 refine zpf (some l.j) hf hb hn l.d hok (fun j h => by cases h; exact hj) fun a hwd hpre w0 Z0 hrs hfx act w hrel Q hQ => ?_
 have hLs : zEy P (zSK g cs ls ns lcs) w0 Z0 c 0 := by
  refine zXf hE (hD w0 Z0) hrs c 0 (zrJ (j := l.j) (fun p hp => ?_) c hw) fun i _ lp hlp => ?_
  ·have : p.1 ∈ Z0.fx.map Prod.fst := List.mem_map_of_mem hp
   rw [hfx] at this
   simpa using this
  ·simp only [zSK, Nat.zero_add, Option.map_eq_some_iff] at hlp
   obtain ⟨l', h1, rfl⟩ := hlp
   have h2 := hL.get ls 0 i l' h1
   rw [Nat.zero_add] at h2
   exact ⟨l', rfl, h2.d, h2.r, by rw [Nat.zero_add]; exact h2.v⟩
 obtain ⟨ho, hv⟩ := hT a hwd hpre
 refine zKZ hE (hD w0 Z0) c 0 _ (fun e s => (kL P fn l.d l.j e s).ok) hLs (zWa c 0 _ _ _ (fun _ _ h => h) ho) act w hrel Q fun e s' a' w' k1 k2 k3 => ?_
 have k2 := k2 (xC l.d.res) fun e s => (kL P fn l.d l.j e s).val
 rw [← zR4, hv] at k2
 obtain ⟨y, kf, hy, h3⟩ := zuO k1
 exact hQ e s' a' w' kf (by rw [hy, k2, h3]) k3
def zuU {P : Program} (hm : P.follows .mixedOrders = true) (g : Gv) (cs : List (Con P)) (ls : List LB) (ns : List (NCon P)) (lcs : List (LCon P)) (f : Nat) (l : LnD) {fn : Func} (hL : zS4 P (zSK g cs ls ns lcs) (vY l.d.args) (fn.body.getD .skip) 0 ls)
  (hT : ∀ a, WdA l.d.args a → okP (l.d.pre a) → OkT (evC P (zSK g cs ls ns lcs) (mdT (xC l.d.res)) (fn.body.getD .skip) 0 (zCl fn (zC8 l.d.args a) (yM l.d.args a)) (kL P fn l.d l.j)) (l.d.F a))
  (hf : P.funcs[f]? = some fn := by kernel_rfl) (hb : fn.body = some (fn.body.getD .skip) := by kernel_rfl) (hn : (fn.name == "runtime.NumGoroutine") = false := by kernel_rfl) (hok : l.d.ok = true := by kernel_rfl) (hw : noW l.j (fn.body.getD .skip) = true := by kernel_rfl) (hj : l.j < l.d.args.length := by decide) : LCon P :=
 ⟨f, l, zub hm g cs ls ns lcs hf hb hn l hok hj hw hL hT⟩
def zsE {P : Program} (hm : P.follows .mixedOrders = true) (g : Gv) (cs : List (Con P)) (ls : List LB) (ns : List (NCon P)) (lcs : List (LCon P)) (f : Nat) (d : FnD) {fn : Func} (hL : zS4 P (zSK g cs ls ns lcs) (vY d.args) (fn.body.getD .skip) 0 ls)
  (hT : ∀ a, WdA d.args a → okP (d.pre a) → OkT (evC P (zSK g cs ls ns lcs) (mdT (xC d.res)) (fn.body.getD .skip) 0 (zCl fn (zC8 d.args a) (yM d.args a)) (kT P fn d)) (d.F a))
  (hf : P.funcs[f]? = some fn := by kernel_rfl) (hb : fn.body = some (fn.body.getD .skip) := by kernel_rfl) (hn : (fn.name == "runtime.NumGoroutine") = false := by kernel_rfl) (hok : d.ok = true := by kernel_rfl) : Con P := ⟨f, d, zlY hm g cs ls ns lcs hf hb hn d hok hL hT⟩
def zXM {α : Type} (l : List α) (i : Int) (v : List α) : List α := l.take i.toNat ++ v ++ l.drop i.toNat
def zhK {α : Type} (l : List α) (i : Int) (v : List α) : Prop := 0 ≤ i ∧ i ≤ (l.length : Int) ∧ (v.length : Int) = 1 ∧ (l.length : Int) < 16777216
abbrev zK0 (τ : Ty) : FnD := ⟨[.val false (.o (.d τ)), .val false (.d .int), .val false (.o (.d τ))], [.val false (.o (.d τ))], false, fun a => some (zhK a.1 a.2.1 a.2.2.1), fun a => (zXM a.1 a.2.1 a.2.2.1, ())⟩
end Go.Proofs.YtkdidadegedmiaaGreat
namespace Go.Proofs.YtkdidadegedmiaaGreat
open Go.RowKit
section
variable {A0 A1 A2 A3 A4 A5 A6 A7 A8 A9 A10 A11 A12 A13 A14 A15 A16 A17 A18 A19 A20 A21 A22 A23 A24 A25 A26 A27 A28 A29 A30 A31 A32 A33 R : Type}
@[reducible, simp] def U1 (f : A0 → R) (x : A0 × Unit) : R := f x.1
@[reducible, simp] def U2 (f : A0 → A1 → R) (x : A0 × A1 × Unit) : R := f x.1 x.2.1
@[reducible, simp] def U3 (f : A0 → A1 → A2 → R) (x : A0 × A1 × A2 × Unit) : R := f x.1 x.2.1 x.2.2.1
@[reducible, simp] def U4 (f : A0 → A1 → A2 → A3 → R) (x : A0 × A1 × A2 × A3 × Unit) : R := f x.1 x.2.1 x.2.2.1 x.2.2.2.1
@[reducible, simp] def U5 (f : A0 → A1 → A2 → A3 → A4 → R) (x : A0 × A1 × A2 × A3 × A4 × Unit) : R := f x.1 x.2.1 x.2.2.1 x.2.2.2.1 x.2.2.2.2.1
@[reducible, simp] def U6 (f : A0 → A1 → A2 → A3 → A4 → A5 → R) (x : A0 × A1 × A2 × A3 × A4 × A5 × Unit) : R := f x.1 x.2.1 x.2.2.1 x.2.2.2.1 x.2.2.2.2.1 x.2.2.2.2.2.1
@[reducible, simp] def U7 (f : A0 → A1 → A2 → A3 → A4 → A5 → A6 → R) (x : A0 × A1 × A2 × A3 × A4 × A5 × A6 × Unit) : R := f x.1 x.2.1 x.2.2.1 x.2.2.2.1 x.2.2.2.2.1 x.2.2.2.2.2.1 x.2.2.2.2.2.2.1
@[reducible, simp] def U8 (f : A0 → A1 → A2 → A3 → A4 → A5 → A6 → A7 → R) (x : A0 × A1 × A2 × A3 × A4 × A5 × A6 × A7 × Unit) : R := f x.1 x.2.1 x.2.2.1 x.2.2.2.1 x.2.2.2.2.1 x.2.2.2.2.2.1 x.2.2.2.2.2.2.1 x.2.2.2.2.2.2.2.1
@[reducible, simp] def U9 (f : A0 → A1 → A2 → A3 → A4 → A5 → A6 → A7 → A8 → R) (x : A0 × A1 × A2 × A3 × A4 × A5 × A6 × A7 × A8 × Unit) : R := f x.1 x.2.1 x.2.2.1 x.2.2.2.1 x.2.2.2.2.1 x.2.2.2.2.2.1 x.2.2.2.2.2.2.1 x.2.2.2.2.2.2.2.1 x.2.2.2.2.2.2.2.2.1
@[reducible, simp] def U10 (f : A0 → A1 → A2 → A3 → A4 → A5 → A6 → A7 → A8 → A9 → R) (x : A0 × A1 × A2 × A3 × A4 × A5 × A6 × A7 × A8 × A9 × Unit) : R := f x.1 x.2.1 x.2.2.1 x.2.2.2.1 x.2.2.2.2.1 x.2.2.2.2.2.1 x.2.2.2.2.2.2.1 x.2.2.2.2.2.2.2.1 x.2.2.2.2.2.2.2.2.1 x.2.2.2.2.2.2.2.2.2.1
@[reducible, simp] def U11 (f : A0 → A1 → A2 → A3 → A4 → A5 → A6 → A7 → A8 → A9 → A10 → R) (x : A0 × A1 × A2 × A3 × A4 × A5 × A6 × A7 × A8 × A9 × A10 × Unit) : R := f x.1 x.2.1 x.2.2.1 x.2.2.2.1 x.2.2.2.2.1 x.2.2.2.2.2.1 x.2.2.2.2.2.2.1 x.2.2.2.2.2.2.2.1 x.2.2.2.2.2.2.2.2.1 x.2.2.2.2.2.2.2.2.2.1 x.2.2.2.2.2.2.2.2.2.2.1
@[reducible, simp] def U12 (f : A0 → A1 → A2 → A3 → A4 → A5 → A6 → A7 → A8 → A9 → A10 → A11 → R) (x : A0 × A1 × A2 × A3 × A4 × A5 × A6 × A7 × A8 × A9 × A10 × A11 × Unit) : R := f x.1 x.2.1 x.2.2.1 x.2.2.2.1 x.2.2.2.2.1 x.2.2.2.2.2.1 x.2.2.2.2.2.2.1 x.2.2.2.2.2.2.2.1 x.2.2.2.2.2.2.2.2.1 x.2.2.2.2.2.2.2.2.2.1 x.2.2.2.2.2.2.2.2.2.2.1 x.2.2.2.2.2.2.2.2.2.2.2.1
@[reducible, simp] def U13 (f : A0 → A1 → A2 → A3 → A4 → A5 → A6 → A7 → A8 → A9 → A10 → A11 → A12 → R) (x : A0 × A1 × A2 × A3 × A4 × A5 × A6 × A7 × A8 × A9 × A10 × A11 × A12 × Unit) : R := f x.1 x.2.1 x.2.2.1 x.2.2.2.1 x.2.2.2.2.1 x.2.2.2.2.2.1 x.2.2.2.2.2.2.1 x.2.2.2.2.2.2.2.1 x.2.2.2.2.2.2.2.2.1 x.2.2.2.2.2.2.2.2.2.1 x.2.2.2.2.2.2.2.2.2.2.1 x.2.2.2.2.2.2.2.2.2.2.2.1 x.2.2.2.2.2.2.2.2.2.2.2.2.1
@[reducible, simp] def U14 (f : A0 → A1 → A2 → A3 → A4 → A5 → A6 → A7 → A8 → A9 → A10 → A11 → A12 → A13 → R) (x : A0 × A1 × A2 × A3 × A4 × A5 × A6 × A7 × A8 × A9 × A10 × A11 × A12 × A13 × Unit) : R := f x.1 x.2.1 x.2.2.1 x.2.2.2.1 x.2.2.2.2.1 x.2.2.2.2.2.1 x.2.2.2.2.2.2.1 x.2.2.2.2.2.2.2.1 x.2.2.2.2.2.2.2.2.1 x.2.2.2.2.2.2.2.2.2.1 x.2.2.2.2.2.2.2.2.2.2.1 x.2.2.2.2.2.2.2.2.2.2.2.1 x.2.2.2.2.2.2.2.2.2.2.2.2.1 x.2.2.2.2.2.2.2.2.2.2.2.2.2.1
@[reducible, simp] def U15 (f : A0 → A1 → A2 → A3 → A4 → A5 → A6 → A7 → A8 → A9 → A10 → A11 → A12 → A13 → A14 → R) (x : A0 × A1 × A2 × A3 × A4 × A5 × A6 × A7 × A8 × A9 × A10 × A11 × A12 × A13 × A14 × Unit) : R := f x.1 x.2.1 x.2.2.1 x.2.2.2.1 x.2.2.2.2.1 x.2.2.2.2.2.1 x.2.2.2.2.2.2.1 x.2.2.2.2.2.2.2.1 x.2.2.2.2.2.2.2.2.1 x.2.2.2.2.2.2.2.2.2.1 x.2.2.2.2.2.2.2.2.2.2.1 x.2.2.2.2.2.2.2.2.2.2.2.1 x.2.2.2.2.2.2.2.2.2.2.2.2.1 x.2.2.2.2.2.2.2.2.2.2.2.2.2.1 x.2.2.2.2.2.2.2.2.2.2.2.2.2.2.1
@[reducible, simp] def U16 (f : A0 → A1 → A2 → A3 → A4 → A5 → A6 → A7 → A8 → A9 → A10 → A11 → A12 → A13 → A14 → A15 → R) (x : A0 × A1 × A2 × A3 × A4 × A5 × A6 × A7 × A8 × A9 × A10 × A11 × A12 × A13 × A14 × A15 × Unit) : R := f x.1 x.2.1 x.2.2.1 x.2.2.2.1 x.2.2.2.2.1 x.2.2.2.2.2.1 x.2.2.2.2.2.2.1 x.2.2.2.2.2.2.2.1 x.2.2.2.2.2.2.2.2.1 x.2.2.2.2.2.2.2.2.2.1 x.2.2.2.2.2.2.2.2.2.2.1 x.2.2.2.2.2.2.2.2.2.2.2.1 x.2.2.2.2.2.2.2.2.2.2.2.2.1 x.2.2.2.2.2.2.2.2.2.2.2.2.2.1 x.2.2.2.2.2.2.2.2.2.2.2.2.2.2.1 x.2.2.2.2.2.2.2.2.2.2.2.2.2.2.2.1
@[reducible, simp] def U17 (f : A0 → A1 → A2 → A3 → A4 → A5 → A6 → A7 → A8 → A9 → A10 → A11 → A12 → A13 → A14 → A15 → A16 → R) (x : A0 × A1 × A2 × A3 × A4 × A5 × A6 × A7 × A8 × A9 × A10 × A11 × A12 × A13 × A14 × A15 × A16 × Unit) : R := f x.1 x.2.1 x.2.2.1 x.2.2.2.1 x.2.2.2.2.1 x.2.2.2.2.2.1 x.2.2.2.2.2.2.1 x.2.2.2.2.2.2.2.1 x.2.2.2.2.2.2.2.2.1 x.2.2.2.2.2.2.2.2.2.1 x.2.2.2.2.2.2.2.2.2.2.1 x.2.2.2.2.2.2.2.2.2.2.2.1 x.2.2.2.2.2.2.2.2.2.2.2.2.1 x.2.2.2.2.2.2.2.2.2.2.2.2.2.1 x.2.2.2.2.2.2.2.2.2.2.2.2.2.2.1 x.2.2.2.2.2.2.2.2.2.2.2.2.2.2.2.1 x.2.2.2.2.2.2.2.2.2.2.2.2.2.2.2.2.1
@[reducible, simp] def U18 (f : A0 → A1 → A2 → A3 → A4 → A5 → A6 → A7 → A8 → A9 → A10 → A11 → A12 → A13 → A14 → A15 → A16 → A17 → R) (x : A0 × A1 × A2 × A3 × A4 × A5 × A6 × A7 × A8 × A9 × A10 × A11 × A12 × A13 × A14 × A15 × A16 × A17 × Unit) : R := f x.1 x.2.1 x.2.2.1 x.2.2.2.1 x.2.2.2.2.1 x.2.2.2.2.2.1 x.2.2.2.2.2.2.1 x.2.2.2.2.2.2.2.1 x.2.2.2.2.2.2.2.2.1 x.2.2.2.2.2.2.2.2.2.1 x.2.2.2.2.2.2.2.2.2.2.1 x.2.2.2.2.2.2.2.2.2.2.2.1 x.2.2.2.2.2.2.2.2.2.2.2.2.1 x.2.2.2.2.2.2.2.2.2.2.2.2.2.1 x.2.2.2.2.2.2.2.2.2.2.2.2.2.2.1 x.2.2.2.2.2.2.2.2.2.2.2.2.2.2.2.1 x.2.2.2.2.2.2.2.2.2.2.2.2.2.2.2.2.1 x.2.2.2.2.2.2.2.2.2.2.2.2.2.2.2.2.2.1
@[reducible, simp] def U19 (f : A0 → A1 → A2 → A3 → A4 → A5 → A6 → A7 → A8 → A9 → A10 → A11 → A12 → A13 → A14 → A15 → A16 → A17 → A18 → R) (x : A0 × A1 × A2 × A3 × A4 × A5 × A6 × A7 × A8 × A9 × A10 × A11 × A12 × A13 × A14 × A15 × A16 × A17 × A18 × Unit) : R := f x.1 x.2.1 x.2.2.1 x.2.2.2.1 x.2.2.2.2.1 x.2.2.2.2.2.1 x.2.2.2.2.2.2.1 x.2.2.2.2.2.2.2.1 x.2.2.2.2.2.2.2.2.1 x.2.2.2.2.2.2.2.2.2.1 x.2.2.2.2.2.2.2.2.2.2.1 x.2.2.2.2.2.2.2.2.2.2.2.1 x.2.2.2.2.2.2.2.2.2.2.2.2.1 x.2.2.2.2.2.2.2.2.2.2.2.2.2.1 x.2.2.2.2.2.2.2.2.2.2.2.2.2.2.1 x.2.2.2.2.2.2.2.2.2.2.2.2.2.2.2.1 x.2.2.2.2.2.2.2.2.2.2.2.2.2.2.2.2.1 x.2.2.2.2.2.2.2.2.2.2.2.2.2.2.2.2.2.1 x.2.2.2.2.2.2.2.2.2.2.2.2.2.2.2.2.2.2.1
@[reducible, simp] def U20 (f : A0 → A1 → A2 → A3 → A4 → A5 → A6 → A7 → A8 → A9 → A10 → A11 → A12 → A13 → A14 → A15 → A16 → A17 → A18 → A19 → R) (x : A0 × A1 × A2 × A3 × A4 × A5 × A6 × A7 × A8 × A9 × A10 × A11 × A12 × A13 × A14 × A15 × A16 × A17 × A18 × A19 × Unit) : R := f x.1 x.2.1 x.2.2.1 x.2.2.2.1 x.2.2.2.2.1 x.2.2.2.2.2.1 x.2.2.2.2.2.2.1 x.2.2.2.2.2.2.2.1 x.2.2.2.2.2.2.2.2.1 x.2.2.2.2.2.2.2.2.2.1 x.2.2.2.2.2.2.2.2.2.2.1 x.2.2.2.2.2.2.2.2.2.2.2.1 x.2.2.2.2.2.2.2.2.2.2.2.2.1 x.2.2.2.2.2.2.2.2.2.2.2.2.2.1 x.2.2.2.2.2.2.2.2.2.2.2.2.2.2.1 x.2.2.2.2.2.2.2.2.2.2.2.2.2.2.2.1 x.2.2.2.2.2.2.2.2.2.2.2.2.2.2.2.2.1 x.2.2.2.2.2.2.2.2.2.2.2.2.2.2.2.2.2.1 x.2.2.2.2.2.2.2.2.2.2.2.2.2.2.2.2.2.2.1 x.2.2.2.2.2.2.2.2.2.2.2.2.2.2.2.2.2.2.2.1
@[reducible, simp] def U21 (f : A0 → A1 → A2 → A3 → A4 → A5 → A6 → A7 → A8 → A9 → A10 → A11 → A12 → A13 → A14 → A15 → A16 → A17 → A18 → A19 → A20 → R) (x : A0 × A1 × A2 × A3 × A4 × A5 × A6 × A7 × A8 × A9 × A10 × A11 × A12 × A13 × A14 × A15 × A16 × A17 × A18 × A19 × A20 × Unit) : R := f x.1 x.2.1 x.2.2.1 x.2.2.2.1 x.2.2.2.2.1 x.2.2.2.2.2.1 x.2.2.2.2.2.2.1 x.2.2.2.2.2.2.2.1 x.2.2.2.2.2.2.2.2.1 x.2.2.2.2.2.2.2.2.2.1 x.2.2.2.2.2.2.2.2.2.2.1 x.2.2.2.2.2.2.2.2.2.2.2.1 x.2.2.2.2.2.2.2.2.2.2.2.2.1 x.2.2.2.2.2.2.2.2.2.2.2.2.2.1 x.2.2.2.2.2.2.2.2.2.2.2.2.2.2.1 x.2.2.2.2.2.2.2.2.2.2.2.2.2.2.2.1 x.2.2.2.2.2.2.2.2.2.2.2.2.2.2.2.2.1 x.2.2.2.2.2.2.2.2.2.2.2.2.2.2.2.2.2.1 x.2.2.2.2.2.2.2.2.2.2.2.2.2.2.2.2.2.2.1 x.2.2.2.2.2.2.2.2.2.2.2.2.2.2.2.2.2.2.2.1 x.2.2.2.2.2.2.2.2.2.2.2.2.2.2.2.2.2.2.2.2.1
@[reducible, simp] def U22 (f : A0 → A1 → A2 → A3 → A4 → A5 → A6 → A7 → A8 → A9 → A10 → A11 → A12 → A13 → A14 → A15 → A16 → A17 → A18 → A19 → A20 → A21 → R) (x : A0 × A1 × A2 × A3 × A4 × A5 × A6 × A7 × A8 × A9 × A10 × A11 × A12 × A13 × A14 × A15 × A16 × A17 × A18 × A19 × A20 × A21 × Unit) : R := f x.1 x.2.1 x.2.2.1 x.2.2.2.1 x.2.2.2.2.1 x.2.2.2.2.2.1 x.2.2.2.2.2.2.1 x.2.2.2.2.2.2.2.1 x.2.2.2.2.2.2.2.2.1 x.2.2.2.2.2.2.2.2.2.1 x.2.2.2.2.2.2.2.2.2.2.1 x.2.2.2.2.2.2.2.2.2.2.2.1 x.2.2.2.2.2.2.2.2.2.2.2.2.1 x.2.2.2.2.2.2.2.2.2.2.2.2.2.1 x.2.2.2.2.2.2.2.2.2.2.2.2.2.2.1 x.2.2.2.2.2.2.2.2.2.2.2.2.2.2.2.1 x.2.2.2.2.2.2.2.2.2.2.2.2.2.2.2.2.1 x.2.2.2.2.2.2.2.2.2.2.2.2.2.2.2.2.2.1 x.2.2.2.2.2.2.2.2.2.2.2.2.2.2.2.2.2.2.1 x.2.2.2.2.2.2.2.2.2.2.2.2.2.2.2.2.2.2.2.1 x.2.2.2.2.2.2.2.2.2.2.2.2.2.2.2.2.2.2.2.2.1 x.2.2.2.2.2.2.2.2.2.2.2.2.2.2.2.2.2.2.2.2.2.1
@[reducible, simp] def U23 (f : A0 → A1 → A2 → A3 → A4 → A5 → A6 → A7 → A8 → A9 → A10 → A11 → A12 → A13 → A14 → A15 → A16 → A17 → A18 → A19 → A20 → A21 → A22 → R) (x : A0 × A1 × A2 × A3 × A4 × A5 × A6 × A7 × A8 × A9 × A10 × A11 × A12 × A13 × A14 × A15 × A16 × A17 × A18 × A19 × A20 × A21 × A22 × Unit) : R := f x.1 x.2.1 x.2.2.1 x.2.2.2.1 x.2.2.2.2.1 x.2.2.2.2.2.1 x.2.2.2.2.2.2.1 x.2.2.2.2.2.2.2.1 x.2.2.2.2.2.2.2.2.1 x.2.2.2.2.2.2.2.2.2.1 x.2.2.2.2.2.2.2.2.2.2.1 x.2.2.2.2.2.2.2.2.2.2.2.1 x.2.2.2.2.2.2.2.2.2.2.2.2.1 x.2.2.2.2.2.2.2.2.2.2.2.2.2.1 x.2.2.2.2.2.2.2.2.2.2.2.2.2.2.1 x.2.2.2.2.2.2.2.2.2.2.2.2.2.2.2.1 x.2.2.2.2.2.2.2.2.2.2.2.2.2.2.2.2.1 x.2.2.2.2.2.2.2.2.2.2.2.2.2.2.2.2.2.1 x.2.2.2.2.2.2.2.2.2.2.2.2.2.2.2.2.2.2.1 x.2.2.2.2.2.2.2.2.2.2.2.2.2.2.2.2.2.2.2.1 x.2.2.2.2.2.2.2.2.2.2.2.2.2.2.2.2.2.2.2.2.1 x.2.2.2.2.2.2.2.2.2.2.2.2.2.2.2.2.2.2.2.2.2.1 x.2.2.2.2.2.2.2.2.2.2.2.2.2.2.2.2.2.2.2.2.2.2.1
@[reducible, simp] def U24 (f : A0 → A1 → A2 → A3 → A4 → A5 → A6 → A7 → A8 → A9 → A10 → A11 → A12 → A13 → A14 → A15 → A16 → A17 → A18 → A19 → A20 → A21 → A22 → A23 → R) (x : A0 × A1 × A2 × A3 × A4 × A5 × A6 × A7 × A8 × A9 × A10 × A11 × A12 × A13 × A14 × A15 × A16 × A17 × A18 × A19 × A20 × A21 × A22 × A23 × Unit) : R := f x.1 x.2.1 x.2.2.1 x.2.2.2.1 x.2.2.2.2.1 x.2.2.2.2.2.1 x.2.2.2.2.2.2.1 x.2.2.2.2.2.2.2.1 x.2.2.2.2.2.2.2.2.1 x.2.2.2.2.2.2.2.2.2.1 x.2.2.2.2.2.2.2.2.2.2.1 x.2.2.2.2.2.2.2.2.2.2.2.1 x.2.2.2.2.2.2.2.2.2.2.2.2.1 x.2.2.2.2.2.2.2.2.2.2.2.2.2.1 x.2.2.2.2.2.2.2.2.2.2.2.2.2.2.1 x.2.2.2.2.2.2.2.2.2.2.2.2.2.2.2.1 x.2.2.2.2.2.2.2.2.2.2.2.2.2.2.2.2.1 x.2.2.2.2.2.2.2.2.2.2.2.2.2.2.2.2.2.1 x.2.2.2.2.2.2.2.2.2.2.2.2.2.2.2.2.2.2.1 x.2.2.2.2.2.2.2.2.2.2.2.2.2.2.2.2.2.2.2.1 x.2.2.2.2.2.2.2.2.2.2.2.2.2.2.2.2.2.2.2.2.1 x.2.2.2.2.2.2.2.2.2.2.2.2.2.2.2.2.2.2.2.2.2.1 x.2.2.2.2.2.2.2.2.2.2.2.2.2.2.2.2.2.2.2.2.2.2.1 x.2.2.2.2.2.2.2.2.2.2.2.2.2.2.2.2.2.2.2.2.2.2.2.1
@[reducible, simp] def U25 (f : A0 → A1 → A2 → A3 → A4 → A5 → A6 → A7 → A8 → A9 → A10 → A11 → A12 → A13 → A14 → A15 → A16 → A17 → A18 → A19 → A20 → A21 → A22 → A23 → A24 → R) (x : A0 × A1 × A2 × A3 × A4 × A5 × A6 × A7 × A8 × A9 × A10 × A11 × A12 × A13 × A14 × A15 × A16 × A17 × A18 × A19 × A20 × A21 × A22 × A23 × A24 × Unit) : R := f x.1 x.2.1 x.2.2.1 x.2.2.2.1 x.2.2.2.2.1 x.2.2.2.2.2.1 x.2.2.2.2.2.2.1 x.2.2.2.2.2.2.2.1 x.2.2.2.2.2.2.2.2.1 x.2.2.2.2.2.2.2.2.2.1 x.2.2.2.2.2.2.2.2.2.2.1 x.2.2.2.2.2.2.2.2.2.2.2.1 x.2.2.2.2.2.2.2.2.2.2.2.2.1 x.2.2.2.2.2.2.2.2.2.2.2.2.2.1 x.2.2.2.2.2.2.2.2.2.2.2.2.2.2.1 x.2.2.2.2.2.2.2.2.2.2.2.2.2.2.2.1 x.2.2.2.2.2.2.2.2.2.2.2.2.2.2.2.2.1 x.2.2.2.2.2.2.2.2.2.2.2.2.2.2.2.2.2.1 x.2.2.2.2.2.2.2.2.2.2.2.2.2.2.2.2.2.2.1 x.2.2.2.2.2.2.2.2.2.2.2.2.2.2.2.2.2.2.2.1 x.2.2.2.2.2.2.2.2.2.2.2.2.2.2.2.2.2.2.2.2.1 x.2.2.2.2.2.2.2.2.2.2.2.2.2.2.2.2.2.2.2.2.2.1 x.2.2.2.2.2.2.2.2.2.2.2.2.2.2.2.2.2.2.2.2.2.2.1 x.2.2.2.2.2.2.2.2.2.2.2.2.2.2.2.2.2.2.2.2.2.2.2.1 x.2.2.2.2.2.2.2.2.2.2.2.2.2.2.2.2.2.2.2.2.2.2.2.2.1
@[reducible, simp] def U26 (f : A0 → A1 → A2 → A3 → A4 → A5 → A6 → A7 → A8 → A9 → A10 → A11 → A12 → A13 → A14 → A15 → A16 → A17 → A18 → A19 → A20 → A21 → A22 → A23 → A24 → A25 → R) (x : A0 × A1 × A2 × A3 × A4 × A5 × A6 × A7 × A8 × A9 × A10 × A11 × A12 × A13 × A14 × A15 × A16 × A17 × A18 × A19 × A20 × A21 × A22 × A23 × A24 × A25 × Unit) : R := f x.1 x.2.1 x.2.2.1 x.2.2.2.1 x.2.2.2.2.1 x.2.2.2.2.2.1 x.2.2.2.2.2.2.1 x.2.2.2.2.2.2.2.1 x.2.2.2.2.2.2.2.2.1 x.2.2.2.2.2.2.2.2.2.1 x.2.2.2.2.2.2.2.2.2.2.1 x.2.2.2.2.2.2.2.2.2.2.2.1 x.2.2.2.2.2.2.2.2.2.2.2.2.1 x.2.2.2.2.2.2.2.2.2.2.2.2.2.1 x.2.2.2.2.2.2.2.2.2.2.2.2.2.2.1 x.2.2.2.2.2.2.2.2.2.2.2.2.2.2.2.1 x.2.2.2.2.2.2.2.2.2.2.2.2.2.2.2.2.1 x.2.2.2.2.2.2.2.2.2.2.2.2.2.2.2.2.2.1 x.2.2.2.2.2.2.2.2.2.2.2.2.2.2.2.2.2.2.1 x.2.2.2.2.2.2.2.2.2.2.2.2.2.2.2.2.2.2.2.1 x.2.2.2.2.2.2.2.2.2.2.2.2.2.2.2.2.2.2.2.2.1 x.2.2.2.2.2.2.2.2.2.2.2.2.2.2.2.2.2.2.2.2.2.1 x.2.2.2.2.2.2.2.2.2.2.2.2.2.2.2.2.2.2.2.2.2.2.1 x.2.2.2.2.2.2.2.2.2.2.2.2.2.2.2.2.2.2.2.2.2.2.2.1 x.2.2.2.2.2.2.2.2.2.2.2.2.2.2.2.2.2.2.2.2.2.2.2.2.1 x.2.2.2.2.2.2.2.2.2.2.2.2.2.2.2.2.2.2.2.2.2.2.2.2.2.1
@[reducible, simp] def U27 (f : A0 → A1 → A2 → A3 → A4 → A5 → A6 → A7 → A8 → A9 → A10 → A11 → A12 → A13 → A14 → A15 → A16 → A17 → A18 → A19 → A20 → A21 → A22 → A23 → A24 → A25 → A26 → R) (x : A0 × A1 × A2 × A3 × A4 × A5 × A6 × A7 × A8 × A9 × A10 × A11 × A12 × A13 × A14 × A15 × A16 × A17 × A18 × A19 × A20 × A21 × A22 × A23 × A24 × A25 × A26 × Unit) : R := f x.1 x.2.1 x.2.2.1 x.2.2.2.1 x.2.2.2.2.1 x.2.2.2.2.2.1 x.2.2.2.2.2.2.1 x.2.2.2.2.2.2.2.1 x.2.2.2.2.2.2.2.2.1 x.2.2.2.2.2.2.2.2.2.1 x.2.2.2.2.2.2.2.2.2.2.1 x.2.2.2.2.2.2.2.2.2.2.2.1 x.2.2.2.2.2.2.2.2.2.2.2.2.1 x.2.2.2.2.2.2.2.2.2.2.2.2.2.1 x.2.2.2.2.2.2.2.2.2.2.2.2.2.2.1 x.2.2.2.2.2.2.2.2.2.2.2.2.2.2.2.1 x.2.2.2.2.2.2.2.2.2.2.2.2.2.2.2.2.1 x.2.2.2.2.2.2.2.2.2.2.2.2.2.2.2.2.2.1 x.2.2.2.2.2.2.2.2.2.2.2.2.2.2.2.2.2.2.1 x.2.2.2.2.2.2.2.2.2.2.2.2.2.2.2.2.2.2.2.1 x.2.2.2.2.2.2.2.2.2.2.2.2.2.2.2.2.2.2.2.2.1 x.2.2.2.2.2.2.2.2.2.2.2.2.2.2.2.2.2.2.2.2.2.1 x.2.2.2.2.2.2.2.2.2.2.2.2.2.2.2.2.2.2.2.2.2.2.1 x.2.2.2.2.2.2.2.2.2.2.2.2.2.2.2.2.2.2.2.2.2.2.2.1 x.2.2.2.2.2.2.2.2.2.2.2.2.2.2.2.2.2.2.2.2.2.2.2.2.1 x.2.2.2.2.2.2.2.2.2.2.2.2.2.2.2.2.2.2.2.2.2.2.2.2.2.1 x.2.2.2.2.2.2.2.2.2.2.2.2.2.2.2.2.2.2.2.2.2.2.2.2.2.2.1
@[reducible, simp] def U28 (f : A0 → A1 → A2 → A3 → A4 → A5 → A6 → A7 → A8 → A9 → A10 → A11 → A12 → A13 → A14 → A15 → A16 → A17 → A18 → A19 → A20 → A21 → A22 → A23 → A24 → A25 → A26 → A27 → R) (x : A0 × A1 × A2 × A3 × A4 × A5 × A6 × A7 × A8 × A9 × A10 × A11 × A12 × A13 × A14 × A15 × A16 × A17 × A18 × A19 × A20 × A21 × A22 × A23 × A24 × A25 × A26 × A27 × Unit) : R := f x.1 x.2.1 x.2.2.1 x.2.2.2.1 x.2.2.2.2.1 x.2.2.2.2.2.1 x.2.2.2.2.2.2.1 x.2.2.2.2.2.2.2.1 x.2.2.2.2.2.2.2.2.1 x.2.2.2.2.2.2.2.2.2.1 x.2.2.2.2.2.2.2.2.2.2.1 x.2.2.2.2.2.2.2.2.2.2.2.1 x.2.2.2.2.2.2.2.2.2.2.2.2.1 x.2.2.2.2.2.2.2.2.2.2.2.2.2.1 x.2.2.2.2.2.2.2.2.2.2.2.2.2.2.1 x.2.2.2.2.2.2.2.2.2.2.2.2.2.2.2.1 x.2.2.2.2.2.2.2.2.2.2.2.2.2.2.2.2.1 x.2.2.2.2.2.2.2.2.2.2.2.2.2.2.2.2.2.1 x.2.2.2.2.2.2.2.2.2.2.2.2.2.2.2.2.2.2.1 x.2.2.2.2.2.2.2.2.2.2.2.2.2.2.2.2.2.2.2.1 x.2.2.2.2.2.2.2.2.2.2.2.2.2.2.2.2.2.2.2.2.1 x.2.2.2.2.2.2.2.2.2.2.2.2.2.2.2.2.2.2.2.2.2.1 x.2.2.2.2.2.2.2.2.2.2.2.2.2.2.2.2.2.2.2.2.2.2.1 x.2.2.2.2.2.2.2.2.2.2.2.2.2.2.2.2.2.2.2.2.2.2.2.1 x.2.2.2.2.2.2.2.2.2.2.2.2.2.2.2.2.2.2.2.2.2.2.2.2.1 x.2.2.2.2.2.2.2.2.2.2.2.2.2.2.2.2.2.2.2.2.2.2.2.2.2.1 x.2.2.2.2.2.2.2.2.2.2.2.2.2.2.2.2.2.2.2.2.2.2.2.2.2.2.1 x.2.2.2.2.2.2.2.2.2.2.2.2.2.2.2.2.2.2.2.2.2.2.2.2.2.2.2.1
@[reducible, simp] def U29 (f : A0 → A1 → A2 → A3 → A4 → A5 → A6 → A7 → A8 → A9 → A10 → A11 → A12 → A13 → A14 → A15 → A16 → A17 → A18 → A19 → A20 → A21 → A22 → A23 → A24 → A25 → A26 → A27 → A28 → R) (x : A0 × A1 × A2 × A3 × A4 × A5 × A6 × A7 × A8 × A9 × A10 × A11 × A12 × A13 × A14 × A15 × A16 × A17 × A18 × A19 × A20 × A21 × A22 × A23 × A24 × A25 × A26 × A27 × A28 × Unit) : R := f x.1 x.2.1 x.2.2.1 x.2.2.2.1 x.2.2.2.2.1 x.2.2.2.2.2.1 x.2.2.2.2.2.2.1 x.2.2.2.2.2.2.2.1 x.2.2.2.2.2.2.2.2.1 x.2.2.2.2.2.2.2.2.2.1 x.2.2.2.2.2.2.2.2.2.2.1 x.2.2.2.2.2.2.2.2.2.2.2.1 x.2.2.2.2.2.2.2.2.2.2.2.2.1 x.2.2.2.2.2.2.2.2.2.2.2.2.2.1 x.2.2.2.2.2.2.2.2.2.2.2.2.2.2.1 x.2.2.2.2.2.2.2.2.2.2.2.2.2.2.2.1 x.2.2.2.2.2.2.2.2.2.2.2.2.2.2.2.2.1 x.2.2.2.2.2.2.2.2.2.2.2.2.2.2.2.2.2.1 x.2.2.2.2.2.2.2.2.2.2.2.2.2.2.2.2.2.2.1 x.2.2.2.2.2.2.2.2.2.2.2.2.2.2.2.2.2.2.2.1 x.2.2.2.2.2.2.2.2.2.2.2.2.2.2.2.2.2.2.2.2.1 x.2.2.2.2.2.2.2.2.2.2.2.2.2.2.2.2.2.2.2.2.2.1 x.2.2.2.2.2.2.2.2.2.2.2.2.2.2.2.2.2.2.2.2.2.2.1 x.2.2.2.2.2.2.2.2.2.2.2.2.2.2.2.2.2.2.2.2.2.2.2.1 x.2.2.2.2.2.2.2.2.2.2.2.2.2.2.2.2.2.2.2.2.2.2.2.2.1 x.2.2.2.2.2.2.2.2.2.2.2.2.2.2.2.2.2.2.2.2.2.2.2.2.2.1 x.2.2.2.2.2.2.2.2.2.2.2.2.2.2.2.2.2.2.2.2.2.2.2.2.2.2.1 x.2.2.2.2.2.2.2.2.2.2.2.2.2.2.2.2.2.2.2.2.2.2.2.2.2.2.2.1 x.2.2.2.2.2.2.2.2.2.2.2.2.2.2.2.2.2.2.2.2.2.2.2.2.2.2.2.2.1
@[reducible, simp] def U30 (f : A0 → A1 → A2 → A3 → A4 → A5 → A6 → A7 → A8 → A9 → A10 → A11 → A12 → A13 → A14 → A15 → A16 → A17 → A18 → A19 → A20 → A21 → A22 → A23 → A24 → A25 → A26 → A27 → A28 → A29 → R) (x : A0 × A1 × A2 × A3 × A4 × A5 × A6 × A7 × A8 × A9 × A10 × A11 × A12 × A13 × A14 × A15 × A16 × A17 × A18 × A19 × A20 × A21 × A22 × A23 × A24 × A25 × A26 × A27 × A28 × A29 × Unit) : R := f x.1 x.2.1 x.2.2.1 x.2.2.2.1 x.2.2.2.2.1 x.2.2.2.2.2.1 x.2.2.2.2.2.2.1 x.2.2.2.2.2.2.2.1 x.2.2.2.2.2.2.2.2.1 x.2.2.2.2.2.2.2.2.2.1 x.2.2.2.2.2.2.2.2.2.2.1 x.2.2.2.2.2.2.2.2.2.2.2.1 x.2.2.2.2.2.2.2.2.2.2.2.2.1 x.2.2.2.2.2.2.2.2.2.2.2.2.2.1 x.2.2.2.2.2.2.2.2.2.2.2.2.2.2.1 x.2.2.2.2.2.2.2.2.2.2.2.2.2.2.2.1 x.2.2.2.2.2.2.2.2.2.2.2.2.2.2.2.2.1 x.2.2.2.2.2.2.2.2.2.2.2.2.2.2.2.2.2.1 x.2.2.2.2.2.2.2.2.2.2.2.2.2.2.2.2.2.2.1 x.2.2.2.2.2.2.2.2.2.2.2.2.2.2.2.2.2.2.2.1 x.2.2.2.2.2.2.2.2.2.2.2.2.2.2.2.2.2.2.2.2.1 x.2.2.2.2.2.2.2.2.2.2.2.2.2.2.2.2.2.2.2.2.2.1 x.2.2.2.2.2.2.2.2.2.2.2.2.2.2.2.2.2.2.2.2.2.2.1 x.2.2.2.2.2.2.2.2.2.2.2.2.2.2.2.2.2.2.2.2.2.2.2.1 x.2.2.2.2.2.2.2.2.2.2.2.2.2.2.2.2.2.2.2.2.2.2.2.2.1 x.2.2.2.2.2.2.2.2.2.2.2.2.2.2.2.2.2.2.2.2.2.2.2.2.2.1 x.2.2.2.2.2.2.2.2.2.2.2.2.2.2.2.2.2.2.2.2.2.2.2.2.2.2.1 x.2.2.2.2.2.2.2.2.2.2.2.2.2.2.2.2.2.2.2.2.2.2.2.2.2.2.2.1 x.2.2.2.2.2.2.2.2.2.2.2.2.2.2.2.2.2.2.2.2.2.2.2.2.2.2.2.2.1 x.2.2.2.2.2.2.2.2.2.2.2.2.2.2.2.2.2.2.2.2.2.2.2.2.2.2.2.2.2.1
@[reducible, simp] def U31 (f : A0 → A1 → A2 → A3 → A4 → A5 → A6 → A7 → A8 → A9 → A10 → A11 → A12 → A13 → A14 → A15 → A16 → A17 → A18 → A19 → A20 → A21 → A22 → A23 → A24 → A25 → A26 → A27 → A28 → A29 → A30 → R) (x : A0 × A1 × A2 × A3 × A4 × A5 × A6 × A7 × A8 × A9 × A10 × A11 × A12 × A13 × A14 × A15 × A16 × A17 × A18 × A19 × A20 × A21 × A22 × A23 × A24 × A25 × A26 × A27 × A28 × A29 × A30 × Unit) : R := f x.1 x.2.1 x.2.2.1 x.2.2.2.1 x.2.2.2.2.1 x.2.2.2.2.2.1 x.2.2.2.2.2.2.1 x.2.2.2.2.2.2.2.1 x.2.2.2.2.2.2.2.2.1 x.2.2.2.2.2.2.2.2.2.1 x.2.2.2.2.2.2.2.2.2.2.1 x.2.2.2.2.2.2.2.2.2.2.2.1 x.2.2.2.2.2.2.2.2.2.2.2.2.1 x.2.2.2.2.2.2.2.2.2.2.2.2.2.1 x.2.2.2.2.2.2.2.2.2.2.2.2.2.2.1 x.2.2.2.2.2.2.2.2.2.2.2.2.2.2.2.1 x.2.2.2.2.2.2.2.2.2.2.2.2.2.2.2.2.1 x.2.2.2.2.2.2.2.2.2.2.2.2.2.2.2.2.2.1 x.2.2.2.2.2.2.2.2.2.2.2.2.2.2.2.2.2.2.1 x.2.2.2.2.2.2.2.2.2.2.2.2.2.2.2.2.2.2.2.1 x.2.2.2.2.2.2.2.2.2.2.2.2.2.2.2.2.2.2.2.2.1 x.2.2.2.2.2.2.2.2.2.2.2.2.2.2.2.2.2.2.2.2.2.1 x.2.2.2.2.2.2.2.2.2.2.2.2.2.2.2.2.2.2.2.2.2.2.1 x.2.2.2.2.2.2.2.2.2.2.2.2.2.2.2.2.2.2.2.2.2.2.2.1 x.2.2.2.2.2.2.2.2.2.2.2.2.2.2.2.2.2.2.2.2.2.2.2.2.1 x.2.2.2.2.2.2.2.2.2.2.2.2.2.2.2.2.2.2.2.2.2.2.2.2.2.1 x.2.2.2.2.2.2.2.2.2.2.2.2.2.2.2.2.2.2.2.2.2.2.2.2.2.2.1 x.2.2.2.2.2.2.2.2.2.2.2.2.2.2.2.2.2.2.2.2.2.2.2.2.2.2.2.1 x.2.2.2.2.2.2.2.2.2.2.2.2.2.2.2.2.2.2.2.2.2.2.2.2.2.2.2.2.1 x.2.2.2.2.2.2.2.2.2.2.2.2.2.2.2.2.2.2.2.2.2.2.2.2.2.2.2.2.2.1 x.2.2.2.2.2.2.2.2.2.2.2.2.2.2.2.2.2.2.2.2.2.2.2.2.2.2.2.2.2.2.1
@[reducible, simp] def U32 (f : A0 → A1 → A2 → A3 → A4 → A5 → A6 → A7 → A8 → A9 → A10 → A11 → A12 → A13 → A14 → A15 → A16 → A17 → A18 → A19 → A20 → A21 → A22 → A23 → A24 → A25 → A26 → A27 → A28 → A29 → A30 → A31 → R) (x : A0 × A1 × A2 × A3 × A4 × A5 × A6 × A7 × A8 × A9 × A10 × A11 × A12 × A13 × A14 × A15 × A16 × A17 × A18 × A19 × A20 × A21 × A22 × A23 × A24 × A25 × A26 × A27 × A28 × A29 × A30 × A31 × Unit) : R := f x.1 x.2.1 x.2.2.1 x.2.2.2.1 x.2.2.2.2.1 x.2.2.2.2.2.1 x.2.2.2.2.2.2.1 x.2.2.2.2.2.2.2.1 x.2.2.2.2.2.2.2.2.1 x.2.2.2.2.2.2.2.2.2.1 x.2.2.2.2.2.2.2.2.2.2.1 x.2.2.2.2.2.2.2.2.2.2.2.1 x.2.2.2.2.2.2.2.2.2.2.2.2.1 x.2.2.2.2.2.2.2.2.2.2.2.2.2.1 x.2.2.2.2.2.2.2.2.2.2.2.2.2.2.1 x.2.2.2.2.2.2.2.2.2.2.2.2.2.2.2.1 x.2.2.2.2.2.2.2.2.2.2.2.2.2.2.2.2.1 x.2.2.2.2.2.2.2.2.2.2.2.2.2.2.2.2.2.1 x.2.2.2.2.2.2.2.2.2.2.2.2.2.2.2.2.2.2.1 x.2.2.2.2.2.2.2.2.2.2.2.2.2.2.2.2.2.2.2.1 x.2.2.2.2.2.2.2.2.2.2.2.2.2.2.2.2.2.2.2.2.1 x.2.2.2.2.2.2.2.2.2.2.2.2.2.2.2.2.2.2.2.2.2.1 x.2.2.2.2.2.2.2.2.2.2.2.2.2.2.2.2.2.2.2.2.2.2.1 x.2.2.2.2.2.2.2.2.2.2.2.2.2.2.2.2.2.2.2.2.2.2.2.1 x.2.2.2.2.2.2.2.2.2.2.2.2.2.2.2.2.2.2.2.2.2.2.2.2.1 x.2.2.2.2.2.2.2.2.2.2.2.2.2.2.2.2.2.2.2.2.2.2.2.2.2.1 x.2.2.2.2.2.2.2.2.2.2.2.2.2.2.2.2.2.2.2.2.2.2.2.2.2.2.1 x.2.2.2.2.2.2.2.2.2.2.2.2.2.2.2.2.2.2.2.2.2.2.2.2.2.2.2.1 x.2.2.2.2.2.2.2.2.2.2.2.2.2.2.2.2.2.2.2.2.2.2.2.2.2.2.2.2.1 x.2.2.2.2.2.2.2.2.2.2.2.2.2.2.2.2.2.2.2.2.2.2.2.2.2.2.2.2.2.1 x.2.2.2.2.2.2.2.2.2.2.2.2.2.2.2.2.2.2.2.2.2.2.2.2.2.2.2.2.2.2.1 x.2.2.2.2.2.2.2.2.2.2.2.2.2.2.2.2.2.2.2.2.2.2.2.2.2.2.2.2.2.2.2.1
@[reducible, simp] def U33 (f : A0 → A1 → A2 → A3 → A4 → A5 → A6 → A7 → A8 → A9 → A10 → A11 → A12 → A13 → A14 → A15 → A16 → A17 → A18 → A19 → A20 → A21 → A22 → A23 → A24 → A25 → A26 → A27 → A28 → A29 → A30 → A31 → A32 → R) (x : A0 × A1 × A2 × A3 × A4 × A5 × A6 × A7 × A8 × A9 × A10 × A11 × A12 × A13 × A14 × A15 × A16 × A17 × A18 × A19 × A20 × A21 × A22 × A23 × A24 × A25 × A26 × A27 × A28 × A29 × A30 × A31 × A32 × Unit) : R := f x.1 x.2.1 x.2.2.1 x.2.2.2.1 x.2.2.2.2.1 x.2.2.2.2.2.1 x.2.2.2.2.2.2.1 x.2.2.2.2.2.2.2.1 x.2.2.2.2.2.2.2.2.1 x.2.2.2.2.2.2.2.2.2.1 x.2.2.2.2.2.2.2.2.2.2.1 x.2.2.2.2.2.2.2.2.2.2.2.1 x.2.2.2.2.2.2.2.2.2.2.2.2.1 x.2.2.2.2.2.2.2.2.2.2.2.2.2.1 x.2.2.2.2.2.2.2.2.2.2.2.2.2.2.1 x.2.2.2.2.2.2.2.2.2.2.2.2.2.2.2.1 x.2.2.2.2.2.2.2.2.2.2.2.2.2.2.2.2.1 x.2.2.2.2.2.2.2.2.2.2.2.2.2.2.2.2.2.1 x.2.2.2.2.2.2.2.2.2.2.2.2.2.2.2.2.2.2.1 x.2.2.2.2.2.2.2.2.2.2.2.2.2.2.2.2.2.2.2.1 x.2.2.2.2.2.2.2.2.2.2.2.2.2.2.2.2.2.2.2.2.1 x.2.2.2.2.2.2.2.2.2.2.2.2.2.2.2.2.2.2.2.2.2.1 x.2.2.2.2.2.2.2.2.2.2.2.2.2.2.2.2.2.2.2.2.2.2.1 x.2.2.2.2.2.2.2.2.2.2.2.2.2.2.2.2.2.2.2.2.2.2.2.1 x.2.2.2.2.2.2.2.2.2.2.2.2.2.2.2.2.2.2.2.2.2.2.2.2.1 x.2.2.2.2.2.2.2.2.2.2.2.2.2.2.2.2.2.2.2.2.2.2.2.2.2.1 x.2.2.2.2.2.2.2.2.2.2.2.2.2.2.2.2.2.2.2.2.2.2.2.2.2.2.1 x.2.2.2.2.2.2.2.2.2.2.2.2.2.2.2.2.2.2.2.2.2.2.2.2.2.2.2.1 x.2.2.2.2.2.2.2.2.2.2.2.2.2.2.2.2.2.2.2.2.2.2.2.2.2.2.2.2.1 x.2.2.2.2.2.2.2.2.2.2.2.2.2.2.2.2.2.2.2.2.2.2.2.2.2.2.2.2.2.1 x.2.2.2.2.2.2.2.2.2.2.2.2.2.2.2.2.2.2.2.2.2.2.2.2.2.2.2.2.2.2.1 x.2.2.2.2.2.2.2.2.2.2.2.2.2.2.2.2.2.2.2.2.2.2.2.2.2.2.2.2.2.2.2.1 x.2.2.2.2.2.2.2.2.2.2.2.2.2.2.2.2.2.2.2.2.2.2.2.2.2.2.2.2.2.2.2.2.1
@[reducible, simp] def U34 (f : A0 → A1 → A2 → A3 → A4 → A5 → A6 → A7 → A8 → A9 → A10 → A11 → A12 → A13 → A14 → A15 → A16 → A17 → A18 → A19 → A20 → A21 → A22 → A23 → A24 → A25 → A26 → A27 → A28 → A29 → A30 → A31 → A32 → A33 → R) (x : A0 × A1 × A2 × A3 × A4 × A5 × A6 × A7 × A8 × A9 × A10 × A11 × A12 × A13 × A14 × A15 × A16 × A17 × A18 × A19 × A20 × A21 × A22 × A23 × A24 × A25 × A26 × A27 × A28 × A29 × A30 × A31 × A32 × A33 × Unit) : R := f x.1 x.2.1 x.2.2.1 x.2.2.2.1 x.2.2.2.2.1 x.2.2.2.2.2.1 x.2.2.2.2.2.2.1 x.2.2.2.2.2.2.2.1 x.2.2.2.2.2.2.2.2.1 x.2.2.2.2.2.2.2.2.2.1 x.2.2.2.2.2.2.2.2.2.2.1 x.2.2.2.2.2.2.2.2.2.2.2.1 x.2.2.2.2.2.2.2.2.2.2.2.2.1 x.2.2.2.2.2.2.2.2.2.2.2.2.2.1 x.2.2.2.2.2.2.2.2.2.2.2.2.2.2.1 x.2.2.2.2.2.2.2.2.2.2.2.2.2.2.2.1 x.2.2.2.2.2.2.2.2.2.2.2.2.2.2.2.2.1 x.2.2.2.2.2.2.2.2.2.2.2.2.2.2.2.2.2.1 x.2.2.2.2.2.2.2.2.2.2.2.2.2.2.2.2.2.2.1 x.2.2.2.2.2.2.2.2.2.2.2.2.2.2.2.2.2.2.2.1 x.2.2.2.2.2.2.2.2.2.2.2.2.2.2.2.2.2.2.2.2.1 x.2.2.2.2.2.2.2.2.2.2.2.2.2.2.2.2.2.2.2.2.2.1 x.2.2.2.2.2.2.2.2.2.2.2.2.2.2.2.2.2.2.2.2.2.2.1 x.2.2.2.2.2.2.2.2.2.2.2.2.2.2.2.2.2.2.2.2.2.2.2.1 x.2.2.2.2.2.2.2.2.2.2.2.2.2.2.2.2.2.2.2.2.2.2.2.2.1 x.2.2.2.2.2.2.2.2.2.2.2.2.2.2.2.2.2.2.2.2.2.2.2.2.2.1 x.2.2.2.2.2.2.2.2.2.2.2.2.2.2.2.2.2.2.2.2.2.2.2.2.2.2.1 x.2.2.2.2.2.2.2.2.2.2.2.2.2.2.2.2.2.2.2.2.2.2.2.2.2.2.2.1 x.2.2.2.2.2.2.2.2.2.2.2.2.2.2.2.2.2.2.2.2.2.2.2.2.2.2.2.2.1 x.2.2.2.2.2.2.2.2.2.2.2.2.2.2.2.2.2.2.2.2.2.2.2.2.2.2.2.2.2.1 x.2.2.2.2.2.2.2.2.2.2.2.2.2.2.2.2.2.2.2.2.2.2.2.2.2.2.2.2.2.2.1 x.2.2.2.2.2.2.2.2.2.2.2.2.2.2.2.2.2.2.2.2.2.2.2.2.2.2.2.2.2.2.2.1 x.2.2.2.2.2.2.2.2.2.2.2.2.2.2.2.2.2.2.2.2.2.2.2.2.2.2.2.2.2.2.2.2.1 x.2.2.2.2.2.2.2.2.2.2.2.2.2.2.2.2.2.2.2.2.2.2.2.2.2.2.2.2.2.2.2.2.2.1
end
def Bd : (t : Ty) → El t → Prop
 | .int, (n : Int) => -9223372036854775808 ≤ n ∧ n ≤ 9223372036854775807
 | .u8, (n : Int) => 0 ≤ n ∧ n ≤ 255
 | .bool, _ => True
 | .str, (s : ByteArray) => (s.size : Int) ≤ 9223372036854775807
 | .lst t, (l : List (El t)) => (l.length : Int) ≤ ((lim t : Nat) : Int)
 | .pr a b, (x : El a × El b) => Bd a x.1 ∧ Bd b x.2
theorem Bd.of : ∀ {t : Ty} {x : El t}, Wd t x → Bd t x
 | .int, _, h => zAd h
 | .u8, _, h => zeA h
 | .bool, _, _ => trivial
 | .str, _, h => zlR h
 | .lst _, _, h => vC h.1
 | .pr _ _, _, h => ⟨Bd.of h.1, Bd.of h.2⟩
def AD.Bd : (d : AD) → d.T → Prop
 | .val _ s, x => Go.Proofs.YtkdidadegedmiaaGreat.Bd s.ty x
 | .ref s, x => Go.Proofs.YtkdidadegedmiaaGreat.Bd s.ty x
 | _, _ => True
def BdR : (rs : List (Nat × AD)) → xC (rs.map Prod.snd) → Prop
 | [], _ => True
 | p :: rs, x => p.2.Bd x.1 ∧ BdR rs x.2
def BdB : (bs : List OT) → (rs : List (Nat × AD)) → xC (bs.map AD.ref ++ rs.map Prod.snd) → Prop
 | [], rs, x => BdR rs x
 | b :: bs, rs, x => Bd b.ty x.1 ∧ BdB bs rs x.2
def SD.Bd (d : SD) (x : d.T) : Prop := BdB d.bxs d.regs x
theorem AD.Bd.of : ∀ {d : AD} {x : d.T}, d.Wd x → d.Bd x
 | .val _ _, _, h => Go.Proofs.YtkdidadegedmiaaGreat.Bd.of h
 | .ref _, _, h => Go.Proofs.YtkdidadegedmiaaGreat.Bd.of h
 | .bx _ _, _, _ => trivial
 | .fn _ _, _, _ => trivial
 | .pt _ _, _, _ => trivial
 | .ep _ _, _, _ => trivial
theorem BdR.of : ∀ {rs : List (Nat × AD)} {x : xC (rs.map Prod.snd)}, WdA (rs.map Prod.snd) x → BdR rs x
 | [], _, _ => trivial
 | _ :: _, _, h => ⟨.of h.1, BdR.of h.2⟩
theorem BdB.of : ∀ {bs : List OT} {rs : List (Nat × AD)} {x : xC (bs.map AD.ref ++ rs.map Prod.snd)}, WdA (bs.map AD.ref ++ rs.map Prod.snd) x → BdB bs rs x
 | [], _, _, h => BdR.of h
 | _ :: _, _, _, h => ⟨.of h.1, BdB.of h.2⟩
theorem SD.Bd.of {d : SD} {x : d.T} (h : WdA d.ds x) : d.Bd x := BdB.of h
theorem sfA {l : LB} {J : l.d.T → Prop × Int} (h : ∀ x, (J x).1 → l.d.Bd x → (J x).2 ≤ 9223372036854775807 ∧ (l.T x).sg fun y => (J y).1 ∧ (J y).2 < (J x).2 ∧ 0 < (J x).2 := by
 intro x hI hw
 simp [-Prod.forall, -List.length_eq_zero_iff, SD.Bd, BdB, BdR, AD.Bd, Bd, lim] at hI hw ⊢
 repeat' first | intro _ | apply And.intro
 all_goals omega) : SF l J := sfk fun x hx hw => h x hx (.of hw)
theorem Bd.dflt : ∀ t : Ty, Bd t (dflt t)
 | .int => ⟨by decide, by decide⟩
 | .u8 => ⟨by decide, by decide⟩
 | .bool => trivial
 | .str => (by show ((0 : Nat) : Int) ≤ 9223372036854775807; decide)
 | .lst _ => (by show ((0 : Nat) : Int) ≤ _; exact Int.natCast_nonneg _)
 | .pr a b => ⟨Bd.dflt a, Bd.dflt b⟩
theorem wdG {t : Ty} {l : List (El t)} (h : Wd (.lst t) l) (i : Int) : Bd t (zB t l i) := by
 unfold zB
 rw [List.getD_eq_getElem?_getD]
 cases e : l[i.toNat]? with
 | none => exact Bd.dflt t
 | some x => exact Bd.of (h.2 x (List.mem_of_getElem? e))
theorem sfB {l : LB} {J : l.d.T → Prop × Int} (E : l.d.T → Prop) (hE : ∀ x, WdA l.d.ds x → E x) (h : ∀ x, (J x).1 → l.d.Bd x → E x → (J x).2 ≤ 9223372036854775807 ∧ (l.T x).sg fun y => (J y).1 ∧ (J y).2 < (J x).2 ∧ 0 < (J x).2 := by
 intro x hI hw hE
 simp [-Prod.forall, -List.length_eq_zero_iff, SD.Bd, BdB, BdR, AD.Bd, Bd, lim] at hI hw hE ⊢
 repeat' first | intro _ | apply And.intro
 all_goals omega) : SF l J := sfk fun x hx hw => h x hx (.of hw) (hE x hw)
theorem zdJ {α : Type} {c : Bool} {x y z : α} (h1 : c = true → x = z) (h2 : c = false → y = z) : (bif c then x else y) = z := by
 cases c with
 | true => exact h1 rfl
 | false => exact h2 rfl
section
variable {l : LB} {α σ : Type} {L : List α} {b : ByteArray}
theorem rF (emb : Int → σ → l.d.T) (f : Nat → α → σ → σ) (s : σ)
  (hb : ∀ (i : Nat) x s, L[i]? = some x → l.b (emb (i : Int) s) = .go (emb ((i : Int) + (1 : Int)) (f i x s)) := by
   intro i x s h
   simp only [LB.b, U1, U2, U3, U4, U5, U6, U7, U8, U9, U10, U11, U12, U13, U14, U15, U16, U17, U18, U19, U20, U21, U22, U23, U24, U25, U26, U27, U28, U29, U30, U31, U32, U33, U34, z0, ze, zY, cond_true, zs3 h, zQ h]
   repeat' first | (refine zdJ (fun h => ?_) (fun h => ?_) <;> (try rw [h])) | rfl | (exfalso; simp_all; done))
  (he : ∀ s, l.b (emb (L.length : Int) s) = .brk (emb (L.length : Int) s) := by
   intro s
   simp only [LB.b, U1, U2, U3, U4, U5, U6, U7, U8, U9, U10, U11, U12, U13, U14, U15, U16, U17, U18, U19, U20, U21, U22, U23, U24, U25, U26, U27, U28, U29, U30, U31, U32, U33, U34, ltF]
   rfl) : l.run (emb (0 : Int) s) = .brk (emb (L.length : Int) (yC f 0 L s)) :=
 LB.run_fold (l := l) (fun i s => emb (i : Int) s) (f := f) hb he (s := s)
theorem rA (emb : Int → l.d.T) (p : Nat → α → Bool) (r : l.r.T)
  (hb : ∀ (i : Nat) x, L[i]? = some x → l.b (emb (i : Int)) = bif p i x then .go (emb ((i : Int) + (1 : Int))) else .ret r := by
   intro i x h
   simp only [LB.b, U1, U2, U3, U4, U5, U6, U7, U8, U9, U10, U11, U12, U13, U14, U15, U16, U17, U18, U19, U20, U21, U22, U23, U24, U25, U26, U27, U28, U29, U30, U31, U32, U33, U34, z0, ze, zY, cond_true, zs3 h, zQ h]
   repeat' first | (refine zdJ (fun h => ?_) (fun h => ?_) <;> (try rw [h])) | rfl | (exfalso; simp_all; done))
  (he : l.b (emb (L.length : Int)) = .brk (emb (L.length : Int)) := by
   simp only [LB.b, U1, U2, U3, U4, U5, U6, U7, U8, U9, U10, U11, U12, U13, U14, U15, U16, U17, U18, U19, U20, U21, U22, U23, U24, U25, U26, U27, U28, U29, U30, U31, U32, U33, U34, ltF]
   rfl) : l.run (emb (0 : Int)) = bif xU p 0 L then .brk (emb (L.length : Int)) else .ret r :=
 LB.run_all (l := l) (fun i => emb (i : Int)) (p := p) hb he
theorem rS (emb : Int → l.d.T) (f : Nat → α → Option l.r.T)
  (hb : ∀ (i : Nat) x, L[i]? = some x → l.b (emb (i : Int)) = match f i x with | some r => .ret r | none => .go (emb ((i : Int) + (1 : Int))) := by
   intro i x h
   simp only [LB.b, U1, U2, U3, U4, U5, U6, U7, U8, U9, U10, U11, U12, U13, U14, U15, U16, U17, U18, U19, U20, U21, U22, U23, U24, U25, U26, U27, U28, U29, U30, U31, U32, U33, U34, z0, ze, zY, cond_true, zs3 h, zQ h]
   repeat' first | (refine zdJ (fun h => ?_) (fun h => ?_) <;> (try rw [h])) | rfl | (exfalso; simp_all; done))
  (he : l.b (emb (L.length : Int)) = .brk (emb (L.length : Int)) := by
   simp only [LB.b, U1, U2, U3, U4, U5, U6, U7, U8, U9, U10, U11, U12, U13, U14, U15, U16, U17, U18, U19, U20, U21, U22, U23, U24, U25, U26, U27, U28, U29, U30, U31, U32, U33, U34, ltF]
   rfl) : l.run (emb (0 : Int)) = zku (vX f 0 L) (emb (L.length : Int)) :=
 LB.run_scan (l := l) (fun i => emb (i : Int)) (f := f) hb he
theorem rAb (emb : Int → l.d.T) (p : Nat → UInt8 → Bool) (r : l.r.T)
  (hb : ∀ (i : Nat) x, b.data.toList[i]? = some x → l.b (emb (i : Int)) = bif p i x then .go (emb ((i : Int) + (1 : Int))) else .ret r := by
   intro i x h
   simp only [LB.b, U1, U2, U3, U4, U5, U6, U7, U8, U9, U10, U11, U12, U13, U14, U15, U16, U17, U18, U19, U20, U21, U22, U23, U24, U25, U26, U27, U28, U29, U30, U31, U32, U33, U34, z0, ze, zY, cond_true, zvI h, zsw h]
   repeat' first | (refine zdJ (fun h => ?_) (fun h => ?_) <;> (try rw [h])) | rfl | (exfalso; simp_all; done))
  (he : l.b (emb (b.size : Int)) = .brk (emb (b.size : Int)) := by
   simp only [LB.b, U1, U2, U3, U4, U5, U6, U7, U8, U9, U10, U11, U12, U13, U14, U15, U16, U17, U18, U19, U20, U21, U22, U23, U24, U25, U26, U27, U28, U29, U30, U31, U32, U33, U34, ltF]
   rfl) : l.run (emb (0 : Int)) = bif xU p 0 b.data.toList then .brk (emb (b.size : Int)) else .ret r :=
 LB.run_all (l := l) (fun i => emb (i : Int)) (p := p) hb he
end
def PO (l : LB) (A : l.d.T → l.r.T → Prop) (I : l.d.T → l.d.T → Prop) : Prop := ∀ x, I x x → (l.run x).all (A x) (I x) (I x)
section
variable {R σ : Type} {A : R → Prop} {B G : σ → Prop} {c : Bool} {x y : St R σ}
@[simp] theorem alR {r : R} : St.all A B G (.ret r : St R σ) ↔ A r := Iff.rfl
@[simp] theorem alB {t : σ} : St.all A B G (.brk t : St R σ) ↔ B t := Iff.rfl
@[simp] theorem alG {t : σ} : St.all A B G (.go t : St R σ) ↔ G t := Iff.rfl
@[simp] theorem alC : St.all A B G (bif c then x else y) ↔ (c = true → St.all A B G x) ∧ (c = false → St.all A B G y) := by cases c <;> simp
end
theorem poA {l : LB} {A : l.d.T → l.r.T → Prop} {I : l.d.T → l.d.T → Prop} (h : ∀ x y, I x y → (l.b y).all (A x) (I x) (I x) := by
 intro x y h
 simp [-Prod.forall, LB.b] at h ⊢
 repeat' first | intro _ | apply And.intro
 all_goals first | omega | rfl | assumption | simp_all) : PO l A I := fun x hx => LB.post (l := l) (I x) (fun y hy => h x y hy) hx
theorem poB {l : LB} {A : l.d.T → l.r.T → Prop} {I : l.d.T → l.d.T → Prop} (h : ∀ x y, I x y → (l.b y).all (A x) (I x) (I x)) : PO l A I := fun x hx => LB.post (l := l) (I x) (fun y hy => h x y hy) hx
abbrev fd (as rs : List AD) (F : xC as → xC rs) : FnD := ⟨as, rs, true, fun _ => none, F⟩
abbrev fq (as rs : List AD) (q : xC as → Prop) (F : xC as → xC rs) : FnD := ⟨as, rs, true, fun a => some (q a), F⟩
theorem SF.use {l : LB} {J : l.d.T → Prop × Int} (h : SF l J) (x : l.d.T) (hx : (J x).1) : l.sf x := h x hx
def Ok (d : FnD) (T : xC d.args → Tr (xC d.res)) : Prop := ∀ a, WdA d.args a → okP (d.pre a) → (T a).ok
def BdA : (ds : List AD) → xC ds → Prop
 | [], _ => True
 | d :: ds, x => d.Bd x.1 ∧ BdA ds x.2
theorem BdA.of : ∀ {ds : List AD} {x : xC ds}, WdA ds x → BdA ds x
 | [], _, _ => trivial
 | _ :: _, _, h => ⟨.of h.1, BdA.of h.2⟩
section
variable {d : FnD} {T : xC d.args → Tr (xC d.res)} {l m k : LB} {J : l.d.T → Prop × Int} {K : m.d.T → Prop × Int} {M : k.d.T → Prop × Int}
theorem okA (h : ∀ a, BdA d.args a → okP (d.pre a) → (T a).ok := by
  intro a hw hp
  simp [-Prod.forall, -List.length_eq_zero_iff, BdA, AD.Bd, Bd, lim, okP] at hw hp ⊢
  repeat' first | intro _ | apply And.intro
  all_goals omega) : Ok d T := fun a hw hp => h a (.of hw) hp
theorem vN (t0 : SF l J) (h : SF l J → ∀ a, BdA d.args a → okP (d.pre a) → (T a).ok := by
  intro t0 a hw hp
  simp [-Prod.forall, -List.length_eq_zero_iff, BdA, AD.Bd, Bd, lim, okP] at hw hp ⊢
  repeat' first | (with_reducible refine SF.use t0 _ ?_; (try simp [-Prod.forall, -List.length_eq_zero_iff])) | with_reducible apply And.intro | intro _
  all_goals omega) : Ok d T := fun a hw hp => h t0 a (.of hw) hp
end
def cn {P : Program} (hm : P.follows .mixedOrders = true) (cs : List (Con P)) (ls : List LB) (f : Nat) (d : FnD) (fn : Func) (T : xC d.args → Tr (xC d.res)) (t : Ok d T) (g : Gv := g0)
  (hL : zS4 P (env g cs ls) (vY d.args) (fn.body.getD .skip) 0 ls := by repeat' first | exact trivial | refine ⟨lk, ?_⟩)
  (hT : ∀ a, evC P (env g cs ls) (mdT (xC d.res)) (fn.body.getD .skip) 0 (zCl fn (zC8 d.args a) (yM d.args a)) (kT P fn d) = T a := by intro a; kernel_rfl) (hv : ∀ a, (T a).val = d.F a := by intro a; rfl)
  (hf : P.funcs[f]? = some fn := by kernel_rfl) (hb : fn.body = some (fn.body.getD .skip) := by kernel_rfl) (hn : (fn.name == "runtime.NumGoroutine") = false := by kernel_rfl) (hok : d.ok = true := by kernel_rfl) : Con P :=
 con hm g cs ls f d hL (fun a hw h => okT (hT a) (t a hw h) (hv a)) hf hb hn hok
def cv {P : Program} (hm : P.follows .mixedOrders = true) (cs : List (Con P)) (f : Nat) (d : FnD) (fn : Func) (g : Gv := g0)
  (hT : ∀ a, evC P (env g cs []) (mdT (xC d.res)) (fn.body.getD .skip) 0 (zCl fn (zC8 d.args a) (yM d.args a)) (kT P fn d) = .v (d.F a) := by intro a; kernel_rfl)
  (hf : P.funcs[f]? = some fn := by kernel_rfl) (hb : fn.body = some (fn.body.getD .skip) := by kernel_rfl) (hn : (fn.name == "runtime.NumGoroutine") = false := by kernel_rfl) (hok : d.ok = true := by kernel_rfl) : Con P :=
 con hm g cs [] f d trivial (fun a _ _ => okv (hT a)) hf hb hn hok
section
variable {d : FnD} {T : xC d.args → Tr (xC d.res)} {l m : LB} {J : l.d.T → Prop × Int} {K : m.d.T → Prop × Int} {p q : Prop}
theorem zNF (t0 : SF l J) (r0 : p) (h : SF l J → p → ∀ a, BdA d.args a → okP (d.pre a) → (T a).ok := by
  intro t0 r0 a hw hp
  simp [-Prod.forall, -List.length_eq_zero_iff, BdA, AD.Bd, Bd, lim, okP, r0, z3, xL, xH] at hw hp ⊢
  repeat' first | (with_reducible refine SF.use t0 _ ?_; (try simp [-Prod.forall, -List.length_eq_zero_iff])) | with_reducible apply And.intro | intro _
  all_goals omega) : Ok d T := fun a hw hp => h t0 r0 a (.of hw) hp
theorem zuk (t0 : SF l J) (r0 : p) (t1 : SF m K) (r1 : q) (h : SF l J → p → SF m K → q → ∀ a, BdA d.args a → okP (d.pre a) → (T a).ok := by
  intro t0 r0 t1 r1 a hw hp
  simp [-Prod.forall, -List.length_eq_zero_iff, BdA, AD.Bd, Bd, lim, okP, r0, r1, z3, xL, xH] at hw hp ⊢
  repeat' first | (with_reducible refine SF.use t0 _ ?_; (try simp [-Prod.forall, -List.length_eq_zero_iff])) | (with_reducible refine SF.use t1 _ ?_; (try simp [-Prod.forall, -List.length_eq_zero_iff])) | with_reducible apply And.intro | intro _
  all_goals omega) : Ok d T := fun a hw hp => h t0 r0 t1 r1 a (.of hw) hp
end
theorem an {p q : Prop} (a : p) (b : q) : p ∧ q := ⟨a, b⟩
section
variable {R σ : Type} {A : R → Prop} {B G : σ → Prop}
@[simp] theorem alF {R' σ' : Type} {s : St R' σ'} {f : R' → St R σ} {g : σ' → St R σ} : St.all A B G (s.fin f g) ↔ s.fin (fun r => St.all A B G (f r)) (fun t => St.all A B G (g t)) := by cases s <;> exact Iff.rfl
end
theorem xM {l : LB} {A : l.d.T → l.r.T → Prop} {I : l.d.T → l.d.T → Prop} {x : l.d.T} {f : l.r.T → Prop} {g : l.d.T → Prop} (h : PO l A I) (hx : I x x) (h1 : ∀ r, A x r → f r) (h2 : ∀ t, I x t → g t) : (l.run x).fin f g := by
 have h := h x hx
 cases e : l.run x with
 | ret r => rw [e] at h; exact h1 r h
 | brk t => rw [e] at h; exact h2 t h
 | go t => rw [e] at h; exact h2 t h
def Tr.ps {X : Type} [Inhabited X] (P : X → Prop) (t : Tr X) : Prop := P t.val
section
variable {X : Type} [Inhabited X] {P : X → Prop} {x : X} {c : Bool} {t u : Tr X} {p : Prop}
@[simp] theorem psV : (Tr.v x).ps P ↔ P x := Iff.rfl
@[simp] theorem psK : (Tr.ck p t).ps P ↔ t.ps P := Iff.rfl
@[simp] theorem psC : (bif c then t else u).ps P ↔ (c = true → t.ps P) ∧ (c = false → u.ps P) := by cases c <;> simp
@[simp] theorem psF {R σ : Type} {s : St R σ} {f : R → Tr X} {g : σ → Tr X} : (s.fin f g).ps P ↔ s.fin (fun r => (f r).ps P) (fun t => (g t).ps P) := by cases s <;> exact Iff.rfl
end
@[simp] theorem bsz (a : Array UInt8) : (ByteArray.mk a).size = a.size := rfl
section
variable {pl p px : Prop}
theorem okG {d : FnD} {T : xC d.args → Tr (xC d.res)} (L : pl) (F : p) (X : px) (h : pl → p → px → ∀ a, BdA d.args a → okP (d.pre a) → (T a).ok := by
  intro L F X a hw hp
  simp (maxDischargeDepth := 12) [-Prod.forall, -List.length_eq_zero_iff, BdA, AD.Bd, Bd, lim, okP, L, F, z3, xL, xH] at hw hp ⊢
  repeat (rcases F with ⟨_, F⟩)
  repeat' first | ((first | with_reducible refine SF.use L.1 _ ?_ | with_reducible refine SF.use L.2.1 _ ?_ | with_reducible refine SF.use L.2.2.1 _ ?_ | with_reducible refine SF.use L.2.2.2.1 _ ?_ | with_reducible refine SF.use L.2.2.2.2.1 _ ?_ | with_reducible refine SF.use L.2.2.2.2.2.1 _ ?_ | with_reducible refine SF.use L.2.2.2.2.2.2.1 _ ?_ | with_reducible refine SF.use L.2.2.2.2.2.2.2.1 _ ?_); (try simp (maxDischargeDepth := 12) [-Prod.forall, -List.length_eq_zero_iff])) | ((first | with_reducible refine xM L.1 ?_ (fun r hr => ?_) (fun t ht => ?_) | with_reducible refine xM L.2.1 ?_ (fun r hr => ?_) (fun t ht => ?_) | with_reducible refine xM L.2.2.1 ?_ (fun r hr => ?_) (fun t ht => ?_) | with_reducible refine xM L.2.2.2.1 ?_ (fun r hr => ?_) (fun t ht => ?_) | with_reducible refine xM L.2.2.2.2.1 ?_ (fun r hr => ?_) (fun t ht => ?_) | with_reducible refine xM L.2.2.2.2.2.1 ?_ (fun r hr => ?_) (fun t ht => ?_) | with_reducible refine xM L.2.2.2.2.2.2.1 ?_ (fun r hr => ?_) (fun t ht => ?_) | with_reducible refine xM L.2.2.2.2.2.2.2.1 ?_ (fun r hr => ?_) (fun t ht => ?_)) <;> (try simp (maxDischargeDepth := 12) [-Prod.forall, -List.length_eq_zero_iff] at hr) <;> (try simp (maxDischargeDepth := 12) [-Prod.forall, -List.length_eq_zero_iff] at ht) <;> (try simp (maxDischargeDepth := 12) [-Prod.forall, -List.length_eq_zero_iff]) <;> (try simp only [ht])) | with_reducible apply And.intro | with_reducible intro _
  all_goals (clear L; first | omega | with_reducible assumption | (simp (maxDischargeDepth := 12) [-Prod.forall, *]; done) | (simp only [ht, List.length_nil, List.length_cons, List.length_append, bsz, ByteArray.size_append, List.size_toArray]; omega) | (simp only [List.length_nil, List.length_cons, List.length_append, bsz, ByteArray.size_append, List.size_toArray] at *; omega) | ((first | apply X.1 | apply X.2.1 | apply X.2.2.1) <;> first | omega | with_reducible assumption | (simp (maxDischargeDepth := 12) [-Prod.forall, or_imp, forall_and, *]; done) | (simp only [ht, List.length_nil, List.length_cons, List.length_append, bsz, ByteArray.size_append, List.size_toArray]; omega) | (intro _; omega) | (intro _; simp only [ht, List.length_nil, List.length_cons, List.length_append, bsz, ByteArray.size_append, List.size_toArray]; omega) | (intro p hp; (try simp only [ht, List.mem_append, List.mem_singleton] at hp); first | (simp (maxDischargeDepth := 12) [-Prod.forall, *]; done) | (rcases hp with hp | rfl <;> (simp (maxDischargeDepth := 12) [-Prod.forall, *]; done)))) | (cases ‹_ ∈ []›) | (rcases ‹_ ∨ _› with h | rfl <;> (try simp only [ht]) <;> first | omega | (simp (maxDischargeDepth := 12) [-Prod.forall, *]; done)) | grind)) : Ok d T := fun a hw hp => h L F X a (.of hw) hp
theorem sfG {l : LB} {J : l.d.T → Prop × Int} (L : pl) (F : p) (X : px) (h : pl → p → px → ∀ x, (J x).1 → l.d.Bd x → (J x).2 ≤ 9223372036854775807 ∧ (l.T x).sg fun y => (J y).1 ∧ (J y).2 < (J x).2 ∧ 0 < (J x).2 := by
  intro L F X x hI hw
  simp (maxDischargeDepth := 12) [-Prod.forall, -List.length_eq_zero_iff, SD.Bd, BdB, BdR, AD.Bd, Bd, lim, L, F, z3, xL, xH] at hI hw ⊢
  repeat (rcases F with ⟨_, F⟩)
  repeat' first | ((first | with_reducible refine SF.use L.1 _ ?_ | with_reducible refine SF.use L.2.1 _ ?_ | with_reducible refine SF.use L.2.2.1 _ ?_ | with_reducible refine SF.use L.2.2.2.1 _ ?_ | with_reducible refine SF.use L.2.2.2.2.1 _ ?_ | with_reducible refine SF.use L.2.2.2.2.2.1 _ ?_ | with_reducible refine SF.use L.2.2.2.2.2.2.1 _ ?_ | with_reducible refine SF.use L.2.2.2.2.2.2.2.1 _ ?_); (try simp (maxDischargeDepth := 12) [-Prod.forall, -List.length_eq_zero_iff])) | ((first | with_reducible refine xM L.1 ?_ (fun r hr => ?_) (fun t ht => ?_) | with_reducible refine xM L.2.1 ?_ (fun r hr => ?_) (fun t ht => ?_) | with_reducible refine xM L.2.2.1 ?_ (fun r hr => ?_) (fun t ht => ?_) | with_reducible refine xM L.2.2.2.1 ?_ (fun r hr => ?_) (fun t ht => ?_) | with_reducible refine xM L.2.2.2.2.1 ?_ (fun r hr => ?_) (fun t ht => ?_) | with_reducible refine xM L.2.2.2.2.2.1 ?_ (fun r hr => ?_) (fun t ht => ?_) | with_reducible refine xM L.2.2.2.2.2.2.1 ?_ (fun r hr => ?_) (fun t ht => ?_) | with_reducible refine xM L.2.2.2.2.2.2.2.1 ?_ (fun r hr => ?_) (fun t ht => ?_)) <;> (try simp (maxDischargeDepth := 12) [-Prod.forall, -List.length_eq_zero_iff] at hr) <;> (try simp (maxDischargeDepth := 12) [-Prod.forall, -List.length_eq_zero_iff] at ht) <;> (try simp (maxDischargeDepth := 12) [-Prod.forall, -List.length_eq_zero_iff]) <;> (try simp only [ht])) | with_reducible apply And.intro | with_reducible intro _
  all_goals (clear L; first | omega | with_reducible assumption | (simp (maxDischargeDepth := 12) [-Prod.forall, *]; done) | (simp only [ht, List.length_nil, List.length_cons, List.length_append, bsz, ByteArray.size_append, List.size_toArray]; omega) | (simp only [List.length_nil, List.length_cons, List.length_append, bsz, ByteArray.size_append, List.size_toArray] at *; omega) | ((first | apply X.1 | apply X.2.1 | apply X.2.2.1) <;> first | omega | with_reducible assumption | (simp (maxDischargeDepth := 12) [-Prod.forall, or_imp, forall_and, *]; done) | (simp only [ht, List.length_nil, List.length_cons, List.length_append, bsz, ByteArray.size_append, List.size_toArray]; omega) | (intro _; omega) | (intro _; simp only [ht, List.length_nil, List.length_cons, List.length_append, bsz, ByteArray.size_append, List.size_toArray]; omega) | (intro p hp; (try simp only [ht, List.mem_append, List.mem_singleton] at hp); first | (simp (maxDischargeDepth := 12) [-Prod.forall, *]; done) | (rcases hp with hp | rfl <;> (simp (maxDischargeDepth := 12) [-Prod.forall, *]; done)))) | (cases ‹_ ∈ []›) | (rcases ‹_ ∨ _› with h | rfl <;> (try simp only [ht]) <;> first | omega | (simp (maxDischargeDepth := 12) [-Prod.forall, *]; done)) | grind)) : SF l J := sfk fun x hx hw => h L F X x hx (.of hw)
theorem poG {l : LB} {A : l.d.T → l.r.T → Prop} {I : l.d.T → l.d.T → Prop} (L : pl) (F : p) (X : px) (h : pl → p → px → ∀ x y, I x y → (l.b y).all (A x) (I x) (I x) := by
  intro L F X x y h
  simp (maxDischargeDepth := 12) [-Prod.forall, -List.length_eq_zero_iff, LB.b, L, F, z3, xL, xH] at h ⊢
  repeat (rcases F with ⟨_, F⟩)
  repeat' first | ((first | with_reducible refine xM L.1 ?_ (fun r hr => ?_) (fun t ht => ?_) | with_reducible refine xM L.2.1 ?_ (fun r hr => ?_) (fun t ht => ?_) | with_reducible refine xM L.2.2.1 ?_ (fun r hr => ?_) (fun t ht => ?_) | with_reducible refine xM L.2.2.2.1 ?_ (fun r hr => ?_) (fun t ht => ?_) | with_reducible refine xM L.2.2.2.2.1 ?_ (fun r hr => ?_) (fun t ht => ?_) | with_reducible refine xM L.2.2.2.2.2.1 ?_ (fun r hr => ?_) (fun t ht => ?_) | with_reducible refine xM L.2.2.2.2.2.2.1 ?_ (fun r hr => ?_) (fun t ht => ?_) | with_reducible refine xM L.2.2.2.2.2.2.2.1 ?_ (fun r hr => ?_) (fun t ht => ?_)) <;> (try simp (maxDischargeDepth := 12) [-Prod.forall, -List.length_eq_zero_iff] at hr) <;> (try simp (maxDischargeDepth := 12) [-Prod.forall, -List.length_eq_zero_iff] at ht) <;> (try simp (maxDischargeDepth := 12) [-Prod.forall, -List.length_eq_zero_iff]) <;> (try simp only [ht])) | with_reducible apply And.intro | with_reducible intro _
  all_goals (clear L; first | omega | with_reducible assumption | (simp (maxDischargeDepth := 12) [-Prod.forall, *]; done) | (simp only [ht, List.length_nil, List.length_cons, List.length_append, bsz, ByteArray.size_append, List.size_toArray]; omega) | (simp only [List.length_nil, List.length_cons, List.length_append, bsz, ByteArray.size_append, List.size_toArray] at *; omega) | ((first | apply X.1 | apply X.2.1 | apply X.2.2.1) <;> first | omega | with_reducible assumption | (simp (maxDischargeDepth := 12) [-Prod.forall, or_imp, forall_and, *]; done) | (simp only [ht, List.length_nil, List.length_cons, List.length_append, bsz, ByteArray.size_append, List.size_toArray]; omega) | (intro _; omega) | (intro _; simp only [ht, List.length_nil, List.length_cons, List.length_append, bsz, ByteArray.size_append, List.size_toArray]; omega) | (intro p hp; (try simp only [ht, List.mem_append, List.mem_singleton] at hp); first | (simp (maxDischargeDepth := 12) [-Prod.forall, *]; done) | (rcases hp with hp | rfl <;> (simp (maxDischargeDepth := 12) [-Prod.forall, *]; done)))) | (cases ‹_ ∈ []›) | (rcases ‹_ ∨ _› with h | rfl <;> (try simp only [ht]) <;> first | omega | (simp (maxDischargeDepth := 12) [-Prod.forall, *]; done)) | grind)) : PO l A I := fun x hx => LB.post (l := l) (I x) (fun y hy => h L F X x y hy) hx
theorem psG {X : Type} [Inhabited X] {T : Tr X} {P : X → Prop} (L : pl) (F : p) (X : px) (h : pl → p → px → T.ps P := by
  intro L F X
  simp (maxDischargeDepth := 12) [-Prod.forall, -List.length_eq_zero_iff, L, F, z3, xL, xH]
  repeat (rcases F with ⟨_, F⟩)
  repeat' first | ((first | with_reducible refine xM L.1 ?_ (fun r hr => ?_) (fun t ht => ?_) | with_reducible refine xM L.2.1 ?_ (fun r hr => ?_) (fun t ht => ?_) | with_reducible refine xM L.2.2.1 ?_ (fun r hr => ?_) (fun t ht => ?_) | with_reducible refine xM L.2.2.2.1 ?_ (fun r hr => ?_) (fun t ht => ?_) | with_reducible refine xM L.2.2.2.2.1 ?_ (fun r hr => ?_) (fun t ht => ?_) | with_reducible refine xM L.2.2.2.2.2.1 ?_ (fun r hr => ?_) (fun t ht => ?_) | with_reducible refine xM L.2.2.2.2.2.2.1 ?_ (fun r hr => ?_) (fun t ht => ?_) | with_reducible refine xM L.2.2.2.2.2.2.2.1 ?_ (fun r hr => ?_) (fun t ht => ?_)) <;> (try simp (maxDischargeDepth := 12) [-Prod.forall, -List.length_eq_zero_iff] at hr) <;> (try simp (maxDischargeDepth := 12) [-Prod.forall, -List.length_eq_zero_iff] at ht) <;> (try simp (maxDischargeDepth := 12) [-Prod.forall, -List.length_eq_zero_iff]) <;> (try simp only [ht])) | with_reducible apply And.intro | with_reducible intro _
  all_goals (clear L; first | omega | with_reducible assumption | (simp (maxDischargeDepth := 12) [-Prod.forall, *]; done) | (simp only [ht, List.length_nil, List.length_cons, List.length_append, bsz, ByteArray.size_append, List.size_toArray]; omega) | (simp only [List.length_nil, List.length_cons, List.length_append, bsz, ByteArray.size_append, List.size_toArray] at *; omega) | ((first | apply X.1 | apply X.2.1 | apply X.2.2.1) <;> first | omega | with_reducible assumption | (simp (maxDischargeDepth := 12) [-Prod.forall, or_imp, forall_and, *]; done) | (simp only [ht, List.length_nil, List.length_cons, List.length_append, bsz, ByteArray.size_append, List.size_toArray]; omega) | (intro _; omega) | (intro _; simp only [ht, List.length_nil, List.length_cons, List.length_append, bsz, ByteArray.size_append, List.size_toArray]; omega) | (intro p hp; (try simp only [ht, List.mem_append, List.mem_singleton] at hp); first | (simp (maxDischargeDepth := 12) [-Prod.forall, *]; done) | (rcases hp with hp | rfl <;> (simp (maxDischargeDepth := 12) [-Prod.forall, *]; done)))) | (cases ‹_ ∈ []›) | (rcases ‹_ ∨ _› with h | rfl <;> (try simp only [ht]) <;> first | omega | (simp (maxDischargeDepth := 12) [-Prod.forall, *]; done)) | grind)) : P T.val := h L F X
end
end Go.Proofs.YtkdidadegedmiaaGreat
namespace Go.Proofs.YtkdidadegedmiaaGreat
open Go.RowKit
set_option linter.defProp false
noncomputable section
abbrev Li (t : Ty) := List (El t)
abbrev zJ : Ty := .pr (.lst .u8) (.pr .int .int)
abbrev zL : Ty := .pr .int (.pr .int .str)
abbrev yb : Ty := .pr .int (.pr .str zL)
abbrev zM : Ty := .pr .str (.pr (.lst yb) .bool)
abbrev z5 : Ty := .pr .int (.pr yb yb)
abbrev zo : Ty := .pr .str (.pr yb yb)
abbrev zp : Ty := .pr .int (.pr .str (.pr (.lst zo) (.pr .int .str)))
abbrev zG : Ty := .pr .str (.pr .int (.pr (.lst zM) (.pr (.lst z5) (.lst zp))))
abbrev zK : Ty := .pr .str (.lst zL)
abbrev zD : Ty := .pr .int zK
abbrev zH : Ty := .pr .str zL
abbrev zA : Ty := .pr .int (.pr (.lst .int) (.lst zH))
abbrev zC : Ty := .pr zK (.pr .str (.pr .int (.pr .int (.pr .int zL))))
abbrev zP : Ty := .pr .str zK
abbrev zN : Ty := .pr .str (.lst zG)
abbrev zE : Ty := .pr (.lst zD) .int
abbrev zF : Ty := .pr zE (.pr (.lst zA) (.pr (.lst zC) (.pr (.lst zD) (.pr (.lst zP) (.pr .int .int)))))
abbrev zU : Ty := .pr .int (.pr zK zL)
abbrev zEb : Ty := .pr .str (.pr zK .int)
abbrev zba : Ty := .pr .str (.pr .str zF)
abbrev zJp : Ty := .pr (.lst zN) (.pr (.lst zba) (.pr .int .int))
def zUO (l : Li zM) : Nat := (l.map fun p => p.2.1.length).sum
def zFZ (l : Li zM) (n : Int) : Int := ((zUO (l.drop n.toNat) : Nat) : Int)
def zWc (l : Li zp) : Nat := (l.map fun p => p.2.2.1.length).sum
def zDp (l : Li zp) (n : Int) : Int := ((zWc (l.drop n.toNat) : Nat) : Int)
theorem zAc (l : Li zM) (n : Int) (h : 0 ≤ n ∧ n < (l.length : Int)) : zFZ l n = ((zB zM l n).2.1.length : Int) + zFZ l (n + 1) ∧ 0 ≤ zFZ l (n + 1) := by
 have hlt : n.toNat < l.length := by omega
 have e : zB zM l n = l[n.toNat] := by unfold zB; rw [List.getD_eq_getElem?_getD, List.getElem?_eq_getElem hlt]; rfl
 unfold zFZ zUO
 rw [List.drop_eq_getElem_cons hlt, List.map_cons, List.sum_cons, e, show (n + 1).toNat = n.toNat + 1 by omega]
 omega
theorem zMG (l : Li zp) (n : Int) (h : 0 ≤ n ∧ n < (l.length : Int)) : zDp l n = ((zB zp l n).2.2.1.length : Int) + zDp l (n + 1) ∧ 0 ≤ zDp l (n + 1) := by
 have hlt : n.toNat < l.length := by omega
 have e : zB zp l n = l[n.toNat] := by unfold zB; rw [List.getD_eq_getElem?_getD, List.getElem?_eq_getElem hlt]; rfl
 unfold zDp zWc
 rw [List.drop_eq_getElem_cons hlt, List.map_cons, List.sum_cons, e, show (n + 1).toNat = n.toNat + 1 by omega]
 omega
def SzR (r : El zG) : Prop := zFZ r.2.2.1 0 ≤ 16777216 ∧ 2 * (r.2.2.2.1.length : Int) + 2 * zDp r.2.2.2.2 0 ≤ 16777216
theorem zfK (l : Li zp) (n : Int) : 0 ≤ zDp l n := by unfold zDp; omega
theorem zIX (l : Li zM) (n : Int) : 0 ≤ zFZ l n := by unfold zFZ; omega
def Cu (c : List Int × Int × Int) : Prop := 0 ≤ c.2.1 ∧ (c.1.length : Int) ≤ 1048576
theorem ztH (x : Int) : 0 ≤ zHW .and .i64 x 255 ∧ zHW .and .i64 x 255 ≤ 255 := by
 unfold zHW
 have h : (BitVec.ofInt IntKind.i64.bits x &&& BitVec.ofInt IntKind.i64.bits 255).toNat ≤ 255 := by
  rw [BitVec.toNat_and]
  exact Nat.and_le_right
 obtain ⟨n, hn⟩ : ∃ n, (BitVec.ofInt IntKind.i64.bits x &&& BitVec.ofInt IntKind.i64.bits 255).toNat = n := ⟨_, rfl⟩
 rw [hn] at h ⊢
 simp only [IntKind.wrap, IntKind.bits, IntKind.signed]
 simp
 omega
theorem zlC (a b : Int) (h : 0 ≤ a) : 0 ≤ Int.tmod a b ∧ (0 < b → Int.tmod a b < b) := ⟨Int.tmod_nonneg b h, fun g => Int.tmod_lt_of_pos a g⟩
theorem zug (n : Int) (h : 0 ≤ n) (g : n < 9223372036854775807) : IntKind.wrap .i64 (n + 1) = n + 1 := ink (by omega) (by omega)
def Vl (n : Int) (s : ByteArray) : Prop := -9223372036854775808 < n ∧ n ≤ 9223372036854775807 ∧ (s.size : Int) ≤ 1000
theorem Cu.mk {c : List Int × Int × Int} (h1 : 0 ≤ c.2.1) (h2 : (c.1.length : Int) ≤ 1048576) : Cu c := ⟨h1, h2⟩
theorem zpc (n : Int) (h : 0 ≤ n) (g : n < 4000) : IntKind.wrap .i64 (n + 1) = n + 1 := ink (by omega) (by omega)
def Ub (c : Int) : Prop := 0 ≤ c ∧ c ≤ 255
theorem zsu (l : Li .u8) (i : Int) (h : ∀ c ∈ l, Ub c) (h1 : 0 ≤ i) (h2 : i < (l.length : Int)) : @LE.le Int _ (-9223372036854775808) (zB .u8 l i) ∧ @LE.le Int _ (zB .u8 l i) 9223372036854775807 := by
 have := h _ (zV ⟨h1, h2⟩)
 unfold Ub at this; omega
theorem za2 {α R : Type} {f : Nat → α → Option R} : ∀ {L : List α} {k : Nat} {r : R}, vX f k L = some r → ∃ i x, x ∈ L ∧ f i x = some r
 | [], _, _, h => by cases h
 | x :: L, k, r, h => by
  simp only [vX] at h
  cases e : f k x with
  | some y => rw [e] at h; exact ⟨k, x, by simp, by rw [e]; exact h⟩
  | none =>
   rw [e] at h
   obtain ⟨i, y, h1, h2⟩ := za2 h
   exact ⟨i, y, by simp [h1], h2⟩
theorem zer {α : Type} (c : Nat → α → Bool) (f : Nat → α → Option (Int × Unit)) (hf : ∀ i x, f i x = bif c i x then some ((i : Int), ()) else none) : ∀ (L : List α) (k : Nat) (r : Int × Unit), vX f k L = some r → (k : Int) ≤ r.1 ∧ r.1 < k + (L.length : Int)
 | [], _, _, h => by cases h
 | x :: L, k, r, h => by
  simp only [vX, hf] at h
  cases e : c k x with
  | true => rw [e] at h; cases h; refine ⟨by simp, ?_⟩; simp only [List.length_cons]; omega
  | false =>
   rw [e] at h
   have := zer c f hf L (k + 1) r h
   simp only [List.length_cons]
   omega
theorem zsC {α : Type} (c : Nat → α → Bool) (L : List α) : -1 ≤ (zUw (vX (fun i x => bif c i x then some ((i : Int), ()) else none) 0 L) (fun r => (r.1, ())) ((-1 : Int), ())).1 ∧ (zUw (vX (fun i x => bif c i x then some ((i : Int), ()) else none) 0 L) (fun r => (r.1, ())) ((-1 : Int), ())).1 < (L.length : Int) := by
 cases e : vX (fun i x => bif c i x then some ((i : Int), ()) else none) 0 L with
 | none => exact ⟨by decide, by show (-1 : Int) < _; omega⟩
 | some r =>
  have := zer c _ (fun _ _ => rfl) L 0 r e
  show -1 ≤ r.1 ∧ r.1 < _
  omega
theorem zhK.mk {α : Type} {l : List α} {i : Int} {v : α} (h1 : 0 ≤ i) (h2 : i ≤ (l.length : Int)) (h3 : (l.length : Int) < 16777216) : zhK l i [v] := ⟨h1, h2, rfl, h3⟩
theorem zso {n : Int} (h : 0 ≤ n) (g : n < 16777216) : IntKind.wrap .i64 (n + 1) = n + 1 := ink (by omega) (by omega)
theorem zpA {n : Int} {m a b : Nat} (h1 : 0 ≤ n) (h2 : n < (m : Int)) (hl : ((m : Nat) : Int) ≤ 16777216) (ha : ((a : Nat) : Int) ≤ n + 1) (hb : ((b : Nat) : Int) ≤ n + 1) : ((0 ≤ IntKind.wrap .i64 (n + 1) ∧ IntKind.wrap .i64 (n + 1) ≤ (m : Int)) ∧ ((a : Nat) : Int) ≤ IntKind.wrap .i64 (n + 1) ∧ ((b : Nat) : Int) ≤ IntKind.wrap .i64 (n + 1)) ∧ (m : Int) - IntKind.wrap .i64 (n + 1) < (m : Int) - n ∧ 0 < (m : Int) - n := by
 rw [ink (n := n + 1) (by omega) (by omega)]; omega
theorem zHF {n : Int} {m a : Nat} (h2 : n < (m : Int)) (hl : ((m : Nat) : Int) ≤ 16777216) (h : ((a : Nat) : Int) ≤ n) : ((a + 1 : Nat) : Int) ≤ 16777216 ∧ ((a + 1 : Nat) : Int) ≤ n + 1 ∧ ((a : Nat) : Int) ≤ n + 1 := by omega
theorem zsS {n : Int} {m : Nat} (h : ((m : Nat) : Int) = n) : ((m + 1 : Nat) : Int) = n + 1 := by omega
theorem zM0 {n : Int} {m : Nat} (h1 : 0 ≤ n) (h2 : n < (m : Int)) (hl : ((m : Nat) : Int) ≤ 16777216) : InK .i64 (n + 1) ∧ 0 ≤ n + 1 ∧ (m : Int) - (n + 1) < (m : Int) - n ∧ 0 < (m : Int) - n := ⟨ink (by omega) (by omega), by omega, by omega, by omega⟩
theorem zbo {α β : Type} (f : Nat → α → List β → List β) (hf : ∀ i x s, (f i x s).length ≤ s.length + 1) : ∀ (L : List α) (k : Nat) (s : List β), (yC f k L s).length ≤ s.length + L.length
 | [], _, _ => Nat.le_refl _
 | x :: L, k, s => by
  have h1 := zbo f hf L (k + 1) (f k x s)
  have h2 := hf k x s
  simp only [yC, List.length_cons]
  omega
theorem zbd {α β γ : Type} (g : α → β) : ∀ (L : List α) (k : Nat) (s : List β × γ), (yC (fun (_ : Nat) x (s : List β × γ) => (s.1 ++ [g x], s.2)) k L s).1.length = s.1.length + L.length
 | [], _, _ => rfl
 | x :: L, k, s => by
  rw [yC, zbd g L]
  simp only [List.length_append, List.length_cons, List.length_nil]
  omega
theorem zvK {n k : Int} {m : Nat} (h1 : 0 ≤ n) (h2 : n < k) (h3 : k ≤ (m : Int)) : (0 ≤ n ∧ n ≤ ((m : Nat) : Int) ∧ ((m : Nat) : Int) ≤ ((m : Nat) : Int) ∧ 0 < ((m : Nat) : Int)) := by omega
theorem zvF {n : Int} {m : Nat} (h1 : 0 ≤ n) (h2 : n ≤ (m : Int)) : 0 ≤ n ∧ n ≤ (((min n.toNat m + (((m : Nat) : Int).toNat - n.toNat) + (m - ((m : Nat) : Int).toNat)) : Nat) : Int) := by omega
theorem zu3 {n : Int} {m : Nat} (h1 : -1 ≤ n) (h2 : n < (m : Int)) (h3 : ((m : Nat) : Int) ≤ 16777216) (h4 : n ≠ -1) : InK .i64 (n + 1) ∧ 0 ≤ n + 1 ∧ 0 ≤ n ∧ n < n + 1 ∧ n + 1 ≤ (m : Int) := ⟨ink (by omega) (by omega), by omega, by omega, by omega, by omega⟩
theorem zuM {X : Type} [Inhabited X] {P : X → Prop} {c : Bool} {t u : Tr X} (h : t.ps P) (g : u.ps P) : (bif c then t else u).ps P := by cases c <;> assumption
def DrR (r : El zG) : Prop := (r.2.2.1.length : Int) ≤ 4 ∧ (∀ p ∈ r.2.2.1, (p.2.1.length : Int) ≤ 5) ∧ (r.2.2.1.filter (fun p => !p.2.2)).length ≤ 3 ∧ (r.2.2.2.1.length : Int) ≤ 2 ∧ (r.2.2.2.2.length : Int) ≤ 3 ∧ ∀ a ∈ r.2.2.2.2, (a.2.2.1.length : Int) ≤ 5
theorem zru {l : Li zM} (h1 : (l.length : Int) ≤ 4) (h3 : (∀ p ∈ l, p.2.2 = false) → (l.length : Int) ≤ 3) : (l.filter (fun p => !p.2.2)).length ≤ 3 := by
 have h := List.length_filter_le (fun p : El zM => !p.2.2) l
 by_cases g : ∀ p ∈ l, p.2.2 = false
 ·have := h3 g; omega
 ·have : (l.filter (fun p => !p.2.2)).length ≠ l.length := fun e => g fun p hp => by
   have := (List.length_filter_eq_length_iff.1 e) p hp
   simpa using this
  omega
theorem DrR.mk {r : El zG} (h1 : (r.2.2.1.length : Int) ≤ 4) (h2 : ∀ p ∈ r.2.2.1, (p.2.1.length : Int) ≤ 2) (h3 : (∀ p ∈ r.2.2.1, p.2.2 = false) → (r.2.2.1.length : Int) ≤ 3) (h4 : (r.2.2.2.1.length : Int) ≤ 2) (h5 : (r.2.2.2.2.length : Int) ≤ 3) (h6 : ∀ a ∈ r.2.2.2.2, (a.2.2.1.length : Int) ≤ 2) : DrR r :=
 ⟨h1, fun p hp => by have := h2 p hp; omega, zru h1 h3, h4, h5, fun a ha => by have := h6 a ha; omega⟩
theorem zcv : ∀ (l : Li zM) (k : Nat), (∀ p ∈ l, (p.2.1.length : Int) ≤ k) → zUO l ≤ l.length * k
 | [], _, _ => by simp [zUO]
 | x :: l, k, h => by
  have h1 := h x (by simp)
  have h2 := zcv l k fun p hp => h p (by simp [hp])
  have : zUO (x :: l) = x.2.1.length + zUO l := rfl
  rw [this, List.length_cons, Nat.add_mul]; omega
theorem zld : ∀ (l : Li zp) (k : Nat), (∀ p ∈ l, (p.2.2.1.length : Int) ≤ k) → zWc l ≤ l.length * k
 | [], _, _ => by simp [zWc]
 | x :: l, k, h => by
  have h1 := h x (by simp)
  have h2 := zld l k fun p hp => h p (by simp [hp])
  have : zWc (x :: l) = x.2.2.1.length + zWc l := rfl
  rw [this, List.length_cons, Nat.add_mul]; omega
theorem SzR.of {r : El zG} (h : DrR r) : SzR r := by
 obtain ⟨h1, h2, h3, h4, h5, h6⟩ := h
 have a := zcv r.2.2.1 5 h2
 have b := zld r.2.2.2.2 5 h6
 have a' : zFZ r.2.2.1 0 = ((zUO r.2.2.1 : Nat) : Int) := rfl
 have b' : zDp r.2.2.2.2 0 = ((zWc r.2.2.2.2 : Nat) : Int) := rfl
 refine ⟨?_, ?_⟩ <;> omega
theorem SzR.pats {r : El zG} (h1 : (r.2.2.1.length : Int) ≤ 4) (h2 : ∀ p ∈ r.2.2.1, (p.2.1.length : Int) ≤ 2) (h4 : r.2.2.2.1 = []) (h5 : r.2.2.2.2 = []) : SzR r := by
 have a := zcv r.2.2.1 2 h2
 have a' : zFZ r.2.2.1 0 = ((zUO r.2.2.1 : Nat) : Int) := rfl
 refine ⟨by omega, ?_⟩
 rw [h4, h5]
 have : zDp [] 0 = 0 := rfl
 rw [this]; decide
theorem zWg {t : Ty} (l : Li t) (i : Int) (x : El t) (h1 : 0 ≤ i) (h2 : i < (l.length : Int)) : zB t (List.set l (Int.toNat i) x) i = x := by
 unfold zB
 rw [List.getD_eq_getElem?_getD, List.getElem?_set_self (by omega)]; rfl
abbrev zAv : AD := .ref (.pr (.pr (.o (.d zD)) (.d .int)) (.pr (.o (.d zA)) (.pr (.o (.d zC)) (.pr (.o (.d zD)) (.d (.pr (.lst zP) (.pr .int .int)))))))
abbrev zCi : AD := .ref (.d zJ)
abbrev zEu : AD := .ref (.pr (.pr (.o (.d zD)) (.d .int)) (.pr (.o (.d zA)) (.pr (.o (.d zC)) (.pr (.o (.d zD)) (.pr (.o (.d zP)) (.d (.pr .int .int)))))))
abbrev zhH : AD := .ref (.pr (.o (.d zD)) (.d .int))
abbrev zrp : AD := .ref (.o (.d zA))
abbrev gd (as rs : List AD) (F : xC as → xC rs) : FnD := ⟨as, rs, false, fun _ => none, F⟩
abbrev gq (as rs : List AD) (q : xC as → Prop) (F : xC as → xC rs) : FnD := ⟨as, rs, false, fun a => some (q a), F⟩
end
end Go.Proofs.YtkdidadegedmiaaGreat
