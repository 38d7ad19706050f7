/- Parts of a proof. -/
import Derived.Test.YtipbfgknaihifaaGreatZb
import Derived.Lib.SliceRun
import Derived.WalkSmall
import Derived.ProofKit
import Derived.OpenShut
import Derived.Deep.Slices
import Derived.Test.YtipbfgknaihifaaGreatRows
import Derived.WalkSpells
import Derived.WalkLawsBesides
import Derived.Deep.QuietTactic
import Derived.BigQuiet
import Derived.Deep.RegionHeld3
import Derived.StillTailTactics
import Derived.Laws.OwnMore
namespace Go.Proofs.YtipbfgknaihifaaGreat
open Go.RowKit
structure SD where
 n : Nat
 bxs : List OT
 regs : List (Nat × AD)
@[reducible] def SD.ds (d : SD) : List AD := d.bxs.map AD.ref ++ d.regs.map Prod.snd
@[reducible] def SD.T (d : SD) : Type := Args d.ds
def zF8 (m : Nat) : List V := (List.range m).map fun i => .ptr i 0
def SD.srcs (d : SD) (s : S) : List V := zF8 d.bxs.length ++ d.regs.map fun p => s.r.getD p.1 .any
def zUs (H : List Ob) (ds : List AD) (vs : List V) : Option (Args ds) := (zOv false false H ds vs).map (·.1)
def SD.rd (d : SD) (s : S) : Option d.T := if d.n = s.r.length then zUs s.h d.ds (d.srcs s) else none
def zVh (r : List V) : List (Nat × AD) → List V → List V
 | p :: l, v :: vs => zVh (r.set p.1 v) l vs
 | _, _ => r
def SD.mk' (d : SD) (x : d.T) : S := { r := zVh (List.replicate d.n .any) d.regs ((zHp d.ds x).drop d.bxs.length), h := xA d.ds x }
def zmj (i : Nat) : AD → Bool
 | .pt o _ => o == i
 | _ => false
def zmS (m : Nat) : AD → Bool
 | .pt o _ => decide (o < m)
 | _ => true
def SD.ok (rs : List Nat) (d : SD) : Bool := d.ds.all AD.one1 && d.regs.all (fun p => p.2.r == 0 && zmS d.bxs.length p.2) && ((List.range d.bxs.length).all fun i => decide (i < rs.length) || d.regs.any fun p => zmj i p.2) && decide ((zAW d.ds).take rs.length = rs)
theorem zQ5 : ∀ (a b : List AD), yA (a ++ b) = yA a + yA b
 | [], b => by simp [yA]
 | x :: a, b => by simp only [List.cons_append, yA, zQ5 a b]; omega
theorem zUq : ∀ (l : List OT), yA (l.map AD.ref) = l.length
 | [] => rfl
 | x :: l => by simp only [List.map_cons, yA, zUq l, AD.r, List.length_cons]; omega
theorem zUW : ∀ (l : List AD), (∀ d ∈ l, d.r = 0) → yA l = 0
 | [], _ => rfl
 | x :: l, h => by simp only [yA, h x List.mem_cons_self, zUW l fun d hd => h d (List.mem_cons_of_mem _ hd)]
theorem zSK : ∀ (a b : List AD) (vs us : List V), vs.length = a.length → vz (a ++ b) (vs ++ us) = vz a vs ++ vz b us
 | [], b, [], us, _ => by simp [vz]
 | d :: a, b, v :: vs, us, h => by simp only [List.cons_append, vz, zSK a b vs us (by simpa using h), List.append_assoc]
theorem zOl : ∀ (a b : List AD) (vs us : List V), vs.length = a.length → zAD (a ++ b) (vs ++ us) = zAD a vs ++ zAD b us
 | [], b, [], us, _ => by simp [zAD]
 | d :: a, b, v :: vs, us, h => by simp only [List.cons_append, zAD, zOl a b vs us (by simpa using h), List.append_assoc]
theorem zQP : ∀ (l : List OT) (k : Nat), vz (l.map AD.ref) ((List.range' k l.length).map fun i => V.ptr i 0) = List.range' k l.length ∧ zAD (l.map AD.ref) ((List.range' k l.length).map fun i => V.ptr i 0) = List.replicate l.length 0
 | [], k => ⟨rfl, rfl⟩
 | x :: l, k => by
  obtain ⟨h1, h2⟩ := zQP l (k + 1)
  simp only [List.map_cons, List.length_cons, List.range'_succ, vz, zAD, AD.bxs, AD.offs, zlX, zmf, List.singleton_append, h1, h2, List.replicate_succ, and_self]
theorem zRR : ∀ (l : List AD) (vs : List V), (∀ d ∈ l, d.r = 0) → vz l vs = [] ∧ zAD l vs = []
 | [], vs, _ => by cases vs <;> simp [vz, zAD]
 | d :: l, [], _ => by simp [vz, zAD]
 | d :: l, v :: vs, h => by
  obtain ⟨h1, h2⟩ := zRR l vs fun d hd => h d (List.mem_cons_of_mem _ hd)
  have h0 := h d List.mem_cons_self
  cases d with
  | ref s => simp [AD.r] at h0
  | _ => simp only [vz, zAD, AD.bxs, AD.offs, h1, h2, List.nil_append, and_self]
theorem zV2 (m : Nat) : zF8 m = (List.range' 0 m).map fun i => V.ptr i 0 := by unfold zF8; rw [List.range_eq_range']
theorem zic : ∀ (l : List (Nat × AD)) (r vs : List V) (t : Nat) (v : V), (zVh r l vs)[t]? = some v → r[t]? = some v ∨ ∃ (i : Nat) (ad : AD), l[i]? = some (t, ad) ∧ vs[i]? = some v := by
 intro l
 induction l with
 | nil => intro r vs t v h; exact .inl (by simpa [zVh] using h)
 | cons p l ih =>
  intro r vs t v h
  cases vs with
  | nil => exact .inl (by simpa [zVh] using h)
  | cons u vs =>
   rcases ih _ vs t v h with h | ⟨i, ad, h1, h2⟩
   ·by_cases e : p.1 = t
    ·subst e
     have hlt : p.1 < r.length := by have := (List.getElem?_eq_some_iff.1 h).1; simpa using this
     rw [List.getElem?_set_self hlt] at h
     cases h
     exact .inr ⟨0, p.2, rfl, rfl⟩
    ·rw [List.getElem?_set_ne e] at h; exact .inl h
   ·exact .inr ⟨i + 1, ad, by simpa using h1, by simpa using h2⟩
theorem zjh : ∀ (l : List (Nat × AD)) (r vs : List V), (zVh r l vs).length = r.length := by
 intro l
 induction l with
 | nil => intro r vs; simp [zVh]
 | cons p l ih =>
  intro r vs
  cases vs with
  | nil => simp [zVh]
  | cons v vs => simp only [zVh, ih, List.length_set]
theorem zIh : ∀ (ds : List AD), (zAW ds).length = yA ds
 | [] => rfl
 | d :: ds => by simp only [zAW, List.length_append, AD.szs_len, zIh ds, yA]
theorem zOx : ∀ (ds : List AD) (a : Args ds) (k j : Nat) (ob : Ob), (yz ds a k)[j]? = some ob → ∃ cs : List V, ob = .box cs ∧ (zAW ds)[j]? = some cs.length
 | [], _, _, j, ob, h => by simp [yz] at h
 | d :: ds, a, k, j, ob, h => by
  simp only [yz] at h
  by_cases hj : j < d.r
  ·rw [List.getElem?_append_left (by rw [AD.boxes_len]; exact hj)] at h
   cases d with
   | ref s =>
    have : j = 0 := by simp [AD.r] at hj; exact hj
    subst this
    simp [AD.boxes] at h
    exact ⟨_, h.symm, by simp [zAW, AD.szs, yZ]⟩
   | _ => simp [AD.r] at hj
  ·rw [List.getElem?_append_right (by rw [AD.boxes_len]; omega), AD.boxes_len] at h
   obtain ⟨cs, h1, h2⟩ := zOx ds a.2 _ _ ob h
   refine ⟨cs, h1, ?_⟩
   simp only [zAW]
   rw [List.getElem?_append_right (by rw [AD.szs_len]; omega), AD.szs_len]; exact h2
theorem zjK {c : Cx} : ∀ (ds : List AD) (vs : List V) (a : Args ds), rdA c ds vs = some a → ∀ (i : Nat) (d : AD), ds[i]? = some d → ∃ v x, vs[i]? = some v ∧ d.rd c v = some x
 | [], _, _, _, i, d, h => by simp at h
 | d0 :: ds, [], _, h, _, _, _ => by simp [rdA] at h
 | d0 :: ds, v :: vs, a, h, i, d, hi => by
  simp only [rdA] at h
  split at h
  ·rename_i p q e1 e2
   cases i with
   | zero => simp at hi; subst hi; exact ⟨v, p, rfl, e1⟩
   | succ i => exact zjK ds vs q e2 i d (by simpa using hi)
  ·cases h
theorem zm2 {c : Cx} {d : SD} {s : S} {a : Args d.ds} (h : rdA c d.ds (d.srcs s) = some a) {t o off : Nat} (hp : (t, AD.pt o off) ∈ d.regs) : s.r.getD t .any = .ptr o off := by
 obtain ⟨i, hi⟩ := List.mem_iff_getElem?.1 hp
 have h1 : d.ds[d.bxs.length + i]? = some (.pt o off) := by
  show (d.bxs.map AD.ref ++ d.regs.map Prod.snd)[d.bxs.length + i]? = _
  rw [List.getElem?_append_right (by simp), List.length_map, Nat.add_sub_cancel_left, List.getElem?_map, hi]; rfl
 obtain ⟨v, x, g1, g2⟩ := zjK d.ds (d.srcs s) a h _ _ h1
 simp only [SD.srcs] at g1
 rw [List.getElem?_append_right (by simp [zF8]), show (zF8 d.bxs.length).length = d.bxs.length by simp [zF8], Nat.add_sub_cancel_left, List.getElem?_map, hi] at g1
 simp only [Option.map_some, Option.some.injEq] at g1
 simp only [AD.rd] at g2
 rw [g1]
 split at g2
 ·rename_i o' off'
  split at g2
  ·rename_i e; obtain ⟨rfl, rfl⟩ := e; rfl
  ·cases g2
 ·cases g2
section
variable {P : Program} {w0 : World} {Z0 : En} {ρ ρ' : ye} {Z Z' : Zs} {w w' : World} {H H' : List Ob}
theorem zdS {ds : List AD} {vs : List V} {ys : List Value} {a : Args ds} (hr : HR ρ Z H w) (hf : Frm w0 Z0 ρ Z H w) (hl : ys.length = vs.length) (hc : ∀ (i : Nat) (u : V) (y : Value), vs[i]? = some u → ys[i]? = some y → Cn ρ Z w u y)
  (hd : zUs H ds vs = some a) (hpt : ∀ o off, .pt o off ∈ ds → o < yA ds ∧ (vz ds vs)[o]? = some o ∧ (zAD ds vs)[o]? = some 0)
  (hrf : ∀ i, i < Z0.r.length → (vz ds vs)[i]? = some i ∧ (zAD ds vs)[i]? = some 0) (hsz : (zAW ds).take Z0.r.length = Z0.r.map Prod.snd) :
  ∃ ρ2 Z2, HR ρ2 Z2 (xA ds a) w ∧ (∀ (j : Nat) (u : V) (y : Value), (zHp ds a)[j]? = some u → ys[j]? = some y → Cn ρ2 Z2 w u y) ∧ vs.length = ds.length ∧ Frm w0 Z0 ρ2 Z2 (xA ds a) w ∧ ∀ o, o < (xA ds a).length → ∃ p, ρ2 o = some p := by
 unfold zUs zOv at hd
 simp only [Option.map_eq_some_iff] at hd
 obtain ⟨⟨a', H1, os, bs⟩, hp, rfl⟩ := hd
 split at hp
 rotate_left
 ·cases hp
 rename_i hnd
 have hnd := zEz hnd
 split at hp
 rotate_left
 ·cases hp
 rename_i a hrd
 simp only [Option.some.injEq, Prod.mk.injEq] at hp
 obtain ⟨rfl, rfl, rfl, rfl⟩ := hp
 obtain ⟨Z1, a1, a2, a3, a4, a5⟩ := hr.freezeL (zGO false H ds vs)
 generalize hH1 : freezeL H (zGO false H ds vs) = H1 at *
 have mz : ∀ b, zIg ρ H1 (xg (zBO H1 ds vs) ++ vz ds vs) b → ∀ k, ¬ Z1 k b := by
  rintro b ⟨o0, p0, x0, _, g1, g2, g3⟩
  exact (a3.own g1 g2 g3).1
 have hv : Vw ρ Z1 w ⟨false, false, H1, zII H1 (xg (zBO H1 ds vs) ++ vz ds vs)⟩ Z1 :=
  ⟨fun _ _ h => h, a3.zl, fun o x e => by
   rw [zGi, Option.map_eq_some_iff] at e
   obtain ⟨y, e1, e2⟩ := e
   cases hc : (xg (zBO H1 ds vs) ++ vz ds vs).contains o with
   | true => rw [hc] at e2; exact .inl e2.symm
   | false => rw [hc] at e2; exact .inr (by rw [e1]; exact congrArg some e2), fun h => (by cases h), fun h => (by cases h)⟩
 obtain ⟨ρ2, r1, r2, r3, r4, r5, r6, r7, r8, r9, r10⟩ := zdT (c := ⟨false, false, H1, zII H1 (xg (zBO H1 ds vs) ++ vz ds vs)⟩) a3 hv hl (fun i u y hu hy => (hc i u y hu hy).mono (Kp.rz a1)) hrd hnd mz hpt
 refine ⟨ρ2, Z1, r1, r2, r3, ⟨hf.size, hf.same, fun o p x b e1 e2 e3 => ?_, fun b hb => ?_, fun i p n e => ?_⟩, r5⟩
 ·obtain ⟨o0, p0, x0, _, g1, g2, g3⟩ := r6 o p x b e1 e2 e3
  exact hf.own o0 p0 x0 b g1 (a5 o0 p0 x0 b g2 g3) g3
 ·rcases a2 false b hb with hb | ⟨o0, p0, x0, g1, g2, g3⟩
  ·exact hf.zs b hb
  ·exact .inr (hf.own o0 p0 x0 b g1 g2 g3)
 ·obtain ⟨h1, ⟨cs, h2, h3⟩, h4⟩ := hf.refs i p n e
  have hi : i < Z0.r.length := (List.getElem?_eq_some_iff.1 e).1
  obtain ⟨b1, b2⟩ := hrf i hi
  have b3 : (zAW ds)[i]? = some n := by
   have : ((zAW ds).take Z0.r.length)[i]? = (Z0.r.map Prod.snd)[i]? := by rw [hsz]
   rw [List.getElem?_take, if_pos hi, List.getElem?_map, e] at this
   exact this
  obtain ⟨p0, cs0, g1, g2, g3, g4⟩ := r7 i i 0 n b1 b2 b3
  rw [h1] at g1; cases g1
  have hlt : i < yA ds := by rw [← r8]; exact (List.getElem?_eq_some_iff.1 b1).1
  obtain ⟨cs', k1, k2⟩ := zOx ds a (yA ds) i _ (List.getElem?_eq_getElem (by rw [xx]; exact hlt))
  have hnf : p.fp = zA2 := funext fun b => propext ⟨fun hb => (hr.ob i p _ h1 h2).1 b hb, fun hb => hb.elim⟩
  refine ⟨by rw [g3, Nat.add_zero, ← hnf], ⟨cs', ?_, ?_⟩, h4⟩
  ·simp only [xA]
   rw [List.getElem?_append_left (by rw [xx]; exact hlt), ← k1]
   exact List.getElem?_eq_getElem _
  ·rw [b3] at k2; exact (by simpa using k2 : n = cs'.length).symm
theorem Rel.rd {rs : List Nat} {d : SD} {s : S} {a : Act} (h : Rel w0 Z0 s a w) (hok : d.ok rs = true) (hrs : Z0.r.map Prod.snd = rs) {x : d.T} (hd : d.rd s = some x) : Rel w0 Z0 (d.mk' x) a w ∧ xG d.ds x := by
 obtain ⟨ρ, Z, h1, h2, h3, h4⟩ := h
 unfold SD.rd at hd
 split at hd
 rotate_left
 ·cases hd
 rename_i hn
 simp only [SD.ok, Bool.and_eq_true, decide_eq_true_eq] at hok
 obtain ⟨⟨⟨k0, k1⟩, k2⟩, k3⟩ := hok
 have hreg : ∀ p ∈ d.regs, p.2.r = 0 ∧ zmS d.bxs.length p.2 = true := fun p hp => by
  have := List.all_eq_true.1 k1 p hp
  simpa using this
 have hr0 : ∀ q ∈ d.regs.map Prod.snd, q.r = 0 := fun q hq => by
  obtain ⟨p, hp, rfl⟩ := List.mem_map.1 hq
  exact (hreg p hp).1
 have hnr : yA d.ds = d.bxs.length := by
  show yA (d.bxs.map AD.ref ++ d.regs.map Prod.snd) = _
  rw [zQ5, zUq, zUW _ hr0, Nat.add_zero]
 have hrl : Z0.r.length = rs.length := by rw [← hrs]; simp
 have hlen : rs.length ≤ d.bxs.length := by
  have : ((zAW d.ds).take rs.length).length = rs.length := by rw [k3]
  rw [List.length_take, zIh, hnr] at this
  omega
 have hbx : vz d.ds (d.srcs s) = List.range' 0 d.bxs.length ∧ zAD d.ds (d.srcs s) = List.replicate d.bxs.length 0 := by
  obtain ⟨g1, g2⟩ := zQP d.bxs 0
  obtain ⟨g3, g4⟩ := zRR (d.regs.map Prod.snd) (d.regs.map fun p => s.r.getD p.1 .any) hr0
  constructor
  ·show vz (d.bxs.map AD.ref ++ d.regs.map Prod.snd) (zF8 d.bxs.length ++ _) = _
   rw [zSK _ _ _ _ (by simp [zF8]), g3, zV2, g1, List.append_nil]
  ·show zAD (d.bxs.map AD.ref ++ d.regs.map Prod.snd) (zF8 d.bxs.length ++ _) = _
   rw [zOl _ _ _ _ (by simp [zF8]), g4, zV2, g2, List.append_nil]
 have hat : ∀ o, o < d.bxs.length → (vz d.ds (d.srcs s))[o]? = some o ∧ (zAD d.ds (d.srcs s))[o]? = some 0 := fun o ho => by
  rw [hbx.1, hbx.2]
  refine ⟨?_, ?_⟩
  ·rw [List.getElem?_range' ho]; simp
  ·rw [List.getElem?_replicate, if_pos ho]
 have regc : ∀ t, Cn ρ Z w (s.r.getD t .any) (a.tmps.getD t undef) := fun t => h1.ev (s := s) (.tmp t)
 have hd2 := hd
 have known : ∀ i, i < d.bxs.length → ∃ p, ρ i = some p := by
  intro i hi
  have := List.all_eq_true.1 k2 i (List.mem_range.2 hi)
  simp only [Bool.or_eq_true, decide_eq_true_eq] at this
  rcases this with hlt | hany
  ·have e : Z0.r[i]? = some (Z0.r[i]'(by omega)) := List.getElem?_eq_getElem _
   exact ⟨_, (h3.refs i _ _ e).1⟩
  ·obtain ⟨p, hp, hpt⟩ := List.any_eq_true.1 hany
   obtain ⟨t, ad⟩ := p
   cases ad with
   | pt o off =>
    simp [zmj] at hpt; subst hpt
    have hval : s.r.getD t .any = .ptr o off := by
     unfold zUs zOv at hd2
     simp only [Option.map_eq_some_iff] at hd2
     obtain ⟨y, hy, _⟩ := hd2
     split at hy
     ·split at hy
      ·rename_i a' hrd
       exact zm2 hrd hp
      ·cases hy
     ·cases hy
    have := regc t
    rw [hval] at this
    generalize a.tmps.getD t undef = y at this
    cases this with
    | ptr h => exact ⟨_, h⟩
   | _ => simp [zmj] at hpt
 let ys : List Value := (List.range d.bxs.length).map (fun i => match ρ i with | some p => .pointer (some ⟨p.b, p.off + 0, none⟩) | none => undef) ++ d.regs.map fun p => a.tmps.getD p.1 undef
 have hys : ys.length = (d.srcs s).length := by simp [ys, SD.srcs, zF8]
 have hcn : ∀ (i : Nat) (u : V) (y : Value), (d.srcs s)[i]? = some u → ys[i]? = some y → Cn ρ Z w u y := by
  intro i u y hu hy
  simp only [SD.srcs, ys] at hu hy
  by_cases hi : i < d.bxs.length
  ·rw [List.getElem?_append_left (by simpa [zF8] using hi)] at hu
   rw [List.getElem?_append_left (by simpa using hi)] at hy
   simp only [zF8, List.getElem?_map, List.getElem?_range hi, Option.map_some, Option.some.injEq] at hu hy
   obtain ⟨p, hp⟩ := known i hi
   rw [hp] at hy
   subst hu hy
   exact .ptr hp
  ·rw [List.getElem?_append_right (by simp [zF8]; omega)] at hu
   rw [List.getElem?_append_right (by simp; omega)] at hy
   simp only [zF8, List.length_map, List.length_range, List.getElem?_map, Option.map_eq_some_iff] at hu hy
   obtain ⟨p, g1, rfl⟩ := hu
   obtain ⟨p', g2, rfl⟩ := hy
   rw [g1] at g2; cases g2
   exact regc p.1
 obtain ⟨ρ2, Z2, r1, r2, r3, r4, r5⟩ := zdS h2 h3 hys hcn hd (fun o off hm => by
  have ho : o < d.bxs.length := by
   have hm : AD.pt o off ∈ d.bxs.map AD.ref ++ d.regs.map Prod.snd := hm
   rcases List.mem_append.1 hm with hm | hm
   ·obtain ⟨_, _, e⟩ := List.mem_map.1 hm; cases e
   ·obtain ⟨p, hp, e⟩ := List.mem_map.1 hm
    have := (hreg p hp).2
    rw [e] at this
    simpa [zmS] using this
  exact ⟨by rw [hnr]; exact ho, hat o ho⟩) (fun i hi => hat i (by omega)) (by rw [hrs, hrl]; exact k3)
 refine ⟨?_, zdn k0 r1 (by rw [hys]; exact r3) r2 r5⟩
 refine ⟨ρ2, Z2, ⟨by simp only [SD.mk']; rw [zjh, List.length_replicate, hn, h1.1], fun t v hv => ?_⟩, r1, r4, h4⟩
 rcases zic d.regs _ _ t v hv with hv | ⟨i, ad, g1, g2⟩
 ·rw [List.getElem?_replicate] at hv
  split at hv
  ·cases hv; exact .any _
  ·cases hv
 ·rw [List.getElem?_drop] at g2
  refine r2 _ v _ g2 ?_
  simp only [ys]
  rw [List.getElem?_append_right (by simp), List.length_map, List.length_range, Nat.add_sub_cancel_left, List.getElem?_map, g1]; rfl
end
def ren0 (os : List Nat) : V → V
 | .obj o => match os.idxOf? o with
  | some n => .obj n
  | none => .any
 | .opt s o i off => match os.idxOf? o with
  | some n => .opt s n i off
  | none => .any
 | .ptr o off => match os.idxOf? o with
  | some n => .ptr n off
  | none => .any
 | .c x => .c x
 | .ext 0 t l => .ext 0 t l
 | .ext (o + 1) t l => match os.idxOf? o with
  | some n => .ext (n + 1) t l
  | none => .any
 | .ept 0 t l i off => .ept 0 t l i off
 | .nil0 => .nil0
 | _ => .any
def ren (os : List Nat) : V → V
 | .agg vs => .agg (vs.map (ren0 os))
 | .tup vs => .tup (vs.map (ren0 os))
 | .fn f vs => .fn f (vs.map (ren0 os))
 | .bx cs off => .bx (cs.map (ren0 os)) off
 | v => ren0 os v
def zfm (os : List Nat) : Ob → Ob
 | .box cs => .box (cs.map (ren os))
 | x => x
def zZB (n : Nat) (pos : List Nat) : List Nat := pos ++ (List.range n).filter fun i => !pos.contains i
def S.ren (pos : List Nat) (s : S) : S := match pos with
 | [] => s
 | _ :: _ => { r := s.r.map (Go.Proofs.YtipbfgknaihifaaGreat.ren (zZB s.h.length pos)), h := (zZB s.h.length pos).map fun o => zfm (zZB s.h.length pos) (s.h.getD o .gone) }
def zUE (rs pos : List Nat) : Bool := pos.isEmpty || (zQX pos && decide (pos.take rs.length = List.range rs.length))
theorem zfi {os : List Nat} {o n : Nat} (h : os.idxOf? o = some n) : os[n]? = some o := by
 rw [List.idxOf?, List.findIdx?_eq_some_iff_getElem] at h
 obtain ⟨h1, h2, _⟩ := h
 rw [List.getElem?_eq_getElem h1]
 simp at h2; rw [h2]
section
variable {w0 : World} {Z0 : En} {ρ : ye} {Z : Zs} {w : World} {os : List Nat}
def ye.ren (ρ : ye) (os : List Nat) : ye := fun n => (os[n]?).bind ρ
theorem ye.ren_at {o n : Nat} {p : Pl} (h : os.idxOf? o = some n) (hp : ρ o = some p) : (ρ.ren os) n = some p := by
 unfold ye.ren; rw [zfi h]; exact hp
theorem ye.ren_some {n : Nat} {p : Pl} (h : (ρ.ren os) n = some p) : ∃ o, os[n]? = some o ∧ ρ o = some p := by
 unfold ye.ren at h
 rw [Option.bind_eq_some_iff] at h
 exact h
theorem Cn.ren0 {v : V} {x : Value} (h : Cn ρ Z w v x) : Cn (ρ.ren os) Z w (ren0 os v) x := by
 cases h with
 | c x h => exact .c x h
 | nil0 a => exact .nil0 a
 | ptr h => simp only [Go.Proofs.YtipbfgknaihifaaGreat.ren0]; split; exact .ptr (ye.ren_at (by assumption) h); exact .any _
 | obj h hx => simp only [Go.Proofs.YtipbfgknaihifaaGreat.ren0]; split; exact .obj (ye.ren_at (by assumption) h) hx; exact .any _
 | opt h hx h0 => simp only [Go.Proofs.YtipbfgknaihifaaGreat.ren0]; split; exact .opt (ye.ren_at (by assumption) h) hx h0; exact .any _
 | ext ys hq h0 h1 h2 h3 h4 h5 h6 =>
  rename_i q t l a c b o
  have h : Cn ρ Z w (.ext q t l) (.slice a l.length c) := .ext ys hq h0 h1 h2 h3 h4 h5 h6
  cases q with
  | zero => exact h.clF rfl (fun _ h => h) (fun _ _ => rfl)
  | succ q =>
   simp only [Go.Proofs.YtipbfgknaihifaaGreat.ren0]
   split
   ·rename_i n hn
    refine h.tagR (fun o1 e1 => ?_) (fun b hb => ?_) (fun _ _ => rfl)
    ·cases e1
     obtain ⟨p, hp⟩ := hq q rfl
     exact ⟨p, ye.ren_at hn hp⟩
    ·rcases hb with hb | ⟨o1, p, e1, e2, e3⟩
     ·exact .inl hb
     ·cases e1
      exact .inr ⟨n, p, rfl, ye.ren_at hn e2, e3⟩
   ·exact .any _
 | ept ys hq h0 h4 h5 h6 =>
  rename_i q t l b o off i
  cases q with
  | zero => exact .ept ys .zero h0 (.inl h4.zero) h5 fun i x j u hx hu => (h6 i x j u hx hu).clF (zFW _ _ u (List.mem_of_getElem? hu)) (fun _ h => h) (fun _ _ => rfl)
  | succ q => exact .any _
 | _ => exact .any _
theorem Cn.ren {v : V} {x : Value} (h : Cn ρ Z w v x) : Cn (ρ.ren os) Z w (ren os v) x := by
 have inner : ∀ (vs : List V) (xs : List Value), (∀ (i : Nat) (u : V) (y : Value), vs[i]? = some u → xs[i]? = some y → Cn ρ Z w u y) →
   ∀ (i : Nat) (u : V) (y : Value), (vs.map (Go.Proofs.YtipbfgknaihifaaGreat.ren0 os))[i]? = some u → xs[i]? = some y → Cn (ρ.ren os) Z w u y := by
  intro vs xs h i u y hu hy
  simp only [List.getElem?_map, Option.map_eq_some_iff] at hu
  obtain ⟨u', h1, rfl⟩ := hu
  exact (h i u' y h1 hy).ren0
 cases h with
 | agg h0 h => exact .agg (by simpa using h0) (inner _ _ h)
 | tup h0 h => exact .tup (by simpa using h0) (inner _ _ h)
 | fn h0 h => exact .fn (by simpa using h0) (inner _ _ h)
 | bx h0 h1 h2 h3 =>
  refine .bx h0 h1 (by simpa using h2) fun i u y hu hy => ?_
  simp only [List.getElem?_map, Option.map_eq_some_iff] at hu
  obtain ⟨u', g1, rfl⟩ := hu
  exact (h3 i u' y g1 hy).ren0
 | c x h => exact Cn.ren0 (.c x h)
 | nil0 a => exact Cn.ren0 (.nil0 a)
 | any x => exact Cn.ren0 (.any x)
 | ptr h => exact Cn.ren0 (.ptr h)
 | obj h hx => exact Cn.ren0 (.obj h hx)
 | opt h hx h0 => exact Cn.ren0 (.opt h hx h0)
 | ext ys hq h0 h1 h2 h3 h4 h5 h6 => exact Cn.ren0 (.ext ys hq h0 h1 h2 h3 h4 h5 h6)
 | ept ys hq h0 h4 h5 h6 => exact Cn.ren0 (.ept ys hq h0 h4 h5 h6)
theorem zcM {n : Nat} {pos : List Nat} (h : pos.Nodup) : (zZB n pos).Nodup := by
 unfold zZB
 refine List.nodup_append.2 ⟨h, List.nodup_range.filter _, fun a ha b hb e => ?_⟩
 subst e
 have := (List.mem_filter.1 hb).2
 simp [ha] at this
theorem Rel.ren {s : S} {a : Act} (h : Rel w0 Z0 s a w) {rs pos : List Nat} (hrs : Z0.r.map Prod.snd = rs) (hp : zUE rs pos = true) : Rel w0 Z0 (s.ren pos) a w := by
 unfold S.ren
 split
 ·exact h
 rename_i o1 os1
 unfold zUE at hp
 simp only [List.isEmpty_cons, Bool.false_or, Bool.and_eq_true, decide_eq_true_eq] at hp
 have hnd := zcM (n := s.h.length) (zEz hp.1)
 have hpre : ∀ i, i < rs.length → (zZB s.h.length (o1 :: os1))[i]? = some i := by
  intro i hi
  have h2 : ((o1 :: os1).take rs.length)[i]? = some i := by rw [hp.2, List.getElem?_range hi]
  rw [List.getElem?_take, if_pos hi] at h2
  unfold zZB
  rw [List.getElem?_append_left (List.getElem?_eq_some_iff.1 h2).1]; exact h2
 generalize zZB s.h.length (o1 :: os1) = os at hnd hpre
 obtain ⟨ρ, Z, h1, h2, h3, h4⟩ := h
 have hget : ∀ (n : Nat) (x : Ob), (os.map fun o => zfm os (s.h.getD o .gone))[n]? = some x → ∃ o, os[n]? = some o ∧ x = zfm os (s.h.getD o .gone) := by
  intro n x e
  rw [List.getElem?_map, Option.map_eq_some_iff] at e
  obtain ⟨o, e1, e2⟩ := e
  exact ⟨o, e1, e2.symm⟩
 have hob : ∀ (n : Nat) (p : Pl) (x : Ob), (ρ.ren os) n = some p → (os.map fun o => zfm os (s.h.getD o .gone))[n]? = some x → ∃ o z, os[n]? = some o ∧ ρ o = some p ∧ s.h[o]? = some z ∧ x = zfm os z := by
  intro n p x e1 e2
  obtain ⟨o, g1, g2⟩ := ye.ren_some e1
  obtain ⟨o', g3, g4⟩ := hget n x e2
  rw [g1] at g3; cases g3
  obtain ⟨z, hz⟩ := h2.at g2
  exact ⟨o, z, g1, g2, hz, by rw [g4, List.getD_eq_getElem?_getD, hz]; rfl⟩
 have own : ∀ {z : Ob} {p : Pl} {b : Nat}, Own (zfm os z) p b ↔ Own z p b := by intro z p b; cases z <;> exact Iff.rfl
 refine ⟨ρ.ren os, Z, ⟨by simp [h1.1], fun t v hv => ?_⟩, ⟨h2.zl, fun n p e => ?_, fun n p x e1 e2 => ?_, fun n n' p p' x x' b e1 e2 e3 e4 b1 b2 => ?_⟩, ⟨h3.size, h3.same, fun n p x b e1 e2 e3 => ?_, h3.zs, fun i p n e => ?_⟩, h4⟩
 ·simp only [List.getElem?_map, Option.map_eq_some_iff] at hv
  obtain ⟨u, g1, rfl⟩ := hv
  exact (h1.2 t u g1).ren
 ·obtain ⟨o, g1, _⟩ := ye.ren_some e
  rw [List.length_map]; exact (List.getElem?_eq_some_iff.1 g1).1
 ·obtain ⟨o, z, g1, g2, g3, rfl⟩ := hob n p x e1 e2
  have := h2.ob o p z g2 g3
  cases z with
  | box cells =>
   obtain ⟨nf, nz, xs, e', k2, k3, k4⟩ := this
   refine ⟨nf, nz, xs, e', k2, by simpa using k3, fun i u y hu hy => ?_⟩
   rw [List.getElem?_map, Option.map_eq_some_iff] at hu
   obtain ⟨u', m1, rfl⟩ := hu
   exact (k4 i u' y m1 hy).ren
  | arr s l => exact this
  | frz t l => exact this
  | gone => exact this
 ·obtain ⟨o, z, g1, g2, g3, rfl⟩ := hob n p x e1 e3
  obtain ⟨o', z', k1, k2, k3, rfl⟩ := hob n' p' x' e2 e4
  have := h2.dj o o' p p' z z' b g2 k2 g3 k3 (own.1 b1) (own.1 b2)
  subst this
  have hlt : n < os.length := (List.getElem?_eq_some_iff.1 g1).1
  exact (List.getElem?_inj hlt hnd).1 (g1.trans k1.symm)
 ·obtain ⟨o, z, g1, g2, g3, rfl⟩ := hob n p x e1 e2
  exact h3.own o p z b g2 g3 (own.1 e3)
 ·obtain ⟨g1, ⟨cs, g2, g3⟩, g4⟩ := h3.refs i p n e
  have hi : i < rs.length := by rw [← hrs, List.length_map]; exact (List.getElem?_eq_some_iff.1 e).1
  refine ⟨by unfold ye.ren; rw [hpre i hi]; exact g1, ⟨cs.map (Go.Proofs.YtipbfgknaihifaaGreat.ren os), ?_, by simpa using g3⟩, g4⟩
  rw [List.getElem?_map, hpre i hi, Option.map_some, List.getD_eq_getElem?_getD, g2]; rfl
end
end Go.Proofs.YtipbfgknaihifaaGreat
namespace Go.Proofs.YtipbfgknaihifaaGreat
open Go.RowKit
noncomputable section
inductive St (R σ : Type) where
 | ret (r : R)
 | brk (s : σ)
 | go (s : σ)
instance {R σ : Type} [Inhabited R] : Inhabited (St R σ) := ⟨.ret default⟩
def whl {R σ : Type} (b : σ → St R σ) : Nat → σ → St R σ
 | 0, s => .go s
 | n + 1, s => match b s with
  | .go t => whl b n t
  | .ret r => .ret r
  | .brk t => .brk t
def zdd : (ts : List Ty) → TyL ts
 | [] => ()
 | t :: ts => (dflt t, zdd ts)
def AD.dflt : (d : AD) → d.T
 | .val _ s => Go.Proofs.YtipbfgknaihifaaGreat.dflt s.ty
 | .bx t _ => Go.Proofs.YtipbfgknaihifaaGreat.dflt t
 | .fn _ ts => zdd ts
 | .ref s => Go.Proofs.YtipbfgknaihifaaGreat.dflt s.ty
 | .pt _ _ => ()
 | .ep _ _ => ([], 0)
def zkG : (ds : List AD) → Args ds
 | [] => ()
 | d :: ds => (d.dflt, zkG ds)
def SD.dflt (d : SD) : d.T := zkG d.ds
instance (ds : List AD) : Inhabited (Args ds) := ⟨zkG ds⟩
instance (d : SD) : Inhabited d.T := ⟨d.dflt⟩
def St.fin {R σ X : Type} (f : R → X) (g : σ → X) : St R σ → X
 | .ret r => f r
 | .brk t => g t
 | .go t => g t
def Sf {R σ : Type} (wd : σ → Prop) (b : σ → St R σ) (p : σ → Prop) : Nat → σ → Prop
 | 0, _ => False
 | n + 1, x => wd x → p x ∧ ∀ y, b x = .go y → Sf wd b p n y
def zAi : Nat := 18446744073709551616
structure LB where
 pos : List Nat
 d : SD
 r : SD
 xe : Nat
 T : d.T → Tr (St r.T d.T)
def LB.b (l : LB) (x : l.d.T) : St l.r.T l.d.T := (l.T x).val
def LB.p (l : LB) (x : l.d.T) : Prop := (l.T x).ok
def St.done {R σ : Type} : St R σ → Bool
 | .go _ => false
 | _ => true
theorem zZT {R σ : Type} {b : σ → St R σ} : ∀ (n m : Nat) (x : σ), n ≤ m → (whl b n x).done = true → whl b m x = whl b n x := by
 intro n
 induction n with
 | zero => intro m x _ h; cases h
 | succ n ih =>
  intro m x h hd
  cases m with
  | zero => omega
  | succ m =>
   simp only [whl] at hd ⊢
   cases e : b x with
   | go t => rw [e] at hd; exact ih m t (by omega) hd
   | ret r => rfl
   | brk t => rfl
open Classical in
def LB.run (l : LB) (x : l.d.T) : St l.r.T l.d.T := if h : ∃ n, (whl l.b n x).done = true then whl l.b (Classical.choose h) x else .go x
theorem LB.run_eq {l : LB} {x : l.d.T} {n : Nat} (h : (whl l.b n x).done = true) : l.run x = whl l.b n x := by
 have hx : ∃ n, (whl l.b n x).done = true := ⟨n, h⟩
 unfold LB.run
 rw [dif_pos hx]
 rcases Nat.le_total n (Classical.choose hx) with h3 | h3
 ·exact zZT _ _ _ h3 h
 ·exact (zZT _ _ _ h3 (Classical.choose_spec hx)).symm
def LB.sf (l : LB) (x : l.d.T) : Prop := Sf (xG l.d.ds) l.b l.p zAi x
def LB.el (l : LB) (s : S) (R : Type) (k : Ex → S → R) : R := (l.run ((l.d.rd (s.ren l.pos)).getD l.d.dflt)).fin (fun r => k .ret (l.r.mk' r)) (fun t => k (.exit l.xe) (l.d.mk' t))
def LB.lp (l : LB) : LP where
 safe s := match l.d.rd (s.ren l.pos) with
  | some x => some (l.sf x)
  | none => some False
 el := l.el
 par s := by
  unfold LB.el
  cases l.run ((l.d.rd (s.ren l.pos)).getD l.d.dflt) with
  | ret r => exact ⟨(_, _), fun R k => rfl⟩
  | brk t => exact ⟨(_, _), fun R k => rfl⟩
  | go t => exact ⟨(_, _), fun R k => rfl⟩
def LB.kT (l : LB) : Ex → S → Tr (St l.r.T l.d.T)
 | .nrm, s => match l.d.rd s with | some x => .v (.go x) | none => .bad
 | .exit i, s => if i = l.xe then (match l.d.rd s with | some x => .v (.brk x) | none => .bad) else .bad
 | .ret, s => match l.r.rd s with | some x => .v (.ret x) | none => .bad
section
variable {P : Program} {w0 : World} {Z0 : En}
theorem LB.ok {E : Env} (hE : zHu P E) (hD : zZG P E w0 Z0) {c : Code} {n : Nat} (hL : zGg P E w0 Z0 c n) (l : LB) {rs : List Nat} (hrs : Z0.r.map Prod.snd = rs) (hps : zUE rs l.pos = true) (hd : l.d.ok rs = true) (hr' : l.r.ok rs = true)
  (hT : ∀ x, evC P E (mdT (St l.r.T l.d.T)) c n (l.d.mk' x) l.kT = l.T x) : zj0 P w0 Z0 c l.lp := by
 intro s a w hs hr Q hq
 simp only [LB.lp] at hs
 cases hrd : l.d.rd (s.ren l.pos) with
 | none => rw [hrd] at hs; exact hs.elim
 | some x0 =>
  rw [hrd] at hs
  have hs : Sf (xG l.d.ds) l.b l.p zAi x0 := hs
  obtain ⟨hr0, hw0⟩ := (hr.ren hrs hps).rd hd hrs hrd
  have hq : ∀ e s' a' w', (∀ (R : Type) (k : Ex → S → R), l.el s R k = k e s') → Rel w0 Z0 s' a' w' → Q e.out a' w' := hq
  obtain ⟨R0, hR0⟩ : ∃ R0, whl l.b zAi x0 = R0 := ⟨_, rfl⟩
  let G : Act → World → Nat → Prop := fun a w m => ∃ x, Rel w0 Z0 (l.d.mk' x) a w ∧ xG l.d.ds x ∧ Sf (xG l.d.ds) l.b l.p m x ∧ whl l.b m x = R0
  have hmin : ∀ (a : Act) (w : World), ∃ m : Nat, (∃ n, G a w n) → G a w m ∧ ∀ n, G a w n → m ≤ n := by
   intro a w
   by_cases h : ∃ n, G a w n
   ·obtain ⟨m, h1, h2⟩ := zl2 h
    exact ⟨m, fun _ => ⟨h1, h2⟩⟩
   ·exact ⟨0, fun h' => absurd h' h⟩
  refine wp_loop (fun a w => ∃ n, G a w n) (fun a w => Classical.choose (hmin a w)) ⟨zAi, x0, hr0, hw0, hs, hR0⟩ fun a w hI0 => ?_
  obtain ⟨⟨x, g1, gw, g2, g3⟩, _⟩ := Classical.choose_spec (hmin a w) hI0
  generalize Classical.choose (hmin a w) = m at g2 g3
  cases m with
  | zero => exact g2.elim
  | succ m =>
   obtain ⟨g4, g5⟩ := g2 gw
   refine zOf hE hD c n (l.d.mk' x) (fun e s => (l.kT e s).ok) hL (zcZ c n _ l.kT _ (fun _ _ h => h) (by rw [hT x]; exact g4)) a w g1 _ fun e s' a' w' h1 h2 h3 => ?_
   have h2 := h2 (St l.r.T l.d.T) fun e s => (l.kT e s).val
   rw [← zWk, hT x] at h2
   have h2 : l.b x = (l.kT e s').val := h2
   cases e with
   | nrm =>
    simp only [LB.kT] at h1 h2
    split at h1
    ·rename_i y hy
     rw [hy] at h2
     simp only [Tr.val] at h2
     have k1 : G a' w' m := ⟨y, (h3.rd hd hrs hy).1, (h3.rd hd hrs hy).2, g5 y h2, by rw [← g3]; simp only [whl, h2]⟩
     refine ⟨⟨m, k1⟩, ?_⟩
     show Classical.choose (hmin a' w') < m + 1
     have := (Classical.choose_spec (hmin a' w') ⟨m, k1⟩).2 m k1
     omega
    ·exact h1.elim
   | exit i =>
    simp only [LB.kT] at h1 h2
    split at h1
    ·rename_i hi
     subst hi
     split at h1
     ·rename_i y hy
      rw [if_pos rfl, hy] at h2
      simp only [Tr.val] at h2
      have k3 : R0 = .brk y := by rw [← g3]; simp only [whl, h2]
      have hrun : l.run x0 = R0 := by rw [LB.run_eq (n := zAi) (by rw [hR0, k3]; rfl), hR0]
      refine hq (.exit l.xe) (l.d.mk' y) a' w' (fun R k => ?_) (h3.rd hd hrs hy).1
      simp only [LB.el, hrd, Option.getD_some, hrun, k3, St.fin]
     ·exact h1.elim
    ·exact h1.elim
   | ret =>
    simp only [LB.kT] at h1 h2
    split at h1
    ·rename_i y hy
     rw [hy] at h2
     simp only [Tr.val] at h2
     have k3 : R0 = .ret y := by rw [← g3]; simp only [whl, h2]
     have hrun : l.run x0 = R0 := by rw [LB.run_eq (n := zAi) (by rw [hR0, k3]; rfl), hR0]
     refine hq .ret (l.r.mk' y) a' w' (fun R k => ?_) (h3.rd hr' hrs hy).1
     simp only [LB.el, hrd, Option.getD_some, hrun, k3, St.fin]
    ·exact h1.elim
end
def zEx : Code → Nat → Code
 | .seq a b, n => if n < xU a then zEx a n else zEx b (n - xU a)
 | .cond _ a b, n => if n < xU a then zEx a n else zEx b (n - xU a)
 | .block _ c, n => zEx c n
 | .loop c, n => match n with
  | 0 => c
  | n + 1 => zEx c n
 | _, _ => .skip
def zSF (P : Program) (s : S) : List ResultVar → Option (List V)
 | [] => some []
 | .tmp t :: rs => (zSF P s rs).map (s.r.getD t .any :: ·)
 | .cell a t :: rs => match zFi s.h (s.r.getD a .any) with
  | some (cs, off) => match zI7 P t cs off with
   | some v => (zSF P s rs).map (v :: ·)
   | none => none
  | none => none
def zOQ (fn : Func) (vs : List V) (H : List Ob) : S := { r := vs ++ List.replicate (fn.ntmps - vs.length) .any, h := H }
def fin : Ex → Bool
 | .exit _ => false
 | _ => true
def zgv (P : Program) (fn : Func) (d : FnD) (s : S) : Option (Args d.res) := (zSF P s fn.results.toList).bind fun vs => zUs s.h d.res (vs ++ zF8 (yA d.res))
def kT (P : Program) (fn : Func) (d : FnD) (e : Ex) (s : S) : Tr (Args d.res) := bif fin e then (match zgv P fn d s with | some y => .v y | none => .bad) else .bad
theorem zl1 {P : Program} {fn : Func} {d : FnD} {e : Ex} {s : S} (h : (kT P fn d e s).ok) : ∃ y, fin e = true ∧ zgv P fn d s = some y ∧ (kT P fn d e s).val = y := by
 unfold kT at h ⊢
 cases hf : fin e with
 | false => rw [hf] at h; exact h.elim
 | true =>
  rw [hf] at h
  cases he : zgv P fn d s with
  | none => rw [he] at h; exact h.elim
  | some y => exact ⟨y, rfl, rfl, rfl⟩
structure OkT {X : Type} [Inhabited X] (t : Tr X) (y : X) : Prop where
 ok : t.ok
 val : t.val = y
theorem okv {X : Type} [Inhabited X] {t : Tr X} {x : X} (h : t = .v x) : OkT t x := by subst h; exact ⟨trivial, rfl⟩
theorem yT {X : Type} [Inhabited X] {t t' : Tr X} {y : X} (h : t = t') (ho : t'.ok) (hv : t'.val = y) : OkT t y := by subst h; exact ⟨ho, hv⟩
section
variable {P : Program} {ρ ρ' : ye} {Z Z' : Zs} {w w' : World} {H H' : List Ob}
theorem zX2 {s : S} {a : Act} (h1 : zSO ρ Z w s.r a) (hr : HR ρ Z s.h w) : ∀ (rs : List ResultVar) (vs : List V), zSF P s rs = some vs →
  ∃ ys : List Value, ys.length = vs.length ∧ (∀ (i : Nat) (u : V) (y : Value), vs[i]? = some u → ys[i]? = some y → Cn ρ Z w u y) ∧
   (rs.mapM (fun (r : ResultVar) => match r with | .tmp t => (pure (a.tmps.getD t undef) : Sem Value) | .cell c t => (do loadVar t (← asAddr (a.tmps.getD c undef)) : Sem Value))).run P w = .ok ys w := by
 intro rs
 induction rs with
 | nil => intro vs h; cases h; exact ⟨[], rfl, by intro i u y h; simp at h, rfl⟩
 | cons r rs ih =>
  intro vs h
  cases r with
  | tmp t =>
   simp only [zSF, Option.map_eq_some_iff] at h
   obtain ⟨vs', h2, rfl⟩ := h
   obtain ⟨ys, g1, g2, g3⟩ := ih vs' h2
   refine ⟨a.tmps.getD t undef :: ys, by simp [g1], fun i u y hu hy => ?_, ?_⟩
   ·cases i with
    | zero => simp only [List.getElem?_cons_zero, Option.some.injEq] at hu hy; subst hu hy; exact h1.ev (s := s) (.tmp t)
    | succ i => exact g2 i u y (by simpa using hu) (by simpa using hy)
   ·simp only [List.mapM_cons, Sem.run_bind, Sem.run_pure, Result.andThen_ok, g3]
  | cell c t =>
   simp only [zSF] at h
   split at h
   ·rename_i cs off e1
    split at h
    ·rename_i v e2
     simp only [Option.map_eq_some_iff] at h
     obtain ⟨vs', h2, rfl⟩ := h
     obtain ⟨ys, g1, g2, g3⟩ := ih vs' h2
     obtain ⟨b, base, ex, hm⟩ := zMr hr (h1.ev (s := s) (.tmp c)) e1
     obtain ⟨y, k1, k2⟩ := zUM (P := P) hm e2
     have ex : a.tmps.getD c undef = .pointer (some ⟨b, base + off, none⟩) := ex
     refine ⟨y :: ys, by simp [g1], fun i u z hu hz => ?_, ?_⟩
     ·cases i with
      | zero => simp at hu hz; subst hu hz; exact k2
      | succ i => exact g2 i u z (by simpa using hu) (by simpa using hz)
     ·have hA : (asAddr (.pointer (some ⟨b, base + off, none⟩))).run P w = .ok ⟨b, base + off, none⟩ w := rfl
      simp only [List.mapM_cons, Sem.run_bind, ex, Sem.run_pure, Result.andThen_ok, hA, k1, g3]
    ·cases h
   ·cases h
theorem zS0 {s : S} {a : Act} (h1 : zSO ρ Z w s.r a) (hr : HR ρ Z s.h w) {fn : Func} {vs : List V} (h : zSF P s fn.results.toList = some vs) :
  ∃ ys : List Value, ys.length = vs.length ∧ (∀ (i : Nat) (u : V) (y : Value), vs[i]? = some u → ys[i]? = some y → Cn ρ Z w u y) ∧
   (results fn a.tmps).run P w = .ok (if h : ys.toArray.size = 1 then ys.toArray[0] else .tuple ys.toArray) w := by
 obtain ⟨ys, g1, g2, g3⟩ := zX2 (P := P) h1 hr fn.results.toList vs h
 refine ⟨ys, g1, g2, ?_⟩
 unfold results
 rw [Array.mapM_eq_mapM_toList]
 rw [Sem.run_bind]
 have : ∀ (x : Sem (List Value)) (ys : List Value), x.run P w = .ok ys w → (List.toArray <$> x : Sem (Array Value)).run P w = .ok ys.toArray w := by
  intro x ys hx
  show (x >>= fun l => pure l.toArray : Sem (Array Value)).run P w = _
  rw [Sem.run_bind, hx]; rfl
 refine (congrArg (fun r => Result.andThen r _) (this _ ys g3)).trans ?_
 rfl
theorem zmc {vs : List V} {ys : List Value} (hl : ys.length = vs.length) (h : ∀ (i : Nat) (u : V) (y : Value), vs[i]? = some u → ys[i]? = some y → Cn ρ Z w u y) : Cn ρ Z w (zci vs) (if h : ys.toArray.size = 1 then ys.toArray[0] else .tuple ys.toArray) := by
 cases vs with
 | nil => have : ys = [] := List.eq_nil_of_length_eq_zero hl; subst this; exact .tup rfl h
 | cons v vs =>
  cases ys with
  | nil => simp at hl
  | cons y ys =>
   cases vs with
   | nil =>
    have : ys = [] := List.eq_nil_of_length_eq_zero (by simpa using hl)
    subst this
    exact h 0 v y rfl rfl
   | cons v' vs =>
    have : ¬ ((y :: ys).toArray.size = 1) := by simp at hl ⊢; intro e; rw [e] at hl; simp at hl
    rw [dif_neg this]
    exact .tup hl h
theorem zRv {c : Cx} : ∀ {ds : List AD} {vs : List V} {a : Args ds}, rdA c ds vs = some a → vs.length = ds.length
 | [], [], _, _ => rfl
 | [], v :: vs, _, h => by simp [rdA] at h
 | d :: ds, [], _, h => by simp [rdA] at h
 | d :: ds, v :: vs, a, h => by
  simp only [rdA] at h
  split at h
  ·rename_i p q e1 e2
   simp only [List.length_cons, zRv e2]
  ·cases h
theorem zg2 : ∀ (ds : List AD) (m : Nat), yA ds = yA (ds.take m) + yA (ds.drop m) := fun ds m => by
 rw [← zQ5, List.take_append_drop]
theorem zdW : ∀ (l : List AD), yA l = l.length → ∀ d ∈ l, d.r = 1
 | [], _, d, h => by cases h
 | a :: l, h, d, hd => by
  have hle : ∀ l : List AD, yA l ≤ l.length := by
   intro l
   induction l with
   | nil => exact Nat.le_refl _
   | cons x l ih =>
    have : x.r ≤ 1 := by cases x <;> simp [AD.r]
    simp only [yA, List.length_cons]; omega
  have h1 := hle l
  have h2 : a.r ≤ 1 := by cases a <;> simp [AD.r]
  simp only [yA, List.length_cons] at h
  rcases List.mem_cons.1 hd with rfl | hd
  ·omega
  ·exact zdW l (by omega) d hd
theorem znF {l : List AD} (h : ∀ d ∈ l, d.r = 1) : ∃ os : List OT, l = os.map AD.ref := by
 induction l with
 | nil => exact ⟨[], rfl⟩
 | cons a l ih =>
  obtain ⟨os, e⟩ := ih fun d hd => h d (List.mem_cons_of_mem _ hd)
  have := h a List.mem_cons_self
  cases a with
  | ref s => exact ⟨s :: os, by rw [e]; rfl⟩
  | _ => simp [AD.r] at this
theorem zl4 {f : Nat} {fn : Func} {c : Code} (hf : P.funcs[f]? = some fn) (hb : fn.body = some c) (hn : (fn.name == "runtime.NumGoroutine") = false) (d : FnD) (hok : d.ok = true)
  (hW : ∀ a, xG d.args a → okP (d.pre a) → ∀ w0 (Z0 : En), Z0.r.map Prod.snd = zAW d.args → ∀ act w, Rel w0 Z0 (zOQ fn (zHp d.args a) (xA d.args a)) act w → ∀ Q : Exit → Act → World → Prop,
   (∀ e s' a' w', fin e = true → zgv P fn d s' = some (d.F a) → Rel w0 Z0 s' a' w' → Q e.out a' w') → c.wp P Q act w) : FnOk P f d where
 ok := hok
 enter args w := by
  unfold callFunc
  simp only [program, Sem.run_bind, Sem.run, Result.andThen_ok, hf, hn, hb, Option.isNone_some, Bool.false_eq_true, if_false, Sem.run_pure]
 call w Z ρ a xs hr hl hc htot hpre := by
  obtain ⟨ok1, ok2, ok3, ok4, ok5⟩ := FnD.ok_eq hok
  refine calls_of_wp hf hb ?_
  have hnr : yA d.args ≤ (xA d.args a).length := by simp only [xA, List.length_append, xx]; omega
  let N : En := { z := Z, m := fun b => ∃ (o : Nat) (p : Pl) (y : Ob), ρ o = some p ∧ (xA d.args a)[o]? = some y ∧ Own y p b, r := (List.range (yA d.args)).map fun i => ((ρ i).getD ⟨0, undef, 0, zA2⟩, (zAW d.args).getD i 0) }
  have hNs : N.r.map Prod.snd = zAW d.args := by
   show ((List.range (yA d.args)).map _).map Prod.snd = _
   rw [List.map_map]
   apply List.ext_getElem?
   intro i
   rw [List.getElem?_map]
   by_cases hi : i < yA d.args
   ·rw [List.getElem?_range hi]
    have : i < (zAW d.args).length := by rw [zIh]; exact hi
    simp [List.getD_eq_getElem?_getD, this]
   ·rw [List.getElem?_eq_none (by simp; omega), List.getElem?_eq_none (by rw [zIh]; omega)]; rfl
  have hNr : ∀ i p n, N.r[i]? = some (p, n) → i < yA d.args ∧ ρ i = some p ∧ (zAW d.args)[i]? = some n := by
   intro i p n e
   have hi : i < yA d.args := by have := (List.getElem?_eq_some_iff.1 e).1; simpa [N] using this
   obtain ⟨p', hp'⟩ := htot i (by omega)
   have hs : i < (zAW d.args).length := by rw [zIh]; exact hi
   simp only [N, List.getElem?_map, List.getElem?_range hi, Option.map_some, Option.some.injEq, Prod.mk.injEq, hp', Option.getD_some] at e
   refine ⟨hi, by rw [hp', e.1], ?_⟩
   rw [← e.2, List.getD_eq_getElem?_getD, List.getElem?_eq_getElem hs]; rfl
  have hrel : Rel w N (zOQ fn (zHp d.args a) (xA d.args a)) { tmps := xs.toArray ++ Array.replicate (fn.ntmps - xs.toArray.size) undef, defers := [] } w := by
   have hvl : (zHp d.args a).length = xs.length := by rw [hl]; exact zIl _ _ _ _
   refine ⟨ρ, Z, ⟨by simp [zOQ, hvl], fun t u hu => ?_⟩, hr, ⟨Gr.refl w, fun _ _ _ => rfl, fun o p x b e1 e2 e3 => .inr ⟨o, p, x, e1, e2, e3⟩, fun b h => .inl h, fun i p n e => ?_⟩, rfl⟩
   ·simp only [zOQ] at hu
    by_cases ht : t < (zHp d.args a).length
    ·rw [List.getElem?_append_left ht] at hu
     have hx : xs[t]? = some xs[t] := List.getElem?_eq_getElem (by omega)
     have := hc t u _ hu hx
     rw [Array.getD_eq_getD_getElem?, Array.getElem?_append_left (by simp; omega)]
     simpa [hx] using this
    ·rw [List.getElem?_append_right (by omega), List.getElem?_replicate] at hu
     split at hu
     ·cases hu; exact .any _
     ·cases hu
   ·obtain ⟨h1, h2, h3⟩ := hNr i p n e
    obtain ⟨cs, k1, k2⟩ := zOx d.args a (yA d.args) i _ (List.getElem?_eq_getElem (by rw [xx]; exact h1))
    refine ⟨h2, ⟨cs, ?_, ?_⟩, zB7.same rfl⟩
    ·show (yz d.args a (yA d.args) ++ zEU d.args a)[i]? = _
     rw [List.getElem?_append_left (by rw [xx]; exact h1), ← k1]; exact List.getElem?_eq_getElem _
    ·rw [h3] at k2; exact (by simpa using k2 : n = cs.length).symm
  refine hW a (zdn (FnD.ok_one hok) hr hl hc htot) hpre w N hNs _ w hrel _ fun e s' a' w' kf hy k3 => ?_
  obtain ⟨ρf, Z1, r1, r2, r3, r4⟩ := k3
  obtain ⟨y, hFy⟩ : ∃ y, d.F a = y := ⟨_, rfl⟩
  rw [hFy] at hy
  simp only [zgv, Option.bind_eq_some_iff] at hy
  obtain ⟨rvs, hy1, hy2⟩ := hy
  obtain ⟨ys, m1, m2, m3⟩ := zS0 (P := P) r1 r2 hy1
  let m := d.res.length - yA d.res
  have hle : yA d.res ≤ d.res.length := by
   have : ∀ l : List AD, yA l ≤ l.length := by
    intro l
    induction l with
    | nil => exact Nat.le_refl _
    | cons x l ih =>
     have : x.r ≤ 1 := by cases x <;> simp [AD.r]
     simp only [yA, List.length_cons]; omega
   exact this _
  have hdrop : yA (d.res.drop m) = yA d.res := by have := zg2 d.res m; have h0 : yA (d.res.take m) = 0 := ok3; omega
  have hdl : (d.res.drop m).length = yA d.res := by simp only [List.length_drop, m]; omega
  obtain ⟨os, hos⟩ := znF (zdW (d.res.drop m) (by rw [hdrop, hdl]))
  have hosl : os.length = yA d.res := by rw [← hdl, hos, List.length_map]
  have hrv : rvs.length = m := by
   have h0 : (rvs ++ zF8 (yA d.res)).length = d.res.length := by
    unfold zUs zOv at hy2
    simp only [Option.map_eq_some_iff] at hy2
    obtain ⟨z, hz, _⟩ := hy2
    split at hz
    ·split at hz
     ·rename_i b hrd; exact zRv hrd
     ·cases hz
    ·cases hz
   simp only [List.length_append, zF8, List.length_map, List.length_range] at h0
   omega
  have hres : d.res = d.res.take m ++ os.map AD.ref := by rw [← hos, List.take_append_drop]
  have hbx : vz d.res (rvs ++ zF8 (yA d.res)) = List.range' 0 (yA d.res) ∧ zAD d.res (rvs ++ zF8 (yA d.res)) = List.replicate (yA d.res) 0 := by
   have g := zRR (d.res.take m) rvs (zjZ ok3)
   have g2 := zQP os 0
   rw [hosl, ← zV2] at g2
   have hl' : rvs.length = (d.res.take m).length := by rw [hrv, List.length_take]; omega
   generalize hq : yA d.res = q at g2 ⊢
   rw [hres, zSK _ _ _ _ hl', zOl _ _ _ _ hl', g.1, g.2, g2.1, g2.2]
   exact ⟨rfl, rfl⟩
  have hat : ∀ o, o < yA d.res → (vz d.res (rvs ++ zF8 (yA d.res)))[o]? = some o ∧ (zAD d.res (rvs ++ zF8 (yA d.res)))[o]? = some 0 := fun o ho => by
   rw [hbx.1, hbx.2]
   exact ⟨by rw [List.getElem?_range' ho]; simp, by rw [List.getElem?_replicate, if_pos ho]⟩
  have hNl : N.r.length = yA d.args := by simp [N]
  have hzs : ∀ i, i < yA d.args → ∃ p, N.r[i]? = some (p, (zAW d.args).getD i 0) := fun i hi => ⟨(ρ i).getD ⟨0, undef, 0, zA2⟩, by simp [N, hi]⟩
  have hfr : ∀ i, i < yA d.args → ∃ p n, N.r[i]? = some (p, n) := fun i hi => by obtain ⟨p, e⟩ := hzs i hi; exact ⟨p, _, e⟩
  let zs : List Value := ys ++ (List.range (yA d.res)).map fun i => match ρf i with | some p => .pointer (some ⟨p.b, p.off + 0, none⟩) | none => undef
  have hcn : ∀ (i : Nat) (u : V) (z : Value), (rvs ++ zF8 (yA d.res))[i]? = some u → zs[i]? = some z → Cn ρf Z1 w' u z := by
   intro i u z hu hz
   simp only [zs] at hz
   by_cases hi : i < rvs.length
   ·rw [List.getElem?_append_left hi] at hu
    rw [List.getElem?_append_left (by omega)] at hz
    exact m2 i u z hu hz
   ·rw [List.getElem?_append_right (by omega)] at hu hz
    rw [m1] at hz
    have hj : i - rvs.length < yA d.res := by have := (List.getElem?_eq_some_iff.1 hu).1; simpa [zF8] using this
    simp only [zF8, List.getElem?_map, List.getElem?_range hj, Option.map_some, Option.some.injEq] at hu hz
    obtain ⟨p, n, e⟩ := hfr (i - rvs.length) (by omega)
    have hp := (r3.refs _ p n e).1
    rw [hp] at hz
    subst hu hz
    exact .ptr hp
  obtain ⟨ρ2, Z2, n1, n2, n3, n4, _⟩ := zdS r2 r3 (by simp [zs, zF8, m1]) hcn hy2 (fun o off hm => by
   have := List.all_eq_true.1 ok1 _ hm; simp [zMo] at this) (fun i hi => hat i (by omega)) (by rw [hNl, hNs, ← ok5, List.take_of_length_le (by rw [zIh]; omega)])
  have hvals : ∀ (i : Nat) (u : V) (z : Value), (zIM d.res y (yA d.res))[i]? = some u → ys[i]? = some z → Cn ρ2 Z2 w' u z := by
   intro i u z hu hz
   simp only [zIM, List.getElem?_take] at hu
   split at hu
   ·refine n2 i u z hu ?_
    simp only [zs]
    rw [List.getElem?_append_left (List.getElem?_eq_some_iff.1 hz).1]; exact hz
   ·cases hu
  have hvl : ys.length = (zIM d.res y (yA d.res)).length := by
   simp only [zIM, List.length_take, zIl]; omega
  have post : a'.defers = [] ∧ ∃ v', (results fn a'.tmps).run P w' = .ok v' w' ∧ (fun (e : Ending) (w' : World) => ∃ x ρ' Z', e = .returned x ∧ Gr w w' ∧
   (∀ b, b < w.heap.size → (∀ (o : Nat) (p : Pl) (y : Ob), ρ o = some p → (xA d.args a)[o]? = some y → ¬ Own y p b) → w'.heap[b]? = w.heap[b]?) ∧
   (∀ b, Z' false b → Z false b ∨ w.heap.size ≤ b ∨ ∃ (o : Nat) (p : Pl) (y : Ob), ρ o = some p ∧ (xA d.args a)[o]? = some y ∧ Own y p b) ∧
   HR ρ' Z' (xA d.res (d.F a)) w' ∧
   (∀ (o : Nat) (p : Pl) (y : Ob) (b : Nat), ρ' o = some p → (xA d.res (d.F a))[o]? = some y → Own y p b → w.heap.size ≤ b ∨ ∃ (o0 : Nat) (p0 : Pl) (y0 : Ob), ρ o0 = some p0 ∧ (xA d.args a)[o0]? = some y0 ∧ Own y0 p0 b) ∧
   (∀ i, i < yA d.args → ρ' i = ρ i) ∧
   (∀ (i : Nat) (p : Pl) (n : Nat), i < yA d.args → ρ i = some p → (zAW d.args)[i]? = some n → zB7 p.b p.off (p.off + n) w w') ∧
   Cn ρ' Z' w' (zci (zIM d.res (d.F a) (yA d.res))) x) (.returned v') w' := by
   rw [hFy]
   refine ⟨r4, _, m3, _, ρ2, Z2, rfl, n4.size, fun b hb hne => n4.same b hb ?_, n4.zs, n1, n4.own, fun i hi => ?_, fun i p n hi hp hs => ?_, zmc hvl hvals⟩
   ·rintro ⟨o, p, y, g1, g2, g3⟩; exact hne o p y g1 g2 g3
   ·obtain ⟨p, n, e⟩ := hfr i hi
    rw [(n4.refs i p n e).1, (hNr i p n e).2.1]
   ·obtain ⟨p', n', e⟩ := hfr i hi
    obtain ⟨_, h2, h3⟩ := hNr i p' n' e
    rw [hp] at h2; cases h2
    rw [hs] at h3; cases h3
    exact (n4.refs i p n e).2.2
  cases e with
  | nrm => exact post
  | ret => exact post
  | exit id => cases kf
theorem znO {E : Env} (hE : zHu P E) (hD : ∀ w0 Z0, zZG P E w0 Z0) {f : Nat} {fn : Func} {c : Code} (hf : P.funcs[f]? = some fn) (hb : fn.body = some c) (hn : (fn.name == "runtime.NumGoroutine") = false) (d : FnD) (hok : d.ok = true)
  (hL : ∀ w0 (Z0 : En), Z0.r.map Prod.snd = zAW d.args → zGg P E w0 Z0 c 0) (hT : ∀ a, xG d.args a → okP (d.pre a) → OkT (evC P E (mdT (Args d.res)) c 0 (zOQ fn (zHp d.args a) (xA d.args a)) (kT P fn d)) (d.F a)) : FnOk P f d :=
 zl4 hf hb hn d hok fun a hw hpre w0 Z0 hrs act w hrel Q hQ => by
  obtain ⟨ho, hv⟩ := hT a hw hpre
  refine zOf hE (hD w0 Z0) c 0 _ (fun e s => (kT P fn d e s).ok) (hL w0 Z0 hrs) (zcZ c 0 _ _ _ (fun _ _ h => h) ho) act w hrel Q fun e s' a' w' k1 k2 k3 => ?_
  have k2 := k2 (Args d.res) fun e s => (kT P fn d e s).val
  rw [← zWk, hv] at k2
  obtain ⟨y, kf, hy, h3⟩ := zl1 k1
  exact hQ e s' a' w' kf (by rw [hy, k2, h3]) k3
end
structure Con (P : Program) where
 f : Nat
 d : FnD
 ok : FnOk P f d
def ziY {P : Program} : List (Con P) → Nat → List FnD
 | [], _ => []
 | c :: cs, f => if c.f = f then c.d :: ziY cs f else ziY cs f
def env {P : Program} (g : Gv) (cs : List (Con P)) (ls : List LB) : Env := ⟨g, ziY cs, fun n => (ls[n]?).map LB.lp⟩
section
variable {P : Program} {w0 : World} {Z0 : En}
theorem zk6 : ∀ (cs : List (Con P)) (f : Nat) (d : FnD), d ∈ ziY cs f → FnOk P f d := by
 intro cs
 induction cs with
 | nil => intro f d h; cases h
 | cons c cs ih =>
  intro f d h
  simp only [ziY] at h
  split at h
  ·rename_i e
   subst e
   rcases List.mem_cons.1 h with rfl | h
   ·exact c.ok
   ·exact ih _ d h
  ·exact ih f d h
theorem zmV (g : Gv) (cs : List (Con P)) (ls : List LB) : zHu P (env g cs ls) := fun f d h => zk6 cs f d h
structure LOk (P : Program) (E : Env) (rs : List Nat) (c : Code) (n : Nat) (l : LB) : Prop where
 v : ∀ x, evC P E (mdT (St l.r.T l.d.T)) (zEx c n) (n + 1) (l.d.mk' x) l.kT = l.T x
 d : (zUE rs l.pos && l.d.ok rs) = true
 r : l.r.ok rs = true
def zjl (P : Program) (E : Env) (rs : List Nat) (c : Code) : Nat → List LB → Prop
 | _, [] => True
 | n, l :: ls => LOk P E rs c n l ∧ zjl P E rs c (n + 1) ls
theorem zjl.get {E : Env} {rs : List Nat} {c : Code} : ∀ (ls : List LB) (n : Nat), zjl P E rs c n ls → ∀ i l, ls[i]? = some l → LOk P E rs c (n + i) l := by
 intro ls
 induction ls with
 | nil => intro n _ i l h; simp at h
 | cons l0 ls ih =>
  intro n h i l hl
  cases i with
  | zero => simp at hl; subst hl; exact h.1
  | succ i =>
   have := ih (n + 1) h.2 i l (by simpa using hl)
   rwa [show n + (i + 1) = n + 1 + i by omega]
theorem zjw {E : Env} (hE : zHu P E) (hD : zZG P E w0 Z0) {rs : List Nat} (hrs : Z0.r.map Prod.snd = rs) : ∀ (c : Code) (n : Nat), (∀ i, i < xU c → ∀ lp, E.lp (n + i) = some lp → ∃ l : LB, lp = l.lp ∧ (zUE rs l.pos && l.d.ok rs) = true ∧ l.r.ok rs = true ∧ (∀ x, evC P E (mdT (St l.r.T l.d.T)) (zEx c i) (n + i + 1) (l.d.mk' x) l.kT = l.T x)) → zGg P E w0 Z0 c n := by
 intro c
 induction c with
 | seq a b iha ihb =>
  intro n h
  refine ⟨iha n fun i hi lp hlp => ?_, ihb _ fun i hi lp hlp => ?_⟩
  ·obtain ⟨l, h1, d1, d2, h2⟩ := h i (by simp only [xU]; omega) lp hlp
   simp only [zEx, if_pos hi] at h2
   exact ⟨l, h1, d1, d2, h2⟩
  ·obtain ⟨l, h1, d1, d2, h2⟩ := h (xU a + i) (by simp only [xU]; omega) lp (by rw [← Nat.add_assoc]; exact hlp)
   have e : ¬ (xU a + i < xU a) := by omega
   simp only [zEx, if_neg e, Nat.add_sub_cancel_left, ← Nat.add_assoc] at h2
   exact ⟨l, h1, d1, d2, h2⟩
 | cond x a b iha ihb =>
  intro n h
  refine ⟨iha n fun i hi lp hlp => ?_, ihb _ fun i hi lp hlp => ?_⟩
  ·obtain ⟨l, h1, d1, d2, h2⟩ := h i (by simp only [xU]; omega) lp hlp
   simp only [zEx, if_pos hi] at h2
   exact ⟨l, h1, d1, d2, h2⟩
  ·obtain ⟨l, h1, d1, d2, h2⟩ := h (xU a + i) (by simp only [xU]; omega) lp (by rw [← Nat.add_assoc]; exact hlp)
   have e : ¬ (xU a + i < xU a) := by omega
   simp only [zEx, if_neg e, Nat.add_sub_cancel_left, ← Nat.add_assoc] at h2
   exact ⟨l, h1, d1, d2, h2⟩
 | block id c ih => intro n h; exact ih n fun i hi lp hlp => h i hi lp hlp
 | loop c ih =>
  intro n h lp hlp
  obtain ⟨l, h1, d1, d2, h2⟩ := h 0 (by simp only [xU]; omega) lp hlp
  subst h1
  rw [Bool.and_eq_true] at d1
  refine LB.ok hE hD (ih (n + 1) fun i hi lp hlp => ?_) l hrs d1.1 d1.2 d2 h2
  obtain ⟨l, h1, d1, d2, h2⟩ := h (i + 1) (by simp only [xU]; omega) lp (by rw [show n + (i + 1) = n + 1 + i by omega]; exact hlp)
  simp only [zEx, show n + (i + 1) = n + 1 + i by omega] at h2
  exact ⟨l, h1, d1, d2, h2⟩
 | _ => intro n _; trivial
theorem zbN (hm : P.follows .mixedOrders = true) (g : Gv) (cs : List (Con P)) (ls : List LB) {f : Nat} {fn : Func} {c : Code} (hf : P.funcs[f]? = some fn) (hb : fn.body = some c) (hn : (fn.name == "runtime.NumGoroutine") = false) (d : FnD) (hok : d.ok = true)
  (hL : zjl P (env g cs ls) (zAW d.args) c 0 ls) (hT : ∀ a, xG d.args a → okP (d.pre a) → OkT (evC P (env g cs ls) (mdT (Args d.res)) c 0 (zOQ fn (zHp d.args a) (xA d.args a)) (kT P fn d)) (d.F a)) : FnOk P f d := by
 have hE := zmV g cs ls
 refine znO hE (fun w0 Z0 => zi0 hE hm w0 Z0) hf hb hn d hok (fun w0 Z0 hrs => zjw hE (zi0 hE hm w0 Z0) hrs c 0 fun i _ lp hlp => ?_) hT
 simp only [env, Nat.zero_add, Option.map_eq_some_iff] at hlp
 obtain ⟨l, h1, rfl⟩ := hlp
 have h2 := hL.get ls 0 i l h1
 rw [Nat.zero_add] at h2
 exact ⟨l, rfl, h2.d, h2.r, by rw [Nat.zero_add]; exact h2.v⟩
end
theorem znP {P : Program} {f : Nat} {d : FnD} (hok : d.ok = true) {fn : Func} (hf : P.funcs[f]? = some fn) {c : Code} (hb : fn.body = some c) (hn : (fn.name == "runtime.NumGoroutine") = false) (h : ∀ a, ¬ okP (d.pre a)) : FnOk P f d where
 ok := hok
 enter args w := by
  unfold callFunc
  simp only [program, Sem.run_bind, Sem.run, Result.andThen_ok, hf, hn, hb, Option.isNone_some, Bool.false_eq_true, if_false, Sem.run_pure]
 call _ _ _ a _ _ _ _ _ hp := absurd hp (h a)
def g0 : Gv := ⟨false, fun _ => none⟩
end
end Go.Proofs.YtipbfgknaihifaaGreat
namespace Go.Proofs.YtipbfgknaihifaaGreat
open Go.RowKit
section
variable {P : Program} {E : Env} {w0 : World} {Z0 : En}
theorem zQw (hE : zHu P E) {ops : Array Oper} {Q : Exit → Act → World → Prop} {o : Oper} {rest : List Oper} (hg : o.guard = none) {s : S} {q : Nat} {ok : Option Prop} {v : V} {H' : List Ob} (h : opV P E s.ev s.h o.op = .mk q ok v H') (hok : okP ok)
  {a : Act} {w : World} (hr : Rel w0 Z0 s a w) (hK : ∀ a' w', Rel w0 Z0 ((s.upd q H').put o.dst v) a' w' → wpList P ops Q rest a' w') : wpList P ops Q (o :: rest) a w := by
 unfold wpList
 rw [if_pos (by simp [Region.wanted, hg])]
 exact .inl (zkL hE h hok hr fun x w' hr' => hK _ w' hr')
theorem zjx {ops : Array Oper} {Q : Exit → Act → World → Prop} {o : Oper} {rest : List Oper} (hg : o.guard = none) {t e u : TypeId} {r : Tmp} (ho : o.op = .binOp .eql t (.tmp r) (.const (.slice none 0 0)) u) (ht : P.underlying t = some (.slice e))
  {s : S} {q : Nat} {τ : Ty} {l : List (El τ)} (hx : s.r[r]? = some (.ext q τ l)) {a : Act} {w : World} (hr : Rel w0 Z0 s a w)
  (hK : ∀ (b : Bool) a' w', (b = true → l = []) → Rel w0 Z0 (s.put o.dst (.c (.bool b))) a' w' → wpList P ops Q rest a' w') : wpList P ops Q (o :: rest) a w := by
 obtain ⟨ρ, Z, h1, h2, h3, h4⟩ := hr
 have hv := h1.2 r _ hx
 obtain ⟨ad, c, b, off, ys, hval, _, g1, _, g3, _, _, _⟩ := hv.ext_inv
 have hval : a.tmps.getD r undef = .slice ad l.length c := hval
 unfold wpList
 rw [if_pos (by simp [Region.wanted, hg])]
 left
 unfold Oper.wp
 have hrun : (execOp a.eval o).run P w = .ok (.value (.bool ad.isNone)) w := by
  have e1 := Lib.run_eql_slice_nil (P := P) w t e ad l.length c 0 0 ht
  have e0 : a.eval (.tmp r) = .slice ad l.length c := hval
  have e2 : a.eval (.const (.slice none 0 0)) = .slice none 0 0 := rfl
  simp only [execOp, ho, e0, e2, Sem.run_bind, eqGuard, Sem.run_pure, Bool.not_true, Bool.false_eq_true, if_false, Result.andThen_ok, e1]
 rw [hrun]
 refine hK ad.isNone _ w (fun h => ?_) ⟨ρ, Z, ?_, by rw [S.put_h]; exact h2, by rw [S.put_h]; exact h3, by rw [zD5]; exact h4⟩
 ·have := g3 (by simpa using h)
  exact List.eq_nil_of_length_eq_zero (by omega)
 ·exact h1.put o.dst (v := .c (.bool ad.isNone)) (.c _ trivial) s.h
end
def zWq (t : TypeId) (p3 : String) : Code :=
 .seq (.region 3 #[⟨some 5, .buildSlice t 0 #[], t, p3, #[], none⟩, ⟨some 6, .move (.tmp 0), t, p3, #[], none⟩,
   ⟨some 7, .call { callee := .builtin .append, args := #[.tmp 5, .tmp 6], argTypes := #[t, t] }, t, p3, #[⟨0, .data⟩, ⟨1, .data⟩], none⟩,
   ⟨some 2, .assign (.tmp 7), t, p3, #[⟨2, .data⟩, ⟨2, .chain⟩, ⟨0, .phase⟩, ⟨1, .phase⟩, ⟨2, .phase⟩], none⟩] false) .ret
def zid (t u : TypeId) (p0 p1 p2 p3 : String) : Code :=
 .seq (.region 0 #[⟨some 2, .assign (.const (.slice none 0 0)), t, p0, #[], none⟩] false)
  (.seq (.seq (.region 1 #[⟨some 3, .move (.tmp 0), t, p1, #[], none⟩, ⟨some 4, .binOp .eql t (.tmp 3) (.const (.slice none 0 0)) t, u, p1, #[⟨0, .data⟩], none⟩] false)
   (.cond (.tmp 4) (.seq (.region 2 #[⟨some 2, .assign (.const (.slice none 0 0)), t, p2, #[], none⟩] false) .ret) .skip))
  (zWq t p3))
@[reducible] def zHO (τ : Ty) (pr : Bool) : FnD := ⟨[.val false (.d (.lst τ))], [.val false (.o (.d τ))], zE4 τ, fun a => bif pr then some ((a.1.length : Int) ≤ 16777216) else none, fun a => (a.1, ())⟩
def zVt {τ : Ty} (l : List (El τ)) (b : Bool) : S := { r := [.ext 0 τ l, .any, .c (.slice none 0 0), .ext 0 τ l, .c (.bool b), .any, .any, .any], h := [] }
@[reducible] def zjf : Env := ⟨⟨false, fun _ => none⟩, fun _ => [], fun _ => none⟩
theorem zQ3 {P : Program} (hm : P.follows .mixedOrders = true) {f : Nat} {fn : Func} {t u e : TypeId} {p0 p1 p2 p3 : String} (hf : P.funcs[f]? = some fn) (hb : fn.body = some (zid t u p0 p1 p2 p3)) (hn : (fn.name == "runtime.NumGoroutine") = false) (hk : fn.ntmps = 8)
  (hres : fn.results = #[.tmp 2]) (τ : Ty) (pr : Bool) (hu : P.underlying t = some (.slice e)) (h1 : ∀ (l : List (El τ)), evC P zjf (mdT (Args (zHO τ pr).res)) (zWq t p3) 0 (zVt l false) (kT P fn (zHO τ pr)) = .ck ((l.length : Int) ≤ 16777216) (.v (l, ()))) (hl : pr = true ∨ lim τ = 16777216) : FnOk P f (zHO τ pr) := by
 have hE : zHu P zjf := fun f d h => by cases h
 have hD := fun w0 Z0 => zi0 hE hm w0 Z0
 refine zl4 hf hb hn (zHO τ pr) (by cases e : zE4 τ <;> simp [FnD.ok, AD.one1, zMo, zmT, yA, zAW, AD.szs, AD.r, zc, zA7, e]) fun a hw hpre w0 Z0 hrs act w hrel Q hQ => ?_
 obtain ⟨l, ⟨⟩⟩ := a
 have hlen : (l.length : Int) ≤ 16777216 := by
  rcases hl with rfl | hl
  ·exact hpre
  ·have : l.length ≤ lim τ := hw.1.1
   omega
 have hs0 : zOQ fn (zHp (zHO τ pr).args (l, ())) (xA (zHO τ pr).args (l, ())) = { r := [.ext 0 τ l, .any, .any, .any, .any, .any, .any, .any], h := [] } := by
  unfold zOQ; rw [hk]; rfl
 rw [hs0] at hrel
 unfold zid
 refine wp_seq (wp_region_list (zQw hE rfl (q := 0) (ok := none) (v := .c (.slice none 0 0)) (H' := []) rfl trivial hrel fun a1 w1 r1 => ?_))
 refine wp_seq (wp_seq (wp_region_list (zQw hE rfl (q := 0) (ok := none) (v := .ext 0 τ l) (H' := []) rfl trivial r1 fun a2 w2 r2 => ?_)))
 refine zjx rfl rfl hu (s := { r := [.ext 0 τ l, .any, .c (.slice none 0 0), .ext 0 τ l, .any, .any, .any, .any], h := [] }) (q := 0) (τ := τ) (l := l) rfl r2 fun b a3 w3 hbl r3 => ?_
 have r3 : Rel w0 Z0 (zVt l b) a3 w3 := r3
 have hcase : a3.eval (.tmp 4) = .bool b := by
  obtain ⟨ρ, Z, g1, _⟩ := r3
  exact vG (g1.ev (s := zVt l b) (.tmp 4))
 cases b with
 | true =>
  refine wp_cond_true hcase (wp_seq (wp_region_list (zQw hE rfl (q := 0) (ok := none) (v := .c (.slice none 0 0)) (H' := []) rfl trivial r3 fun a4 w4 r4 => wp_ret (hQ .ret _ a4 w4 rfl ?_ r4))))
  have hl := hbl rfl
  subst hl
  unfold zgv
  rw [hres]; rfl
 | false =>
  refine wp_cond_false hcase (wp_skip ?_)
  show (zWq t p3).wp P Q a3 w3
  refine zOf hE (hD w0 Z0) (zWq t p3) 0 (zVt l false) (fun e s => (kT P fn (zHO τ pr) e s).ok) ⟨trivial, trivial⟩ (zcZ _ _ _ _ _ (fun _ _ h => h) (by rw [h1 l]; exact ⟨hlen, trivial⟩)) a3 w3 r3 Q fun e s' a' w' k1 k2 k3 => ?_
  have k2 := k2 _ fun e s => (kT P fn (zHO τ pr) e s).val
  rw [← zWk, h1 l] at k2
  obtain ⟨y, kf, hy, h3⟩ := zl1 k1
  exact hQ e s' a' w' kf (hy.trans (congrArg some (h3.symm.trans k2.symm))) k3
end Go.Proofs.YtipbfgknaihifaaGreat
namespace Go.Proofs.YtipbfgknaihifaaGreat
open Go.RowKit
theorem Sf.of {R σ : Type} {wd : σ → Prop} {b : σ → St R σ} {p : σ → Prop} (I : σ → Prop) (μ : σ → Nat) (h : ∀ x, I x → wd x → p x ∧ ∀ y, b x = .go y → I y ∧ μ y < μ x) : ∀ (n : Nat) (x : σ), I x → μ x < n → Sf wd b p n x := by
 intro n
 induction n with
 | zero => intro x _ h; omega
 | succ n ih =>
  intro x hx hm hw
  obtain ⟨h1, h2⟩ := h x hx hw
  exact ⟨h1, fun y hy => ih y (h2 y hy).1 (by have := (h2 y hy).2; omega)⟩
theorem LB.safe {l : LB} (I : l.d.T → Prop) (μ : l.d.T → Nat) (h : ∀ x, I x → xG l.d.ds x → l.p x ∧ ∀ y, l.b x = .go y → I y ∧ μ y < μ x) {x : l.d.T} (hx : I x) (hm : μ x < zAi) : l.sf x := Sf.of I μ h zAi x hx hm
end Go.Proofs.YtipbfgknaihifaaGreat
namespace Go.Proofs.YtipbfgknaihifaaGreat
open Go.RowKit
section
variable {w w' w1 w2 : World} {Z Z' Z1 Z2 : Zs} {ρ : ye} {H : List Ob}
end
end Go.Proofs.YtipbfgknaihifaaGreat
namespace Go.Proofs.YtipbfgknaihifaaGreat
open Go.RowKit
section
variable {P : Program} {ρ : ye} {H : List Ob}
end
end Go.Proofs.YtipbfgknaihifaaGreat
namespace Go.Proofs.YtipbfgknaihifaaGreat
open Go.RowKit
def St.all {R σ : Type} (A : R → Prop) (B G : σ → Prop) : St R σ → Prop
 | .ret r => A r
 | .brk t => B t
 | .go y => G y
section
variable {R σ X : Type} {A : R → Prop} {B G : σ → Prop}
theorem zKS {r : R} (h : A r) : St.all A B G (.ret r) := h
theorem zCd {t : σ} (h : B t) : St.all A B G (.brk t) := h
theorem yg {y : σ} (h : G y) : St.all A B G (.go y) := h
theorem zj {c : Bool} {x y : St R σ} (h1 : c = true → St.all A B G x) (h2 : c = false → St.all A B G y) : St.all A B G (bif c then x else y) := by
 cases c with
 | true => exact h1 rfl
 | false => exact h2 rfl
theorem zP7 {R' σ' : Type} {s : St R' σ'} {f : R' → St R σ} {g : σ' → St R σ} {A' : R' → Prop} {B' : σ' → Prop} (h : s.all A' B' B') (h1 : ∀ r, A' r → St.all A B G (f r)) (h2 : ∀ t, B' t → St.all A B G (g t)) : St.all A B G (s.fin f g) := by
 cases s with
 | ret r => exact h1 r h
 | brk t => exact h2 t h
 | go t => exact h2 t h
theorem zI {p : Prop} {t : Tr X} (h1 : p) (h2 : t.ok) : (Tr.ck p t).ok := ⟨h1, h2⟩
theorem zp {c : Bool} {x y : Tr X} (h1 : c = true → x.ok) (h2 : c = false → y.ok) : (bif c then x else y : Tr _).ok := by
 cases c with
 | true => exact h1 rfl
 | false => exact h2 rfl
theorem zIQ {R' σ' : Type} {s : St R' σ'} {f : R' → Tr X} {g : σ' → Tr X} {A' : R' → Prop} {B' : σ' → Prop} (h : s.all A' B' B') (h1 : ∀ r, A' r → (f r).ok) (h2 : ∀ t, B' t → (g t).ok) : (s.fin f g).ok := by
 cases s with
 | ret r => exact h1 r h
 | brk t => exact h2 t h
 | go t => exact h2 t h
theorem zZY (s : St R σ) : s.all (fun _ => True) (fun _ => True) (fun _ => True) := by cases s <;> trivial
end
theorem Sf.pre {R σ : Type} {wd : σ → Prop} {b : σ → St R σ} {p : σ → Prop} : ∀ {n : Nat} {x : σ}, 0 < n → (wd x → Sf wd b p n x) → Sf wd b p n x
 | 0, _, h, _ => absurd h (Nat.lt_irrefl 0)
 | _ + 1, _, _, h => fun hw => h hw hw
theorem LB.safe' {l : LB} (I : l.d.T → Prop) (μ : l.d.T → Nat) (h : ∀ x, I x → xG l.d.ds x → l.p x ∧ (l.b x).all (fun _ => True) (fun _ => True) (fun y => I y ∧ μ y < μ x)) {x : l.d.T} (hx : I x) (hm : xG l.d.ds x → μ x < zAi) : l.sf x :=
 Sf.pre (by unfold zAi; decide) fun hw => LB.safe I μ (fun x hx hw => ⟨(h x hx hw).1, fun y hy => by have := (h x hx hw).2; rw [hy] at this; exact this⟩) hx (hm hw)
theorem LB.post {l : LB} (I : l.d.T → Prop) {A : l.r.T → Prop} (h : ∀ x, I x → (l.b x).all A I I) {x : l.d.T} (hx : I x) : (l.run x).all A I I := by
 have : ∀ (n : Nat) (x : l.d.T), I x → (whl l.b n x).all A I I := by
  intro n
  induction n with
  | zero => intro x hx; exact hx
  | succ n ih =>
   intro x hx
   have hb := h x hx
   cases e : l.b x with
   | ret r => rw [e] at hb; simp only [whl, e]; exact hb
   | brk t => rw [e] at hb; simp only [whl, e]; exact hb
   | go y => rw [e] at hb; simp only [whl, e]; exact ih y hb
 unfold LB.run
 split
 ·exact this _ x hx
 ·exact hx
theorem vQ {b : Bool} (h : (!b) = false) : b = true := by cases b <;> simp_all
theorem zdY {a b : Int} (h : (a != b) = true) : a ≠ b := by simpa using h
theorem zAp {a b : Int} (h : (a != b) = false) : a = b := by simpa using h
theorem zIe {a b : Int} (h : (a == b) = true) : a = b := by simpa using h
theorem zIw {a b : Int} (h : (a == b) = false) : a ≠ b := by simpa using h
theorem zE {α : Type} {l : List α} {n : Nat} (h : l.length ≤ n) : (l.length : Int) ≤ (n : Int) := Int.ofNat_le.2 h
theorem zNd {s : ByteArray} (h : s.size ≤ 9223372036854775807) : (s.size : Int) ≤ 9223372036854775807 := Int.ofNat_le.2 h
theorem ink {n : Int} (h1 : -9223372036854775808 ≤ n) (h2 : n ≤ 9223372036854775807) : InK .i64 n := by
 unfold InK IntKind.wrap
 simp [IntKind.bits, IntKind.signed]
 omega
theorem zw {n : Int} (h : InK .i64 n) : -9223372036854775808 ≤ n ∧ n ≤ 9223372036854775807 := by
 unfold InK IntKind.wrap at h
 simp [IntKind.bits, IntKind.signed] at h
 omega
theorem zdw {n : Int} (h : InK .u8 n) : 0 ≤ n ∧ n ≤ 255 := by
 unfold InK IntKind.wrap at h
 simp [IntKind.bits, IntKind.signed] at h
 omega
theorem zlN {t : Ty} {l : List (El t)} {i : Int} (h : ∀ x ∈ l, Wd t x) (hi : 0 ≤ i ∧ i < (l.length : Nat)) : Wd t (zB t l i) := by
 have hlt : i.toNat < l.length := by omega
 have : zB t l i = l[i.toNat] := by
  unfold zB
  rw [List.getD_eq_getElem?_getD, List.getElem?_eq_getElem hlt]; rfl
 rw [this]
 exact h _ (List.getElem_mem hlt)
theorem znW (s : ByteArray) (i : Int) : (bt s i).toNat ≤ 255 := by have := (bt s i).toNat_lt; omega
theorem z4 {t : Ty} {l : List (El t)} {i : Int} (hi : 0 ≤ i ∧ i < (l.length : Nat)) : zB t l i ∈ l := by
 have hlt : i.toNat < l.length := by omega
 have : zB t l i = l[i.toNat] := by
  unfold zB
  rw [List.getD_eq_getElem?_getD, List.getElem?_eq_getElem hlt]; rfl
 rw [this]
 exact List.getElem_mem hlt
end Go.Proofs.YtipbfgknaihifaaGreat
namespace Go.Proofs.YtipbfgknaihifaaGreat
open Go.RowKit
theorem zG {t : Ty} {l : List (El t)} {i : Nat} {x : El t} (h : l[i]? = some x) : zB t l (i : Int) = x := by
 show l.getD (Int.toNat (i : Int)) (dflt t) = x
 rw [Int.toNat_natCast, List.getD_eq_getElem?_getD, h]; rfl
theorem zUf {s : ByteArray} {i : Nat} {x : UInt8} (h : s.data.toList[i]? = some x) : bt s (i : Int) = x := by
 show s.data.getD (Int.toNat (i : Int)) 0 = x
 rw [Int.toNat_natCast, Array.getD_eq_getD_getElem?]
 have : s.data[i]? = some x := by rw [← Array.getElem?_toList]; exact h
 rw [this]; rfl
theorem ltT {i n : Nat} (h : i < n) : decide ((i : Int) < ((n : Nat) : Int)) = true := decide_eq_true (by omega)
theorem xl (n : Nat) : decide ((n : Int) < ((n : Nat) : Int)) = false := decide_eq_false (by omega)
theorem LB.post3 {l : LB} (I : l.d.T → Prop) {A : l.r.T → Prop} {B : l.d.T → Prop} (h : ∀ x, I x → (l.b x).all A B I) (hI : ∀ x, I x → B x) {x : l.d.T} (hx : I x) : (l.run x).all A B B := by
 have : ∀ (n : Nat) (x : l.d.T), I x → (whl l.b n x).all A B B := by
  intro n
  induction n with
  | zero => intro x hx; exact hI x hx
  | succ n ih =>
   intro x hx
   have hb := h x hx
   cases e : l.b x with
   | ret r => rw [e] at hb; simp only [whl, e]; exact hb
   | brk t => rw [e] at hb; simp only [whl, e]; exact hb
   | go y => rw [e] at hb; simp only [whl, e]; exact ih y hb
 unfold LB.run
 split
 ·exact this _ x hx
 ·exact hI x hx
def zG3 {α σ R : Type} (f : Nat → α → σ → R ⊕ σ) : Nat → List α → σ → R ⊕ σ
 | _, [], s => .inr s
 | i, x :: xs, s => match f i x s with
  | .inl r => .inl r
  | .inr s' => zG3 f (i + 1) xs s'
def yt {α R : Type} (f : Nat → α → Option R) : Nat → List α → Option R
 | _, [] => none
 | i, x :: xs => match f i x with
  | some r => some r
  | none => yt f (i + 1) xs
def zd {α : Type} (p : Nat → α → Bool) : Nat → List α → Bool
 | _, [] => true
 | i, x :: xs => p i x && zd p (i + 1) xs
def zg {α σ : Type} (f : Nat → α → σ → σ) : Nat → List α → σ → σ
 | _, [], s => s
 | i, x :: xs, s => zg f (i + 1) xs (f i x s)
theorem LB.run_forS {l : LB} {α σ : Type} (L : List α) (emb : Nat → σ → l.d.T) (f : Nat → α → σ → l.r.T ⊕ σ)
  (hb : ∀ i x s, L[i]? = some x → l.b (emb i s) = match f i x s with | .inl r => .ret r | .inr s' => .go (emb (i + 1) s')) (he : ∀ s, l.b (emb L.length s) = .brk (emb L.length s)) (s : σ) :
  l.run (emb 0 s) = match zG3 f 0 L s with | .inl r => .ret r | .inr s' => .brk (emb L.length s') := by
 have key : ∀ (d i : Nat) (s : σ), i + d = L.length → whl l.b (d + 1) (emb i s) = match zG3 f i (L.drop i) s with | .inl r => .ret r | .inr s' => .brk (emb L.length s') := by
  intro d
  induction d with
  | zero =>
   intro i s h
   have : i = L.length := by omega
   subst this
   simp only [whl, he s, List.drop_length, zG3]
  | succ d ih =>
   intro i s h
   have hi : i < L.length := by omega
   rw [List.drop_eq_getElem_cons hi]
   have e := hb i _ s (List.getElem?_eq_getElem hi)
   simp only [zG3]
   rw [whl, e]
   cases f i L[i] s with
   | inl r => rfl
   | inr s' => exact ih (i + 1) s' (by omega)
 have k := key L.length 0 s (by omega)
 rw [List.drop_zero] at k
 have hd : (whl l.b (L.length + 1) (emb 0 s)).done = true := by
  rw [k]
  cases zG3 f 0 L s <;> rfl
 rw [LB.run_eq hd, k]
def zCY {R σ : Type} : Option R → σ → St R σ
 | some r, _ => .ret r
 | none, t => .brk t
theorem LB.run_scan {l : LB} {α : Type} {L : List α} (emb : Nat → l.d.T) {f : Nat → α → Option l.r.T}
  (hb : ∀ i x, L[i]? = some x → l.b (emb i) = match f i x with | some r => .ret r | none => .go (emb (i + 1))) (he : l.b (emb L.length) = .brk (emb L.length)) :
  l.run (emb 0) = zCY (yt f 0 L) (emb L.length) := by
 have := LB.run_forS (l := l) L (fun i (_ : Unit) => emb i) (fun i x _ => match f i x with | some r => .inl r | none => .inr ()) (fun i x s h => by
  rw [hb i x h]; cases f i x <;> rfl) (fun _ => he) ()
 rw [this]
 have e : ∀ i (K : List α), zG3 (fun i x (_ : Unit) => match f i x with | some r => (.inl r : l.r.T ⊕ Unit) | none => .inr ()) i K () = match yt f i K with | some r => .inl r | none => .inr () := by
  intro i K
  induction K generalizing i with
  | nil => rfl
  | cons x K ih =>
   simp only [zG3, yt]
   cases f i x with
   | some r => rfl
   | none => exact ih (i + 1)
 rw [e]
 cases yt f 0 L <;> rfl
theorem LB.run_all {l : LB} {α : Type} {L : List α} (emb : Nat → l.d.T) {p : Nat → α → Bool} {r : l.r.T}
  (hb : ∀ i x, L[i]? = some x → l.b (emb i) = bif p i x then .go (emb (i + 1)) else .ret r) (he : l.b (emb L.length) = .brk (emb L.length)) :
  l.run (emb 0) = bif zd p 0 L then .brk (emb L.length) else .ret r := by
 rw [LB.run_scan (L := L) emb (f := fun i x => bif p i x then none else some r) (fun i x h => by rw [hb i x h]; cases p i x <;> rfl) he]
 have e : ∀ i (K : List α), yt (fun i x => bif p i x then none else some r) i K = bif zd p i K then none else some r := by
  intro i K
  induction K generalizing i with
  | nil => rfl
  | cons x K ih =>
   simp only [yt, zd]
   cases p i x with
   | true => exact ih (i + 1)
   | false => rfl
 rw [e]
 cases zd p 0 L <;> rfl
theorem LB.run_fold {l : LB} {α σ : Type} {L : List α} (emb : Nat → σ → l.d.T) {f : Nat → α → σ → σ}
  (hb : ∀ i x s, L[i]? = some x → l.b (emb i s) = .go (emb (i + 1) (f i x s))) (he : ∀ s, l.b (emb L.length s) = .brk (emb L.length s)) {s : σ} :
  l.run (emb 0 s) = .brk (emb L.length (zg f 0 L s)) := by
 rw [LB.run_forS L emb (fun i x s => .inr (f i x s)) (fun i x s h => hb i x s h) he s]
 have e : ∀ i (K : List α) (s : σ), zG3 (fun i x s => (.inr (f i x s) : l.r.T ⊕ σ)) i K s = .inr (zg f i K s) := by
  intro i K
  induction K generalizing i with
  | nil => intro s; rfl
  | cons x K ih => intro s; simp only [zG3, zg]; exact ih (i + 1) _
 rw [e]
theorem zcJ {α : Type} {p q : Nat → α → Bool} : ∀ {L : List α} {k : Nat}, (∀ i x, L[i]? = some x → p (k + i) x = q (k + i) x) → zd p k L = zd q k L
 | [], _, _ => rfl
 | x :: L, k, h => by
  simp only [zd]
  have h0 : p k x = q k x := h 0 x rfl
  rw [h0, zcJ (p := p) (q := q) (L := L) (k := k + 1) fun i y hy => by
   have := h (i + 1) y (by simpa using hy)
   rwa [show k + 1 + i = k + (i + 1) by omega]]
theorem zr {α : Type} {p : Nat → α → Bool} : ∀ {L : List α} {k : Nat}, zd p k L = true ↔ ∀ i x, L[i]? = some x → p (k + i) x = true
 | [], _ => by simp [zd]
 | x :: L, k => by
  simp only [zd, Bool.and_eq_true]
  rw [zr (L := L) (k := k + 1)]
  constructor
  ·rintro ⟨h1, h2⟩ i y hy
   cases i with
   | zero => simp at hy; subst hy; exact h1
   | succ i => have := h2 i y (by simpa using hy); rwa [show k + (i + 1) = k + 1 + i by omega]
  ·intro h
   exact ⟨h 0 x rfl, fun i y hy => by have := h (i + 1) y (by simpa using hy); rwa [show k + 1 + i = k + (i + 1) by omega]⟩
theorem zJ9 {α : Type} (p : α → Bool) : ∀ (L : List α) (k : Nat) (s : List α), zg (fun _ x s => bif p x then s ++ [x] else s) k L s = s ++ L.filter p
 | [], _, s => by simp [zg]
 | x :: L, k, s => by
  simp only [zg]
  rw [zJ9 p L (k + 1)]
  cases h : p x with
  | true => simp [h]
  | false => simp [h]
theorem zO0 {α β : Type} (f : α → β) : ∀ (L : List α) (k : Nat) (s : List β), zg (fun _ x s => s ++ [f x]) k L s = s ++ L.map f
 | [], _, s => by simp [zg]
 | x :: L, k, s => by simp only [zg]; rw [zO0 f L (k + 1)]; simp
theorem zH7 {α : Type} (p : α → Bool) : ∀ (L : List α) (k : Nat) (s : Int), zg (fun _ x (s : Int) => bif p x then (s + (1 : Int)) else s) k L s = s + ((L.filter p).length : Int)
 | [], _, s => by simp [zg]
 | x :: L, k, s => by
  simp only [zg]
  rw [zH7 p L (k + 1)]
  cases h : p x with
  | true => simp [h]; omega
  | false => simp [h]
theorem yM {α : Type} {L : List α} {i : Nat} {x : α} (h : L[i]? = some x) : decide ((i : Int) < (L.length : Int)) = true := ltT (List.getElem?_eq_some_iff.1 h).1
theorem zin {s : ByteArray} {i : Nat} {x : UInt8} (h : s.data.toList[i]? = some x) : decide ((i : Int) < (s.size : Int)) = true := ltT (List.getElem?_eq_some_iff.1 h).1
def zCh {R X : Type} (o : Option R) (f : R → X) (x : X) : X := match o with
 | some r => f r
 | none => x
theorem z7 {R σ X : Type} (c : Bool) (r : R) (t : σ) (f : R → X) (g : σ → X) : (bif c then St.brk t else St.ret r : St R σ).fin f g = bif c then g t else f r := by cases c <;> rfl
theorem xI {R σ X : Type} (o : Option R) (t : σ) (f : R → X) (g : σ → X) : (zCY o t : St R σ).fin f g = zCh o f (g t) := by cases o <;> rfl
theorem xf {R σ X : Type} (t : σ) (f : R → X) (g : σ → X) : (St.brk t : St R σ).fin f g = g t := rfl
theorem z6 {α β : Type} (c : Bool) (x y : α × β) : (bif c then x else y).1 = bif c then x.1 else y.1 := by cases c <;> rfl
theorem zAY {c x : Bool} : (bif c then false else x) = true ↔ c = false ∧ x = true := by cases c <;> cases x <;> simp
theorem zIT {c x : Bool} : (bif c then x else false) = true ↔ c = true ∧ x = true := by cases c <;> cases x <;> simp
theorem zY4 {t : Ty} {l : List (El t)} {i : Int} (h : 0 ≤ i ∧ i < (l.length : Int)) : l[i.toNat]? = some (zB t l i) := by
 have hlt : i.toNat < l.length := by omega
 rw [List.getElem?_eq_getElem hlt]
 congr 1
 unfold zB
 rw [List.getD_eq_getElem?_getD, List.getElem?_eq_getElem hlt]; rfl
section
variable {X R σ : Type} {c : Bool} {x y : X} {p : Prop} {t u : Tr X}
@[reducible] def Tr.ix {τ : Type} (i : Int) (l : List τ) (t : Tr X) : Tr X := .ck (0 ≤ i ∧ i < (l.length : Int)) t
@[reducible] def Tr.is (i : Int) (s : ByteArray) (t : Tr X) : Tr X := .ck (0 ≤ i ∧ i < (s.size : Int)) t
@[reducible] def Tr.ik (n : Int) (t : Tr X) : Tr X := .ck (InK .i64 n) t
@[reducible] noncomputable def Tr.lp (l : LB) (x : l.d.T) (f : l.r.T → Tr X) (g : l.d.T → Tr X) : Tr X := .ck (l.sf x) ((l.run x).fin f g)
@[simp] theorem okB : (Tr.bad : Tr X).ok ↔ False := Iff.rfl
@[simp] theorem okV : (Tr.v x).ok ↔ True := Iff.rfl
@[simp] theorem okK : (Tr.ck p t).ok ↔ p ∧ t.ok := Iff.rfl
@[simp] theorem zoA : (bif c then t else u).ok ↔ (c = true → t.ok) ∧ (c = false → u.ok) := by cases c <;> simp
@[simp] theorem zn9 {q : Prop} [Decidable q] : (if q then t else u).ok ↔ (q → t.ok) ∧ (¬ q → u.ok) := by split <;> simp_all
@[simp] theorem okF {s : St R σ} {f : R → Tr X} {g : σ → Tr X} : (s.fin f g).ok ↔ s.fin (fun r => (f r).ok) (fun t => (g t).ok) := by cases s <;> exact Iff.rfl
variable [Inhabited X]
@[simp] theorem vlB : (Tr.bad : Tr X).val = default := rfl
@[simp] theorem zR : (Tr.v x).val = x := rfl
@[simp] theorem zQ : (Tr.ck p t).val = t.val := rfl
@[simp] theorem zi : (bif c then t else u).val = bif c then t.val else u.val := by cases c <;> rfl
@[simp] theorem zn8 {q : Prop} [Decidable q] : (if q then t else u).val = if q then t.val else u.val := by split <;> rfl
@[simp] theorem zx {s : St R σ} {f : R → Tr X} {g : σ → Tr X} : (s.fin f g).val = s.fin (fun r => (f r).val) (fun t => (g t).val) := by cases s <;> rfl
end
section
variable {R σ : Type} {G : σ → Prop} {c : Bool} {t u : Tr (St R σ)} {p : Prop}
def Tr.sg (G : σ → Prop) : Tr (St R σ) → Prop
 | .bad => False
 | .v x => x.all (fun _ => True) (fun _ => True) G
 | .ck p t => p ∧ t.sg G
@[simp] theorem sgB : (Tr.bad : Tr (St R σ)).sg G ↔ False := Iff.rfl
@[simp] theorem sgR {r : R} : (Tr.v (.ret r) : Tr (St R σ)).sg G ↔ True := Iff.rfl
@[simp] theorem sgK {t : σ} : (Tr.v (.brk t) : Tr (St R σ)).sg G ↔ True := Iff.rfl
@[simp] theorem sgG {t : σ} : (Tr.v (.go t) : Tr (St R σ)).sg G ↔ G t := Iff.rfl
@[simp] theorem sgP : (Tr.ck p t).sg G ↔ p ∧ t.sg G := Iff.rfl
@[simp] theorem sgC : (bif c then t else u).sg G ↔ (c = true → t.sg G) ∧ (c = false → u.sg G) := by cases c <;> simp
@[simp] theorem zn7 {q : Prop} [Decidable q] : (if q then t else u).sg G ↔ (q → t.sg G) ∧ (¬ q → u.sg G) := by split <;> simp_all
@[simp] theorem sgF {R' σ' : Type} {s : St R' σ'} {f : R' → Tr (St R σ)} {g : σ' → Tr (St R σ)} : (s.fin f g).sg G ↔ s.fin (fun r => (f r).sg G) (fun t => (g t).sg G) := by cases s <;> exact Iff.rfl
theorem Tr.sg_ok [Inhabited (St R σ)] : ∀ {t : Tr (St R σ)}, t.sg G → t.ok ∧ t.val.all (fun _ => True) (fun _ => True) G
 | .v _, h => ⟨trivial, h⟩
 | .ck _ _, h => ⟨⟨h.1, (Tr.sg_ok h.2).1⟩, (Tr.sg_ok h.2).2⟩
end
@[simp] theorem zoB {n : Int} : InK .i64 n ↔ -9223372036854775808 ≤ n ∧ n ≤ 9223372036854775807 := ⟨zw, fun h => ink h.1 h.2⟩
section
variable {R σ : Type} {G : σ → Prop} {R' σ' : Type} {s : St R' σ'} {f : R' → Tr (St R σ)} {g : σ' → Tr (St R σ)}
theorem yR {p : Prop} {t : Tr (St R σ)} (h1 : p) (h2 : t.sg G) : (Tr.ck p t).sg G := ⟨h1, h2⟩
theorem xM {c : Bool} {x y : Tr (St R σ)} (h1 : c = true → x.sg G) (h2 : c = false → y.sg G) : (bif c then x else y : Tr _).sg G := sgC.2 ⟨h1, h2⟩
theorem zNC {A' : R' → Prop} {B' : σ' → Prop} (h : s.all A' B' B') (h1 : ∀ r, A' r → (f r).sg G) (h2 : ∀ t, B' t → (g t).sg G) : (s.fin f g).sg G := by
 cases s with
 | ret r => exact h1 r h
 | brk t => exact h2 t h
 | go t => exact h2 t h
theorem zXi {t : σ'} {r : R'} {c : Bool} (h : s = bif c then .brk t else .ret r) (h1 : (g t).sg G) (h2 : (f r).sg G) : (s.fin f g).sg G := by
 rw [h]; cases c
 ·exact h2
 ·exact h1
end
def SF (l : LB) (J : l.d.T → Prop × Int) : Prop := ∀ x, (J x).1 → l.sf x
theorem xz {l : LB} {J : l.d.T → Prop × Int} (h : ∀ x, (J x).1 → xG l.d.ds x → (J x).2 ≤ 9223372036854775807 ∧ (l.T x).sg fun y => (J y).1 ∧ (J y).2 < (J x).2 ∧ 0 < (J x).2) : SF l J := fun _ hx =>
 LB.safe' (fun x => (J x).1) (fun x => (J x).2.toNat) (fun x hx hw => by
  obtain ⟨h1, h2⟩ := Tr.sg_ok (h x hx hw).2
  refine ⟨h1, ?_⟩
  show St.all _ _ _ (l.b x)
  cases e : l.b x with
  | ret r => trivial
  | brk t => trivial
  | go y =>
   have h2 : St.all _ _ _ (l.b x) := h2
   rw [e] at h2
   obtain ⟨g1, g2, g3⟩ := h2
   exact ⟨g1, by omega⟩) hx fun hw => by
  have := (h _ hx hw).1
  unfold zAi; omega
theorem vP {X : Type} {l : LB} {x t : l.d.T} {f : l.r.T → Tr X} {g : l.d.T → Tr X} (h : l.run x = .brk t) (h1 : (g t).ok) : ((l.run x).fin f g).ok := by rw [h]; exact h1
theorem zWL {X : Type} {l : LB} {x t : l.d.T} {r : l.r.T} {c : Bool} {f : l.r.T → Tr X} {g : l.d.T → Tr X} (h : l.run x = bif c then .brk t else .ret r) (h1 : (g t).ok) (h2 : (f r).ok) : ((l.run x).fin f g).ok := by
 rw [h]; cases c
 ·exact h2
 ·exact h1
@[simp] theorem zn5 {R σ : Type} {s : St R σ} : s.fin (fun _ => True) (fun _ => True) = True := by cases s <;> rfl
theorem lk {P : Program} {E : Env} {rs : List Nat} {c : Code} {n : Nat} {l : LB} (v : ∀ x, evC P E (mdT (St l.r.T l.d.T)) (zEx c n) (n + 1) (l.d.mk' x) l.kT = l.T x := by intro x; kernel_rfl) (d : (zUE rs l.pos && l.d.ok rs) = true := by kernel_rfl) (r : l.r.ok rs = true := by kernel_rfl) : LOk P E rs c n l := ⟨v, d, r⟩
def yD {P : Program} (hm : P.follows .mixedOrders = true) (g : Gv) (cs : List (Con P)) (ls : List LB) (f : Nat) (d : FnD) {fn : Func} (hL : zjl P (env g cs ls) (zAW d.args) (fn.body.getD .skip) 0 ls)
  (hT : ∀ a, xG d.args a → okP (d.pre a) → OkT (evC P (env g cs ls) (mdT (Args d.res)) (fn.body.getD .skip) 0 (zOQ fn (zHp d.args a) (xA d.args a)) (kT P fn d)) (d.F a))
  (hf : P.funcs[f]? = some fn := by kernel_rfl) (hb : fn.body = some (fn.body.getD .skip) := by kernel_rfl) (hn : (fn.name == "runtime.NumGoroutine") = false := by kernel_rfl) (hok : d.ok = true := by kernel_rfl) : Con P := ⟨f, d, zbN hm g cs ls hf hb hn d hok hL hT⟩
@[reducible] def vd (t : Ty) : AD := .val false (.d t)
@[reducible] def va (t : Ty) : AD := .val true (.d t)
@[reducible] def vo (t : Ty) : AD := .val false (.o (.d t))
end Go.Proofs.YtipbfgknaihifaaGreat
namespace Go.Proofs.YtipbfgknaihifaaGreat
open Go.RowKit
def zGh (n : Int) : Prop := -9223372036854775808 ≤ n ∧ n ≤ 9223372036854775807
class Cel (α : Type) where
 k : Nat
 kpos : 0 < k
 rd : Nat → World → List Value → α → Prop
 own : World → List Value → α → List Nat → Prop
 rd_len : ∀ {B w vs x}, rd B w vs x → vs.length = k
 rd_one : ∀ {B w vs x}, rd B w vs x → ∀ v ∈ vs, v.oneCell' = true
 own_rd : ∀ {B w vs x fp}, own w vs x fp → (∀ b ∈ fp, b < B) → rd B w vs x
 own_lt : ∀ {w vs x fp}, own w vs x fp → ∀ b ∈ fp, b < w.heap.size
 rd_below : ∀ {B w w' vs x}, rd B w vs x → Below B w w' → rd B w' vs x
 rd_mono : ∀ {B B' w vs x}, rd B w vs x → B ≤ B' → rd B' w vs x
 own_keep : ∀ {w w' vs x fp}, own w vs x fp → (∀ b ∈ fp, w'.heap[b]? = w.heap[b]?) → own w' vs x fp
open Cel (rd own rd_len rd_one own_rd own_lt rd_below rd_mono own_keep)
class Flat (α : Type) extends Cel α where
 flat : ∀ {B w vs x}, rd B w vs x → own w vs x []
 flat_fp : ∀ {w vs x fp}, own w vs x fp → fp = []
instance : Flat Int where
 k := 1
 kpos := by decide
 rd _ _ vs n := vs = [.int .i64 n] ∧ zGh n
 own _ vs n fp := vs = [.int .i64 n] ∧ zGh n ∧ fp = []
 rd_len h := by rw [h.1]; rfl
 rd_one h := by rw [h.1]; intro v hv; simp at hv; subst hv; rfl
 own_rd h _ := ⟨h.1, h.2.1⟩
 own_lt h b hb := by rw [h.2.2] at hb; cases hb
 rd_below h _ := h
 rd_mono h _ := h
 own_keep h _ := h
 flat h := ⟨h.1, h.2, rfl⟩
 flat_fp h := h.2.2
instance : Flat UInt8 where
 k := 1
 kpos := by decide
 rd _ _ vs n := vs = [.int .u8 (n.toNat : Int)]
 own _ vs n fp := vs = [.int .u8 (n.toNat : Int)] ∧ fp = []
 rd_len h := by rw [h]; rfl
 rd_one h := by rw [h]; intro v hv; simp at hv; subst hv; rfl
 own_rd h _ := h.1
 own_lt h b hb := by rw [h.2] at hb; cases hb
 rd_below h _ := h
 rd_mono h _ := h
 own_keep h _ := h
 flat h := ⟨h, rfl⟩
 flat_fp h := h.2
instance : Flat Bool where
 k := 1
 kpos := by decide
 rd _ _ vs b := vs = [.bool b]
 own _ vs b fp := vs = [.bool b] ∧ fp = []
 rd_len h := by rw [h]; rfl
 rd_one h := by rw [h]; intro v hv; simp at hv; subst hv; rfl
 own_rd h _ := h.1
 own_lt h b hb := by rw [h.2] at hb; cases hb
 rd_below h _ := h
 rd_mono h _ := h
 own_keep h _ := h
 flat h := ⟨h, rfl⟩
 flat_fp h := h.2
instance : Flat ByteArray where
 k := 1
 kpos := by decide
 rd _ _ vs s := vs = [.string s] ∧ s.size ≤ maxLen
 own _ vs s fp := vs = [.string s] ∧ s.size ≤ maxLen ∧ fp = []
 rd_len h := by rw [h.1]; rfl
 rd_one h := by rw [h.1]; intro v hv; simp at hv; subst hv; rfl
 own_rd h _ := ⟨h.1, h.2.1⟩
 own_lt h b hb := by rw [h.2.2] at hb; cases hb
 rd_below h _ := h
 rd_mono h _ := h
 own_keep h _ := h
 flat h := ⟨h.1, h.2, rfl⟩
 flat_fp h := h.2.2
instance Cel.prod {α β : Type} [Cel α] [Cel β] : Cel (α × β) where
 k := Cel.k α + Cel.k β
 kpos := by have := Cel.kpos (α := α); omega
 rd B w vs x := ∃ v1 v2, vs = v1 ++ v2 ∧ rd B w v1 x.1 ∧ rd B w v2 x.2
 own w vs x fp := ∃ v1 v2 f1 f2, vs = v1 ++ v2 ∧ fp = f1 ++ f2 ∧ own w v1 x.1 f1 ∧ own w v2 x.2 f2
 rd_len := by rintro B w vs x ⟨v1, v2, rfl, h1, h2⟩; rw [List.length_append, rd_len h1, rd_len h2]
 rd_one := by
  rintro B w vs x ⟨v1, v2, rfl, h1, h2⟩ v hv
  rcases List.mem_append.1 hv with h | h
  ·exact rd_one h1 v h
  ·exact rd_one h2 v h
 own_rd := by
  rintro B w vs x fp ⟨v1, v2, f1, f2, rfl, rfl, h1, h2⟩ hb
  exact ⟨v1, v2, rfl, own_rd h1 fun b h => hb b (by simp [h]), own_rd h2 fun b h => hb b (by simp [h])⟩
 own_lt := by
  rintro w vs x fp ⟨v1, v2, f1, f2, rfl, rfl, h1, h2⟩ b hb
  rcases List.mem_append.1 hb with h | h
  ·exact own_lt h1 b h
  ·exact own_lt h2 b h
 rd_below := by rintro B w w' vs x ⟨v1, v2, rfl, h1, h2⟩ hb; exact ⟨v1, v2, rfl, rd_below h1 hb, rd_below h2 hb⟩
 rd_mono := by rintro B B' w vs x ⟨v1, v2, rfl, h1, h2⟩ hb; exact ⟨v1, v2, rfl, rd_mono h1 hb, rd_mono h2 hb⟩
 own_keep := by
  rintro w w' vs x fp ⟨v1, v2, f1, f2, rfl, rfl, h1, h2⟩ hk
  exact ⟨v1, v2, f1, f2, rfl, rfl, own_keep h1 fun b h => hk b (by simp [h]), own_keep h2 fun b h => hk b (by simp [h])⟩
instance Flat.prod {α β : Type} [Flat α] [Flat β] : Flat (α × β) where
 toCel := Cel.prod
 flat := by rintro B w vs x ⟨v1, v2, rfl, h1, h2⟩; exact ⟨v1, v2, [], [], rfl, rfl, Flat.flat h1, Flat.flat h2⟩
 flat_fp := by rintro w vs x fp ⟨v1, v2, f1, f2, rfl, rfl, h1, h2⟩; rw [Flat.flat_fp h1, Flat.flat_fp h2]; rfl
@[reducible] def Cel.iso {α β : Type} [Cel α] (f : β → α) : Cel β where
 k := Cel.k α
 kpos := Cel.kpos
 rd B w vs x := rd B w vs (f x)
 own w vs x fp := own w vs (f x) fp
 rd_len h := rd_len h
 rd_one h := rd_one h
 own_rd h := own_rd h
 own_lt h := own_lt h
 rd_below h := rd_below h
 rd_mono h := rd_mono h
 own_keep h := own_keep h
@[reducible] def Flat.iso {α β : Type} [Flat α] (f : β → α) : Flat β where
 toCel := Cel.iso f
 flat h := Flat.flat (α := α) h
 flat_fp h := Flat.flat_fp (α := α) h
def RdL {α : Type} [Cel α] (B : Nat) (w : World) (b o : Nat) (l : List α) : Prop :=
 ∀ i x, l[i]? = some x → ∃ vs, rd B w vs x ∧ ∀ j, j < Cel.k α → w.cell? ⟨b, o + i * Cel.k α + j, none⟩ = vs[j]?
def RdS {α : Type} [Cel α] (B : Nat) (w : World) (l : List α) (v : Value) : Prop :=
 ∃ a c, v = .slice a l.length c ∧ l.length ≤ c ∧ c ≤ maxLen ∧ (a = none → c = 0) ∧
  (l = [] ∨ ∃ b o, a = some ⟨b, o, none⟩ ∧ b < B ∧ RdL B w b o l)
def zIk {α : Type} [Cel α] (w : World) : List (List Value) → List α → List (List Nat) → Prop
 | [], [], [] => True
 | vs :: vss, x :: xs, f :: fs => own w vs x f ∧ zIk w vss xs fs
 | _, _, _ => False
def zY8 {α : Type} [Cel α] (w : World) (l : List α) (v : Value) (fp : List Nat) : Prop :=
 (v = .slice none 0 0 ∧ l = [] ∧ fp = []) ∨
 ∃ g c cur e vss fps, v = .slice (some ⟨g, 0, none⟩) l.length c ∧ w.heap[g]? = some (.cells cur e (0, 0)) ∧ l.length ≤ c ∧ c ≤ maxLen ∧
  c * Cel.k α ≤ cur.size ∧ fp = g :: fps.flatten ∧ zIk w vss l fps ∧ cur.toList.take (l.length * Cel.k α) = vss.flatten
section
variable {α : Type} [Cel α] {w w' : World} {B B' : Nat} {l : List α} {v : Value}
theorem RdL.below {b o : Nat} (h : RdL B w b o l) (hlt : b < B) (hb : Below B w w') : RdL B w' b o l := by
 intro i x hx
 obtain ⟨vs, h1, h2⟩ := h i x hx
 exact ⟨vs, rd_below h1 hb, fun j hj => by rw [← h2 j hj]; exact hb.cell (p := ⟨b, _, none⟩) hlt⟩
theorem RdL.mono {b o : Nat} (h : RdL B w b o l) (hB : B ≤ B') : RdL B' w b o l := by
 intro i x hx
 obtain ⟨vs, h1, h2⟩ := h i x hx
 exact ⟨vs, rd_mono h1 hB, h2⟩
theorem RdS.below (h : RdS B w l v) (hb : Below B w w') : RdS B w' l v := by
 obtain ⟨a, c, rfl, h1, h2, h0, h3⟩ := h
 refine ⟨a, c, rfl, h1, h2, h0, ?_⟩
 rcases h3 with h3 | ⟨b, o, ha, hlt, h4⟩
 ·exact .inl h3
 ·exact .inr ⟨b, o, ha, hlt, h4.below hlt hb⟩
theorem RdS.mono (h : RdS B w l v) (hB : B ≤ B') : RdS B' w l v := by
 obtain ⟨a, c, rfl, h1, h2, h0, h3⟩ := h
 refine ⟨a, c, rfl, h1, h2, h0, ?_⟩
 rcases h3 with h3 | ⟨b, o, ha, hlt, h4⟩
 ·exact .inl h3
 ·exact .inr ⟨b, o, ha, by omega, h4.mono hB⟩
theorem RdS.open (h : RdS B w l v) : ∃ a c, v = .slice a l.length c ∧ (l.length : Int) ≤ 9223372036854775807 ∧ (c : Int) ≤ 9223372036854775807 ∧ l.length ≤ c ∧ (a = none → c = 0) := by
 obtain ⟨a, c, rfl, h1, h2, h0, _⟩ := h
 unfold maxLen at h2
 exact ⟨a, c, rfl, by omega, by omega, h1, h0⟩
theorem RdS.at {a : Option Addr} {n c : Nat} (h : RdS B w l (.slice a n c)) (i : Nat) (hi : i < l.length) :
  ∃ b o vs, a = some ⟨b, o, none⟩ ∧ b < B ∧ rd B w vs l[i] ∧ ∀ j, j < Cel.k α → w.cell? ⟨b, o + i * Cel.k α + j, none⟩ = vs[j]? := by
 obtain ⟨a', c', e, _, _, _, h3⟩ := h
 cases e
 rcases h3 with rfl | ⟨b, o, ha, hlt, h4⟩
 ·simp at hi
 ·obtain ⟨vs, h5, h6⟩ := h4 i l[i] (List.getElem?_eq_getElem hi)
  exact ⟨b, o, vs, ha, hlt, h5, h6⟩
theorem RdS.nil (B : Nat) (w : World) : RdS (α := α) B w [] (.slice none 0 0) :=
 ⟨none, 0, rfl, Nat.le_refl _, by simp [maxLen], fun _ => rfl, .inl rfl⟩
theorem zIk.keep {vss : List (List Value)} {fps : List (List Nat)} : ∀ {l : List α}, zIk w vss l fps → (∀ b ∈ fps.flatten, w'.heap[b]? = w.heap[b]?) → zIk w' vss l fps := by
 induction vss generalizing fps with
 | nil => intro l h _; cases l <;> cases fps <;> simp_all [zIk]
 | cons a vss ih =>
  intro l h hk
  cases l with
  | nil => cases fps <;> simp_all [zIk]
  | cons x xs =>
   cases fps with
   | nil => simp_all [zIk]
   | cons f fs => exact ⟨own_keep h.1 fun b hb => hk b (by simp [hb]), ih h.2 fun b hb => hk b (by rw [List.flatten_cons]; exact List.mem_append_right _ hb)⟩
theorem zIk.lt {vss : List (List Value)} {fps : List (List Nat)} : ∀ {l : List α}, zIk w vss l fps → ∀ b ∈ fps.flatten, b < w.heap.size := by
 induction vss generalizing fps with
 | nil => intro l h; cases l <;> cases fps <;> simp_all [zIk]
 | cons a vss ih =>
  intro l h b hb
  cases l with
  | nil => cases fps <;> simp_all [zIk]
  | cons x xs =>
   cases fps with
   | nil => simp_all
   | cons f fs =>
    rw [List.flatten_cons] at hb
    rcases List.mem_append.1 hb with hb | hb
    ·exact own_lt h.1 b hb
    ·exact ih h.2 b hb
theorem zIk.at {vss : List (List Value)} {fps : List (List Nat)} : ∀ {l : List α} (_ : zIk w vss l fps) (i : Nat) (x : α), l[i]? = some x →
  ∃ vs f, vss[i]? = some vs ∧ fps[i]? = some f ∧ own w vs x f := by
 induction vss generalizing fps with
 | nil => intro l h; cases l <;> cases fps <;> simp_all [zIk]
 | cons a vss ih =>
  intro l h i y hy
  cases l with
  | nil => cases fps <;> simp_all
  | cons x xs =>
   cases fps with
   | nil => simp_all [zIk]
   | cons f fs =>
    cases i with
    | zero => simp at hy; subst hy; exact ⟨a, f, rfl, rfl, h.1⟩
    | succ i => simpa using ih h.2 i y (by simpa using hy)
theorem zIk.flat_len {vss : List (List Value)} {fps : List (List Nat)} : ∀ {l : List α}, zIk w vss l fps → ∀ vs ∈ vss, vs.length = Cel.k α := by
 induction vss generalizing fps with
 | nil => simp
 | cons a vss ih =>
  intro l h vs hvs
  cases l with
  | nil => cases fps <;> simp_all [zIk]
  | cons y xs =>
   cases fps with
   | nil => simp_all [zIk]
   | cons g fs =>
    rcases List.mem_cons.1 hvs with rfl | hm
    ·exact rd_len (own_rd (B := w.heap.size) h.1 (own_lt h.1))
    ·exact ih h.2 vs hm
theorem zaI {β : Type} {k : Nat} : ∀ (vss : List (List β)) (_ : ∀ vs ∈ vss, vs.length = k) (i j : Nat) (vs : List β), vss[i]? = some vs → j < k → vss.flatten[i * k + j]? = vs[j]? := by
 intro vss
 induction vss with
 | nil => intro _ i j vs h; simp at h
 | cons a vss ih =>
  intro hl i j vs h hj
  have ha : a.length = k := hl a (by simp)
  cases i with
  | zero => simp at h; subst h; rw [List.flatten_cons, Nat.zero_mul, Nat.zero_add, List.getElem?_append_left (by omega)]
  | succ i =>
   rw [List.flatten_cons, List.getElem?_append_right (by rw [ha, Nat.succ_mul]; omega), ha]
   have := ih (fun vs hv => hl vs (by simp [hv])) i j vs (by simpa using h) hj
   rw [← this]; congr 1; rw [Nat.succ_mul]; omega
theorem zY8.rd {fp : List Nat} (h : zY8 w l v fp) (hB : ∀ b ∈ fp, b < B) : RdS B w l v := by
 rcases h with ⟨rfl, rfl, _⟩ | ⟨g, c, cur, e, vss, fps, rfl, hg, hlc, hcm, hsz, rfl, hl, ht⟩
 ·exact RdS.nil B w
 ·refine ⟨_, c, rfl, hlc, hcm, by simp, .inr ⟨g, 0, rfl, hB g (by simp), ?_⟩⟩
  intro i x hx
  obtain ⟨vs, f, h1, h2, h3⟩ := hl.at i x hx
  refine ⟨vs, own_rd h3 (fun b hb => hB b (List.mem_cons_of_mem _ (List.mem_flatten.2 ⟨f, List.mem_of_getElem? h2, hb⟩))), ?_⟩
  intro j hj
  have hi : i < l.length := (List.getElem?_eq_some_iff.1 hx).1
  have hij : i * Cel.k α + j < l.length * Cel.k α := by
   have : (i + 1) * Cel.k α ≤ l.length * Cel.k α := Nat.mul_le_mul_right _ hi
   rw [Nat.succ_mul] at this; omega
  have h4 := zaI vss hl.flat_len i j vs h1 hj
  rw [← ht, List.getElem?_take, if_pos hij] at h4
  rw [← h4, Nat.zero_add]
  simp [World.cell?, hg]
theorem zY8.lt {fp : List Nat} (h : zY8 w l v fp) : ∀ b ∈ fp, b < w.heap.size := by
 rcases h with ⟨_, _, rfl⟩ | ⟨g, c, cur, e, vss, fps, _, hg, _, _, _, rfl, hl, _⟩
 ·simp
 ·intro b hb
  rcases List.mem_cons.1 hb with rfl | hb
  ·exact (Array.getElem?_eq_some_iff.1 hg).1
  ·exact hl.lt b hb
theorem zY8.keep {fp : List Nat} (h : zY8 w l v fp) (hk : ∀ b ∈ fp, w'.heap[b]? = w.heap[b]?) : zY8 w' l v fp := by
 rcases h with h | ⟨g, c, cur, e, vss, fps, h1, hg, h2, h3, h4, rfl, hl, h5⟩
 ·exact .inl h
 ·exact .inr ⟨g, c, cur, e, vss, fps, h1, by rw [hk g (by simp)]; exact hg, h2, h3, h4, rfl, hl.keep fun b hb => hk b (List.mem_cons_of_mem _ hb), h5⟩
end
instance Cel.list {α : Type} [Cel α] : Cel (List α) where
 k := 1
 kpos := by decide
 rd B w vs l := ∃ v, vs = [v] ∧ RdS B w l v
 own w vs l fp := ∃ v, vs = [v] ∧ zY8 w l v fp
 rd_len := by rintro B w vs l ⟨v, rfl, _⟩; rfl
 rd_one := by rintro B w vs l ⟨v, rfl, h⟩ u hu; simp at hu; subst hu; obtain ⟨a, c, rfl, _⟩ := h; rfl
 own_rd := by rintro B w vs l fp ⟨v, rfl, h⟩ hb; exact ⟨v, rfl, h.rd hb⟩
 own_lt := by rintro w vs l fp ⟨v, rfl, h⟩; exact h.lt
 rd_below := by rintro B w w' vs l ⟨v, rfl, h⟩ hb; exact ⟨v, rfl, h.below hb⟩
 rd_mono := by rintro B B' w vs l ⟨v, rfl, h⟩ hb; exact ⟨v, rfl, h.mono hb⟩
 own_keep := by rintro w w' vs l fp ⟨v, rfl, h⟩ hk; exact ⟨v, rfl, h.keep hk⟩
end Go.Proofs.YtipbfgknaihifaaGreat
namespace Go.Proofs.YtipbfgknaihifaaGreat
open Go.RowKit
open Cel (rd own rd_len rd_one own_rd own_lt rd_below rd_mono own_keep)
section
variable {α : Type} [Cel α] {w w' : World} {B : Nat} {l : List α}
end
section
variable {α : Type} [Cel α] {P : Program} {w : World} {B : Nat} {l l2 : List α}
end
section
variable {α : Type} {P : Program} {w : World} {B : Nat} {l l2 : List α}
def Sl [Cel α] (w : World) (l : List α) (v : Value) : Prop := RdS w.heap.size w l v
theorem Sl.to [Cel α] {w' : World} {v : Value} (h : Sl w l v) (hb : Below w.heap.size w w') : Sl w' l v := (RdS.below h hb).mono hb.size
theorem Sl.open [Cel α] {v : Value} (h : Sl w l v) : ∃ a c, v = .slice a l.length c ∧ (l.length : Int) ≤ 9223372036854775807 ∧ (c : Int) ≤ 9223372036854775807 ∧ l.length ≤ c ∧ (a = none → c = 0) := RdS.open h
theorem Sl.at [Cel α] {a : Option Addr} {n c : Nat} (h : Sl w l (.slice a n c)) (i : Nat) (hi : i < l.length) :
  ∃ b o vs, a = some ⟨b, o, none⟩ ∧ b < w.heap.size ∧ rd w.heap.size w vs l[i] ∧ ∀ j, j < Cel.k α → w.cell? ⟨b, o + i * Cel.k α + j, none⟩ = vs[j]? := RdS.at h i hi
def Bx (w : World) (b : Nat) (cs : List Value) : Prop := ∃ e, w.heap[b]? = some (.cells cs.toArray e (0, 0))
theorem Bx.lt {w : World} {b : Nat} {cs : List Value} (h : Bx w b cs) : b < w.heap.size := by
 obtain ⟨e, h⟩ := h; exact (Array.getElem?_eq_some_iff.1 h).1
theorem Bx.c {w : World} {b : Nat} {cs : List Value} (h : Bx w b cs) (j : Nat) (v : Value) (hv : cs[j]? = some v) : w.cell? ⟨b, j, none⟩ = some v := by
 obtain ⟨e, h⟩ := h
 unfold World.cell?; rw [h]; simpa using hv
theorem Bx.via {w w' : World} {b : Nat} {cs : List Value} (h : Bx w b cs) (hb : Below w.heap.size w w') : Bx w' b cs := by
 have := h.lt
 obtain ⟨e, h⟩ := h
 exact ⟨e, by rw [hb.block b this]; exact h⟩
@[simp] theorem zYx {w : World} {b : Nat} {cs : List Value} (h : Bx w b cs) (o : Obj) : Bx (w.alloc o) b cs := by
 have := h.lt
 obtain ⟨e, h⟩ := h
 exact ⟨e, by rw [Below.heap_alloc w o b this]; exact h⟩
@[simp] theorem zhn (w : World) (cs : List Value) (e : TypeId) {b : Nat} (h : b = w.heap.size) : Bx (w.alloc (.cells cs.toArray e)) b cs := ⟨e, by subst h; exact heap_alloc_new w _⟩
@[simp] theorem znm {w : World} {b : Nat} {cs : List Value} (h : Bx w b cs) : Bx w.drew b cs := h
@[simp] theorem znS {w : World} {b : Nat} {cs : List Value} (h : Bx w b cs) (n : Nat) : Bx (w.drewN n) b cs := h
@[simp] theorem zno (w : World) : Below w.heap.size w w := Below.refl _ _
@[simp] theorem zne {a w : World} (h : Below a.heap.size a w) (o : Obj) : Below a.heap.size a (w.alloc o) := h.alloc h.size o
@[simp] theorem znp {a w : World} {B : Nat} (h : Below B a w) : Below B a w.drew := h.drew
@[simp] theorem znc {a w : World} {B : Nat} (h : Below B a w) (n : Nat) : Below B a (w.drewN n) := h.trans ⟨rfl, rfl, rfl, Nat.le_refl _, fun _ _ => rfl⟩
theorem via {w0 W w1 : World} (h : Below w0.heap.size w0 W) (hb : Below W.heap.size W w1) : Below w0.heap.size w0 w1 := h.trans (hb.mono h.size)
end
end Go.Proofs.YtipbfgknaihifaaGreat
namespace Go.Proofs.YtipbfgknaihifaaGreat
open Go.RowKit
def Zw (w : World) : Zs := fun _ b => b < w.heap.size
def Rv (w : World) (v : V) (x : Value) : Prop := Cn zAX (Zw w) w v x
theorem Rv.to {w w' : World} {v : V} {x : Value} (h : Rv w v x) (hb : Below w.heap.size w w') : Rv w' v x :=
 Cn.mono h ⟨fun _ _ h => h, fun _ _ h => Nat.lt_of_lt_of_le h hb.size, fun _ b hz => hb.block b hz, fun o p b e => by simp [zAX] at e⟩
theorem hr0 (w : World) : HR zAX (Zw w) [] w := ⟨fun _ _ h => h, fun o p e => by simp [zAX] at e, fun o p x e => by simp [zAX] at e, fun o o' p p' x x' b e => by simp [zAX] at e⟩
theorem zME {P : Program} {f : Nat} {d : FnD} (hF : FnOk P f d) {a : Args d.args} (h0 : xA d.args a = []) (hp : okP (d.pre a)) {w : World} {xs : List Value} (hl : xs.length = d.args.length)
  (hc : ∀ (i : Nat) (u : V) (y : Value), (zHp d.args a)[i]? = some u → xs[i]? = some y → Rv w u y) :
  Calls P f xs.toArray w (fun e w' => ∃ x ρ' Z', e = .returned x ∧ Below w.heap.size w w' ∧ HR ρ' Z' (xA d.res (d.F a)) w' ∧ Cn ρ' Z' w' (zci (zIM d.res (d.F a) (yA d.res))) x) := by
 refine (hF.call w (Zw w) zAX a xs (by rw [h0]; exact hr0 w) hl hc (by rw [h0]; intro o ho; simp at ho) hp).mono ?_
 rintro e w' ⟨x, ρ', Z', rfl, hg, hb, -, hr, -, -, -, hx⟩
 exact ⟨x, ρ', Z', rfl, ⟨hg.os, hg.tape, hg.output, hg.le, fun k hk => hb k hk fun o p y e => by simp [zAX] at e⟩, hr, hx⟩
def rdT : (t : Ty) → Nat → World → List Value → El t → Prop
 | .int, _, _, vs, n => vs = [.int .i64 n] ∧ zGh n
 | .u8, _, _, _, _ => False
 | .bool, _, _, vs, b => vs = [.bool b]
 | .str, _, _, vs, s => vs = [.string s] ∧ s.size ≤ maxLen
 | .lst t, B, w, vs, l => ∃ a c, vs = [.slice a l.length c] ∧ l.length ≤ c ∧ c ≤ maxLen ∧ (a = none → c = 0) ∧
   (l = [] ∨ ∃ b o, a = some ⟨b, o, none⟩ ∧ b < B ∧ ∀ (i : Nat) (x : El t), l[i]? = some x → ∃ vs, rdT t B w vs x ∧ ∀ j, j < zc t → w.cell? ⟨b, o + i * zc t + j, none⟩ = vs[j]?)
 | .pr a b, B, w, vs, x => ∃ v1 v2, vs = v1 ++ v2 ∧ rdT a B w v1 x.1 ∧ rdT b B w v2 x.2
theorem zLE : ∀ (t : Ty) {B : Nat} {w : World} {vs : List Value} {x : El t}, rdT t B w vs x → vs.length = zc t
 | .int, _, _, _, _, h => by rw [h.1]; rfl
 | .u8, _, _, _, _, h => h.elim
 | .bool, _, _, vs, b, h => by rw [show vs = [.bool b] from h]; rfl
 | .str, _, _, _, _, h => by rw [h.1]; rfl
 | .lst t, _, _, _, _, h => by obtain ⟨a, c, rfl, _⟩ := h; rfl
 | .pr a b, _, _, _, _, h => by obtain ⟨v1, v2, rfl, h1, h2⟩ := h; rw [List.length_append, zLE a h1, zLE b h2]; rfl
def szE : (t : Ty) → El t → Nat
 | .str, (s : ByteArray) => s.size
 | .lst t, (l : List (El t)) => l.length + (l.map (szE t)).sum
 | .pr a b, (x : El a × El b) => szE a x.1 + szE b x.2
 | _, _ => 0
theorem zWO {α : Type} (f : α → Nat) {l : List α} {x : α} (h : x ∈ l) : f x ≤ (l.map f).sum := by
 induction l with
 | nil => cases h
 | cons y l ih =>
  simp only [List.map_cons, List.sum_cons]
  rcases List.mem_cons.1 h with rfl | h
  ·omega
  ·have := ih h; omega
theorem rd_cn : ∀ (t : Ty) {B : Nat} {w : World} {vs : List Value} {x : El t}, rdT t B w vs x → B ≤ w.heap.size → szE t x ≤ 1048576 →
  ∀ (j : Nat) (u : V) (y : Value), (enc 0 t x)[j]? = some u → vs[j]? = some y → Rv w u y
 | .int, _, _, _, n, h, _, _, j, u, y, hu, hy => by
  obtain ⟨rfl, hn⟩ := h
  cases j with
  | zero =>
   simp only [enc, List.getElem?_cons_zero, Option.some.injEq] at hu hy
   subst hu hy
   exact .c _ (ink hn.1 hn.2)
  | succ j => simp [enc] at hu
 | .u8, _, _, _, _, h, _, _, _, _, _, _, _ => h.elim
 | .bool, _, _, vs, b, h, _, _, j, u, y, hu, hy => by
  rw [show vs = [.bool b] from h] at hy
  cases j with
  | zero =>
   simp only [enc, List.getElem?_cons_zero, Option.some.injEq] at hu hy
   subst hu hy
   exact .c _ trivial
  | succ j => simp [enc] at hu
 | .str, _, _, _, s, h, _, _, j, u, y, hu, hy => by
  obtain ⟨rfl, hn⟩ := h
  cases j with
  | zero =>
   simp only [enc, List.getElem?_cons_zero, Option.some.injEq] at hu hy
   subst hu hy
   exact .c _ (by show s.size ≤ 9223372036854775807; simp [maxLen] at hn; omega)
  | succ j => simp [enc] at hu
 | .lst t, B, w, vs, l, h, hB, hs, j, u, y, hu, hy => by
  obtain ⟨a, c, rfl, h1, h2, h3, h4⟩ := h
  cases j with
  | zero =>
   simp only [enc, List.getElem?_cons_zero, Option.some.injEq] at hu hy
   subst hu hy
   have hlen : l.length ≤ 1048576 := by have : szE (.lst t) l = l.length + (l.map (szE t)).sum := rfl; omega
   have hlim : l.length ≤ lim t := by unfold lim maxLen; split <;> omega
   rcases h4 with rfl | ⟨b, o, rfl, hb, hx⟩
   ·exact .emp .zero h2 h3
   ·refine .ext (b := b) (o := o) (fun i j => (w.cell? ⟨b, o + i * zc t + j, none⟩).getD undef) .zero hlim h1 h2 h3 (.inr ⟨rfl, .inl (Nat.lt_of_lt_of_le hb hB)⟩) (fun i j hi hj => ?_) (fun i x j u hx' hu => ?_)
    ·obtain ⟨vs, g1, g2⟩ := hx i _ (List.getElem?_eq_getElem hi)
     have hj' : j < vs.length := by rw [zLE t g1]; exact hj
     rw [g2 j hj, List.getElem?_eq_getElem hj']; rfl
    ·obtain ⟨vs, g1, g2⟩ := hx i x hx'
     have hj : j < zc t := by have := (List.getElem?_eq_some_iff.1 hu).1; rwa [yL] at this
     have hj' : j < vs.length := by rw [zLE t g1]; exact hj
     have hz : szE t x ≤ 1048576 := by
      have h5 := zWO (szE t) (List.mem_of_getElem? hx')
      have : szE (.lst t) l = l.length + (l.map (szE t)).sum := rfl
      omega
     rw [g2 j hj, List.getElem?_eq_getElem hj']
     exact rd_cn t g1 hB hz j u _ hu (List.getElem?_eq_getElem hj')
  | succ j => simp [enc] at hu
 | .pr a b, B, w, vs, x, h, hB, hs, j, u, y, hu, hy => by
  obtain ⟨v1, v2, rfl, h1, h2⟩ := h
  have hsz : szE (.pr a b) x = szE a x.1 + szE b x.2 := rfl
  have e1 := zLE a h1
  simp only [enc] at hu
  by_cases hj : j < zc a
  ·rw [List.getElem?_append_left (by rw [yL]; exact hj)] at hu
   rw [List.getElem?_append_left (by omega)] at hy
   exact rd_cn a h1 hB (by omega) j u y hu hy
  ·rw [List.getElem?_append_right (by rw [yL]; omega), yL] at hu
   rw [List.getElem?_append_right (by omega), e1] at hy
   exact rd_cn b h2 hB (by omega) (j - zc a) u y hu hy
theorem zmq {t : Ty} {B : Nat} {w : World} {vs : List Value} {x : El t} (h : rdT t B w vs x) (hB : B ≤ w.heap.size) (hs : szE t x ≤ 1048576) : Rv w (.agg (enc 0 t x)) (.agg vs.toArray) :=
 .agg (by rw [zLE t h, yL]) fun i u y hu hy => rd_cn t h hB hs i u y hu hy
class Br (α : Type) [Cel α] (t : outParam Ty) where
 f : α → El t
 k : Cel.k α = zc t
 h : ∀ {B w vs x}, Cel.rd B w vs x → rdT t B w vs (f x)
instance : Br Int .int := ⟨fun n => n, rfl, fun h => h⟩
instance : Br Bool .bool := ⟨fun n => n, rfl, fun h => h⟩
instance : Br ByteArray .str := ⟨fun n => n, rfl, fun h => h⟩
instance {α β : Type} [Cel α] [Cel β] {a b : Ty} [Br α a] [Br β b] : Br (α × β) (.pr a b) :=
 ⟨fun x => (Br.f x.1, Br.f x.2), by show Cel.k α + Cel.k β = zc a + zc b; rw [Br.k (α := α), Br.k (α := β)], fun h => by obtain ⟨v1, v2, e, h1, h2⟩ := h; exact ⟨v1, v2, e, Br.h h1, Br.h h2⟩⟩
instance {α : Type} [Cel α] {t : Ty} [Br α t] : Br (List α) (.lst t) where
 f l := l.map Br.f
 k := rfl
 h := by
  rintro B w vs l ⟨v, rfl, a, c, rfl, h1, h2, h3, h4⟩
  refine ⟨a, c, by rw [List.length_map], by rw [List.length_map]; exact h1, h2, h3, ?_⟩
  rcases h4 with rfl | ⟨b, o, rfl, hb, hx⟩
  ·exact .inl rfl
  ·refine .inr ⟨b, o, rfl, hb, fun i x hi => ?_⟩
   rw [List.getElem?_map, Option.map_eq_some_iff] at hi
   obtain ⟨z, hz, rfl⟩ := hi
   obtain ⟨vs, g1, g2⟩ := hx i z hz
   exact ⟨vs, Br.h g1, fun j hj => by rw [← Br.k (α := α)] at hj ⊢; exact g2 j hj⟩
theorem zA9 {α : Type} {t : Ty} {f : α → El t} {g : α → Nat} (h : ∀ x, szE t (f x) = g x) (l : List α) : szE (.lst t) (l.map f) = l.length + (l.map g).sum := by
 show (l.map f).length + ((l.map f).map (szE t)).sum = _
 rw [List.length_map, List.map_map]
 congr 2
 exact List.map_congr_left fun x _ => h x
end Go.Proofs.YtipbfgknaihifaaGreat
namespace Go.Proofs.YtipbfgknaihifaaGreat
open Go.RowKit
open Cel (rd own rd_len rd_one own_rd own_lt rd_below rd_mono own_keep)
def Opn (P : Program) (t : TypeId) (α : Type) [Cel α] : Prop :=
 ∀ (H : Type) (enc : TypeId × Value → H) (w : World) (sp : Nat → Bool) (zAi : Nat) (cs : List Value) (y : DataW H × List MemPlace), DataW.trod enc P w 0 sp true zAi t cs = some y → ∃ x : α, rd w.heap.size w cs x
theorem zkZ {P : Program} {t : TypeId} (hu : P.underlying t = some (.int .i64)) : Opn P t Int := by
 intro H enc w sp zAi cs y h
 cases zAi with
 | zero => simp [DataW.trod] at h
 | succ zAi =>
  obtain ⟨n, e0, rfl, wa⟩ := DataW.trod_int hu h
  subst e0
  refine ⟨n, rfl, ?_⟩
  simp [Lit.wf, IntKind.min, IntKind.max, IntKind.signed, IntKind.bits] at wa
  unfold zGh; omega
theorem zh5 {P : Program} {t : TypeId} (hu : P.underlying t = some .bool) : Opn P t Bool := by
 intro H enc w sp zAi cs y h
 obtain ⟨b, rfl, rfl⟩ := DataW.trod_bool hu h
 exact ⟨b, rfl⟩
theorem zc9 {P : Program} {t : TypeId} (hu : P.underlying t = some .string) : Opn P t ByteArray := by
 intro H enc w sp zAi cs y h
 obtain ⟨s, rfl, rfl, hs⟩ := DataW.trod_string hu h
 exact ⟨s, rfl, hs⟩
theorem zSB (b o i j : Nat) : ((⟨b, o, none⟩ : Addr).add i).add j = ⟨b, o + i + j, none⟩ := by
 unfold Addr.add
 split <;> split <;> simp_all
theorem vE {P : Program} {t e : TypeId} {α : Type} [Cel α] (hu : P.underlying t = some (.slice e)) (hc : P.cellsOf e = Cel.k α) (he : Opn P e α) : Opn P t (List α) := by
 intro H enc w sp zAi cs y h
 rcases Go.Deep.open_slice hu h with ⟨rfl, rfl⟩ | ⟨a, len, cap, m, n, D, Pl, rfl, hb, hl, hm, hmm, rfl, hx⟩
 ·exact ⟨[], _, rfl, RdS.nil _ _⟩
 ·rw [hc] at hx
  have hkp := Cel.kpos (α := α)
  have hlm : len ≤ m := by rw [hmm]; split <;> omega
  have hel : ∀ i, i < len → ∃ x : α, ∃ vs, rd w.heap.size w vs x ∧ ∀ j, j < Cel.k α → w.cell? ((a.add (i * Cel.k α)).add j) = vs[j]? := by
   intro i hi
   obtain ⟨vs, h1, h2⟩ := hx i (by omega)
   obtain ⟨x, hr⟩ := he H enc w sp n vs _ h2
   obtain ⟨_, h3, h4⟩ := World.cells?_some h1
   exact ⟨x, vs, hr, h4⟩
  by_cases h0 : len = 0
  ·subst h0
   exact ⟨[], _, rfl, some a, cap, rfl, hl, hm, by simp, .inl rfl⟩
  ·obtain ⟨x0, vs0, hr0, hc0⟩ := hel 0 (by omega)
   have hl0 := rd_len hr0
   have e0 := hc0 0 hkp
   rw [List.getElem?_eq_getElem (by omega)] at e0
   obtain ⟨b, o, sp'⟩ := a
   have hspot : sp' = none := by
    have e1 := World.cell?_spot e0
    simpa [Addr.add] using e1
   subst hspot
   have hblt : b < w.heap.size := by
    have := World.block_lt_of_cell? w _ e0
    rw [zSB] at this; exact this
   suffices ∀ len, (∀ i, i < len → ∃ x : α, ∃ vs, rd w.heap.size w vs x ∧ ∀ j, j < Cel.k α → w.cell? (((⟨b, o, none⟩ : Addr).add (i * Cel.k α)).add j) = vs[j]?) → ∃ l : List α, l.length = len ∧ RdL w.heap.size w b o l by
    obtain ⟨l, rfl, hrl⟩ := this len hel
    exact ⟨l, _, rfl, _, cap, rfl, hl, hm, by simp, .inr ⟨b, o, rfl, hblt, hrl⟩⟩
   clear hel hx h hl hlm hmm h0
   intro len
   induction len with
   | zero => intro _; exact ⟨[], rfl, by intro i x hx; simp at hx⟩
   | succ len ih =>
    intro hel
    obtain ⟨l, hll, hrl⟩ := ih (fun i hi => hel i (by omega))
    obtain ⟨x, vs, hr, hcx⟩ := hel len (by omega)
    refine ⟨l ++ [x], by simp [hll], ?_⟩
    intro i y hy
    by_cases hi : i < len
    ·rw [List.getElem?_append_left (by omega)] at hy
     exact hrl i y hy
    ·have hi' : i = len := by
      have := (List.getElem?_eq_some_iff.1 hy).1
      simp [hll] at this; omega
     subst hi'
     rw [← hll, List.getElem?_append_right (Nat.le_refl _)] at hy
     simp at hy; subst hy
     refine ⟨vs, hr, fun j hj => ?_⟩
     rw [← hcx j hj, zSB]
def zkm (P : Program) (fs : List Field) (o : Nat) (α : Type) [Cel α] : Prop :=
 ∀ (H : Type) (enc : TypeId × Value → H) (w : World) (sp : Nat → Bool) (zAi : Nat) (cs : List Value) (ys : List (DataW H × List MemPlace)), cs.length = o + Cel.k α →
  fs.mapM (fun f => DataW.trod enc P w 0 sp true zAi f.type ((cs.drop f.offset).take (P.cellsOf f.type))) = some ys → ∃ x : α, rd w.heap.size w (cs.drop o) x
theorem x8 {P : Program} {f : Field} {o : Nat} {α : Type} [Cel α] (ho : f.offset = o) (hc : P.cellsOf f.type = Cel.k α) (h : Opn P f.type α) : zkm P [f] o α := by
 intro H enc w sp zAi cs ys hl hm
 simp only [List.mapM_cons, List.mapM_nil, ho, hc] at hm
 cases h1 : DataW.trod enc P w 0 sp true zAi f.type ((cs.drop o).take (Cel.k α)) with
 | none => simp [h1] at hm
 | some y =>
  obtain ⟨x, hx⟩ := h H enc w sp zAi _ y h1
  refine ⟨x, ?_⟩
  rwa [List.take_of_length_le (by rw [List.length_drop]; omega)] at hx
theorem zy {P : Program} {f : Field} {fs : List Field} {o : Nat} {α β : Type} [Cel α] [Cel β] (ho : f.offset = o) (hc : P.cellsOf f.type = Cel.k α) (h : Opn P f.type α) (hs : zkm P fs (o + Cel.k α) β) : zkm P (f :: fs) o (α × β) := by
 intro H enc w sp zAi cs ys hl hm
 have hl' : cs.length = o + (Cel.k α + Cel.k β) := hl
 simp only [List.mapM_cons, ho, hc] at hm
 cases h1 : DataW.trod enc P w 0 sp true zAi f.type ((cs.drop o).take (Cel.k α)) with
 | none => simp [h1] at hm
 | some y =>
  obtain ⟨x, hx⟩ := h H enc w sp zAi _ y h1
  cases h2 : fs.mapM (fun f => DataW.trod enc P w 0 sp true zAi f.type ((cs.drop f.offset).take (P.cellsOf f.type))) with
  | none => simp [h1, h2] at hm
  | some ys' =>
   obtain ⟨z, hz⟩ := hs H enc w sp zAi cs ys' (by omega) h2
   refine ⟨(x, z), (cs.drop o).take (Cel.k α), cs.drop (o + Cel.k α), ?_, hx, hz⟩
   rw [← List.drop_drop, List.take_append_drop]
theorem y6 {P : Program} {t : TypeId} {fs : Array Field} {α : Type} [Cel α] (hu : P.underlying t = some (.struct fs)) (hc : P.cellsOf t = Cel.k α) (h : zkm P fs.toList 0 α) : Opn P t α := by
 intro H enc w sp zAi cs y hy
 cases zAi with
 | zero => simp [DataW.trod] at hy
 | succ zAi =>
  unfold DataW.trod at hy
  rw [hu] at hy
  simp only at hy
  split at hy
  ·rename_i hl
   cases h2 : fs.toList.mapM (fun f => DataW.trod enc P w 0 sp true zAi f.type ((cs.drop f.offset).take (P.cellsOf f.type))) with
   | none => rw [h2] at hy; simp at hy
   | some ys =>
    obtain ⟨x, hx⟩ := h H enc w sp zAi cs ys (by omega) h2
    exact ⟨x, by simpa using hx⟩
  ·simp at hy
theorem v8 {P : Program} {t : TypeId} {α β : Type} [Cel α] (f : β → α) (g : α → β) (hfg : ∀ x, f (g x) = x) (h : Opn P t α) : @Opn P t β (Cel.iso f) := by
 intro H enc w sp zAi cs y hy
 obtain ⟨x, hx⟩ := h H enc w sp zAi cs y hy
 exact ⟨g x, by show rd _ _ _ (f (g x)); rw [hfg]; exact hx⟩
theorem zdm {P : Program} {t : TypeId} {α : Type} [Cel α] (h : Opn P t α) {H : Type} {enc : TypeId × Value → H} {w : World} {v : Value} {d : DataW H} {p : List MemPlace} (hd : DataW.Trod enc P w 0 (fun _ => true) true t v d p) :
  ∃ x : α, rd w.heap.size w v.cells.toList x := by
 obtain ⟨zAi, hf⟩ := hd
 exact h H enc w _ zAi _ _ hf
end Go.Proofs.YtipbfgknaihifaaGreat
namespace Go.Proofs.YtipbfgknaihifaaGreat
open Go.RowKit
theorem zBs : Opn Tryz.prog 3 Int := zkZ Tryz.underlying3
end Go.Proofs.YtipbfgknaihifaaGreat
namespace Go.Proofs.YtipbfgknaihifaaGreat
open Go.RowKit
open Cel (rd own rd_len rd_one own_rd own_lt rd_below rd_mono own_keep)
theorem isS {B : Nat} {W w1 : World} (hb : Below B W w1) (hB : W.heap.size ≤ B) : (∀ a, (W.cell? a).isSome = true → w1.cell? a = W.cell? a) ∧ (∀ a, (W.cell? a).isSome = true → w1.frozen? a = W.frozen? a) := by
 have lt : ∀ a, (W.cell? a).isSome = true → a.block < B := fun a h => by
  obtain ⟨v, hv⟩ := Option.isSome_iff_exists.1 h
  exact Nat.lt_of_lt_of_le (World.block_lt_of_cell? W a hv) hB
 exact ⟨fun a h => hb.cell (lt a h), fun a h => hb.frozen (lt a h)⟩
@[go_sem] theorem zkO (w : World) (o : Obj) (a : Addr) (h : (w.cell? a).isSome = true) : (w.alloc o).cell? a = w.cell? a := by
 obtain ⟨v, hv⟩ := Option.isSome_iff_exists.1 h
 exact World.cell?_of_block (w := w) (Below.heap_alloc w o a.block (World.block_lt_of_cell? w a hv))
@[go_sem] theorem zhk (w : World) (o : Obj) (a : Addr) (h : (w.cell? a).isSome = true) : (w.alloc o).frozen? a = w.frozen? a := by
 obtain ⟨v, hv⟩ := Option.isSome_iff_exists.1 h
 exact World.frozen?_of_block (w := w) (Below.heap_alloc w o a.block (World.block_lt_of_cell? w a hv))
theorem zL {k : IntKind} {a b : Int} (h : a = b) : Ending.returned (.int k a) = .returned (.int k b) := by rw [h]
def zcr (b : Bool) (w : World) (e : Ending) (w' : World) : Prop := e = .returned (.bool b) ∧ Below w.heap.size w w'
def zCV (n : Int) (w : World) (e : Ending) (w' : World) : Prop := e = .returned (.int .i64 n) ∧ Below w.heap.size w w'
end Go.Proofs.YtipbfgknaihifaaGreat
namespace Go.Proofs.YtipbfgknaihifaaGreat
open Go.RowKit
open Cel (rd own rd_len rd_one own_rd own_lt rd_below rd_mono own_keep)
theorem zlg : Opn Tryz.prog 4 Bool := zh5 Tryz.underlying4
theorem zlB : Opn Tryz.prog 42 (List Int) := vE Tryz.underlying42 (by kernel_rfl) zBs
def zHy (l : List Int) : Nat := l.length
theorem zEj : Opn Tryz.prog 9 ByteArray := zc9 Tryz.underlying9
def xH (n : Nat) (left : Int) : Int := if (n : Int) ≤ left then left - n else -1
theorem yF {n : Nat} {left : Int} (h : (n : Int) ≤ left) : xH n left = left - n := if_pos h
theorem yG {n : Nat} {left : Int} (h : ¬ (n : Int) ≤ left) : xH n left = -1 := if_neg h
theorem zAL {α : Type} (f : α → Nat) (l : List α) (k : Nat) (h : k < l.length) : ((l.take (k + 1)).map f).sum = ((l.take k).map f).sum + f l[k] := by rw [List.take_succ_eq_append_getElem h, List.map_append, List.sum_append]; simp
theorem zD9 {α : Type} (f : α → Nat) (l : List α) (k : Nat) : ((l.take k).map f).sum ≤ (l.map f).sum := by
 have e : (l.map f).sum = ((l.take k).map f).sum + ((l.drop k).map f).sum := by rw [← List.sum_append, ← List.map_append, List.take_append_drop]
 omega
structure ValD where
 K : Int
 N : Int
 S : ByteArray
instance : Flat ValD := Flat.iso fun x => (x.K, x.N, x.S)
def zUv (x : ValD) : Prop := zGh x.K ∧ zGh x.N ∧ x.S.size ≤ maxLen
theorem zWH {B : Nat} {w : World} {vs : List Value} {x : ValD} (h : rd B w vs x) : vs = [.int .i64 x.K, .int .i64 x.N, .string x.S] ∧ zUv x := by
 obtain ⟨a0, b0, rfl, ⟨rfl, i0⟩, ⟨a1, b1, rfl, ⟨rfl, i1⟩, ⟨rfl, i2⟩⟩⟩ := h
 exact ⟨rfl, ⟨i0, i1, i2⟩⟩
theorem Sl.atVal {w : World} {l : List ValD} {a : Option Addr} {n c : Nat} (h : Sl w l (.slice a n c)) (i : Nat) (hi : i < l.length) :
  ∃ b o , a = some ⟨b, o, none⟩ ∧ b < w.heap.size ∧ zUv l[i] ∧ (w.cell? ⟨b, o + i * 3, none⟩ = some (.int .i64 l[i].K) ∧ w.cell? ⟨b, o + i * 3 + 1, none⟩ = some (.int .i64 l[i].N) ∧ w.cell? ⟨b, o + i * 3 + 2, none⟩ = some (.string l[i].S)) := by
 obtain ⟨b, o, vs, h1, h2, h4, h3⟩ := h.at i hi
 obtain ⟨rfl, ho⟩ := zWH h4
 have hk : Cel.k ValD = 3 := rfl
 rw [hk] at h3
 exact ⟨b, o, h1, h2, ho, ⟨h3 0 (by decide), h3 1 (by decide), h3 2 (by decide)⟩⟩
theorem zXd : Opn Tryz.prog 212 ValD :=
 v8 (fun x : ValD => (x.K, x.N, x.S)) (fun x => ⟨x.1, x.2.1, x.2.2⟩) (fun _ => rfl) (y6 Tryz.underlying212 (by kernel_rfl) (zy rfl (by kernel_rfl) zBs (zy rfl (by kernel_rfl) zBs (x8 rfl (by kernel_rfl) zEj))))
theorem zlM : Opn Tryz.prog 209 (List ValD) := vE Tryz.underlying209 (by kernel_rfl) zXd
def zBC (x : ValD) : Nat := x.S.size
def zMD (l : List ValD) : Nat := l.length + (l.map zBC).sum
structure FactD where
 Kind : ByteArray
 Fields : List ValD
instance : Cel FactD := Cel.iso fun x => (x.Kind, x.Fields)
def zOy (x : FactD) : Prop := x.Kind.size ≤ maxLen
theorem zQA {B : Nat} {w : World} {vs : List Value} {x : FactD} (h : rd B w vs x) : ∃ v0, vs = [.string x.Kind, v0] ∧ zOy x ∧ RdS B w x.Fields v0 := by
 obtain ⟨a0, b0, rfl, ⟨rfl, i0⟩, ⟨u1, rfl, s1⟩⟩ := h
 exact ⟨u1, rfl, i0, s1⟩
theorem zP0 : Opn Tryz.prog 211 FactD :=
 v8 (fun x : FactD => (x.Kind, x.Fields)) (fun x => ⟨x.1, x.2⟩) (fun _ => rfl) (y6 Tryz.underlying211 (by kernel_rfl) (zy rfl (by kernel_rfl) zEj (x8 rfl (by kernel_rfl) zlM)))
def v6 (x : FactD) : Nat := x.Kind.size + zMD x.Fields
structure ItemD where
 Id : Int
 F : FactD
instance : Cel ItemD := Cel.iso fun x => (x.Id, x.F)
def zcR (x : ItemD) : Prop := zGh x.Id ∧ zOy x.F
theorem zky {B : Nat} {w : World} {vs : List Value} {x : ItemD} (h : rd B w vs x) : ∃ v0, vs = [.int .i64 x.Id, .string x.F.Kind, v0] ∧ zcR x ∧ RdS B w x.F.Fields v0 := by
 obtain ⟨a0, b0, rfl, ⟨rfl, i0⟩, h1⟩ := h
 obtain ⟨w1_0, rfl, o1, t1_0⟩ := zQA h1
 exact ⟨w1_0, rfl, ⟨i0, o1⟩, t1_0⟩
theorem Sl.atItem {w : World} {l : List ItemD} {a : Option Addr} {n c : Nat} (h : Sl w l (.slice a n c)) (i : Nat) (hi : i < l.length) :
  ∃ b o v0, a = some ⟨b, o, none⟩ ∧ b < w.heap.size ∧ zcR l[i] ∧ (w.cell? ⟨b, o + i * 3, none⟩ = some (.int .i64 l[i].Id) ∧ w.cell? ⟨b, o + i * 3 + 1, none⟩ = some (.string l[i].F.Kind) ∧ w.cell? ⟨b, o + i * 3 + 2, none⟩ = some (v0)) ∧ Sl w l[i].F.Fields v0 := by
 obtain ⟨b, o, vs, h1, h2, h4, h3⟩ := h.at i hi
 obtain ⟨v0, rfl, ho, s0⟩ := zky h4
 have hk : Cel.k ItemD = 3 := rfl
 rw [hk] at h3
 exact ⟨b, o, v0, h1, h2, ho, ⟨h3 0 (by decide), h3 1 (by decide), h3 2 (by decide)⟩, s0⟩
theorem zkR : Opn Tryz.prog 276 ItemD :=
 v8 (fun x : ItemD => (x.Id, x.F)) (fun x => ⟨x.1, x.2⟩) (fun _ => rfl) (y6 Tryz.underlying276 (by kernel_rfl) (zy rfl (by kernel_rfl) zBs (x8 rfl (by kernel_rfl) zP0)))
theorem zjL : Opn Tryz.prog 58 (List ItemD) := vE Tryz.underlying58 (by kernel_rfl) zkR
def zEl (x : ItemD) : Nat := v6 x.F
def zId (l : List ItemD) : Nat := l.length + (l.map zEl).sum
structure StoreD where
 Items : List ItemD
 Next : Int
instance : Cel StoreD := Cel.iso fun x => (x.Items, x.Next)
def zWE (x : StoreD) : Prop := zGh x.Next
theorem zht {B : Nat} {w : World} {vs : List Value} {x : StoreD} (h : rd B w vs x) : ∃ v0, vs = [v0, .int .i64 x.Next] ∧ zWE x ∧ RdS B w x.Items v0 := by
 obtain ⟨a0, b0, rfl, ⟨u0, rfl, s0⟩, ⟨rfl, i1⟩⟩ := h
 exact ⟨u0, rfl, i1, s0⟩
theorem zkE : Opn Tryz.prog 60 StoreD :=
 v8 (fun x : StoreD => (x.Items, x.Next)) (fun x => ⟨x.1, x.2⟩) (fun _ => rfl) (y6 Tryz.underlying60 (by kernel_rfl) (zy rfl (by kernel_rfl) zjL (x8 rfl (by kernel_rfl) zBs)))
def zAO (x : StoreD) : Nat := zId x.Items
structure ArgD where
 K : Int
 S : ByteArray
 V : ValD
instance : Flat ArgD := Flat.iso fun x => (x.K, x.S, x.V)
def zQb (x : ArgD) : Prop := zGh x.K ∧ x.S.size ≤ maxLen ∧ zUv x.V
theorem zQk {B : Nat} {w : World} {vs : List Value} {x : ArgD} (h : rd B w vs x) : vs = [.int .i64 x.K, .string x.S, .int .i64 x.V.K, .int .i64 x.V.N, .string x.V.S] ∧ zQb x := by
 obtain ⟨a0, b0, rfl, ⟨rfl, i0⟩, ⟨a1, b1, rfl, ⟨rfl, i1⟩, h2⟩⟩ := h
 obtain ⟨rfl, o2⟩ := zWH h2
 exact ⟨rfl, ⟨i0, i1, o2⟩⟩
theorem Sl.atArg {w : World} {l : List ArgD} {a : Option Addr} {n c : Nat} (h : Sl w l (.slice a n c)) (i : Nat) (hi : i < l.length) :
  ∃ b o , a = some ⟨b, o, none⟩ ∧ b < w.heap.size ∧ zQb l[i] ∧ (w.cell? ⟨b, o + i * 5, none⟩ = some (.int .i64 l[i].K) ∧ w.cell? ⟨b, o + i * 5 + 1, none⟩ = some (.string l[i].S) ∧ w.cell? ⟨b, o + i * 5 + 2, none⟩ = some (.int .i64 l[i].V.K) ∧ w.cell? ⟨b, o + i * 5 + 3, none⟩ = some (.int .i64 l[i].V.N) ∧ w.cell? ⟨b, o + i * 5 + 4, none⟩ = some (.string l[i].V.S)) := by
 obtain ⟨b, o, vs, h1, h2, h4, h3⟩ := h.at i hi
 obtain ⟨rfl, ho⟩ := zQk h4
 have hk : Cel.k ArgD = 5 := rfl
 rw [hk] at h3
 exact ⟨b, o, h1, h2, ho, ⟨h3 0 (by decide), h3 1 (by decide), h3 2 (by decide), h3 3 (by decide), h3 4 (by decide)⟩⟩
theorem zRF : Opn Tryz.prog 267 ArgD :=
 v8 (fun x : ArgD => (x.K, x.S, x.V)) (fun x => ⟨x.1, x.2.1, x.2.2⟩) (fun _ => rfl) (y6 Tryz.underlying267 (by kernel_rfl) (zy rfl (by kernel_rfl) zBs (zy rfl (by kernel_rfl) zEj (x8 rfl (by kernel_rfl) zXd))))
theorem zlj : Opn Tryz.prog 262 (List ArgD) := vE Tryz.underlying262 (by kernel_rfl) zRF
def vW (x : ArgD) : Nat := x.S.size + zBC x.V
def zLO (l : List ArgD) : Nat := l.length + (l.map vW).sum
structure PatD where
 Kind : ByteArray
 Args : List ArgD
 Not : Bool
instance : Cel PatD := Cel.iso fun x => (x.Kind, x.Args, x.Not)
def zix (x : PatD) : Prop := x.Kind.size ≤ maxLen
theorem zmG {B : Nat} {w : World} {vs : List Value} {x : PatD} (h : rd B w vs x) : ∃ v0, vs = [.string x.Kind, v0, .bool x.Not] ∧ zix x ∧ RdS B w x.Args v0 := by
 obtain ⟨a0, b0, rfl, ⟨rfl, i0⟩, ⟨a1, b1, rfl, ⟨u1, rfl, s1⟩, rfl⟩⟩ := h
 exact ⟨u1, rfl, i0, s1⟩
theorem Sl.atPat {w : World} {l : List PatD} {a : Option Addr} {n c : Nat} (h : Sl w l (.slice a n c)) (i : Nat) (hi : i < l.length) :
  ∃ b o v0, a = some ⟨b, o, none⟩ ∧ b < w.heap.size ∧ zix l[i] ∧ (w.cell? ⟨b, o + i * 3, none⟩ = some (.string l[i].Kind) ∧ w.cell? ⟨b, o + i * 3 + 1, none⟩ = some (v0) ∧ w.cell? ⟨b, o + i * 3 + 2, none⟩ = some (.bool l[i].Not)) ∧ Sl w l[i].Args v0 := by
 obtain ⟨b, o, vs, h1, h2, h4, h3⟩ := h.at i hi
 obtain ⟨v0, rfl, ho, s0⟩ := zmG h4
 have hk : Cel.k PatD = 3 := rfl
 rw [hk] at h3
 exact ⟨b, o, v0, h1, h2, ho, ⟨h3 0 (by decide), h3 1 (by decide), h3 2 (by decide)⟩, s0⟩
theorem znG : Opn Tryz.prog 264 PatD :=
 v8 (fun x : PatD => (x.Kind, x.Args, x.Not)) (fun x => ⟨x.1, x.2.1, x.2.2⟩) (fun _ => rfl) (y6 Tryz.underlying264 (by kernel_rfl) (zy rfl (by kernel_rfl) zEj (zy rfl (by kernel_rfl) zlj (x8 rfl (by kernel_rfl) zlg))))
theorem zld : Opn Tryz.prog 137 (List PatD) := vE Tryz.underlying137 (by kernel_rfl) znG
def zHL (x : PatD) : Nat := x.Kind.size + zLO x.Args
def zFj (l : List PatD) : Nat := l.length + (l.map zHL).sum
structure BindD where
 Name : ByteArray
 V : ValD
instance : Flat BindD := Flat.iso fun x => (x.Name, x.V)
def zdG (x : BindD) : Prop := x.Name.size ≤ maxLen ∧ zUv x.V
theorem zlW {B : Nat} {w : World} {vs : List Value} {x : BindD} (h : rd B w vs x) : vs = [.string x.Name, .int .i64 x.V.K, .int .i64 x.V.N, .string x.V.S] ∧ zdG x := by
 obtain ⟨a0, b0, rfl, ⟨rfl, i0⟩, h1⟩ := h
 obtain ⟨rfl, o1⟩ := zWH h1
 exact ⟨rfl, ⟨i0, o1⟩⟩
theorem Sl.atBind {w : World} {l : List BindD} {a : Option Addr} {n c : Nat} (h : Sl w l (.slice a n c)) (i : Nat) (hi : i < l.length) :
  ∃ b o , a = some ⟨b, o, none⟩ ∧ b < w.heap.size ∧ zdG l[i] ∧ (w.cell? ⟨b, o + i * 4, none⟩ = some (.string l[i].Name) ∧ w.cell? ⟨b, o + i * 4 + 1, none⟩ = some (.int .i64 l[i].V.K) ∧ w.cell? ⟨b, o + i * 4 + 2, none⟩ = some (.int .i64 l[i].V.N) ∧ w.cell? ⟨b, o + i * 4 + 3, none⟩ = some (.string l[i].V.S)) := by
 obtain ⟨b, o, vs, h1, h2, h4, h3⟩ := h.at i hi
 obtain ⟨rfl, ho⟩ := zlW h4
 have hk : Cel.k BindD = 4 := rfl
 rw [hk] at h3
 exact ⟨b, o, h1, h2, ho, ⟨h3 0 (by decide), h3 1 (by decide), h3 2 (by decide), h3 3 (by decide)⟩⟩
theorem zla : Opn Tryz.prog 311 BindD :=
 v8 (fun x : BindD => (x.Name, x.V)) (fun x => ⟨x.1, x.2⟩) (fun _ => rfl) (y6 Tryz.underlying311 (by kernel_rfl) (zy rfl (by kernel_rfl) zEj (x8 rfl (by kernel_rfl) zXd)))
theorem ziM : Opn Tryz.prog 205 (List BindD) := vE Tryz.underlying205 (by kernel_rfl) zla
def zEc (x : BindD) : Nat := x.Name.size + zBC x.V
def zIy (l : List BindD) : Nat := l.length + (l.map zEc).sum
structure CondD where
 Op : Int
 L : ArgD
 R : ArgD
instance : Flat CondD := Flat.iso fun x => (x.Op, x.L, x.R)
def zbZ (x : CondD) : Prop := zGh x.Op ∧ zQb x.L ∧ zQb x.R
theorem zkt {B : Nat} {w : World} {vs : List Value} {x : CondD} (h : rd B w vs x) : vs = [.int .i64 x.Op, .int .i64 x.L.K, .string x.L.S, .int .i64 x.L.V.K, .int .i64 x.L.V.N, .string x.L.V.S, .int .i64 x.R.K, .string x.R.S, .int .i64 x.R.V.K, .int .i64 x.R.V.N, .string x.R.V.S] ∧ zbZ x := by
 obtain ⟨a0, b0, rfl, ⟨rfl, i0⟩, ⟨a1, b1, rfl, h1, h2⟩⟩ := h
 obtain ⟨rfl, o1⟩ := zQk h1
 obtain ⟨rfl, o2⟩ := zQk h2
 exact ⟨rfl, ⟨i0, o1, o2⟩⟩
theorem Sl.atCond {w : World} {l : List CondD} {a : Option Addr} {n c : Nat} (h : Sl w l (.slice a n c)) (i : Nat) (hi : i < l.length) :
  ∃ b o , a = some ⟨b, o, none⟩ ∧ b < w.heap.size ∧ zbZ l[i] ∧ (w.cell? ⟨b, o + i * 11, none⟩ = some (.int .i64 l[i].Op) ∧ w.cell? ⟨b, o + i * 11 + 1, none⟩ = some (.int .i64 l[i].L.K) ∧ w.cell? ⟨b, o + i * 11 + 2, none⟩ = some (.string l[i].L.S) ∧ w.cell? ⟨b, o + i * 11 + 3, none⟩ = some (.int .i64 l[i].L.V.K) ∧ w.cell? ⟨b, o + i * 11 + 4, none⟩ = some (.int .i64 l[i].L.V.N) ∧ w.cell? ⟨b, o + i * 11 + 5, none⟩ = some (.string l[i].L.V.S) ∧ w.cell? ⟨b, o + i * 11 + 6, none⟩ = some (.int .i64 l[i].R.K) ∧ w.cell? ⟨b, o + i * 11 + 7, none⟩ = some (.string l[i].R.S) ∧ w.cell? ⟨b, o + i * 11 + 8, none⟩ = some (.int .i64 l[i].R.V.K) ∧ w.cell? ⟨b, o + i * 11 + 9, none⟩ = some (.int .i64 l[i].R.V.N) ∧ w.cell? ⟨b, o + i * 11 + 10, none⟩ = some (.string l[i].R.V.S)) := by
 obtain ⟨b, o, vs, h1, h2, h4, h3⟩ := h.at i hi
 obtain ⟨rfl, ho⟩ := zkt h4
 have hk : Cel.k CondD = 11 := rfl
 rw [hk] at h3
 exact ⟨b, o, h1, h2, ho, ⟨h3 0 (by decide), h3 1 (by decide), h3 2 (by decide), h3 3 (by decide), h3 4 (by decide), h3 5 (by decide), h3 6 (by decide), h3 7 (by decide), h3 8 (by decide), h3 9 (by decide), h3 10 (by decide)⟩⟩
theorem zkT : Opn Tryz.prog 269 CondD :=
 v8 (fun x : CondD => (x.Op, x.L, x.R)) (fun x => ⟨x.1, x.2.1, x.2.2⟩) (fun _ => rfl) (y6 Tryz.underlying269 (by kernel_rfl) (zy rfl (by kernel_rfl) zBs (zy rfl (by kernel_rfl) zRF (x8 rfl (by kernel_rfl) zRF))))
theorem zjY : Opn Tryz.prog 138 (List CondD) := vE Tryz.underlying138 (by kernel_rfl) zkT
def zEv (x : CondD) : Nat := vW x.L + vW x.R
def zFn (l : List CondD) : Nat := l.length + (l.map zEv).sum
structure ExprD where
 Op : ByteArray
 L : ArgD
 R : ArgD
instance : Flat ExprD := Flat.iso fun x => (x.Op, x.L, x.R)
def zbt (x : ExprD) : Prop := x.Op.size ≤ maxLen ∧ zQb x.L ∧ zQb x.R
theorem zk9 {B : Nat} {w : World} {vs : List Value} {x : ExprD} (h : rd B w vs x) : vs = [.string x.Op, .int .i64 x.L.K, .string x.L.S, .int .i64 x.L.V.K, .int .i64 x.L.V.N, .string x.L.V.S, .int .i64 x.R.K, .string x.R.S, .int .i64 x.R.V.K, .int .i64 x.R.V.N, .string x.R.V.S] ∧ zbt x := by
 obtain ⟨a0, b0, rfl, ⟨rfl, i0⟩, ⟨a1, b1, rfl, h1, h2⟩⟩ := h
 obtain ⟨rfl, o1⟩ := zQk h1
 obtain ⟨rfl, o2⟩ := zQk h2
 exact ⟨rfl, ⟨i0, o1, o2⟩⟩
theorem Sl.atExpr {w : World} {l : List ExprD} {a : Option Addr} {n c : Nat} (h : Sl w l (.slice a n c)) (i : Nat) (hi : i < l.length) :
  ∃ b o , a = some ⟨b, o, none⟩ ∧ b < w.heap.size ∧ zbt l[i] ∧ (w.cell? ⟨b, o + i * 11, none⟩ = some (.string l[i].Op) ∧ w.cell? ⟨b, o + i * 11 + 1, none⟩ = some (.int .i64 l[i].L.K) ∧ w.cell? ⟨b, o + i * 11 + 2, none⟩ = some (.string l[i].L.S) ∧ w.cell? ⟨b, o + i * 11 + 3, none⟩ = some (.int .i64 l[i].L.V.K) ∧ w.cell? ⟨b, o + i * 11 + 4, none⟩ = some (.int .i64 l[i].L.V.N) ∧ w.cell? ⟨b, o + i * 11 + 5, none⟩ = some (.string l[i].L.V.S) ∧ w.cell? ⟨b, o + i * 11 + 6, none⟩ = some (.int .i64 l[i].R.K) ∧ w.cell? ⟨b, o + i * 11 + 7, none⟩ = some (.string l[i].R.S) ∧ w.cell? ⟨b, o + i * 11 + 8, none⟩ = some (.int .i64 l[i].R.V.K) ∧ w.cell? ⟨b, o + i * 11 + 9, none⟩ = some (.int .i64 l[i].R.V.N) ∧ w.cell? ⟨b, o + i * 11 + 10, none⟩ = some (.string l[i].R.V.S)) := by
 obtain ⟨b, o, vs, h1, h2, h4, h3⟩ := h.at i hi
 obtain ⟨rfl, ho⟩ := zk9 h4
 have hk : Cel.k ExprD = 11 := rfl
 rw [hk] at h3
 exact ⟨b, o, h1, h2, ho, ⟨h3 0 (by decide), h3 1 (by decide), h3 2 (by decide), h3 3 (by decide), h3 4 (by decide), h3 5 (by decide), h3 6 (by decide), h3 7 (by decide), h3 8 (by decide), h3 9 (by decide), h3 10 (by decide)⟩⟩
theorem zll : Opn Tryz.prog 325 ExprD :=
 v8 (fun x : ExprD => (x.Op, x.L, x.R)) (fun x => ⟨x.1, x.2.1, x.2.2⟩) (fun _ => rfl) (y6 Tryz.underlying325 (by kernel_rfl) (zy rfl (by kernel_rfl) zEj (zy rfl (by kernel_rfl) zRF (x8 rfl (by kernel_rfl) zRF))))
theorem zjm : Opn Tryz.prog 271 (List ExprD) := vE Tryz.underlying271 (by kernel_rfl) zll
def zEm (x : ExprD) : Nat := x.Op.size + vW x.L + vW x.R
def zHb (l : List ExprD) : Nat := l.length + (l.map zEm).sum
structure ActD where
 Kind : Int
 Name : ByteArray
 Args : List ExprD
 N : Int
 Undo : ByteArray
instance : Cel ActD := Cel.iso fun x => (x.Kind, x.Name, x.Args, x.N, x.Undo)
def zh2 (x : ActD) : Prop := zGh x.Kind ∧ x.Name.size ≤ maxLen ∧ zGh x.N ∧ x.Undo.size ≤ maxLen
theorem zme {B : Nat} {w : World} {vs : List Value} {x : ActD} (h : rd B w vs x) : ∃ v0, vs = [.int .i64 x.Kind, .string x.Name, v0, .int .i64 x.N, .string x.Undo] ∧ zh2 x ∧ RdS B w x.Args v0 := by
 obtain ⟨a0, b0, rfl, ⟨rfl, i0⟩, ⟨a1, b1, rfl, ⟨rfl, i1⟩, ⟨a2, b2, rfl, ⟨u2, rfl, s2⟩, ⟨a3, b3, rfl, ⟨rfl, i3⟩, ⟨rfl, i4⟩⟩⟩⟩⟩ := h
 exact ⟨u2, rfl, ⟨i0, i1, i3, i4⟩, s2⟩
theorem Sl.atAct {w : World} {l : List ActD} {a : Option Addr} {n c : Nat} (h : Sl w l (.slice a n c)) (i : Nat) (hi : i < l.length) :
  ∃ b o v0, a = some ⟨b, o, none⟩ ∧ b < w.heap.size ∧ zh2 l[i] ∧ (w.cell? ⟨b, o + i * 5, none⟩ = some (.int .i64 l[i].Kind) ∧ w.cell? ⟨b, o + i * 5 + 1, none⟩ = some (.string l[i].Name) ∧ w.cell? ⟨b, o + i * 5 + 2, none⟩ = some (v0) ∧ w.cell? ⟨b, o + i * 5 + 3, none⟩ = some (.int .i64 l[i].N) ∧ w.cell? ⟨b, o + i * 5 + 4, none⟩ = some (.string l[i].Undo)) ∧ Sl w l[i].Args v0 := by
 obtain ⟨b, o, vs, h1, h2, h4, h3⟩ := h.at i hi
 obtain ⟨v0, rfl, ho, s0⟩ := zme h4
 have hk : Cel.k ActD = 5 := rfl
 rw [hk] at h3
 exact ⟨b, o, v0, h1, h2, ho, ⟨h3 0 (by decide), h3 1 (by decide), h3 2 (by decide), h3 3 (by decide), h3 4 (by decide)⟩, s0⟩
theorem zmK : Opn Tryz.prog 273 ActD :=
 v8 (fun x : ActD => (x.Kind, x.Name, x.Args, x.N, x.Undo)) (fun x => ⟨x.1, x.2.1, x.2.2.1, x.2.2.2.1, x.2.2.2.2⟩) (fun _ => rfl) (y6 Tryz.underlying273 (by kernel_rfl) (zy rfl (by kernel_rfl) zBs (zy rfl (by kernel_rfl) zEj (zy rfl (by kernel_rfl) zjm (zy rfl (by kernel_rfl) zBs (x8 rfl (by kernel_rfl) zEj))))))
theorem zlL : Opn Tryz.prog 139 (List ActD) := vE Tryz.underlying139 (by kernel_rfl) zmK
def zHT (x : ActD) : Nat := x.Name.size + zHb x.Args + x.Undo.size
def zLe (l : List ActD) : Nat := l.length + (l.map zHT).sum
structure RuleD where
 Name : ByteArray
 Sal : Int
 Pats : List PatD
 Conds : List CondD
 Acts : List ActD
instance : Cel RuleD := Cel.iso fun x => (x.Name, x.Sal, x.Pats, x.Conds, x.Acts)
def zb2 (x : RuleD) : Prop := x.Name.size ≤ maxLen ∧ zGh x.Sal
theorem zku {B : Nat} {w : World} {vs : List Value} {x : RuleD} (h : rd B w vs x) : ∃ v0 v1 v2, vs = [.string x.Name, .int .i64 x.Sal, v0, v1, v2] ∧ zb2 x ∧ RdS B w x.Pats v0 ∧ RdS B w x.Conds v1 ∧ RdS B w x.Acts v2 := by
 obtain ⟨a0, b0, rfl, ⟨rfl, i0⟩, ⟨a1, b1, rfl, ⟨rfl, i1⟩, ⟨a2, b2, rfl, ⟨u2, rfl, s2⟩, ⟨a3, b3, rfl, ⟨u3, rfl, s3⟩, ⟨u4, rfl, s4⟩⟩⟩⟩⟩ := h
 exact ⟨u2, u3, u4, rfl, ⟨i0, i1⟩, s2, s3, s4⟩
theorem Sl.atRule {w : World} {l : List RuleD} {a : Option Addr} {n c : Nat} (h : Sl w l (.slice a n c)) (i : Nat) (hi : i < l.length) :
  ∃ b o v0 v1 v2, a = some ⟨b, o, none⟩ ∧ b < w.heap.size ∧ zb2 l[i] ∧ (w.cell? ⟨b, o + i * 5, none⟩ = some (.string l[i].Name) ∧ w.cell? ⟨b, o + i * 5 + 1, none⟩ = some (.int .i64 l[i].Sal) ∧ w.cell? ⟨b, o + i * 5 + 2, none⟩ = some (v0) ∧ w.cell? ⟨b, o + i * 5 + 3, none⟩ = some (v1) ∧ w.cell? ⟨b, o + i * 5 + 4, none⟩ = some (v2)) ∧ Sl w l[i].Pats v0 ∧ Sl w l[i].Conds v1 ∧ Sl w l[i].Acts v2 := by
 obtain ⟨b, o, vs, h1, h2, h4, h3⟩ := h.at i hi
 obtain ⟨v0, v1, v2, rfl, ho, s0, s1, s2⟩ := zku h4
 have hk : Cel.k RuleD = 5 := rfl
 rw [hk] at h3
 exact ⟨b, o, v0, v1, v2, h1, h2, ho, ⟨h3 0 (by decide), h3 1 (by decide), h3 2 (by decide), h3 3 (by decide), h3 4 (by decide)⟩, s0, s1, s2⟩
theorem zks : Opn Tryz.prog 141 RuleD :=
 v8 (fun x : RuleD => (x.Name, x.Sal, x.Pats, x.Conds, x.Acts)) (fun x => ⟨x.1, x.2.1, x.2.2.1, x.2.2.2.1, x.2.2.2.2⟩) (fun _ => rfl) (y6 Tryz.underlying141 (by kernel_rfl) (zy rfl (by kernel_rfl) zEj (zy rfl (by kernel_rfl) zBs (zy rfl (by kernel_rfl) zld (zy rfl (by kernel_rfl) zjY (x8 rfl (by kernel_rfl) zlL))))))
theorem zii : Opn Tryz.prog 54 (List RuleD) := vE Tryz.underlying54 (by kernel_rfl) zks
def zEu (x : RuleD) : Nat := x.Name.size + zFj x.Pats + zFn x.Conds + zLe x.Acts
def zIu (l : List RuleD) : Nat := l.length + (l.map zEu).sum
structure DefD where
 Name : ByteArray
 Rules : List RuleD
instance : Cel DefD := Cel.iso fun x => (x.Name, x.Rules)
def zis (x : DefD) : Prop := x.Name.size ≤ maxLen
theorem znD {B : Nat} {w : World} {vs : List Value} {x : DefD} (h : rd B w vs x) : ∃ v0, vs = [.string x.Name, v0] ∧ zis x ∧ RdS B w x.Rules v0 := by
 obtain ⟨a0, b0, rfl, ⟨rfl, i0⟩, ⟨u1, rfl, s1⟩⟩ := h
 exact ⟨u1, rfl, i0, s1⟩
theorem Sl.atDef {w : World} {l : List DefD} {a : Option Addr} {n c : Nat} (h : Sl w l (.slice a n c)) (i : Nat) (hi : i < l.length) :
  ∃ b o v0, a = some ⟨b, o, none⟩ ∧ b < w.heap.size ∧ zis l[i] ∧ (w.cell? ⟨b, o + i * 2, none⟩ = some (.string l[i].Name) ∧ w.cell? ⟨b, o + i * 2 + 1, none⟩ = some (v0)) ∧ Sl w l[i].Rules v0 := by
 obtain ⟨b, o, vs, h1, h2, h4, h3⟩ := h.at i hi
 obtain ⟨v0, rfl, ho, s0⟩ := znD h4
 have hk : Cel.k DefD = 2 := rfl
 rw [hk] at h3
 exact ⟨b, o, v0, h1, h2, ho, ⟨h3 0 (by decide), h3 1 (by decide)⟩, s0⟩
theorem zmO : Opn Tryz.prog 56 DefD :=
 v8 (fun x : DefD => (x.Name, x.Rules)) (fun x => ⟨x.1, x.2⟩) (fun _ => rfl) (y6 Tryz.underlying56 (by kernel_rfl) (zy rfl (by kernel_rfl) zEj (x8 rfl (by kernel_rfl) zii)))
theorem zlP : Opn Tryz.prog 22 (List DefD) := vE Tryz.underlying22 (by kernel_rfl) zmO
def zG5 (x : DefD) : Nat := x.Name.size + zIu x.Rules
def zH9 (l : List DefD) : Nat := l.length + (l.map zG5).sum
structure MatchD where
 Rule : Int
 Ids : List Int
 Binds : List BindD
instance : Cel MatchD := Cel.iso fun x => (x.Rule, x.Ids, x.Binds)
def zXH (x : MatchD) : Prop := zGh x.Rule
theorem zip {B : Nat} {w : World} {vs : List Value} {x : MatchD} (h : rd B w vs x) : ∃ v0 v1, vs = [.int .i64 x.Rule, v0, v1] ∧ zXH x ∧ RdS B w x.Ids v0 ∧ RdS B w x.Binds v1 := by
 obtain ⟨a0, b0, rfl, ⟨rfl, i0⟩, ⟨a1, b1, rfl, ⟨u1, rfl, s1⟩, ⟨u2, rfl, s2⟩⟩⟩ := h
 exact ⟨u1, u2, rfl, i0, s1, s2⟩
theorem Sl.atMatch {w : World} {l : List MatchD} {a : Option Addr} {n c : Nat} (h : Sl w l (.slice a n c)) (i : Nat) (hi : i < l.length) :
  ∃ b o v0 v1, a = some ⟨b, o, none⟩ ∧ b < w.heap.size ∧ zXH l[i] ∧ (w.cell? ⟨b, o + i * 3, none⟩ = some (.int .i64 l[i].Rule) ∧ w.cell? ⟨b, o + i * 3 + 1, none⟩ = some (v0) ∧ w.cell? ⟨b, o + i * 3 + 2, none⟩ = some (v1)) ∧ Sl w l[i].Ids v0 ∧ Sl w l[i].Binds v1 := by
 obtain ⟨b, o, vs, h1, h2, h4, h3⟩ := h.at i hi
 obtain ⟨v0, v1, rfl, ho, s0, s1⟩ := zip h4
 have hk : Cel.k MatchD = 3 := rfl
 rw [hk] at h3
 exact ⟨b, o, v0, v1, h1, h2, ho, ⟨h3 0 (by decide), h3 1 (by decide), h3 2 (by decide)⟩, s0, s1⟩
theorem ziC : Opn Tryz.prog 207 MatchD :=
 v8 (fun x : MatchD => (x.Rule, x.Ids, x.Binds)) (fun x => ⟨x.1, x.2.1, x.2.2⟩) (fun _ => rfl) (y6 Tryz.underlying207 (by kernel_rfl) (zy rfl (by kernel_rfl) zBs (zy rfl (by kernel_rfl) zlB (x8 rfl (by kernel_rfl) ziM))))
theorem ze9 : Opn Tryz.prog 61 (List MatchD) := vE Tryz.underlying61 (by kernel_rfl) ziC
def zDF (x : MatchD) : Nat := zHy x.Ids + zIy x.Binds
def zAc (l : List MatchD) : Nat := l.length + (l.map zDF).sum
structure TimerD where
 At : Int
 F : FactD
instance : Cel TimerD := Cel.iso fun x => (x.At, x.F)
def zVO (x : TimerD) : Prop := zGh x.At ∧ zOy x.F
theorem zie {B : Nat} {w : World} {vs : List Value} {x : TimerD} (h : rd B w vs x) : ∃ v0, vs = [.int .i64 x.At, .string x.F.Kind, v0] ∧ zVO x ∧ RdS B w x.F.Fields v0 := by
 obtain ⟨a0, b0, rfl, ⟨rfl, i0⟩, h1⟩ := h
 obtain ⟨w1_0, rfl, o1, t1_0⟩ := zQA h1
 exact ⟨w1_0, rfl, ⟨i0, o1⟩, t1_0⟩
theorem Sl.atTimer {w : World} {l : List TimerD} {a : Option Addr} {n c : Nat} (h : Sl w l (.slice a n c)) (i : Nat) (hi : i < l.length) :
  ∃ b o v0, a = some ⟨b, o, none⟩ ∧ b < w.heap.size ∧ zVO l[i] ∧ (w.cell? ⟨b, o + i * 3, none⟩ = some (.int .i64 l[i].At) ∧ w.cell? ⟨b, o + i * 3 + 1, none⟩ = some (.string l[i].F.Kind) ∧ w.cell? ⟨b, o + i * 3 + 2, none⟩ = some (v0)) ∧ Sl w l[i].F.Fields v0 := by
 obtain ⟨b, o, vs, h1, h2, h4, h3⟩ := h.at i hi
 obtain ⟨v0, rfl, ho, s0⟩ := zie h4
 have hk : Cel.k TimerD = 3 := rfl
 rw [hk] at h3
 exact ⟨b, o, v0, h1, h2, ho, ⟨h3 0 (by decide), h3 1 (by decide), h3 2 (by decide)⟩, s0⟩
theorem zkN : Opn Tryz.prog 217 TimerD :=
 v8 (fun x : TimerD => (x.At, x.F)) (fun x => ⟨x.1, x.2⟩) (fun _ => rfl) (y6 Tryz.underlying217 (by kernel_rfl) (zy rfl (by kernel_rfl) zBs (x8 rfl (by kernel_rfl) zP0)))
theorem zeL : Opn Tryz.prog 63 (List TimerD) := vE Tryz.underlying63 (by kernel_rfl) zkN
def zDR (x : TimerD) : Nat := v6 x.F
def zEE (l : List TimerD) : Nat := l.length + (l.map zDR).sum
structure TaskD where
 F : FactD
 Undo : ByteArray
 State : Int
 Tries : Int
 Due : Int
 V : ValD
instance : Cel TaskD := Cel.iso fun x => (x.F, x.Undo, x.State, x.Tries, x.Due, x.V)
def zcI (x : TaskD) : Prop := zOy x.F ∧ x.Undo.size ≤ maxLen ∧ zGh x.State ∧ zGh x.Tries ∧ zGh x.Due ∧ zUv x.V
theorem zlm {B : Nat} {w : World} {vs : List Value} {x : TaskD} (h : rd B w vs x) : ∃ v0, vs = [.string x.F.Kind, v0, .string x.Undo, .int .i64 x.State, .int .i64 x.Tries, .int .i64 x.Due, .int .i64 x.V.K, .int .i64 x.V.N, .string x.V.S] ∧ zcI x ∧ RdS B w x.F.Fields v0 := by
 obtain ⟨a0, b0, rfl, h0, ⟨a1, b1, rfl, ⟨rfl, i1⟩, ⟨a2, b2, rfl, ⟨rfl, i2⟩, ⟨a3, b3, rfl, ⟨rfl, i3⟩, ⟨a4, b4, rfl, ⟨rfl, i4⟩, h5⟩⟩⟩⟩⟩ := h
 obtain ⟨w0_0, rfl, o0, t0_0⟩ := zQA h0
 obtain ⟨rfl, o5⟩ := zWH h5
 exact ⟨w0_0, rfl, ⟨o0, i1, i2, i3, i4, o5⟩, t0_0⟩
theorem Sl.atTask {w : World} {l : List TaskD} {a : Option Addr} {n c : Nat} (h : Sl w l (.slice a n c)) (i : Nat) (hi : i < l.length) :
  ∃ b o v0, a = some ⟨b, o, none⟩ ∧ b < w.heap.size ∧ zcI l[i] ∧ (w.cell? ⟨b, o + i * 9, none⟩ = some (.string l[i].F.Kind) ∧ w.cell? ⟨b, o + i * 9 + 1, none⟩ = some (v0) ∧ w.cell? ⟨b, o + i * 9 + 2, none⟩ = some (.string l[i].Undo) ∧ w.cell? ⟨b, o + i * 9 + 3, none⟩ = some (.int .i64 l[i].State) ∧ w.cell? ⟨b, o + i * 9 + 4, none⟩ = some (.int .i64 l[i].Tries) ∧ w.cell? ⟨b, o + i * 9 + 5, none⟩ = some (.int .i64 l[i].Due) ∧ w.cell? ⟨b, o + i * 9 + 6, none⟩ = some (.int .i64 l[i].V.K) ∧ w.cell? ⟨b, o + i * 9 + 7, none⟩ = some (.int .i64 l[i].V.N) ∧ w.cell? ⟨b, o + i * 9 + 8, none⟩ = some (.string l[i].V.S)) ∧ Sl w l[i].F.Fields v0 := by
 obtain ⟨b, o, vs, h1, h2, h4, h3⟩ := h.at i hi
 obtain ⟨v0, rfl, ho, s0⟩ := zlm h4
 have hk : Cel.k TaskD = 9 := rfl
 rw [hk] at h3
 exact ⟨b, o, v0, h1, h2, ho, ⟨h3 0 (by decide), h3 1 (by decide), h3 2 (by decide), h3 3 (by decide), h3 4 (by decide), h3 5 (by decide), h3 6 (by decide), h3 7 (by decide), h3 8 (by decide)⟩, s0⟩
theorem zkb : Opn Tryz.prog 214 TaskD :=
 v8 (fun x : TaskD => (x.F, x.Undo, x.State, x.Tries, x.Due, x.V)) (fun x => ⟨x.1, x.2.1, x.2.2.1, x.2.2.2.1, x.2.2.2.2.1, x.2.2.2.2.2⟩) (fun _ => rfl) (y6 Tryz.underlying214 (by kernel_rfl) (zy rfl (by kernel_rfl) zP0 (zy rfl (by kernel_rfl) zEj (zy rfl (by kernel_rfl) zBs (zy rfl (by kernel_rfl) zBs (zy rfl (by kernel_rfl) zBs (x8 rfl (by kernel_rfl) zXd)))))))
theorem zjy : Opn Tryz.prog 62 (List TaskD) := vE Tryz.underlying62 (by kernel_rfl) zkb
def zE3 (x : TaskD) : Nat := v6 x.F + x.Undo.size + zBC x.V
def zDx (l : List TaskD) : Nat := l.length + (l.map zE3).sum
structure UndoD where
 Key : ByteArray
 F : FactD
instance : Cel UndoD := Cel.iso fun x => (x.Key, x.F)
def zdD (x : UndoD) : Prop := x.Key.size ≤ maxLen ∧ zOy x.F
theorem zk2 {B : Nat} {w : World} {vs : List Value} {x : UndoD} (h : rd B w vs x) : ∃ v0, vs = [.string x.Key, .string x.F.Kind, v0] ∧ zdD x ∧ RdS B w x.F.Fields v0 := by
 obtain ⟨a0, b0, rfl, ⟨rfl, i0⟩, h1⟩ := h
 obtain ⟨w1_0, rfl, o1, t1_0⟩ := zQA h1
 exact ⟨w1_0, rfl, ⟨i0, o1⟩, t1_0⟩
theorem Sl.atUndo {w : World} {l : List UndoD} {a : Option Addr} {n c : Nat} (h : Sl w l (.slice a n c)) (i : Nat) (hi : i < l.length) :
  ∃ b o v0, a = some ⟨b, o, none⟩ ∧ b < w.heap.size ∧ zdD l[i] ∧ (w.cell? ⟨b, o + i * 3, none⟩ = some (.string l[i].Key) ∧ w.cell? ⟨b, o + i * 3 + 1, none⟩ = some (.string l[i].F.Kind) ∧ w.cell? ⟨b, o + i * 3 + 2, none⟩ = some (v0)) ∧ Sl w l[i].F.Fields v0 := by
 obtain ⟨b, o, vs, h1, h2, h4, h3⟩ := h.at i hi
 obtain ⟨v0, rfl, ho, s0⟩ := zk2 h4
 have hk : Cel.k UndoD = 3 := rfl
 rw [hk] at h3
 exact ⟨b, o, v0, h1, h2, ho, ⟨h3 0 (by decide), h3 1 (by decide), h3 2 (by decide)⟩, s0⟩
theorem zlD : Opn Tryz.prog 220 UndoD :=
 v8 (fun x : UndoD => (x.Key, x.F)) (fun x => ⟨x.1, x.2⟩) (fun _ => rfl) (y6 Tryz.underlying220 (by kernel_rfl) (zy rfl (by kernel_rfl) zEj (x8 rfl (by kernel_rfl) zP0)))
theorem ziW : Opn Tryz.prog 64 (List UndoD) := vE Tryz.underlying64 (by kernel_rfl) zlD
def zE0 (x : UndoD) : Nat := x.Key.size + v6 x.F
def zI5 (l : List UndoD) : Nat := l.length + (l.map zE0).sum
structure InstD where
 S : StoreD
 Fired : List MatchD
 Tasks : List TaskD
 Timers : List TimerD
 Undos : List UndoD
 State : Int
 Now : Int
instance : Cel InstD := Cel.iso fun x => (x.S, x.Fired, x.Tasks, x.Timers, x.Undos, x.State, x.Now)
def zcu (x : InstD) : Prop := zWE x.S ∧ zGh x.State ∧ zGh x.Now
theorem zkV {B : Nat} {w : World} {vs : List Value} {x : InstD} (h : rd B w vs x) : ∃ v0 v1 v2 v3 v4, vs = [v0, .int .i64 x.S.Next, v1, v2, v3, v4, .int .i64 x.State, .int .i64 x.Now] ∧ zcu x ∧ RdS B w x.S.Items v0 ∧ RdS B w x.Fired v1 ∧ RdS B w x.Tasks v2 ∧ RdS B w x.Timers v3 ∧ RdS B w x.Undos v4 := by
 obtain ⟨a0, b0, rfl, h0, ⟨a1, b1, rfl, ⟨u1, rfl, s1⟩, ⟨a2, b2, rfl, ⟨u2, rfl, s2⟩, ⟨a3, b3, rfl, ⟨u3, rfl, s3⟩, ⟨a4, b4, rfl, ⟨u4, rfl, s4⟩, ⟨a5, b5, rfl, ⟨rfl, i5⟩, ⟨rfl, i6⟩⟩⟩⟩⟩⟩⟩ := h
 obtain ⟨w0_0, rfl, o0, t0_0⟩ := zht h0
 exact ⟨w0_0, u1, u2, u3, u4, rfl, ⟨o0, i5, i6⟩, t0_0, s1, s2, s3, s4⟩
theorem zke : Opn Tryz.prog 66 InstD :=
 v8 (fun x : InstD => (x.S, x.Fired, x.Tasks, x.Timers, x.Undos, x.State, x.Now)) (fun x => ⟨x.1, x.2.1, x.2.2.1, x.2.2.2.1, x.2.2.2.2.1, x.2.2.2.2.2.1, x.2.2.2.2.2.2⟩) (fun _ => rfl) (y6 Tryz.underlying66 (by kernel_rfl) (zy rfl (by kernel_rfl) zkE (zy rfl (by kernel_rfl) ze9 (zy rfl (by kernel_rfl) zjy (zy rfl (by kernel_rfl) zeL (zy rfl (by kernel_rfl) ziW (zy rfl (by kernel_rfl) zBs (x8 rfl (by kernel_rfl) zBs))))))))
def zJn (x : InstD) : Nat := zAO x.S + zAc x.Fired + zDx x.Tasks + zEE x.Timers + zI5 x.Undos
structure WorkD where
 Name : ByteArray
 Def : ByteArray
 X : InstD
instance : Cel WorkD := Cel.iso fun x => (x.Name, x.Def, x.X)
def zcD (x : WorkD) : Prop := x.Name.size ≤ maxLen ∧ x.Def.size ≤ maxLen ∧ zcu x.X
theorem zlk {B : Nat} {w : World} {vs : List Value} {x : WorkD} (h : rd B w vs x) : ∃ v0 v1 v2 v3 v4, vs = [.string x.Name, .string x.Def, v0, .int .i64 x.X.S.Next, v1, v2, v3, v4, .int .i64 x.X.State, .int .i64 x.X.Now] ∧ zcD x ∧ RdS B w x.X.S.Items v0 ∧ RdS B w x.X.Fired v1 ∧ RdS B w x.X.Tasks v2 ∧ RdS B w x.X.Timers v3 ∧ RdS B w x.X.Undos v4 := by
 obtain ⟨a0, b0, rfl, ⟨rfl, i0⟩, ⟨a1, b1, rfl, ⟨rfl, i1⟩, h2⟩⟩ := h
 obtain ⟨w2_0, w2_1, w2_2, w2_3, w2_4, rfl, o2, t2_0, t2_1, t2_2, t2_3, t2_4⟩ := zkV h2
 exact ⟨w2_0, w2_1, w2_2, w2_3, w2_4, rfl, ⟨i0, i1, o2⟩, t2_0, t2_1, t2_2, t2_3, t2_4⟩
theorem Sl.atWork {w : World} {l : List WorkD} {a : Option Addr} {n c : Nat} (h : Sl w l (.slice a n c)) (i : Nat) (hi : i < l.length) :
  ∃ b o v0 v1 v2 v3 v4, a = some ⟨b, o, none⟩ ∧ b < w.heap.size ∧ zcD l[i] ∧ (w.cell? ⟨b, o + i * 10, none⟩ = some (.string l[i].Name) ∧ w.cell? ⟨b, o + i * 10 + 1, none⟩ = some (.string l[i].Def) ∧ w.cell? ⟨b, o + i * 10 + 2, none⟩ = some (v0) ∧ w.cell? ⟨b, o + i * 10 + 3, none⟩ = some (.int .i64 l[i].X.S.Next) ∧ w.cell? ⟨b, o + i * 10 + 4, none⟩ = some (v1) ∧ w.cell? ⟨b, o + i * 10 + 5, none⟩ = some (v2) ∧ w.cell? ⟨b, o + i * 10 + 6, none⟩ = some (v3) ∧ w.cell? ⟨b, o + i * 10 + 7, none⟩ = some (v4) ∧ w.cell? ⟨b, o + i * 10 + 8, none⟩ = some (.int .i64 l[i].X.State) ∧ w.cell? ⟨b, o + i * 10 + 9, none⟩ = some (.int .i64 l[i].X.Now)) ∧ Sl w l[i].X.S.Items v0 ∧ Sl w l[i].X.Fired v1 ∧ Sl w l[i].X.Tasks v2 ∧ Sl w l[i].X.Timers v3 ∧ Sl w l[i].X.Undos v4 := by
 obtain ⟨b, o, vs, h1, h2, h4, h3⟩ := h.at i hi
 obtain ⟨v0, v1, v2, v3, v4, rfl, ho, s0, s1, s2, s3, s4⟩ := zlk h4
 have hk : Cel.k WorkD = 10 := rfl
 rw [hk] at h3
 exact ⟨b, o, v0, v1, v2, v3, v4, h1, h2, ho, ⟨h3 0 (by decide), h3 1 (by decide), h3 2 (by decide), h3 3 (by decide), h3 4 (by decide), h3 5 (by decide), h3 6 (by decide), h3 7 (by decide), h3 8 (by decide), h3 9 (by decide)⟩, s0, s1, s2, s3, s4⟩
theorem zlF : Opn Tryz.prog 68 WorkD :=
 v8 (fun x : WorkD => (x.Name, x.Def, x.X)) (fun x => ⟨x.1, x.2.1, x.2.2⟩) (fun _ => rfl) (y6 Tryz.underlying68 (by kernel_rfl) (zy rfl (by kernel_rfl) zEj (zy rfl (by kernel_rfl) zEj (x8 rfl (by kernel_rfl) zke))))
theorem zhu : Opn Tryz.prog 23 (List WorkD) := vE Tryz.underlying23 (by kernel_rfl) zlF
def zEt (x : WorkD) : Nat := x.Name.size + x.Def.size + zJn x.X
def zIV (l : List WorkD) : Nat := l.length + (l.map zEt).sum
structure BookD where
 Defs : List DefD
 Works : List WorkD
 Now : Int
 Ring : Int
instance : Cel BookD := Cel.iso fun x => (x.Defs, x.Works, x.Now, x.Ring)
def zWp (x : BookD) : Prop := zGh x.Now ∧ zGh x.Ring
theorem zds {B : Nat} {w : World} {vs : List Value} {x : BookD} (h : rd B w vs x) : ∃ v0 v1, vs = [v0, v1, .int .i64 x.Now, .int .i64 x.Ring] ∧ zWp x ∧ RdS B w x.Defs v0 ∧ RdS B w x.Works v1 := by
 obtain ⟨a0, b0, rfl, ⟨u0, rfl, s0⟩, ⟨a1, b1, rfl, ⟨u1, rfl, s1⟩, ⟨a2, b2, rfl, ⟨rfl, i2⟩, ⟨rfl, i3⟩⟩⟩⟩ := h
 exact ⟨u0, u1, rfl, ⟨i2, i3⟩, s0, s1⟩
theorem zdl : Opn Tryz.prog 25 BookD :=
 v8 (fun x : BookD => (x.Defs, x.Works, x.Now, x.Ring)) (fun x => ⟨x.1, x.2.1, x.2.2.1, x.2.2.2⟩) (fun _ => rfl) (y6 Tryz.underlying25 (by kernel_rfl) (zy rfl (by kernel_rfl) zlP (zy rfl (by kernel_rfl) zhu (zy rfl (by kernel_rfl) zBs (x8 rfl (by kernel_rfl) zBs)))))
def zGc (x : BookD) : Nat := zH9 x.Defs + zIV x.Works
end Go.Proofs.YtipbfgknaihifaaGreat
namespace Go.Proofs.YtipbfgknaihifaaGreat
open Go.RowKit
noncomputable section
@[reducible] def zK : Ty := .pr .int (.pr .int .str)
@[reducible] def zo : Ty := .pr .int (.pr .str zK)
@[reducible] def zJ : Ty := .pr .str (.pr (.lst zo) .bool)
@[reducible] def zS : Ty := .pr .int (.pr zo zo)
@[reducible] def zq : Ty := .pr .str (.pr zo zo)
@[reducible] def z5 : Ty := .pr .int (.pr .str (.pr (.lst zq) (.pr .int .str)))
@[reducible] def zC : Ty := .pr .str (.pr .int (.pr (.lst zJ) (.pr (.lst zS) (.lst z5))))
@[reducible] def zN : Ty := .pr .str (.lst zC)
@[reducible] def zt : Ty := .pr .str (.lst zK)
@[reducible] def zD : Ty := .pr .int zt
@[reducible] def zH : Ty := .pr (.lst zD) .int
@[reducible] def zF : Ty := .pr .str zK
@[reducible] def zA : Ty := .pr .int (.pr (.lst .int) (.lst zF))
@[reducible] def zP : Ty := .pr zt (.pr .str (.pr .int (.pr .int (.pr .int zK))))
@[reducible] def zV : Ty := .pr .str zt
@[reducible] def yf : Ty := .pr zH (.pr (.lst zA) (.pr (.lst zP) (.pr (.lst zD) (.pr (.lst zV) (.pr .int .int)))))
@[reducible] def ze : Ty := .pr .str (.pr .str yf)
@[reducible] def zO : Ty := .pr (.lst zN) (.pr (.lst ze) (.pr .int .int))
def zdk (l : List (El zJ)) : Nat := (l.map fun p => p.2.1.length).sum
def zAv (l : List (El zJ)) (n : Int) : Int := ((zdk (l.drop n.toNat) : Nat) : Int)
def zdt (l : List (El z5)) : Nat := (l.map fun p => p.2.2.1.length).sum
def vZ (l : List (El z5)) (n : Int) : Int := ((zdt (l.drop n.toNat) : Nat) : Int)
theorem zAR (l : List (El zJ)) (n : Int) (h : 0 ≤ n ∧ n < (l.length : Int)) : zAv l n = ((zB zJ l n).2.1.length : Int) + zAv l (n + 1) ∧ 0 ≤ zAv l (n + 1) := by
 have hlt : n.toNat < l.length := by omega
 have e : zB zJ l n = l[n.toNat] := by unfold zB; rw [List.getD_eq_getElem?_getD, List.getElem?_eq_getElem hlt]; rfl
 unfold zAv zdk
 rw [List.drop_eq_getElem_cons hlt, List.map_cons, List.sum_cons, e, show (n + 1).toNat = n.toNat + 1 by omega]
 omega
theorem zKB (l : List (El z5)) (n : Int) (h : 0 ≤ n ∧ n < (l.length : Int)) : vZ l n = ((zB z5 l n).2.2.1.length : Int) + vZ l (n + 1) ∧ 0 ≤ vZ l (n + 1) := by
 have hlt : n.toNat < l.length := by omega
 have e : zB z5 l n = l[n.toNat] := by unfold zB; rw [List.getD_eq_getElem?_getD, List.getElem?_eq_getElem hlt]; rfl
 unfold vZ zdt
 rw [List.drop_eq_getElem_cons hlt, List.map_cons, List.sum_cons, e, show (n + 1).toNat = n.toNat + 1 by omega]
 omega
def SzR (r : El zC) : Prop := zAv r.2.2.1 0 ≤ 16777216 ∧ 2 * (r.2.2.2.1.length : Int) + 2 * vZ r.2.2.2.2 0 ≤ 16777216
theorem zZ9 (l : List (El z5)) (n : Int) : 0 ≤ vZ l n := by unfold vZ; omega
theorem zEg (l : List (El zJ)) (n : Int) : 0 ≤ zAv l n := by unfold zAv; omega
end
end Go.Proofs.YtipbfgknaihifaaGreat
namespace Go.Proofs.YtipbfgknaihifaaGreat
open Go.RowKit
theorem zma (l : List Int) : szE (.lst .int) (l.map (Br.f (α := Int))) = l.length := by
 rw [zA9 (g := fun _ => 0) (fun _ => rfl)]
 have : (l.map fun _ : Int => 0).sum = 0 := by induction l with
  | nil => rfl
  | cons x l ih => simp only [List.map_cons, List.sum_cons, ih]
 omega
instance : Br ValD zK := ⟨fun x => Br.f (x.K, x.N, x.S), Br.k (α := Int × Int × ByteArray), fun h => Br.h (α := Int × Int × ByteArray) h⟩
theorem zdV (x : ValD) : szE zK (Br.f x) = zBC x := by
 show 0 + (0 + x.S.size) = _
 unfold zBC
 try omega
instance : Br ArgD zo := ⟨fun x => Br.f (x.K, x.S, x.V), Br.k (α := Int × ByteArray × ValD), fun h => Br.h (α := Int × ByteArray × ValD) h⟩
theorem zjH (x : ArgD) : szE zo (Br.f x) = vW x := by
 show 0 + (x.S.size + szE zK (Br.f x.V)) = _
 simp only [zdV]
 unfold vW
 try omega
instance : Br PatD zJ := ⟨fun x => Br.f (x.Kind, x.Args, x.Not), Br.k (α := ByteArray × List ArgD × Bool), fun h => Br.h (α := ByteArray × List ArgD × Bool) h⟩
theorem znU (x : PatD) : szE zJ (Br.f x) = zHL x := by
 show x.Kind.size + (szE (.lst zo) (x.Args.map (Br.f (α := ArgD))) + 0) = _
 rw [zA9 zjH]
 unfold zHL
 simp only [zLO]
 try omega
instance : Br CondD zS := ⟨fun x => Br.f (x.Op, x.L, x.R), Br.k (α := Int × ArgD × ArgD), fun h => Br.h (α := Int × ArgD × ArgD) h⟩
theorem zmg (x : CondD) : szE zS (Br.f x) = zEv x := by
 show 0 + (szE zo (Br.f x.L) + szE zo (Br.f x.R)) = _
 simp only [zjH]
 unfold zEv
 try omega
instance : Br ExprD zq := ⟨fun x => Br.f (x.Op, x.L, x.R), Br.k (α := ByteArray × ArgD × ArgD), fun h => Br.h (α := ByteArray × ArgD × ArgD) h⟩
theorem zmN (x : ExprD) : szE zq (Br.f x) = zEm x := by
 show x.Op.size + (szE zo (Br.f x.L) + szE zo (Br.f x.R)) = _
 simp only [zjH]
 unfold zEm
 try omega
instance : Br ActD z5 := ⟨fun x => Br.f (x.Kind, x.Name, x.Args, x.N, x.Undo), Br.k (α := Int × ByteArray × List ExprD × Int × ByteArray), fun h => Br.h (α := Int × ByteArray × List ExprD × Int × ByteArray) h⟩
theorem znb (x : ActD) : szE z5 (Br.f x) = zHT x := by
 show 0 + (x.Name.size + (szE (.lst zq) (x.Args.map (Br.f (α := ExprD))) + (0 + x.Undo.size))) = _
 rw [zA9 zmN]
 unfold zHT
 simp only [zHb]
 try omega
instance : Br RuleD zC := ⟨fun x => Br.f (x.Name, x.Sal, x.Pats, x.Conds, x.Acts), Br.k (α := ByteArray × Int × List PatD × List CondD × List ActD), fun h => Br.h (α := ByteArray × Int × List PatD × List CondD × List ActD) h⟩
theorem zmd (x : RuleD) : szE zC (Br.f x) = zEu x := by
 show x.Name.size + (0 + (szE (.lst zJ) (x.Pats.map (Br.f (α := PatD))) + (szE (.lst zS) (x.Conds.map (Br.f (α := CondD))) + szE (.lst z5) (x.Acts.map (Br.f (α := ActD)))))) = _
 rw [zA9 znU, zA9 zmg, zA9 znb]
 unfold zEu
 simp only [zFj, zFn, zLe]
 try omega
instance : Br DefD zN := ⟨fun x => Br.f (x.Name, x.Rules), Br.k (α := ByteArray × List RuleD), fun h => Br.h (α := ByteArray × List RuleD) h⟩
theorem zni (x : DefD) : szE zN (Br.f x) = zG5 x := by
 show x.Name.size + szE (.lst zC) (x.Rules.map (Br.f (α := RuleD))) = _
 rw [zA9 zmd]
 unfold zG5
 simp only [zIu]
 try omega
instance : Br FactD zt := ⟨fun x => Br.f (x.Kind, x.Fields), Br.k (α := ByteArray × List ValD), fun h => Br.h (α := ByteArray × List ValD) h⟩
theorem zVe (x : FactD) : szE zt (Br.f x) = v6 x := by
 show x.Kind.size + szE (.lst zK) (x.Fields.map (Br.f (α := ValD))) = _
 rw [zA9 zdV]
 unfold v6
 simp only [zMD]
 try omega
instance : Br ItemD zD := ⟨fun x => Br.f (x.Id, x.F), Br.k (α := Int × FactD), fun h => Br.h (α := Int × FactD) h⟩
theorem zm7 (x : ItemD) : szE zD (Br.f x) = zEl x := by
 show 0 + szE zt (Br.f x.F) = _
 simp only [zVe]
 unfold zEl
 try omega
instance : Br StoreD zH := ⟨fun x => Br.f (x.Items, x.Next), Br.k (α := List ItemD × Int), fun h => Br.h (α := List ItemD × Int) h⟩
theorem zlJ (x : StoreD) : szE zH (Br.f x) = zAO x := by
 show szE (.lst zD) (x.Items.map (Br.f (α := ItemD))) + 0 = _
 rw [zA9 zm7]
 unfold zAO
 simp only [zId]
 try omega
instance : Br BindD zF := ⟨fun x => Br.f (x.Name, x.V), Br.k (α := ByteArray × ValD), fun h => Br.h (α := ByteArray × ValD) h⟩
theorem zmb (x : BindD) : szE zF (Br.f x) = zEc x := by
 show x.Name.size + szE zK (Br.f x.V) = _
 simp only [zdV]
 unfold zEc
 try omega
instance : Br MatchD zA := ⟨fun x => Br.f (x.Rule, x.Ids, x.Binds), Br.k (α := Int × List Int × List BindD), fun h => Br.h (α := Int × List Int × List BindD) h⟩
theorem zlf (x : MatchD) : szE zA (Br.f x) = zDF x := by
 show 0 + (szE (.lst .int) (x.Ids.map (Br.f (α := Int))) + szE (.lst zF) (x.Binds.map (Br.f (α := BindD)))) = _
 rw [zma, zA9 zmb]
 unfold zDF
 simp only [zHy, zIy]
 try omega
instance : Br TaskD zP := ⟨fun x => Br.f (x.F, x.Undo, x.State, x.Tries, x.Due, x.V), Br.k (α := FactD × ByteArray × Int × Int × Int × ValD), fun h => Br.h (α := FactD × ByteArray × Int × Int × Int × ValD) h⟩
theorem zmv (x : TaskD) : szE zP (Br.f x) = zE3 x := by
 show szE zt (Br.f x.F) + (x.Undo.size + (0 + (0 + (0 + szE zK (Br.f x.V))))) = _
 simp only [zVe, zdV]
 unfold zE3
 try omega
instance : Br TimerD zD := ⟨fun x => Br.f (x.At, x.F), Br.k (α := Int × FactD), fun h => Br.h (α := Int × FactD) h⟩
theorem zlK (x : TimerD) : szE zD (Br.f x) = zDR x := by
 show 0 + szE zt (Br.f x.F) = _
 simp only [zVe]
 unfold zDR
 try omega
instance : Br UndoD zV := ⟨fun x => Br.f (x.Key, x.F), Br.k (α := ByteArray × FactD), fun h => Br.h (α := ByteArray × FactD) h⟩
theorem zmM (x : UndoD) : szE zV (Br.f x) = zE0 x := by
 show x.Key.size + szE zt (Br.f x.F) = _
 simp only [zVe]
 unfold zE0
 try omega
instance : Br InstD yf := ⟨fun x => Br.f (x.S, x.Fired, x.Tasks, x.Timers, x.Undos, x.State, x.Now), Br.k (α := StoreD × List MatchD × List TaskD × List TimerD × List UndoD × Int × Int), fun h => Br.h (α := StoreD × List MatchD × List TaskD × List TimerD × List UndoD × Int × Int) h⟩
theorem zmL (x : InstD) : szE yf (Br.f x) = zJn x := by
 show szE zH (Br.f x.S) + (szE (.lst zA) (x.Fired.map (Br.f (α := MatchD))) + (szE (.lst zP) (x.Tasks.map (Br.f (α := TaskD))) + (szE (.lst zD) (x.Timers.map (Br.f (α := TimerD))) + (szE (.lst zV) (x.Undos.map (Br.f (α := UndoD))) + (0 + 0))))) = _
 rw [zA9 zlf, zA9 zmv, zA9 zlK, zA9 zmM]
 simp only [zlJ]
 unfold zJn
 simp only [zAc, zDx, zEE, zI5]
 try omega
instance : Br WorkD ze := ⟨fun x => Br.f (x.Name, x.Def, x.X), Br.k (α := ByteArray × ByteArray × InstD), fun h => Br.h (α := ByteArray × ByteArray × InstD) h⟩
theorem zmU (x : WorkD) : szE ze (Br.f x) = zEt x := by
 show x.Name.size + (x.Def.size + szE yf (Br.f x.X)) = _
 simp only [zmL]
 unfold zEt
 try omega
instance : Br BookD zO := ⟨fun x => Br.f (x.Defs, x.Works, x.Now, x.Ring), Br.k (α := List DefD × List WorkD × Int × Int), fun h => Br.h (α := List DefD × List WorkD × Int × Int) h⟩
theorem zbl (x : BookD) : szE zO (Br.f x) = zGc x := by
 show szE (.lst zN) (x.Defs.map (Br.f (α := DefD))) + (szE (.lst ze) (x.Works.map (Br.f (α := WorkD))) + (0 + 0)) = _
 rw [zA9 zni, zA9 zmU]
 unfold zGc
 simp only [zH9, zIV]
 try omega
end Go.Proofs.YtipbfgknaihifaaGreat
namespace Go.Proofs.YtipbfgknaihifaaGreat
open Go.RowKit
open Cel (rd own rd_len rd_one own_rd own_lt rd_below rd_mono own_keep)
section
variable {α : Type} {P : Program} {w w0 : World} {fp : List Nat} {l l2 : List α} {v : Value}
end
end Go.Proofs.YtipbfgknaihifaaGreat
namespace Go.Proofs.YtipbfgknaihifaaGreat
open Go.RowKit
open Cel (rd own rd_len rd_one own_rd own_lt rd_below rd_mono own_keep)
end Go.Proofs.YtipbfgknaihifaaGreat
namespace Go.Proofs.YtipbfgknaihifaaGreat
open Go.RowKit
open Cel (rd own rd_len rd_one own_rd own_lt rd_below rd_mono own_keep)
theorem zhy (l : List Int) (v : Value) (left : Int) (w : World) (h : Sl w l v) (h0 : 0 ≤ left) (h1 : left ≤ 1048576) :
  Calls Tryz.prog 212 #[v, .int .i64 left] w (zCV (xH (zHy l) left) w) := by
 obtain ⟨a, c, rfl, hl, -⟩ := h.open
 have hsz : Hid (zHy l = l.length) := rfl
 by_cases q0 : left < l.length
 all_goals
  go_enter Tryz.func212, Tryz.ntmps212
  go_wp2
  go_ret
  exact ⟨zL (by rw [hsz.out]; unfold xH; split <;> omega), by simp⟩
end Go.Proofs.YtipbfgknaihifaaGreat
namespace Go.Proofs.YtipbfgknaihifaaGreat
open Go.RowKit
open Cel (rd own rd_len rd_one own_rd own_lt rd_below rd_mono own_keep)
set_option maxRecDepth 20000 in
theorem zP3 (x : ValD) (left : Int) (w : World) (hx : zUv x) (h0 : 0 ≤ left) (h1 : left ≤ 1048576) :
  Calls Tryz.prog 215 #[.agg #[.int .i64 x.K, .int .i64 x.N, .string x.S], .int .i64 left] w (zCV (xH (zBC x) left) w) := by
 have hsz : Hid (zBC x = x.S.size) := rfl
 obtain ⟨xK, xN, xS⟩ := hx
 have yS : x.S.size ≤ 9223372036854775807 := by simp [maxLen] at xS; omega
 clear xS
 go_enter Tryz.func215, Tryz.ntmps215
 by_cases q0 : left < (x.S.size : Nat)
 ·go_wp2
  go_ret
  exact ⟨zL (by rw [hsz.out]; unfold xH; split <;> omega), (by simp (maxDischargeDepth := 9))⟩
 go_wp2
 go_ret
 exact ⟨zL (by rw [hsz.out]; unfold xH; split <;> omega), (by simp (maxDischargeDepth := 9))⟩
set_option maxRecDepth 20000 in
theorem ziJ (l : List ValD) (v : Value) (left : Int) (w : World) (h : Sl w l v) (h0 : 0 ≤ left) (h1 : left ≤ 1048576) :
  Calls Tryz.prog 254 #[v, .int .i64 left] w (zCV (xH (zMD l) left) w) := by
 obtain ⟨a, c, rfl, hl, -⟩ := h.open
 have hsz : Hid (zMD l = l.length + (l.map zBC).sum) := rfl
 go_enter Tryz.func254, Tryz.ntmps254
 by_cases q0 : left < l.length
 ·go_wp2
  go_ret
  exact ⟨zL (by rw [hsz.out]; unfold xH; split <;> omega), by simp⟩
 go_wp2
 go_loopw [1, 5] (fun lf i wr => Below w.heap.size w wr ∧ ∃ (k y : Nat), i = .int .i64 k ∧ lf = .int .i64 y ∧ k ≤ l.length ∧ Hid ((y : Int) + l.length + ((l.take k).map zBC).sum = left)) (fun _ i _ => l.length - (intOf i).toNat)
 case atStart => exact ⟨Below.refl _ _, 0, (left - l.length).toNat, rfl, by congr 1; omega, by omega, by show _ = _; simp; omega⟩
 case round =>
  obtain ⟨hB, k, y, rfl, rfl, hk, hy⟩ := hrel
  by_cases hlt : k < l.length
  ·obtain ⟨b, o, rfl, hbl, hok, hc⟩ := (h.to hB).atVal k hlt
   have hst := Lib.hid (zAL zBC l k hlt)
   have hle := Lib.hid (zD9 zBC l (k + 1))
   generalize l[k] = x at *
   obtain ⟨c0, c1, c2⟩ := hc
   skip
   have hy2 : y ≤ 1048576 := by have := hy.out; omega
   go_wp2_with fail
   refine (zP3 x  y _ hok  (by omega) (by omega)).mono ?_
   rintro e w1 ⟨rfl, hb1⟩
   have B1 := via hB hb1
   by_cases q1 : ((zBC x : Nat) : Int) ≤ y
   ·rw [yF q1]
    go_wp2
    go_roundw
    case rel => exact ⟨B1, k + 1, y - zBC x, by go_num, by congr 1; omega, by omega, by show _ = _; have := hy.out; have := hst.out; omega⟩
    case measure => simp [intOf]; omega
   ·rw [yG q1]
    go_wp2
    go_ret
    exact ⟨zL (by rw [hsz.out]; unfold xH; have := hy.out; have := hst.out; have := hle.out; split <;> omega), B1⟩
  ·obtain rfl : k = l.length := by omega
   go_wp2
   go_ret
   exact ⟨zL (by rw [hsz.out]; unfold xH; have := hy.out; rw [List.take_length] at this; split <;> omega), hB⟩
set_option maxRecDepth 20000 in
theorem zNM (x : FactD) (v0 : Value) (left : Int) (w : World) (hx : zOy x) (s0 : Sl w x.Fields v0) (h0 : 0 ≤ left) (h1 : left ≤ 1048576) :
  Calls Tryz.prog 214 #[.agg #[.string x.Kind, v0], .int .i64 left] w (zCV (xH (v6 x) left) w) := by
 obtain ⟨a0, c0, rfl, hl0, -⟩ := s0.open
 have hsz : Hid (v6 x = x.Kind.size + zMD x.Fields) := rfl
 have xKind : x.Kind.size ≤ maxLen := hx
 have yKind : x.Kind.size ≤ 9223372036854775807 := by simp [maxLen] at xKind; omega
 clear xKind
 go_enter Tryz.func214, Tryz.ntmps214
 by_cases q0 : left < (x.Kind.size : Nat)
 ·go_wp2
  go_ret
  exact ⟨zL (by rw [hsz.out]; unfold xH; split <;> omega), (by simp (maxDischargeDepth := 9))⟩
 go_wp2_with fail
 refine (ziJ x.Fields _ (left - (x.Kind.size : Nat)) _ (s0.to (by simp (maxDischargeDepth := 9))) (by omega) (by omega)).mono ?_
 rintro e w2 ⟨rfl, hb2⟩
 have B2 := via (w0 := w) (by simp (maxDischargeDepth := 9)) hb2
 have X2 : Bx w2 w.heap.size [.string x.Kind, (.slice a0 x.Fields.length c0)] := Bx.via (by simp (maxDischargeDepth := 9)) hb2
 have k2_0 := X2.c 0 _ rfl
 have k2_1 := X2.c 1 _ rfl
 by_cases q1 : ((zMD x.Fields : Nat) : Int) ≤ (left - (x.Kind.size : Nat))
 rotate_left
 ·rw [yG q1]
  go_wp2
  go_ret
  exact ⟨zL (by rw [hsz.out]; unfold xH; split <;> omega), (by simp (maxDischargeDepth := 9) [B2])⟩
 rw [yF q1]
 go_wp2
 go_ret
 exact ⟨zL (by rw [hsz.out]; unfold xH; split <;> omega), (by simp (maxDischargeDepth := 9) [B2])⟩
set_option maxRecDepth 20000 in
theorem ziS (x : ItemD) (v0 : Value) (left : Int) (w : World) (hx : zcR x) (s0 : Sl w x.F.Fields v0) (h0 : 0 ≤ left) (h1 : left ≤ 1048576) :
  Calls Tryz.prog 211 #[.agg #[.int .i64 x.Id, .string x.F.Kind, v0], .int .i64 left] w (zCV (xH (zEl x) left) w) := by
 obtain ⟨a0, c0, rfl, hl0, -⟩ := s0.open
 have hsz : Hid (zEl x = v6 x.F) := rfl
 obtain ⟨xId, xF⟩ := hx
 go_enter Tryz.func211, Tryz.ntmps211
 go_wp2_with fail
 refine (zNM x.F _ left _ xF (s0.to (by simp (maxDischargeDepth := 9))) (by omega) (by omega)).mono ?_
 rintro e w1 ⟨rfl, hb1⟩
 have B1 := via (w0 := w) (by simp (maxDischargeDepth := 9)) hb1
 have X1 : Bx w1 w.heap.size [.int .i64 x.Id, .string x.F.Kind, (.slice a0 x.F.Fields.length c0)] := Bx.via (by simp (maxDischargeDepth := 9)) hb1
 have k1_0 := X1.c 0 _ rfl
 have k1_1 := X1.c 1 _ rfl
 have k1_2 := X1.c 2 _ rfl
 by_cases q0 : ((v6 x.F : Nat) : Int) ≤ left
 rotate_left
 ·rw [yG q0]
  go_wp2
  go_ret
  exact ⟨zL (by rw [hsz.out]; unfold xH; split <;> omega), (by simp (maxDischargeDepth := 9) [B1])⟩
 rw [yF q0]
 go_wp2
 go_ret
 exact ⟨zL (by rw [hsz.out]; unfold xH; split <;> omega), (by simp (maxDischargeDepth := 9) [B1])⟩
set_option maxRecDepth 20000 in
theorem zgF (l : List ItemD) (v : Value) (left : Int) (w : World) (h : Sl w l v) (h0 : 0 ≤ left) (h1 : left ≤ 1048576) :
  Calls Tryz.prog 153 #[v, .int .i64 left] w (zCV (xH (zId l) left) w) := by
 obtain ⟨a, c, rfl, hl, -⟩ := h.open
 have hsz : Hid (zId l = l.length + (l.map zEl).sum) := rfl
 go_enter Tryz.func153, Tryz.ntmps153
 by_cases q0 : left < l.length
 ·go_wp2
  go_ret
  exact ⟨zL (by rw [hsz.out]; unfold xH; split <;> omega), by simp⟩
 go_wp2
 go_loopw [1, 5] (fun lf i wr => Below w.heap.size w wr ∧ ∃ (k y : Nat), i = .int .i64 k ∧ lf = .int .i64 y ∧ k ≤ l.length ∧ Hid ((y : Int) + l.length + ((l.take k).map zEl).sum = left)) (fun _ i _ => l.length - (intOf i).toNat)
 case atStart => exact ⟨Below.refl _ _, 0, (left - l.length).toNat, rfl, by congr 1; omega, by omega, by show _ = _; simp; omega⟩
 case round =>
  obtain ⟨hB, k, y, rfl, rfl, hk, hy⟩ := hrel
  by_cases hlt : k < l.length
  ·obtain ⟨b, o, v0, rfl, hbl, hok, hc, s0⟩ := (h.to hB).atItem k hlt
   have hst := Lib.hid (zAL zEl l k hlt)
   have hle := Lib.hid (zD9 zEl l (k + 1))
   generalize l[k] = x at *
   obtain ⟨c0, c1, c2⟩ := hc
   obtain ⟨a0, p0, rfl, hl0, -⟩ := s0.open
   have hy2 : y ≤ 1048576 := by have := hy.out; omega
   go_wp2_with fail
   refine (ziS x _ y _ hok s0 (by omega) (by omega)).mono ?_
   rintro e w1 ⟨rfl, hb1⟩
   have B1 := via hB hb1
   by_cases q1 : ((zEl x : Nat) : Int) ≤ y
   ·rw [yF q1]
    go_wp2
    go_roundw
    case rel => exact ⟨B1, k + 1, y - zEl x, by go_num, by congr 1; omega, by omega, by show _ = _; have := hy.out; have := hst.out; omega⟩
    case measure => simp [intOf]; omega
   ·rw [yG q1]
    go_wp2
    go_ret
    exact ⟨zL (by rw [hsz.out]; unfold xH; have := hy.out; have := hst.out; have := hle.out; split <;> omega), B1⟩
  ·obtain rfl : k = l.length := by omega
   go_wp2
   go_ret
   exact ⟨zL (by rw [hsz.out]; unfold xH; have := hy.out; rw [List.take_length] at this; split <;> omega), hB⟩
set_option maxRecDepth 20000 in
theorem zfH (x : StoreD) (v0 : Value) (left : Int) (w : World) (hx : zWE x) (s0 : Sl w x.Items v0) (h0 : 0 ≤ left) (h1 : left ≤ 1048576) :
  Calls Tryz.prog 91 #[.agg #[v0, .int .i64 x.Next], .int .i64 left] w (zCV (xH (zAO x) left) w) := by
 obtain ⟨a0, c0, rfl, hl0, -⟩ := s0.open
 have hsz : Hid (zAO x = zId x.Items) := rfl
 have xNext : zGh x.Next := hx
 go_enter Tryz.func91, Tryz.ntmps91
 go_wp2_with fail
 refine (zgF x.Items _ left _ (s0.to (by simp (maxDischargeDepth := 9))) (by omega) (by omega)).mono ?_
 rintro e w1 ⟨rfl, hb1⟩
 have B1 := via (w0 := w) (by simp (maxDischargeDepth := 9)) hb1
 have X1 : Bx w1 w.heap.size [(.slice a0 x.Items.length c0), .int .i64 x.Next] := Bx.via (by simp (maxDischargeDepth := 9)) hb1
 have k1_0 := X1.c 0 _ rfl
 have k1_1 := X1.c 1 _ rfl
 by_cases q0 : ((zId x.Items : Nat) : Int) ≤ left
 rotate_left
 ·rw [yG q0]
  go_wp2
  go_ret
  exact ⟨zL (by rw [hsz.out]; unfold xH; split <;> omega), (by simp (maxDischargeDepth := 9) [B1])⟩
 rw [yF q0]
 go_wp2
 go_ret
 exact ⟨zL (by rw [hsz.out]; unfold xH; split <;> omega), (by simp (maxDischargeDepth := 9) [B1])⟩
set_option maxRecDepth 20000 in
theorem zOF (x : ArgD) (left : Int) (w : World) (hx : zQb x) (h0 : 0 ≤ left) (h1 : left ≤ 1048576) :
  Calls Tryz.prog 251 #[.agg #[.int .i64 x.K, .string x.S, .int .i64 x.V.K, .int .i64 x.V.N, .string x.V.S], .int .i64 left] w (zCV (xH (vW x) left) w) := by
 have hsz : Hid (vW x = x.S.size + zBC x.V) := rfl
 obtain ⟨xK, xS, xV⟩ := hx
 have yS : x.S.size ≤ 9223372036854775807 := by simp [maxLen] at xS; omega
 clear xS
 go_enter Tryz.func251, Tryz.ntmps251
 by_cases q0 : left < (x.S.size : Nat)
 ·go_wp2
  go_ret
  exact ⟨zL (by rw [hsz.out]; unfold xH; split <;> omega), (by simp (maxDischargeDepth := 9))⟩
 go_wp2_with fail
 refine (zP3 x.V  (left - (x.S.size : Nat)) _ xV  (by omega) (by omega)).mono ?_
 rintro e w2 ⟨rfl, hb2⟩
 have B2 := via (w0 := w) (by simp (maxDischargeDepth := 9)) hb2
 have X2 : Bx w2 w.heap.size [.int .i64 x.K, .string x.S, .int .i64 x.V.K, .int .i64 x.V.N, .string x.V.S] := Bx.via (by simp (maxDischargeDepth := 9)) hb2
 have k2_0 := X2.c 0 _ rfl
 have k2_1 := X2.c 1 _ rfl
 have k2_2 := X2.c 2 _ rfl
 have k2_3 := X2.c 3 _ rfl
 have k2_4 := X2.c 4 _ rfl
 by_cases q1 : ((zBC x.V : Nat) : Int) ≤ (left - (x.S.size : Nat))
 rotate_left
 ·rw [yG q1]
  go_wp2
  go_ret
  exact ⟨zL (by rw [hsz.out]; unfold xH; split <;> omega), (by simp (maxDischargeDepth := 9) [B2])⟩
 rw [yF q1]
 go_wp2
 go_ret
 exact ⟨zL (by rw [hsz.out]; unfold xH; split <;> omega), (by simp (maxDischargeDepth := 9) [B2])⟩
set_option maxRecDepth 20000 in
theorem zh4 (l : List ArgD) (v : Value) (left : Int) (w : World) (h : Sl w l v) (h0 : 0 ≤ left) (h1 : left ≤ 1048576) :
  Calls Tryz.prog 250 #[v, .int .i64 left] w (zCV (xH (zLO l) left) w) := by
 obtain ⟨a, c, rfl, hl, -⟩ := h.open
 have hsz : Hid (zLO l = l.length + (l.map vW).sum) := rfl
 go_enter Tryz.func250, Tryz.ntmps250
 by_cases q0 : left < l.length
 ·go_wp2
  go_ret
  exact ⟨zL (by rw [hsz.out]; unfold xH; split <;> omega), by simp⟩
 go_wp2
 go_loopw [1, 5] (fun lf i wr => Below w.heap.size w wr ∧ ∃ (k y : Nat), i = .int .i64 k ∧ lf = .int .i64 y ∧ k ≤ l.length ∧ Hid ((y : Int) + l.length + ((l.take k).map vW).sum = left)) (fun _ i _ => l.length - (intOf i).toNat)
 case atStart => exact ⟨Below.refl _ _, 0, (left - l.length).toNat, rfl, by congr 1; omega, by omega, by show _ = _; simp; omega⟩
 case round =>
  obtain ⟨hB, k, y, rfl, rfl, hk, hy⟩ := hrel
  by_cases hlt : k < l.length
  ·obtain ⟨b, o, rfl, hbl, hok, hc⟩ := (h.to hB).atArg k hlt
   have hst := Lib.hid (zAL vW l k hlt)
   have hle := Lib.hid (zD9 vW l (k + 1))
   generalize l[k] = x at *
   obtain ⟨c0, c1, c2, c3, c4⟩ := hc
   skip
   have hy2 : y ≤ 1048576 := by have := hy.out; omega
   go_wp2_with fail
   refine (zOF x  y _ hok  (by omega) (by omega)).mono ?_
   rintro e w1 ⟨rfl, hb1⟩
   have B1 := via hB hb1
   by_cases q1 : ((vW x : Nat) : Int) ≤ y
   ·rw [yF q1]
    go_wp2
    go_roundw
    case rel => exact ⟨B1, k + 1, y - vW x, by go_num, by congr 1; omega, by omega, by show _ = _; have := hy.out; have := hst.out; omega⟩
    case measure => simp [intOf]; omega
   ·rw [yG q1]
    go_wp2
    go_ret
    exact ⟨zL (by rw [hsz.out]; unfold xH; have := hy.out; have := hst.out; have := hle.out; split <;> omega), B1⟩
  ·obtain rfl : k = l.length := by omega
   go_wp2
   go_ret
   exact ⟨zL (by rw [hsz.out]; unfold xH; have := hy.out; rw [List.take_length] at this; split <;> omega), hB⟩
set_option maxRecDepth 20000 in
theorem zkv (x : PatD) (v0 : Value) (left : Int) (w : World) (hx : zix x) (s0 : Sl w x.Args v0) (h0 : 0 ≤ left) (h1 : left ≤ 1048576) :
  Calls Tryz.prog 208 #[.agg #[.string x.Kind, v0, .bool x.Not], .int .i64 left] w (zCV (xH (zHL x) left) w) := by
 obtain ⟨a0, c0, rfl, hl0, -⟩ := s0.open
 have hsz : Hid (zHL x = x.Kind.size + zLO x.Args) := rfl
 have xKind : x.Kind.size ≤ maxLen := hx
 have yKind : x.Kind.size ≤ 9223372036854775807 := by simp [maxLen] at xKind; omega
 clear xKind
 go_enter Tryz.func208, Tryz.ntmps208
 by_cases q0 : left < (x.Kind.size : Nat)
 ·go_wp2
  go_ret
  exact ⟨zL (by rw [hsz.out]; unfold xH; split <;> omega), (by simp (maxDischargeDepth := 9))⟩
 go_wp2_with fail
 refine (zh4 x.Args _ (left - (x.Kind.size : Nat)) _ (s0.to (by simp (maxDischargeDepth := 9))) (by omega) (by omega)).mono ?_
 rintro e w2 ⟨rfl, hb2⟩
 have B2 := via (w0 := w) (by simp (maxDischargeDepth := 9)) hb2
 have X2 : Bx w2 w.heap.size [.string x.Kind, (.slice a0 x.Args.length c0), .bool x.Not] := Bx.via (by simp (maxDischargeDepth := 9)) hb2
 have k2_0 := X2.c 0 _ rfl
 have k2_1 := X2.c 1 _ rfl
 have k2_2 := X2.c 2 _ rfl
 by_cases q1 : ((zLO x.Args : Nat) : Int) ≤ (left - (x.Kind.size : Nat))
 rotate_left
 ·rw [yG q1]
  go_wp2
  go_ret
  exact ⟨zL (by rw [hsz.out]; unfold xH; split <;> omega), (by simp (maxDischargeDepth := 9) [B2])⟩
 rw [yF q1]
 go_wp2
 go_ret
 exact ⟨zL (by rw [hsz.out]; unfold xH; split <;> omega), (by simp (maxDischargeDepth := 9) [B2])⟩
set_option maxRecDepth 20000 in
theorem zkI (l : List PatD) (v : Value) (left : Int) (w : World) (h : Sl w l v) (h0 : 0 ≤ left) (h1 : left ≤ 1048576) :
  Calls Tryz.prog 150 #[v, .int .i64 left] w (zCV (xH (zFj l) left) w) := by
 obtain ⟨a, c, rfl, hl, -⟩ := h.open
 have hsz : Hid (zFj l = l.length + (l.map zHL).sum) := rfl
 go_enter Tryz.func150, Tryz.ntmps150
 by_cases q0 : left < l.length
 ·go_wp2
  go_ret
  exact ⟨zL (by rw [hsz.out]; unfold xH; split <;> omega), by simp⟩
 go_wp2
 go_loopw [1, 5] (fun lf i wr => Below w.heap.size w wr ∧ ∃ (k y : Nat), i = .int .i64 k ∧ lf = .int .i64 y ∧ k ≤ l.length ∧ Hid ((y : Int) + l.length + ((l.take k).map zHL).sum = left)) (fun _ i _ => l.length - (intOf i).toNat)
 case atStart => exact ⟨Below.refl _ _, 0, (left - l.length).toNat, rfl, by congr 1; omega, by omega, by show _ = _; simp; omega⟩
 case round =>
  obtain ⟨hB, k, y, rfl, rfl, hk, hy⟩ := hrel
  by_cases hlt : k < l.length
  ·obtain ⟨b, o, v0, rfl, hbl, hok, hc, s0⟩ := (h.to hB).atPat k hlt
   have hst := Lib.hid (zAL zHL l k hlt)
   have hle := Lib.hid (zD9 zHL l (k + 1))
   generalize l[k] = x at *
   obtain ⟨c0, c1, c2⟩ := hc
   obtain ⟨a0, p0, rfl, hl0, -⟩ := s0.open
   have hy2 : y ≤ 1048576 := by have := hy.out; omega
   go_wp2_with fail
   refine (zkv x _ y _ hok s0 (by omega) (by omega)).mono ?_
   rintro e w1 ⟨rfl, hb1⟩
   have B1 := via hB hb1
   by_cases q1 : ((zHL x : Nat) : Int) ≤ y
   ·rw [yF q1]
    go_wp2
    go_roundw
    case rel => exact ⟨B1, k + 1, y - zHL x, by go_num, by congr 1; omega, by omega, by show _ = _; have := hy.out; have := hst.out; omega⟩
    case measure => simp [intOf]; omega
   ·rw [yG q1]
    go_wp2
    go_ret
    exact ⟨zL (by rw [hsz.out]; unfold xH; have := hy.out; have := hst.out; have := hle.out; split <;> omega), B1⟩
  ·obtain rfl : k = l.length := by omega
   go_wp2
   go_ret
   exact ⟨zL (by rw [hsz.out]; unfold xH; have := hy.out; rw [List.take_length] at this; split <;> omega), hB⟩
set_option maxRecDepth 20000 in
theorem zjG (x : BindD) (left : Int) (w : World) (hx : zdG x) (h0 : 0 ≤ left) (h1 : left ≤ 1048576) :
  Calls Tryz.prog 253 #[.agg #[.string x.Name, .int .i64 x.V.K, .int .i64 x.V.N, .string x.V.S], .int .i64 left] w (zCV (xH (zEc x) left) w) := by
 have hsz : Hid (zEc x = x.Name.size + zBC x.V) := rfl
 obtain ⟨xName, xV⟩ := hx
 have yName : x.Name.size ≤ 9223372036854775807 := by simp [maxLen] at xName; omega
 clear xName
 go_enter Tryz.func253, Tryz.ntmps253
 by_cases q0 : left < (x.Name.size : Nat)
 ·go_wp2
  go_ret
  exact ⟨zL (by rw [hsz.out]; unfold xH; split <;> omega), (by simp (maxDischargeDepth := 9))⟩
 go_wp2_with fail
 refine (zP3 x.V  (left - (x.Name.size : Nat)) _ xV  (by omega) (by omega)).mono ?_
 rintro e w2 ⟨rfl, hb2⟩
 have B2 := via (w0 := w) (by simp (maxDischargeDepth := 9)) hb2
 have X2 : Bx w2 w.heap.size [.string x.Name, .int .i64 x.V.K, .int .i64 x.V.N, .string x.V.S] := Bx.via (by simp (maxDischargeDepth := 9)) hb2
 have k2_0 := X2.c 0 _ rfl
 have k2_1 := X2.c 1 _ rfl
 have k2_2 := X2.c 2 _ rfl
 have k2_3 := X2.c 3 _ rfl
 by_cases q1 : ((zBC x.V : Nat) : Int) ≤ (left - (x.Name.size : Nat))
 rotate_left
 ·rw [yG q1]
  go_wp2
  go_ret
  exact ⟨zL (by rw [hsz.out]; unfold xH; split <;> omega), (by simp (maxDischargeDepth := 9) [B2])⟩
 rw [yF q1]
 go_wp2
 go_ret
 exact ⟨zL (by rw [hsz.out]; unfold xH; split <;> omega), (by simp (maxDischargeDepth := 9) [B2])⟩
set_option maxRecDepth 20000 in
theorem zhN (l : List BindD) (v : Value) (left : Int) (w : World) (h : Sl w l v) (h0 : 0 ≤ left) (h1 : left ≤ 1048576) :
  Calls Tryz.prog 213 #[v, .int .i64 left] w (zCV (xH (zIy l) left) w) := by
 obtain ⟨a, c, rfl, hl, -⟩ := h.open
 have hsz : Hid (zIy l = l.length + (l.map zEc).sum) := rfl
 go_enter Tryz.func213, Tryz.ntmps213
 by_cases q0 : left < l.length
 ·go_wp2
  go_ret
  exact ⟨zL (by rw [hsz.out]; unfold xH; split <;> omega), by simp⟩
 go_wp2
 go_loopw [1, 5] (fun lf i wr => Below w.heap.size w wr ∧ ∃ (k y : Nat), i = .int .i64 k ∧ lf = .int .i64 y ∧ k ≤ l.length ∧ Hid ((y : Int) + l.length + ((l.take k).map zEc).sum = left)) (fun _ i _ => l.length - (intOf i).toNat)
 case atStart => exact ⟨Below.refl _ _, 0, (left - l.length).toNat, rfl, by congr 1; omega, by omega, by show _ = _; simp; omega⟩
 case round =>
  obtain ⟨hB, k, y, rfl, rfl, hk, hy⟩ := hrel
  by_cases hlt : k < l.length
  ·obtain ⟨b, o, rfl, hbl, hok, hc⟩ := (h.to hB).atBind k hlt
   have hst := Lib.hid (zAL zEc l k hlt)
   have hle := Lib.hid (zD9 zEc l (k + 1))
   generalize l[k] = x at *
   obtain ⟨c0, c1, c2, c3⟩ := hc
   skip
   have hy2 : y ≤ 1048576 := by have := hy.out; omega
   go_wp2_with fail
   refine (zjG x  y _ hok  (by omega) (by omega)).mono ?_
   rintro e w1 ⟨rfl, hb1⟩
   have B1 := via hB hb1
   by_cases q1 : ((zEc x : Nat) : Int) ≤ y
   ·rw [yF q1]
    go_wp2
    go_roundw
    case rel => exact ⟨B1, k + 1, y - zEc x, by go_num, by congr 1; omega, by omega, by show _ = _; have := hy.out; have := hst.out; omega⟩
    case measure => simp [intOf]; omega
   ·rw [yG q1]
    go_wp2
    go_ret
    exact ⟨zL (by rw [hsz.out]; unfold xH; have := hy.out; have := hst.out; have := hle.out; split <;> omega), B1⟩
  ·obtain rfl : k = l.length := by omega
   go_wp2
   go_ret
   exact ⟨zL (by rw [hsz.out]; unfold xH; have := hy.out; rw [List.take_length] at this; split <;> omega), hB⟩
set_option maxRecDepth 20000 in
theorem zkM (x : CondD) (left : Int) (w : World) (hx : zbZ x) (h0 : 0 ≤ left) (h1 : left ≤ 1048576) :
  Calls Tryz.prog 209 #[.agg #[.int .i64 x.Op, .int .i64 x.L.K, .string x.L.S, .int .i64 x.L.V.K, .int .i64 x.L.V.N, .string x.L.V.S, .int .i64 x.R.K, .string x.R.S, .int .i64 x.R.V.K, .int .i64 x.R.V.N, .string x.R.V.S], .int .i64 left] w (zCV (xH (zEv x) left) w) := by
 have hsz : Hid (zEv x = vW x.L + vW x.R) := rfl
 obtain ⟨xOp, xL, xR⟩ := hx
 go_enter Tryz.func209, Tryz.ntmps209
 go_wp2_with fail
 refine (zOF x.L  left _ xL  (by omega) (by omega)).mono ?_
 rintro e w1 ⟨rfl, hb1⟩
 have B1 := via (w0 := w) (by simp (maxDischargeDepth := 9)) hb1
 have X1 : Bx w1 w.heap.size [.int .i64 x.Op, .int .i64 x.L.K, .string x.L.S, .int .i64 x.L.V.K, .int .i64 x.L.V.N, .string x.L.V.S, .int .i64 x.R.K, .string x.R.S, .int .i64 x.R.V.K, .int .i64 x.R.V.N, .string x.R.V.S] := Bx.via (by simp (maxDischargeDepth := 9)) hb1
 have k1_0 := X1.c 0 _ rfl
 have k1_1 := X1.c 1 _ rfl
 have k1_2 := X1.c 2 _ rfl
 have k1_3 := X1.c 3 _ rfl
 have k1_4 := X1.c 4 _ rfl
 have k1_5 := X1.c 5 _ rfl
 have k1_6 := X1.c 6 _ rfl
 have k1_7 := X1.c 7 _ rfl
 have k1_8 := X1.c 8 _ rfl
 have k1_9 := X1.c 9 _ rfl
 have k1_10 := X1.c 10 _ rfl
 by_cases q0 : ((vW x.L : Nat) : Int) ≤ left
 rotate_left
 ·rw [yG q0]
  go_wp2
  go_ret
  exact ⟨zL (by rw [hsz.out]; unfold xH; split <;> omega), (by simp (maxDischargeDepth := 9) [B1])⟩
 rw [yF q0]
 go_wp2_with fail
 refine (zOF x.R  (left - (vW x.L : Nat)) _ xR  (by omega) (by omega)).mono ?_
 rintro e w2 ⟨rfl, hb2⟩
 have B2 := via (w0 := w) (by simp (maxDischargeDepth := 9) [B1]) hb2
 have X2 : Bx w2 w.heap.size [.int .i64 x.Op, .int .i64 x.L.K, .string x.L.S, .int .i64 x.L.V.K, .int .i64 x.L.V.N, .string x.L.V.S, .int .i64 x.R.K, .string x.R.S, .int .i64 x.R.V.K, .int .i64 x.R.V.N, .string x.R.V.S] := Bx.via (by simp (maxDischargeDepth := 9) [X1]) hb2
 have k2_0 := X2.c 0 _ rfl
 have k2_1 := X2.c 1 _ rfl
 have k2_2 := X2.c 2 _ rfl
 have k2_3 := X2.c 3 _ rfl
 have k2_4 := X2.c 4 _ rfl
 have k2_5 := X2.c 5 _ rfl
 have k2_6 := X2.c 6 _ rfl
 have k2_7 := X2.c 7 _ rfl
 have k2_8 := X2.c 8 _ rfl
 have k2_9 := X2.c 9 _ rfl
 have k2_10 := X2.c 10 _ rfl
 by_cases q1 : ((vW x.R : Nat) : Int) ≤ (left - (vW x.L : Nat))
 rotate_left
 ·rw [yG q1]
  go_wp2
  go_ret
  exact ⟨zL (by rw [hsz.out]; unfold xH; split <;> omega), (by simp (maxDischargeDepth := 9) [B2])⟩
 rw [yF q1]
 go_wp2
 go_ret
 exact ⟨zL (by rw [hsz.out]; unfold xH; split <;> omega), (by simp (maxDischargeDepth := 9) [B2])⟩
set_option maxRecDepth 20000 in
theorem zgl (l : List CondD) (v : Value) (left : Int) (w : World) (h : Sl w l v) (h0 : 0 ≤ left) (h1 : left ≤ 1048576) :
  Calls Tryz.prog 151 #[v, .int .i64 left] w (zCV (xH (zFn l) left) w) := by
 obtain ⟨a, c, rfl, hl, -⟩ := h.open
 have hsz : Hid (zFn l = l.length + (l.map zEv).sum) := rfl
 go_enter Tryz.func151, Tryz.ntmps151
 by_cases q0 : left < l.length
 ·go_wp2
  go_ret
  exact ⟨zL (by rw [hsz.out]; unfold xH; split <;> omega), by simp⟩
 go_wp2
 go_loopw [1, 5] (fun lf i wr => Below w.heap.size w wr ∧ ∃ (k y : Nat), i = .int .i64 k ∧ lf = .int .i64 y ∧ k ≤ l.length ∧ Hid ((y : Int) + l.length + ((l.take k).map zEv).sum = left)) (fun _ i _ => l.length - (intOf i).toNat)
 case atStart => exact ⟨Below.refl _ _, 0, (left - l.length).toNat, rfl, by congr 1; omega, by omega, by show _ = _; simp; omega⟩
 case round =>
  obtain ⟨hB, k, y, rfl, rfl, hk, hy⟩ := hrel
  by_cases hlt : k < l.length
  ·obtain ⟨b, o, rfl, hbl, hok, hc⟩ := (h.to hB).atCond k hlt
   have hst := Lib.hid (zAL zEv l k hlt)
   have hle := Lib.hid (zD9 zEv l (k + 1))
   generalize l[k] = x at *
   obtain ⟨c0, c1, c2, c3, c4, c5, c6, c7, c8, c9, c10⟩ := hc
   skip
   have hy2 : y ≤ 1048576 := by have := hy.out; omega
   go_wp2_with fail
   refine (zkM x  y _ hok  (by omega) (by omega)).mono ?_
   rintro e w1 ⟨rfl, hb1⟩
   have B1 := via hB hb1
   by_cases q1 : ((zEv x : Nat) : Int) ≤ y
   ·rw [yF q1]
    go_wp2
    go_roundw
    case rel => exact ⟨B1, k + 1, y - zEv x, by go_num, by congr 1; omega, by omega, by show _ = _; have := hy.out; have := hst.out; omega⟩
    case measure => simp [intOf]; omega
   ·rw [yG q1]
    go_wp2
    go_ret
    exact ⟨zL (by rw [hsz.out]; unfold xH; have := hy.out; have := hst.out; have := hle.out; split <;> omega), B1⟩
  ·obtain rfl : k = l.length := by omega
   go_wp2
   go_ret
   exact ⟨zL (by rw [hsz.out]; unfold xH; have := hy.out; rw [List.take_length] at this; split <;> omega), hB⟩
set_option maxRecDepth 20000 in
theorem zjB (x : ExprD) (left : Int) (w : World) (hx : zbt x) (h0 : 0 ≤ left) (h1 : left ≤ 1048576) :
  Calls Tryz.prog 273 #[.agg #[.string x.Op, .int .i64 x.L.K, .string x.L.S, .int .i64 x.L.V.K, .int .i64 x.L.V.N, .string x.L.V.S, .int .i64 x.R.K, .string x.R.S, .int .i64 x.R.V.K, .int .i64 x.R.V.N, .string x.R.V.S], .int .i64 left] w (zCV (xH (zEm x) left) w) := by
 have hsz : Hid (zEm x = x.Op.size + vW x.L + vW x.R) := rfl
 obtain ⟨xOp, xL, xR⟩ := hx
 have yOp : x.Op.size ≤ 9223372036854775807 := by simp [maxLen] at xOp; omega
 clear xOp
 go_enter Tryz.func273, Tryz.ntmps273
 by_cases q0 : left < (x.Op.size : Nat)
 ·go_wp2
  go_ret
  exact ⟨zL (by rw [hsz.out]; unfold xH; split <;> omega), (by simp (maxDischargeDepth := 9))⟩
 go_wp2_with fail
 refine (zOF x.L  (left - (x.Op.size : Nat)) _ xL  (by omega) (by omega)).mono ?_
 rintro e w2 ⟨rfl, hb2⟩
 have B2 := via (w0 := w) (by simp (maxDischargeDepth := 9)) hb2
 have X2 : Bx w2 w.heap.size [.string x.Op, .int .i64 x.L.K, .string x.L.S, .int .i64 x.L.V.K, .int .i64 x.L.V.N, .string x.L.V.S, .int .i64 x.R.K, .string x.R.S, .int .i64 x.R.V.K, .int .i64 x.R.V.N, .string x.R.V.S] := Bx.via (by simp (maxDischargeDepth := 9)) hb2
 have k2_0 := X2.c 0 _ rfl
 have k2_1 := X2.c 1 _ rfl
 have k2_2 := X2.c 2 _ rfl
 have k2_3 := X2.c 3 _ rfl
 have k2_4 := X2.c 4 _ rfl
 have k2_5 := X2.c 5 _ rfl
 have k2_6 := X2.c 6 _ rfl
 have k2_7 := X2.c 7 _ rfl
 have k2_8 := X2.c 8 _ rfl
 have k2_9 := X2.c 9 _ rfl
 have k2_10 := X2.c 10 _ rfl
 by_cases q1 : ((vW x.L : Nat) : Int) ≤ (left - (x.Op.size : Nat))
 rotate_left
 ·rw [yG q1]
  go_wp2
  go_ret
  exact ⟨zL (by rw [hsz.out]; unfold xH; split <;> omega), (by simp (maxDischargeDepth := 9) [B2])⟩
 rw [yF q1]
 go_wp2_with fail
 refine (zOF x.R  ((left - (x.Op.size : Nat)) - (vW x.L : Nat)) _ xR  (by omega) (by omega)).mono ?_
 rintro e w3 ⟨rfl, hb3⟩
 have B3 := via (w0 := w) (by simp (maxDischargeDepth := 9) [B2]) hb3
 have X3 : Bx w3 w.heap.size [.string x.Op, .int .i64 x.L.K, .string x.L.S, .int .i64 x.L.V.K, .int .i64 x.L.V.N, .string x.L.V.S, .int .i64 x.R.K, .string x.R.S, .int .i64 x.R.V.K, .int .i64 x.R.V.N, .string x.R.V.S] := Bx.via (by simp (maxDischargeDepth := 9) [X2]) hb3
 have k3_0 := X3.c 0 _ rfl
 have k3_1 := X3.c 1 _ rfl
 have k3_2 := X3.c 2 _ rfl
 have k3_3 := X3.c 3 _ rfl
 have k3_4 := X3.c 4 _ rfl
 have k3_5 := X3.c 5 _ rfl
 have k3_6 := X3.c 6 _ rfl
 have k3_7 := X3.c 7 _ rfl
 have k3_8 := X3.c 8 _ rfl
 have k3_9 := X3.c 9 _ rfl
 have k3_10 := X3.c 10 _ rfl
 by_cases q2 : ((vW x.R : Nat) : Int) ≤ ((left - (x.Op.size : Nat)) - (vW x.L : Nat))
 rotate_left
 ·rw [yG q2]
  go_wp2
  go_ret
  exact ⟨zL (by rw [hsz.out]; unfold xH; split <;> omega), (by simp (maxDischargeDepth := 9) [B3])⟩
 rw [yF q2]
 go_wp2
 go_ret
 exact ⟨zL (by rw [hsz.out]; unfold xH; split <;> omega), (by simp (maxDischargeDepth := 9) [B3])⟩
set_option maxRecDepth 20000 in
theorem zeW (l : List ExprD) (v : Value) (left : Int) (w : World) (h : Sl w l v) (h0 : 0 ≤ left) (h1 : left ≤ 1048576) :
  Calls Tryz.prog 252 #[v, .int .i64 left] w (zCV (xH (zHb l) left) w) := by
 obtain ⟨a, c, rfl, hl, -⟩ := h.open
 have hsz : Hid (zHb l = l.length + (l.map zEm).sum) := rfl
 go_enter Tryz.func252, Tryz.ntmps252
 by_cases q0 : left < l.length
 ·go_wp2
  go_ret
  exact ⟨zL (by rw [hsz.out]; unfold xH; split <;> omega), by simp⟩
 go_wp2
 go_loopw [1, 5] (fun lf i wr => Below w.heap.size w wr ∧ ∃ (k y : Nat), i = .int .i64 k ∧ lf = .int .i64 y ∧ k ≤ l.length ∧ Hid ((y : Int) + l.length + ((l.take k).map zEm).sum = left)) (fun _ i _ => l.length - (intOf i).toNat)
 case atStart => exact ⟨Below.refl _ _, 0, (left - l.length).toNat, rfl, by congr 1; omega, by omega, by show _ = _; simp; omega⟩
 case round =>
  obtain ⟨hB, k, y, rfl, rfl, hk, hy⟩ := hrel
  by_cases hlt : k < l.length
  ·obtain ⟨b, o, rfl, hbl, hok, hc⟩ := (h.to hB).atExpr k hlt
   have hst := Lib.hid (zAL zEm l k hlt)
   have hle := Lib.hid (zD9 zEm l (k + 1))
   generalize l[k] = x at *
   obtain ⟨c0, c1, c2, c3, c4, c5, c6, c7, c8, c9, c10⟩ := hc
   skip
   have hy2 : y ≤ 1048576 := by have := hy.out; omega
   go_wp2_with fail
   refine (zjB x  y _ hok  (by omega) (by omega)).mono ?_
   rintro e w1 ⟨rfl, hb1⟩
   have B1 := via hB hb1
   by_cases q1 : ((zEm x : Nat) : Int) ≤ y
   ·rw [yF q1]
    go_wp2
    go_roundw
    case rel => exact ⟨B1, k + 1, y - zEm x, by go_num, by congr 1; omega, by omega, by show _ = _; have := hy.out; have := hst.out; omega⟩
    case measure => simp [intOf]; omega
   ·rw [yG q1]
    go_wp2
    go_ret
    exact ⟨zL (by rw [hsz.out]; unfold xH; have := hy.out; have := hst.out; have := hle.out; split <;> omega), B1⟩
  ·obtain rfl : k = l.length := by omega
   go_wp2
   go_ret
   exact ⟨zL (by rw [hsz.out]; unfold xH; have := hy.out; rw [List.take_length] at this; split <;> omega), hB⟩
set_option maxRecDepth 20000 in
theorem zkj (x : ActD) (v0 : Value) (left : Int) (w : World) (hx : zh2 x) (s0 : Sl w x.Args v0) (h0 : 0 ≤ left) (h1 : left ≤ 1048576) :
  Calls Tryz.prog 210 #[.agg #[.int .i64 x.Kind, .string x.Name, v0, .int .i64 x.N, .string x.Undo], .int .i64 left] w (zCV (xH (zHT x) left) w) := by
 obtain ⟨a0, c0, rfl, hl0, -⟩ := s0.open
 have hsz : Hid (zHT x = x.Name.size + zHb x.Args + x.Undo.size) := rfl
 obtain ⟨xKind, xName, xN, xUndo⟩ := hx
 have yName : x.Name.size ≤ 9223372036854775807 := by simp [maxLen] at xName; omega
 clear xName
 have yUndo : x.Undo.size ≤ 9223372036854775807 := by simp [maxLen] at xUndo; omega
 clear xUndo
 go_enter Tryz.func210, Tryz.ntmps210
 by_cases q0 : left < (x.Name.size : Nat)
 ·go_wp2
  go_ret
  exact ⟨zL (by rw [hsz.out]; unfold xH; split <;> omega), (by simp (maxDischargeDepth := 9))⟩
 go_wp2_with fail
 refine (zeW x.Args _ (left - (x.Name.size : Nat)) _ (s0.to (by simp (maxDischargeDepth := 9))) (by omega) (by omega)).mono ?_
 rintro e w2 ⟨rfl, hb2⟩
 have B2 := via (w0 := w) (by simp (maxDischargeDepth := 9)) hb2
 have X2 : Bx w2 w.heap.size [.int .i64 x.Kind, .string x.Name, (.slice a0 x.Args.length c0), .int .i64 x.N, .string x.Undo] := Bx.via (by simp (maxDischargeDepth := 9)) hb2
 have k2_0 := X2.c 0 _ rfl
 have k2_1 := X2.c 1 _ rfl
 have k2_2 := X2.c 2 _ rfl
 have k2_3 := X2.c 3 _ rfl
 have k2_4 := X2.c 4 _ rfl
 by_cases q1 : ((zHb x.Args : Nat) : Int) ≤ (left - (x.Name.size : Nat))
 rotate_left
 ·rw [yG q1]
  go_wp2
  go_ret
  exact ⟨zL (by rw [hsz.out]; unfold xH; split <;> omega), (by simp (maxDischargeDepth := 9) [B2])⟩
 rw [yF q1]
 by_cases q2 : ((left - (x.Name.size : Nat)) - (zHb x.Args : Nat)) < (x.Undo.size : Nat)
 ·go_wp2
  go_ret
  exact ⟨zL (by rw [hsz.out]; unfold xH; split <;> omega), (by simp (maxDischargeDepth := 9) [B2])⟩
 go_wp2
 go_ret
 exact ⟨zL (by rw [hsz.out]; unfold xH; split <;> omega), (by simp (maxDischargeDepth := 9) [B2])⟩
set_option maxRecDepth 20000 in
theorem zjM (l : List ActD) (v : Value) (left : Int) (w : World) (h : Sl w l v) (h0 : 0 ≤ left) (h1 : left ≤ 1048576) :
  Calls Tryz.prog 152 #[v, .int .i64 left] w (zCV (xH (zLe l) left) w) := by
 obtain ⟨a, c, rfl, hl, -⟩ := h.open
 have hsz : Hid (zLe l = l.length + (l.map zHT).sum) := rfl
 go_enter Tryz.func152, Tryz.ntmps152
 by_cases q0 : left < l.length
 ·go_wp2
  go_ret
  exact ⟨zL (by rw [hsz.out]; unfold xH; split <;> omega), by simp⟩
 go_wp2
 go_loopw [1, 5] (fun lf i wr => Below w.heap.size w wr ∧ ∃ (k y : Nat), i = .int .i64 k ∧ lf = .int .i64 y ∧ k ≤ l.length ∧ Hid ((y : Int) + l.length + ((l.take k).map zHT).sum = left)) (fun _ i _ => l.length - (intOf i).toNat)
 case atStart => exact ⟨Below.refl _ _, 0, (left - l.length).toNat, rfl, by congr 1; omega, by omega, by show _ = _; simp; omega⟩
 case round =>
  obtain ⟨hB, k, y, rfl, rfl, hk, hy⟩ := hrel
  by_cases hlt : k < l.length
  ·obtain ⟨b, o, v0, rfl, hbl, hok, hc, s0⟩ := (h.to hB).atAct k hlt
   have hst := Lib.hid (zAL zHT l k hlt)
   have hle := Lib.hid (zD9 zHT l (k + 1))
   generalize l[k] = x at *
   obtain ⟨c0, c1, c2, c3, c4⟩ := hc
   obtain ⟨a0, p0, rfl, hl0, -⟩ := s0.open
   have hy2 : y ≤ 1048576 := by have := hy.out; omega
   go_wp2_with fail
   refine (zkj x _ y _ hok s0 (by omega) (by omega)).mono ?_
   rintro e w1 ⟨rfl, hb1⟩
   have B1 := via hB hb1
   by_cases q1 : ((zHT x : Nat) : Int) ≤ y
   ·rw [yF q1]
    go_wp2
    go_roundw
    case rel => exact ⟨B1, k + 1, y - zHT x, by go_num, by congr 1; omega, by omega, by show _ = _; have := hy.out; have := hst.out; omega⟩
    case measure => simp [intOf]; omega
   ·rw [yG q1]
    go_wp2
    go_ret
    exact ⟨zL (by rw [hsz.out]; unfold xH; have := hy.out; have := hst.out; have := hle.out; split <;> omega), B1⟩
  ·obtain rfl : k = l.length := by omega
   go_wp2
   go_ret
   exact ⟨zL (by rw [hsz.out]; unfold xH; have := hy.out; rw [List.take_length] at this; split <;> omega), hB⟩
set_option maxRecDepth 20000 in
theorem ziZ (x : RuleD) (v0 v1 v2 : Value) (left : Int) (w : World) (hx : zb2 x) (s0 : Sl w x.Pats v0) (s1 : Sl w x.Conds v1) (s2 : Sl w x.Acts v2) (h0 : 0 ≤ left) (h1 : left ≤ 1048576) :
  Calls Tryz.prog 90 #[.agg #[.string x.Name, .int .i64 x.Sal, v0, v1, v2], .int .i64 left] w (zCV (xH (zEu x) left) w) := by
 obtain ⟨a0, c0, rfl, hl0, -⟩ := s0.open
 obtain ⟨a1, c1, rfl, hl1, -⟩ := s1.open
 obtain ⟨a2, c2, rfl, hl2, -⟩ := s2.open
 have hsz : Hid (zEu x = x.Name.size + zFj x.Pats + zFn x.Conds + zLe x.Acts) := rfl
 obtain ⟨xName, xSal⟩ := hx
 have yName : x.Name.size ≤ 9223372036854775807 := by simp [maxLen] at xName; omega
 clear xName
 go_enter Tryz.func90, Tryz.ntmps90
 by_cases q0 : left < (x.Name.size : Nat)
 ·go_wp2
  go_ret
  exact ⟨zL (by rw [hsz.out]; unfold xH; split <;> omega), (by simp (maxDischargeDepth := 9))⟩
 go_wp2_with fail
 refine (zkI x.Pats _ (left - (x.Name.size : Nat)) _ (s0.to (by simp (maxDischargeDepth := 9))) (by omega) (by omega)).mono ?_
 rintro e w2 ⟨rfl, hb2⟩
 have B2 := via (w0 := w) (by simp (maxDischargeDepth := 9)) hb2
 have X2 : Bx w2 w.heap.size [.string x.Name, .int .i64 x.Sal, (.slice a0 x.Pats.length c0), (.slice a1 x.Conds.length c1), (.slice a2 x.Acts.length c2)] := Bx.via (by simp (maxDischargeDepth := 9)) hb2
 have k2_0 := X2.c 0 _ rfl
 have k2_1 := X2.c 1 _ rfl
 have k2_2 := X2.c 2 _ rfl
 have k2_3 := X2.c 3 _ rfl
 have k2_4 := X2.c 4 _ rfl
 by_cases q1 : ((zFj x.Pats : Nat) : Int) ≤ (left - (x.Name.size : Nat))
 rotate_left
 ·rw [yG q1]
  go_wp2
  go_ret
  exact ⟨zL (by rw [hsz.out]; unfold xH; split <;> omega), (by simp (maxDischargeDepth := 9) [B2])⟩
 rw [yF q1]
 go_wp2_with fail
 refine (zgl x.Conds _ ((left - (x.Name.size : Nat)) - (zFj x.Pats : Nat)) _ (s1.to (by simp (maxDischargeDepth := 9) [B2])) (by omega) (by omega)).mono ?_
 rintro e w3 ⟨rfl, hb3⟩
 have B3 := via (w0 := w) (by simp (maxDischargeDepth := 9) [B2]) hb3
 have X3 : Bx w3 w.heap.size [.string x.Name, .int .i64 x.Sal, (.slice a0 x.Pats.length c0), (.slice a1 x.Conds.length c1), (.slice a2 x.Acts.length c2)] := Bx.via (by simp (maxDischargeDepth := 9) [X2]) hb3
 have k3_0 := X3.c 0 _ rfl
 have k3_1 := X3.c 1 _ rfl
 have k3_2 := X3.c 2 _ rfl
 have k3_3 := X3.c 3 _ rfl
 have k3_4 := X3.c 4 _ rfl
 by_cases q2 : ((zFn x.Conds : Nat) : Int) ≤ ((left - (x.Name.size : Nat)) - (zFj x.Pats : Nat))
 rotate_left
 ·rw [yG q2]
  go_wp2
  go_ret
  exact ⟨zL (by rw [hsz.out]; unfold xH; split <;> omega), (by simp (maxDischargeDepth := 9) [B3])⟩
 rw [yF q2]
 go_wp2_with fail
 refine (zjM x.Acts _ (((left - (x.Name.size : Nat)) - (zFj x.Pats : Nat)) - (zFn x.Conds : Nat)) _ (s2.to (by simp (maxDischargeDepth := 9) [B3])) (by omega) (by omega)).mono ?_
 rintro e w4 ⟨rfl, hb4⟩
 have B4 := via (w0 := w) (by simp (maxDischargeDepth := 9) [B3]) hb4
 have X4 : Bx w4 w.heap.size [.string x.Name, .int .i64 x.Sal, (.slice a0 x.Pats.length c0), (.slice a1 x.Conds.length c1), (.slice a2 x.Acts.length c2)] := Bx.via (by simp (maxDischargeDepth := 9) [X3]) hb4
 have k4_0 := X4.c 0 _ rfl
 have k4_1 := X4.c 1 _ rfl
 have k4_2 := X4.c 2 _ rfl
 have k4_3 := X4.c 3 _ rfl
 have k4_4 := X4.c 4 _ rfl
 by_cases q3 : ((zLe x.Acts : Nat) : Int) ≤ (((left - (x.Name.size : Nat)) - (zFj x.Pats : Nat)) - (zFn x.Conds : Nat))
 rotate_left
 ·rw [yG q3]
  go_wp2
  go_ret
  exact ⟨zL (by rw [hsz.out]; unfold xH; split <;> omega), (by simp (maxDischargeDepth := 9) [B4])⟩
 rw [yF q3]
 go_wp2
 go_ret
 exact ⟨zL (by rw [hsz.out]; unfold xH; split <;> omega), (by simp (maxDischargeDepth := 9) [B4])⟩
set_option maxRecDepth 20000 in
theorem zgx (l : List RuleD) (v : Value) (left : Int) (w : World) (h : Sl w l v) (h0 : 0 ≤ left) (h1 : left ≤ 1048576) :
  Calls Tryz.prog 50 #[v, .int .i64 left] w (zCV (xH (zIu l) left) w) := by
 obtain ⟨a, c, rfl, hl, -⟩ := h.open
 have hsz : Hid (zIu l = l.length + (l.map zEu).sum) := rfl
 go_enter Tryz.func50, Tryz.ntmps50
 by_cases q0 : left < l.length
 ·go_wp2
  go_ret
  exact ⟨zL (by rw [hsz.out]; unfold xH; split <;> omega), by simp⟩
 go_wp2
 go_loopw [1, 5] (fun lf i wr => Below w.heap.size w wr ∧ ∃ (k y : Nat), i = .int .i64 k ∧ lf = .int .i64 y ∧ k ≤ l.length ∧ Hid ((y : Int) + l.length + ((l.take k).map zEu).sum = left)) (fun _ i _ => l.length - (intOf i).toNat)
 case atStart => exact ⟨Below.refl _ _, 0, (left - l.length).toNat, rfl, by congr 1; omega, by omega, by show _ = _; simp; omega⟩
 case round =>
  obtain ⟨hB, k, y, rfl, rfl, hk, hy⟩ := hrel
  by_cases hlt : k < l.length
  ·obtain ⟨b, o, v0, v1, v2, rfl, hbl, hok, hc, s0, s1, s2⟩ := (h.to hB).atRule k hlt
   have hst := Lib.hid (zAL zEu l k hlt)
   have hle := Lib.hid (zD9 zEu l (k + 1))
   generalize l[k] = x at *
   obtain ⟨c0, c1, c2, c3, c4⟩ := hc
   obtain ⟨a0, p0, rfl, hl0, -⟩ := s0.open; obtain ⟨a1, p1, rfl, hl1, -⟩ := s1.open; obtain ⟨a2, p2, rfl, hl2, -⟩ := s2.open
   have hy2 : y ≤ 1048576 := by have := hy.out; omega
   go_wp2_with fail
   refine (ziZ x _ _ _ y _ hok s0 s1 s2 (by omega) (by omega)).mono ?_
   rintro e w1 ⟨rfl, hb1⟩
   have B1 := via hB hb1
   by_cases q1 : ((zEu x : Nat) : Int) ≤ y
   ·rw [yF q1]
    go_wp2
    go_roundw
    case rel => exact ⟨B1, k + 1, y - zEu x, by go_num, by congr 1; omega, by omega, by show _ = _; have := hy.out; have := hst.out; omega⟩
    case measure => simp [intOf]; omega
   ·rw [yG q1]
    go_wp2
    go_ret
    exact ⟨zL (by rw [hsz.out]; unfold xH; have := hy.out; have := hst.out; have := hle.out; split <;> omega), B1⟩
  ·obtain rfl : k = l.length := by omega
   go_wp2
   go_ret
   exact ⟨zL (by rw [hsz.out]; unfold xH; have := hy.out; rw [List.take_length] at this; split <;> omega), hB⟩
set_option maxRecDepth 20000 in
theorem zli (x : DefD) (v0 : Value) (left : Int) (w : World) (hx : zis x) (s0 : Sl w x.Rules v0) (h0 : 0 ≤ left) (h1 : left ≤ 1048576) :
  Calls Tryz.prog 26 #[.agg #[.string x.Name, v0], .int .i64 left] w (zCV (xH (zG5 x) left) w) := by
 obtain ⟨a0, c0, rfl, hl0, -⟩ := s0.open
 have hsz : Hid (zG5 x = x.Name.size + zIu x.Rules) := rfl
 have xName : x.Name.size ≤ maxLen := hx
 have yName : x.Name.size ≤ 9223372036854775807 := by simp [maxLen] at xName; omega
 clear xName
 go_enter Tryz.func26, Tryz.ntmps26
 by_cases q0 : left < (x.Name.size : Nat)
 ·go_wp2
  go_ret
  exact ⟨zL (by rw [hsz.out]; unfold xH; split <;> omega), (by simp (maxDischargeDepth := 9))⟩
 go_wp2_with fail
 refine (zgx x.Rules _ (left - (x.Name.size : Nat)) _ (s0.to (by simp (maxDischargeDepth := 9))) (by omega) (by omega)).mono ?_
 rintro e w2 ⟨rfl, hb2⟩
 have B2 := via (w0 := w) (by simp (maxDischargeDepth := 9)) hb2
 have X2 : Bx w2 w.heap.size [.string x.Name, (.slice a0 x.Rules.length c0)] := Bx.via (by simp (maxDischargeDepth := 9)) hb2
 have k2_0 := X2.c 0 _ rfl
 have k2_1 := X2.c 1 _ rfl
 by_cases q1 : ((zIu x.Rules : Nat) : Int) ≤ (left - (x.Name.size : Nat))
 rotate_left
 ·rw [yG q1]
  go_wp2
  go_ret
  exact ⟨zL (by rw [hsz.out]; unfold xH; split <;> omega), (by simp (maxDischargeDepth := 9) [B2])⟩
 rw [yF q1]
 go_wp2
 go_ret
 exact ⟨zL (by rw [hsz.out]; unfold xH; split <;> omega), (by simp (maxDischargeDepth := 9) [B2])⟩
set_option maxRecDepth 20000 in
theorem zkA (l : List DefD) (v : Value) (left : Int) (w : World) (h : Sl w l v) (h0 : 0 ≤ left) (h1 : left ≤ 1048576) :
  Calls Tryz.prog 15 #[v, .int .i64 left] w (zCV (xH (zH9 l) left) w) := by
 obtain ⟨a, c, rfl, hl, -⟩ := h.open
 have hsz : Hid (zH9 l = l.length + (l.map zG5).sum) := rfl
 go_enter Tryz.func15, Tryz.ntmps15
 by_cases q0 : left < l.length
 ·go_wp2
  go_ret
  exact ⟨zL (by rw [hsz.out]; unfold xH; split <;> omega), by simp⟩
 go_wp2
 go_loopw [1, 5] (fun lf i wr => Below w.heap.size w wr ∧ ∃ (k y : Nat), i = .int .i64 k ∧ lf = .int .i64 y ∧ k ≤ l.length ∧ Hid ((y : Int) + l.length + ((l.take k).map zG5).sum = left)) (fun _ i _ => l.length - (intOf i).toNat)
 case atStart => exact ⟨Below.refl _ _, 0, (left - l.length).toNat, rfl, by congr 1; omega, by omega, by show _ = _; simp; omega⟩
 case round =>
  obtain ⟨hB, k, y, rfl, rfl, hk, hy⟩ := hrel
  by_cases hlt : k < l.length
  ·obtain ⟨b, o, v0, rfl, hbl, hok, hc, s0⟩ := (h.to hB).atDef k hlt
   have hst := Lib.hid (zAL zG5 l k hlt)
   have hle := Lib.hid (zD9 zG5 l (k + 1))
   generalize l[k] = x at *
   obtain ⟨c0, c1⟩ := hc
   obtain ⟨a0, p0, rfl, hl0, -⟩ := s0.open
   have hy2 : y ≤ 1048576 := by have := hy.out; omega
   go_wp2_with fail
   refine (zli x _ y _ hok s0 (by omega) (by omega)).mono ?_
   rintro e w1 ⟨rfl, hb1⟩
   have B1 := via hB hb1
   by_cases q1 : ((zG5 x : Nat) : Int) ≤ y
   ·rw [yF q1]
    go_wp2
    go_roundw
    case rel => exact ⟨B1, k + 1, y - zG5 x, by go_num, by congr 1; omega, by omega, by show _ = _; have := hy.out; have := hst.out; omega⟩
    case measure => simp [intOf]; omega
   ·rw [yG q1]
    go_wp2
    go_ret
    exact ⟨zL (by rw [hsz.out]; unfold xH; have := hy.out; have := hst.out; have := hle.out; split <;> omega), B1⟩
  ·obtain rfl : k = l.length := by omega
   go_wp2
   go_ret
   exact ⟨zL (by rw [hsz.out]; unfold xH; have := hy.out; rw [List.take_length] at this; split <;> omega), hB⟩
set_option maxRecDepth 20000 in
theorem zfW (x : MatchD) (v0 v1 : Value) (left : Int) (w : World) (hx : zXH x) (s0 : Sl w x.Ids v0) (s1 : Sl w x.Binds v1) (h0 : 0 ≤ left) (h1 : left ≤ 1048576) :
  Calls Tryz.prog 154 #[.agg #[.int .i64 x.Rule, v0, v1], .int .i64 left] w (zCV (xH (zDF x) left) w) := by
 obtain ⟨a0, c0, rfl, hl0, -⟩ := s0.open
 obtain ⟨a1, c1, rfl, hl1, -⟩ := s1.open
 have hsz : Hid (zDF x = zHy x.Ids + zIy x.Binds) := rfl
 have xRule : zGh x.Rule := hx
 go_enter Tryz.func154, Tryz.ntmps154
 go_wp2_with fail
 refine (zhy x.Ids _ left _ (s0.to (by simp (maxDischargeDepth := 9))) (by omega) (by omega)).mono ?_
 rintro e w1 ⟨rfl, hb1⟩
 have B1 := via (w0 := w) (by simp (maxDischargeDepth := 9)) hb1
 have X1 : Bx w1 w.heap.size [.int .i64 x.Rule, (.slice a0 x.Ids.length c0), (.slice a1 x.Binds.length c1)] := Bx.via (by simp (maxDischargeDepth := 9)) hb1
 have k1_0 := X1.c 0 _ rfl
 have k1_1 := X1.c 1 _ rfl
 have k1_2 := X1.c 2 _ rfl
 by_cases q0 : ((zHy x.Ids : Nat) : Int) ≤ left
 rotate_left
 ·rw [yG q0]
  go_wp2
  go_ret
  exact ⟨zL (by rw [hsz.out]; unfold xH; split <;> omega), (by simp (maxDischargeDepth := 9) [B1])⟩
 rw [yF q0]
 go_wp2_with fail
 refine (zhN x.Binds _ (left - (zHy x.Ids : Nat)) _ (s1.to (by simp (maxDischargeDepth := 9) [B1])) (by omega) (by omega)).mono ?_
 rintro e w2 ⟨rfl, hb2⟩
 have B2 := via (w0 := w) (by simp (maxDischargeDepth := 9) [B1]) hb2
 have X2 : Bx w2 w.heap.size [.int .i64 x.Rule, (.slice a0 x.Ids.length c0), (.slice a1 x.Binds.length c1)] := Bx.via (by simp (maxDischargeDepth := 9) [X1]) hb2
 have k2_0 := X2.c 0 _ rfl
 have k2_1 := X2.c 1 _ rfl
 have k2_2 := X2.c 2 _ rfl
 by_cases q1 : ((zIy x.Binds : Nat) : Int) ≤ (left - (zHy x.Ids : Nat))
 rotate_left
 ·rw [yG q1]
  go_wp2
  go_ret
  exact ⟨zL (by rw [hsz.out]; unfold xH; split <;> omega), (by simp (maxDischargeDepth := 9) [B2])⟩
 rw [yF q1]
 go_wp2
 go_ret
 exact ⟨zL (by rw [hsz.out]; unfold xH; split <;> omega), (by simp (maxDischargeDepth := 9) [B2])⟩
set_option maxRecDepth 20000 in
theorem zcs (l : List MatchD) (v : Value) (left : Int) (w : World) (h : Sl w l v) (h0 : 0 ≤ left) (h1 : left ≤ 1048576) :
  Calls Tryz.prog 92 #[v, .int .i64 left] w (zCV (xH (zAc l) left) w) := by
 obtain ⟨a, c, rfl, hl, -⟩ := h.open
 have hsz : Hid (zAc l = l.length + (l.map zDF).sum) := rfl
 go_enter Tryz.func92, Tryz.ntmps92
 by_cases q0 : left < l.length
 ·go_wp2
  go_ret
  exact ⟨zL (by rw [hsz.out]; unfold xH; split <;> omega), by simp⟩
 go_wp2
 go_loopw [1, 5] (fun lf i wr => Below w.heap.size w wr ∧ ∃ (k y : Nat), i = .int .i64 k ∧ lf = .int .i64 y ∧ k ≤ l.length ∧ Hid ((y : Int) + l.length + ((l.take k).map zDF).sum = left)) (fun _ i _ => l.length - (intOf i).toNat)
 case atStart => exact ⟨Below.refl _ _, 0, (left - l.length).toNat, rfl, by congr 1; omega, by omega, by show _ = _; simp; omega⟩
 case round =>
  obtain ⟨hB, k, y, rfl, rfl, hk, hy⟩ := hrel
  by_cases hlt : k < l.length
  ·obtain ⟨b, o, v0, v1, rfl, hbl, hok, hc, s0, s1⟩ := (h.to hB).atMatch k hlt
   have hst := Lib.hid (zAL zDF l k hlt)
   have hle := Lib.hid (zD9 zDF l (k + 1))
   generalize l[k] = x at *
   obtain ⟨c0, c1, c2⟩ := hc
   obtain ⟨a0, p0, rfl, hl0, -⟩ := s0.open; obtain ⟨a1, p1, rfl, hl1, -⟩ := s1.open
   have hy2 : y ≤ 1048576 := by have := hy.out; omega
   go_wp2_with fail
   refine (zfW x _ _ y _ hok s0 s1 (by omega) (by omega)).mono ?_
   rintro e w1 ⟨rfl, hb1⟩
   have B1 := via hB hb1
   by_cases q1 : ((zDF x : Nat) : Int) ≤ y
   ·rw [yF q1]
    go_wp2
    go_roundw
    case rel => exact ⟨B1, k + 1, y - zDF x, by go_num, by congr 1; omega, by omega, by show _ = _; have := hy.out; have := hst.out; omega⟩
    case measure => simp [intOf]; omega
   ·rw [yG q1]
    go_wp2
    go_ret
    exact ⟨zL (by rw [hsz.out]; unfold xH; have := hy.out; have := hst.out; have := hle.out; split <;> omega), B1⟩
  ·obtain rfl : k = l.length := by omega
   go_wp2
   go_ret
   exact ⟨zL (by rw [hsz.out]; unfold xH; have := hy.out; rw [List.take_length] at this; split <;> omega), hB⟩
set_option maxRecDepth 20000 in
theorem zhM (x : TimerD) (v0 : Value) (left : Int) (w : World) (hx : zVO x) (s0 : Sl w x.F.Fields v0) (h0 : 0 ≤ left) (h1 : left ≤ 1048576) :
  Calls Tryz.prog 156 #[.agg #[.int .i64 x.At, .string x.F.Kind, v0], .int .i64 left] w (zCV (xH (zDR x) left) w) := by
 obtain ⟨a0, c0, rfl, hl0, -⟩ := s0.open
 have hsz : Hid (zDR x = v6 x.F) := rfl
 obtain ⟨xAt, xF⟩ := hx
 go_enter Tryz.func156, Tryz.ntmps156
 go_wp2_with fail
 refine (zNM x.F _ left _ xF (s0.to (by simp (maxDischargeDepth := 9))) (by omega) (by omega)).mono ?_
 rintro e w1 ⟨rfl, hb1⟩
 have B1 := via (w0 := w) (by simp (maxDischargeDepth := 9)) hb1
 have X1 : Bx w1 w.heap.size [.int .i64 x.At, .string x.F.Kind, (.slice a0 x.F.Fields.length c0)] := Bx.via (by simp (maxDischargeDepth := 9)) hb1
 have k1_0 := X1.c 0 _ rfl
 have k1_1 := X1.c 1 _ rfl
 have k1_2 := X1.c 2 _ rfl
 by_cases q0 : ((v6 x.F : Nat) : Int) ≤ left
 rotate_left
 ·rw [yG q0]
  go_wp2
  go_ret
  exact ⟨zL (by rw [hsz.out]; unfold xH; split <;> omega), (by simp (maxDischargeDepth := 9) [B1])⟩
 rw [yF q0]
 go_wp2
 go_ret
 exact ⟨zL (by rw [hsz.out]; unfold xH; split <;> omega), (by simp (maxDischargeDepth := 9) [B1])⟩
set_option maxRecDepth 20000 in
theorem zc3 (l : List TimerD) (v : Value) (left : Int) (w : World) (h : Sl w l v) (h0 : 0 ≤ left) (h1 : left ≤ 1048576) :
  Calls Tryz.prog 94 #[v, .int .i64 left] w (zCV (xH (zEE l) left) w) := by
 obtain ⟨a, c, rfl, hl, -⟩ := h.open
 have hsz : Hid (zEE l = l.length + (l.map zDR).sum) := rfl
 go_enter Tryz.func94, Tryz.ntmps94
 by_cases q0 : left < l.length
 ·go_wp2
  go_ret
  exact ⟨zL (by rw [hsz.out]; unfold xH; split <;> omega), by simp⟩
 go_wp2
 go_loopw [1, 5] (fun lf i wr => Below w.heap.size w wr ∧ ∃ (k y : Nat), i = .int .i64 k ∧ lf = .int .i64 y ∧ k ≤ l.length ∧ Hid ((y : Int) + l.length + ((l.take k).map zDR).sum = left)) (fun _ i _ => l.length - (intOf i).toNat)
 case atStart => exact ⟨Below.refl _ _, 0, (left - l.length).toNat, rfl, by congr 1; omega, by omega, by show _ = _; simp; omega⟩
 case round =>
  obtain ⟨hB, k, y, rfl, rfl, hk, hy⟩ := hrel
  by_cases hlt : k < l.length
  ·obtain ⟨b, o, v0, rfl, hbl, hok, hc, s0⟩ := (h.to hB).atTimer k hlt
   have hst := Lib.hid (zAL zDR l k hlt)
   have hle := Lib.hid (zD9 zDR l (k + 1))
   generalize l[k] = x at *
   obtain ⟨c0, c1, c2⟩ := hc
   obtain ⟨a0, p0, rfl, hl0, -⟩ := s0.open
   have hy2 : y ≤ 1048576 := by have := hy.out; omega
   go_wp2_with fail
   refine (zhM x _ y _ hok s0 (by omega) (by omega)).mono ?_
   rintro e w1 ⟨rfl, hb1⟩
   have B1 := via hB hb1
   by_cases q1 : ((zDR x : Nat) : Int) ≤ y
   ·rw [yF q1]
    go_wp2
    go_roundw
    case rel => exact ⟨B1, k + 1, y - zDR x, by go_num, by congr 1; omega, by omega, by show _ = _; have := hy.out; have := hst.out; omega⟩
    case measure => simp [intOf]; omega
   ·rw [yG q1]
    go_wp2
    go_ret
    exact ⟨zL (by rw [hsz.out]; unfold xH; have := hy.out; have := hst.out; have := hle.out; split <;> omega), B1⟩
  ·obtain rfl : k = l.length := by omega
   go_wp2
   go_ret
   exact ⟨zL (by rw [hsz.out]; unfold xH; have := hy.out; rw [List.take_length] at this; split <;> omega), hB⟩
set_option maxRecDepth 20000 in
theorem zjA (x : TaskD) (v0 : Value) (left : Int) (w : World) (hx : zcI x) (s0 : Sl w x.F.Fields v0) (h0 : 0 ≤ left) (h1 : left ≤ 1048576) :
  Calls Tryz.prog 155 #[.agg #[.string x.F.Kind, v0, .string x.Undo, .int .i64 x.State, .int .i64 x.Tries, .int .i64 x.Due, .int .i64 x.V.K, .int .i64 x.V.N, .string x.V.S], .int .i64 left] w (zCV (xH (zE3 x) left) w) := by
 obtain ⟨a0, c0, rfl, hl0, -⟩ := s0.open
 have hsz : Hid (zE3 x = v6 x.F + x.Undo.size + zBC x.V) := rfl
 obtain ⟨xF, xUndo, xState, xTries, xDue, xV⟩ := hx
 have yUndo : x.Undo.size ≤ 9223372036854775807 := by simp [maxLen] at xUndo; omega
 clear xUndo
 go_enter Tryz.func155, Tryz.ntmps155
 go_wp2_with fail
 refine (zNM x.F _ left _ xF (s0.to (by simp (maxDischargeDepth := 9))) (by omega) (by omega)).mono ?_
 rintro e w1 ⟨rfl, hb1⟩
 have B1 := via (w0 := w) (by simp (maxDischargeDepth := 9)) hb1
 have X1 : Bx w1 w.heap.size [.string x.F.Kind, (.slice a0 x.F.Fields.length c0), .string x.Undo, .int .i64 x.State, .int .i64 x.Tries, .int .i64 x.Due, .int .i64 x.V.K, .int .i64 x.V.N, .string x.V.S] := Bx.via (by simp (maxDischargeDepth := 9)) hb1
 have k1_0 := X1.c 0 _ rfl
 have k1_1 := X1.c 1 _ rfl
 have k1_2 := X1.c 2 _ rfl
 have k1_3 := X1.c 3 _ rfl
 have k1_4 := X1.c 4 _ rfl
 have k1_5 := X1.c 5 _ rfl
 have k1_6 := X1.c 6 _ rfl
 have k1_7 := X1.c 7 _ rfl
 have k1_8 := X1.c 8 _ rfl
 by_cases q0 : ((v6 x.F : Nat) : Int) ≤ left
 rotate_left
 ·rw [yG q0]
  go_wp2
  go_ret
  exact ⟨zL (by rw [hsz.out]; unfold xH; split <;> omega), (by simp (maxDischargeDepth := 9) [B1])⟩
 rw [yF q0]
 by_cases q1 : (left - (v6 x.F : Nat)) < (x.Undo.size : Nat)
 ·go_wp2
  go_ret
  exact ⟨zL (by rw [hsz.out]; unfold xH; split <;> omega), (by simp (maxDischargeDepth := 9) [B1])⟩
 go_wp2_with fail
 refine (zP3 x.V  ((left - (v6 x.F : Nat)) - (x.Undo.size : Nat)) _ xV  (by omega) (by omega)).mono ?_
 rintro e w3 ⟨rfl, hb3⟩
 have B3 := via (w0 := w) (by simp (maxDischargeDepth := 9) [B1]) hb3
 have X3 : Bx w3 w.heap.size [.string x.F.Kind, (.slice a0 x.F.Fields.length c0), .string x.Undo, .int .i64 x.State, .int .i64 x.Tries, .int .i64 x.Due, .int .i64 x.V.K, .int .i64 x.V.N, .string x.V.S] := Bx.via (by simp (maxDischargeDepth := 9) [X1]) hb3
 have k3_0 := X3.c 0 _ rfl
 have k3_1 := X3.c 1 _ rfl
 have k3_2 := X3.c 2 _ rfl
 have k3_3 := X3.c 3 _ rfl
 have k3_4 := X3.c 4 _ rfl
 have k3_5 := X3.c 5 _ rfl
 have k3_6 := X3.c 6 _ rfl
 have k3_7 := X3.c 7 _ rfl
 have k3_8 := X3.c 8 _ rfl
 by_cases q2 : ((zBC x.V : Nat) : Int) ≤ ((left - (v6 x.F : Nat)) - (x.Undo.size : Nat))
 rotate_left
 ·rw [yG q2]
  go_wp2
  go_ret
  exact ⟨zL (by rw [hsz.out]; unfold xH; split <;> omega), (by simp (maxDischargeDepth := 9) [B3])⟩
 rw [yF q2]
 go_wp2
 go_ret
 exact ⟨zL (by rw [hsz.out]; unfold xH; split <;> omega), (by simp (maxDischargeDepth := 9) [B3])⟩
set_option maxRecDepth 20000 in
theorem zeF (l : List TaskD) (v : Value) (left : Int) (w : World) (h : Sl w l v) (h0 : 0 ≤ left) (h1 : left ≤ 1048576) :
  Calls Tryz.prog 93 #[v, .int .i64 left] w (zCV (xH (zDx l) left) w) := by
 obtain ⟨a, c, rfl, hl, -⟩ := h.open
 have hsz : Hid (zDx l = l.length + (l.map zE3).sum) := rfl
 go_enter Tryz.func93, Tryz.ntmps93
 by_cases q0 : left < l.length
 ·go_wp2
  go_ret
  exact ⟨zL (by rw [hsz.out]; unfold xH; split <;> omega), by simp⟩
 go_wp2
 go_loopw [1, 5] (fun lf i wr => Below w.heap.size w wr ∧ ∃ (k y : Nat), i = .int .i64 k ∧ lf = .int .i64 y ∧ k ≤ l.length ∧ Hid ((y : Int) + l.length + ((l.take k).map zE3).sum = left)) (fun _ i _ => l.length - (intOf i).toNat)
 case atStart => exact ⟨Below.refl _ _, 0, (left - l.length).toNat, rfl, by congr 1; omega, by omega, by show _ = _; simp; omega⟩
 case round =>
  obtain ⟨hB, k, y, rfl, rfl, hk, hy⟩ := hrel
  by_cases hlt : k < l.length
  ·obtain ⟨b, o, v0, rfl, hbl, hok, hc, s0⟩ := (h.to hB).atTask k hlt
   have hst := Lib.hid (zAL zE3 l k hlt)
   have hle := Lib.hid (zD9 zE3 l (k + 1))
   generalize l[k] = x at *
   obtain ⟨c0, c1, c2, c3, c4, c5, c6, c7, c8⟩ := hc
   obtain ⟨a0, p0, rfl, hl0, -⟩ := s0.open
   have hy2 : y ≤ 1048576 := by have := hy.out; omega
   go_wp2_with fail
   refine (zjA x _ y _ hok s0 (by omega) (by omega)).mono ?_
   rintro e w1 ⟨rfl, hb1⟩
   have B1 := via hB hb1
   by_cases q1 : ((zE3 x : Nat) : Int) ≤ y
   ·rw [yF q1]
    go_wp2
    go_roundw
    case rel => exact ⟨B1, k + 1, y - zE3 x, by go_num, by congr 1; omega, by omega, by show _ = _; have := hy.out; have := hst.out; omega⟩
    case measure => simp [intOf]; omega
   ·rw [yG q1]
    go_wp2
    go_ret
    exact ⟨zL (by rw [hsz.out]; unfold xH; have := hy.out; have := hst.out; have := hle.out; split <;> omega), B1⟩
  ·obtain rfl : k = l.length := by omega
   go_wp2
   go_ret
   exact ⟨zL (by rw [hsz.out]; unfold xH; have := hy.out; rw [List.take_length] at this; split <;> omega), hB⟩
set_option maxRecDepth 20000 in
theorem zhx (x : UndoD) (v0 : Value) (left : Int) (w : World) (hx : zdD x) (s0 : Sl w x.F.Fields v0) (h0 : 0 ≤ left) (h1 : left ≤ 1048576) :
  Calls Tryz.prog 157 #[.agg #[.string x.Key, .string x.F.Kind, v0], .int .i64 left] w (zCV (xH (zE0 x) left) w) := by
 obtain ⟨a0, c0, rfl, hl0, -⟩ := s0.open
 have hsz : Hid (zE0 x = x.Key.size + v6 x.F) := rfl
 obtain ⟨xKey, xF⟩ := hx
 have yKey : x.Key.size ≤ 9223372036854775807 := by simp [maxLen] at xKey; omega
 clear xKey
 go_enter Tryz.func157, Tryz.ntmps157
 by_cases q0 : left < (x.Key.size : Nat)
 ·go_wp2
  go_ret
  exact ⟨zL (by rw [hsz.out]; unfold xH; split <;> omega), (by simp (maxDischargeDepth := 9))⟩
 go_wp2_with fail
 refine (zNM x.F _ (left - (x.Key.size : Nat)) _ xF (s0.to (by simp (maxDischargeDepth := 9))) (by omega) (by omega)).mono ?_
 rintro e w2 ⟨rfl, hb2⟩
 have B2 := via (w0 := w) (by simp (maxDischargeDepth := 9)) hb2
 have X2 : Bx w2 w.heap.size [.string x.Key, .string x.F.Kind, (.slice a0 x.F.Fields.length c0)] := Bx.via (by simp (maxDischargeDepth := 9)) hb2
 have k2_0 := X2.c 0 _ rfl
 have k2_1 := X2.c 1 _ rfl
 have k2_2 := X2.c 2 _ rfl
 by_cases q1 : ((v6 x.F : Nat) : Int) ≤ (left - (x.Key.size : Nat))
 rotate_left
 ·rw [yG q1]
  go_wp2
  go_ret
  exact ⟨zL (by rw [hsz.out]; unfold xH; split <;> omega), (by simp (maxDischargeDepth := 9) [B2])⟩
 rw [yF q1]
 go_wp2
 go_ret
 exact ⟨zL (by rw [hsz.out]; unfold xH; split <;> omega), (by simp (maxDischargeDepth := 9) [B2])⟩
set_option maxRecDepth 20000 in
theorem zgC (l : List UndoD) (v : Value) (left : Int) (w : World) (h : Sl w l v) (h0 : 0 ≤ left) (h1 : left ≤ 1048576) :
  Calls Tryz.prog 95 #[v, .int .i64 left] w (zCV (xH (zI5 l) left) w) := by
 obtain ⟨a, c, rfl, hl, -⟩ := h.open
 have hsz : Hid (zI5 l = l.length + (l.map zE0).sum) := rfl
 go_enter Tryz.func95, Tryz.ntmps95
 by_cases q0 : left < l.length
 ·go_wp2
  go_ret
  exact ⟨zL (by rw [hsz.out]; unfold xH; split <;> omega), by simp⟩
 go_wp2
 go_loopw [1, 5] (fun lf i wr => Below w.heap.size w wr ∧ ∃ (k y : Nat), i = .int .i64 k ∧ lf = .int .i64 y ∧ k ≤ l.length ∧ Hid ((y : Int) + l.length + ((l.take k).map zE0).sum = left)) (fun _ i _ => l.length - (intOf i).toNat)
 case atStart => exact ⟨Below.refl _ _, 0, (left - l.length).toNat, rfl, by congr 1; omega, by omega, by show _ = _; simp; omega⟩
 case round =>
  obtain ⟨hB, k, y, rfl, rfl, hk, hy⟩ := hrel
  by_cases hlt : k < l.length
  ·obtain ⟨b, o, v0, rfl, hbl, hok, hc, s0⟩ := (h.to hB).atUndo k hlt
   have hst := Lib.hid (zAL zE0 l k hlt)
   have hle := Lib.hid (zD9 zE0 l (k + 1))
   generalize l[k] = x at *
   obtain ⟨c0, c1, c2⟩ := hc
   obtain ⟨a0, p0, rfl, hl0, -⟩ := s0.open
   have hy2 : y ≤ 1048576 := by have := hy.out; omega
   go_wp2_with fail
   refine (zhx x _ y _ hok s0 (by omega) (by omega)).mono ?_
   rintro e w1 ⟨rfl, hb1⟩
   have B1 := via hB hb1
   by_cases q1 : ((zE0 x : Nat) : Int) ≤ y
   ·rw [yF q1]
    go_wp2
    go_roundw
    case rel => exact ⟨B1, k + 1, y - zE0 x, by go_num, by congr 1; omega, by omega, by show _ = _; have := hy.out; have := hst.out; omega⟩
    case measure => simp [intOf]; omega
   ·rw [yG q1]
    go_wp2
    go_ret
    exact ⟨zL (by rw [hsz.out]; unfold xH; have := hy.out; have := hst.out; have := hle.out; split <;> omega), B1⟩
  ·obtain rfl : k = l.length := by omega
   go_wp2
   go_ret
   exact ⟨zL (by rw [hsz.out]; unfold xH; have := hy.out; rw [List.take_length] at this; split <;> omega), hB⟩
set_option maxRecDepth 20000 in
theorem zjE (x : InstD) (v0 v1 v2 v3 v4 : Value) (left : Int) (w : World) (hx : zcu x) (s0 : Sl w x.S.Items v0) (s1 : Sl w x.Fired v1) (s2 : Sl w x.Tasks v2) (s3 : Sl w x.Timers v3) (s4 : Sl w x.Undos v4) (h0 : 0 ≤ left) (h1 : left ≤ 1048576) :
  Calls Tryz.prog 51 #[.agg #[v0, .int .i64 x.S.Next, v1, v2, v3, v4, .int .i64 x.State, .int .i64 x.Now], .int .i64 left] w (zCV (xH (zJn x) left) w) := by
 obtain ⟨a0, c0, rfl, hl0, -⟩ := s0.open
 obtain ⟨a1, c1, rfl, hl1, -⟩ := s1.open
 obtain ⟨a2, c2, rfl, hl2, -⟩ := s2.open
 obtain ⟨a3, c3, rfl, hl3, -⟩ := s3.open
 obtain ⟨a4, c4, rfl, hl4, -⟩ := s4.open
 have hsz : Hid (zJn x = zAO x.S + zAc x.Fired + zDx x.Tasks + zEE x.Timers + zI5 x.Undos) := rfl
 obtain ⟨xS, xState, xNow⟩ := hx
 go_enter Tryz.func51, Tryz.ntmps51
 go_wp2_with fail
 refine (zfH x.S _ left _ xS (s0.to (by simp (maxDischargeDepth := 9))) (by omega) (by omega)).mono ?_
 rintro e w1 ⟨rfl, hb1⟩
 have B1 := via (w0 := w) (by simp (maxDischargeDepth := 9)) hb1
 have X1 : Bx w1 w.heap.size [(.slice a0 x.S.Items.length c0), .int .i64 x.S.Next, (.slice a1 x.Fired.length c1), (.slice a2 x.Tasks.length c2), (.slice a3 x.Timers.length c3), (.slice a4 x.Undos.length c4), .int .i64 x.State, .int .i64 x.Now] := Bx.via (by simp (maxDischargeDepth := 9)) hb1
 have k1_0 := X1.c 0 _ rfl
 have k1_1 := X1.c 1 _ rfl
 have k1_2 := X1.c 2 _ rfl
 have k1_3 := X1.c 3 _ rfl
 have k1_4 := X1.c 4 _ rfl
 have k1_5 := X1.c 5 _ rfl
 have k1_6 := X1.c 6 _ rfl
 have k1_7 := X1.c 7 _ rfl
 by_cases q0 : ((zAO x.S : Nat) : Int) ≤ left
 rotate_left
 ·rw [yG q0]
  go_wp2
  go_ret
  exact ⟨zL (by rw [hsz.out]; unfold xH; split <;> omega), (by simp (maxDischargeDepth := 9) [B1])⟩
 rw [yF q0]
 go_wp2_with fail
 refine (zcs x.Fired _ (left - (zAO x.S : Nat)) _ (s1.to (by simp (maxDischargeDepth := 9) [B1])) (by omega) (by omega)).mono ?_
 rintro e w2 ⟨rfl, hb2⟩
 have B2 := via (w0 := w) (by simp (maxDischargeDepth := 9) [B1]) hb2
 have X2 : Bx w2 w.heap.size [(.slice a0 x.S.Items.length c0), .int .i64 x.S.Next, (.slice a1 x.Fired.length c1), (.slice a2 x.Tasks.length c2), (.slice a3 x.Timers.length c3), (.slice a4 x.Undos.length c4), .int .i64 x.State, .int .i64 x.Now] := Bx.via (by simp (maxDischargeDepth := 9) [X1]) hb2
 have k2_0 := X2.c 0 _ rfl
 have k2_1 := X2.c 1 _ rfl
 have k2_2 := X2.c 2 _ rfl
 have k2_3 := X2.c 3 _ rfl
 have k2_4 := X2.c 4 _ rfl
 have k2_5 := X2.c 5 _ rfl
 have k2_6 := X2.c 6 _ rfl
 have k2_7 := X2.c 7 _ rfl
 by_cases q1 : ((zAc x.Fired : Nat) : Int) ≤ (left - (zAO x.S : Nat))
 rotate_left
 ·rw [yG q1]
  go_wp2
  go_ret
  exact ⟨zL (by rw [hsz.out]; unfold xH; split <;> omega), (by simp (maxDischargeDepth := 9) [B2])⟩
 rw [yF q1]
 go_wp2_with fail
 refine (zeF x.Tasks _ ((left - (zAO x.S : Nat)) - (zAc x.Fired : Nat)) _ (s2.to (by simp (maxDischargeDepth := 9) [B2])) (by omega) (by omega)).mono ?_
 rintro e w3 ⟨rfl, hb3⟩
 have B3 := via (w0 := w) (by simp (maxDischargeDepth := 9) [B2]) hb3
 have X3 : Bx w3 w.heap.size [(.slice a0 x.S.Items.length c0), .int .i64 x.S.Next, (.slice a1 x.Fired.length c1), (.slice a2 x.Tasks.length c2), (.slice a3 x.Timers.length c3), (.slice a4 x.Undos.length c4), .int .i64 x.State, .int .i64 x.Now] := Bx.via (by simp (maxDischargeDepth := 9) [X2]) hb3
 have k3_0 := X3.c 0 _ rfl
 have k3_1 := X3.c 1 _ rfl
 have k3_2 := X3.c 2 _ rfl
 have k3_3 := X3.c 3 _ rfl
 have k3_4 := X3.c 4 _ rfl
 have k3_5 := X3.c 5 _ rfl
 have k3_6 := X3.c 6 _ rfl
 have k3_7 := X3.c 7 _ rfl
 by_cases q2 : ((zDx x.Tasks : Nat) : Int) ≤ ((left - (zAO x.S : Nat)) - (zAc x.Fired : Nat))
 rotate_left
 ·rw [yG q2]
  go_wp2
  go_ret
  exact ⟨zL (by rw [hsz.out]; unfold xH; split <;> omega), (by simp (maxDischargeDepth := 9) [B3])⟩
 rw [yF q2]
 go_wp2_with fail
 refine (zc3 x.Timers _ (((left - (zAO x.S : Nat)) - (zAc x.Fired : Nat)) - (zDx x.Tasks : Nat)) _ (s3.to (by simp (maxDischargeDepth := 9) [B3])) (by omega) (by omega)).mono ?_
 rintro e w4 ⟨rfl, hb4⟩
 have B4 := via (w0 := w) (by simp (maxDischargeDepth := 9) [B3]) hb4
 have X4 : Bx w4 w.heap.size [(.slice a0 x.S.Items.length c0), .int .i64 x.S.Next, (.slice a1 x.Fired.length c1), (.slice a2 x.Tasks.length c2), (.slice a3 x.Timers.length c3), (.slice a4 x.Undos.length c4), .int .i64 x.State, .int .i64 x.Now] := Bx.via (by simp (maxDischargeDepth := 9) [X3]) hb4
 have k4_0 := X4.c 0 _ rfl
 have k4_1 := X4.c 1 _ rfl
 have k4_2 := X4.c 2 _ rfl
 have k4_3 := X4.c 3 _ rfl
 have k4_4 := X4.c 4 _ rfl
 have k4_5 := X4.c 5 _ rfl
 have k4_6 := X4.c 6 _ rfl
 have k4_7 := X4.c 7 _ rfl
 by_cases q3 : ((zEE x.Timers : Nat) : Int) ≤ (((left - (zAO x.S : Nat)) - (zAc x.Fired : Nat)) - (zDx x.Tasks : Nat))
 rotate_left
 ·rw [yG q3]
  go_wp2
  go_ret
  exact ⟨zL (by rw [hsz.out]; unfold xH; split <;> omega), (by simp (maxDischargeDepth := 9) [B4])⟩
 rw [yF q3]
 go_wp2_with fail
 refine (zgC x.Undos _ ((((left - (zAO x.S : Nat)) - (zAc x.Fired : Nat)) - (zDx x.Tasks : Nat)) - (zEE x.Timers : Nat)) _ (s4.to (by simp (maxDischargeDepth := 9) [B4])) (by omega) (by omega)).mono ?_
 rintro e w5 ⟨rfl, hb5⟩
 have B5 := via (w0 := w) (by simp (maxDischargeDepth := 9) [B4]) hb5
 have X5 : Bx w5 w.heap.size [(.slice a0 x.S.Items.length c0), .int .i64 x.S.Next, (.slice a1 x.Fired.length c1), (.slice a2 x.Tasks.length c2), (.slice a3 x.Timers.length c3), (.slice a4 x.Undos.length c4), .int .i64 x.State, .int .i64 x.Now] := Bx.via (by simp (maxDischargeDepth := 9) [X4]) hb5
 have k5_0 := X5.c 0 _ rfl
 have k5_1 := X5.c 1 _ rfl
 have k5_2 := X5.c 2 _ rfl
 have k5_3 := X5.c 3 _ rfl
 have k5_4 := X5.c 4 _ rfl
 have k5_5 := X5.c 5 _ rfl
 have k5_6 := X5.c 6 _ rfl
 have k5_7 := X5.c 7 _ rfl
 by_cases q4 : ((zI5 x.Undos : Nat) : Int) ≤ ((((left - (zAO x.S : Nat)) - (zAc x.Fired : Nat)) - (zDx x.Tasks : Nat)) - (zEE x.Timers : Nat))
 rotate_left
 ·rw [yG q4]
  go_wp2
  go_ret
  exact ⟨zL (by rw [hsz.out]; unfold xH; split <;> omega), (by simp (maxDischargeDepth := 9) [B5])⟩
 rw [yF q4]
 go_wp2
 go_ret
 exact ⟨zL (by rw [hsz.out]; unfold xH; split <;> omega), (by simp (maxDischargeDepth := 9) [B5])⟩
set_option maxRecDepth 20000 in
theorem zi4 (x : WorkD) (v0 v1 v2 v3 v4 : Value) (left : Int) (w : World) (hx : zcD x) (s0 : Sl w x.X.S.Items v0) (s1 : Sl w x.X.Fired v1) (s2 : Sl w x.X.Tasks v2) (s3 : Sl w x.X.Timers v3) (s4 : Sl w x.X.Undos v4) (h0 : 0 ≤ left) (h1 : left ≤ 1048576) :
  Calls Tryz.prog 27 #[.agg #[.string x.Name, .string x.Def, v0, .int .i64 x.X.S.Next, v1, v2, v3, v4, .int .i64 x.X.State, .int .i64 x.X.Now], .int .i64 left] w (zCV (xH (zEt x) left) w) := by
 obtain ⟨a0, c0, rfl, hl0, -⟩ := s0.open
 obtain ⟨a1, c1, rfl, hl1, -⟩ := s1.open
 obtain ⟨a2, c2, rfl, hl2, -⟩ := s2.open
 obtain ⟨a3, c3, rfl, hl3, -⟩ := s3.open
 obtain ⟨a4, c4, rfl, hl4, -⟩ := s4.open
 have hsz : Hid (zEt x = x.Name.size + x.Def.size + zJn x.X) := rfl
 obtain ⟨xName, xDef, xX⟩ := hx
 have yName : x.Name.size ≤ 9223372036854775807 := by simp [maxLen] at xName; omega
 clear xName
 have yDef : x.Def.size ≤ 9223372036854775807 := by simp [maxLen] at xDef; omega
 clear xDef
 go_enter Tryz.func27, Tryz.ntmps27
 by_cases q0 : left < (x.Name.size : Nat)
 ·go_wp2
  go_ret
  exact ⟨zL (by rw [hsz.out]; unfold xH; split <;> omega), (by simp (maxDischargeDepth := 9))⟩
 by_cases q1 : (left - (x.Name.size : Nat)) < (x.Def.size : Nat)
 ·go_wp2
  go_ret
  exact ⟨zL (by rw [hsz.out]; unfold xH; split <;> omega), (by simp (maxDischargeDepth := 9))⟩
 go_wp2_with fail
 refine (zjE x.X _ _ _ _ _ ((left - (x.Name.size : Nat)) - (x.Def.size : Nat)) _ xX (s0.to (by simp (maxDischargeDepth := 9))) (s1.to (by simp (maxDischargeDepth := 9))) (s2.to (by simp (maxDischargeDepth := 9))) (s3.to (by simp (maxDischargeDepth := 9))) (s4.to (by simp (maxDischargeDepth := 9))) (by omega) (by omega)).mono ?_
 rintro e w3 ⟨rfl, hb3⟩
 have B3 := via (w0 := w) (by simp (maxDischargeDepth := 9)) hb3
 have X3 : Bx w3 w.heap.size [.string x.Name, .string x.Def, (.slice a0 x.X.S.Items.length c0), .int .i64 x.X.S.Next, (.slice a1 x.X.Fired.length c1), (.slice a2 x.X.Tasks.length c2), (.slice a3 x.X.Timers.length c3), (.slice a4 x.X.Undos.length c4), .int .i64 x.X.State, .int .i64 x.X.Now] := Bx.via (by simp (maxDischargeDepth := 9)) hb3
 have k3_0 := X3.c 0 _ rfl
 have k3_1 := X3.c 1 _ rfl
 have k3_2 := X3.c 2 _ rfl
 have k3_3 := X3.c 3 _ rfl
 have k3_4 := X3.c 4 _ rfl
 have k3_5 := X3.c 5 _ rfl
 have k3_6 := X3.c 6 _ rfl
 have k3_7 := X3.c 7 _ rfl
 have k3_8 := X3.c 8 _ rfl
 have k3_9 := X3.c 9 _ rfl
 by_cases q2 : ((zJn x.X : Nat) : Int) ≤ ((left - (x.Name.size : Nat)) - (x.Def.size : Nat))
 rotate_left
 ·rw [yG q2]
  go_wp2
  go_ret
  exact ⟨zL (by rw [hsz.out]; unfold xH; split <;> omega), (by simp (maxDischargeDepth := 9) [B3])⟩
 rw [yF q2]
 go_wp2
 go_ret
 exact ⟨zL (by rw [hsz.out]; unfold xH; split <;> omega), (by simp (maxDischargeDepth := 9) [B3])⟩
set_option maxRecDepth 20000 in
theorem zf1 (l : List WorkD) (v : Value) (left : Int) (w : World) (h : Sl w l v) (h0 : 0 ≤ left) (h1 : left ≤ 1048576) :
  Calls Tryz.prog 16 #[v, .int .i64 left] w (zCV (xH (zIV l) left) w) := by
 obtain ⟨a, c, rfl, hl, -⟩ := h.open
 have hsz : Hid (zIV l = l.length + (l.map zEt).sum) := rfl
 go_enter Tryz.func16, Tryz.ntmps16
 by_cases q0 : left < l.length
 ·go_wp2
  go_ret
  exact ⟨zL (by rw [hsz.out]; unfold xH; split <;> omega), by simp⟩
 go_wp2
 go_loopw [1, 5] (fun lf i wr => Below w.heap.size w wr ∧ ∃ (k y : Nat), i = .int .i64 k ∧ lf = .int .i64 y ∧ k ≤ l.length ∧ Hid ((y : Int) + l.length + ((l.take k).map zEt).sum = left)) (fun _ i _ => l.length - (intOf i).toNat)
 case atStart => exact ⟨Below.refl _ _, 0, (left - l.length).toNat, rfl, by congr 1; omega, by omega, by show _ = _; simp; omega⟩
 case round =>
  obtain ⟨hB, k, y, rfl, rfl, hk, hy⟩ := hrel
  by_cases hlt : k < l.length
  ·obtain ⟨b, o, v0, v1, v2, v3, v4, rfl, hbl, hok, hc, s0, s1, s2, s3, s4⟩ := (h.to hB).atWork k hlt
   have hst := Lib.hid (zAL zEt l k hlt)
   have hle := Lib.hid (zD9 zEt l (k + 1))
   generalize l[k] = x at *
   obtain ⟨c0, c1, c2, c3, c4, c5, c6, c7, c8, c9⟩ := hc
   obtain ⟨a0, p0, rfl, hl0, -⟩ := s0.open; obtain ⟨a1, p1, rfl, hl1, -⟩ := s1.open; obtain ⟨a2, p2, rfl, hl2, -⟩ := s2.open; obtain ⟨a3, p3, rfl, hl3, -⟩ := s3.open; obtain ⟨a4, p4, rfl, hl4, -⟩ := s4.open
   have hy2 : y ≤ 1048576 := by have := hy.out; omega
   go_wp2_with fail
   refine (zi4 x _ _ _ _ _ y _ hok s0 s1 s2 s3 s4 (by omega) (by omega)).mono ?_
   rintro e w1 ⟨rfl, hb1⟩
   have B1 := via hB hb1
   by_cases q1 : ((zEt x : Nat) : Int) ≤ y
   ·rw [yF q1]
    go_wp2
    go_roundw
    case rel => exact ⟨B1, k + 1, y - zEt x, by go_num, by congr 1; omega, by omega, by show _ = _; have := hy.out; have := hst.out; omega⟩
    case measure => simp [intOf]; omega
   ·rw [yG q1]
    go_wp2
    go_ret
    exact ⟨zL (by rw [hsz.out]; unfold xH; have := hy.out; have := hst.out; have := hle.out; split <;> omega), B1⟩
  ·obtain rfl : k = l.length := by omega
   go_wp2
   go_ret
   exact ⟨zL (by rw [hsz.out]; unfold xH; have := hy.out; rw [List.take_length] at this; split <;> omega), hB⟩
set_option maxRecDepth 20000 in
theorem zYH (x : BookD) (v0 v1 : Value) (left : Int) (w : World) (hx : zWp x) (s0 : Sl w x.Defs v0) (s1 : Sl w x.Works v1) (h0 : 0 ≤ left) (h1 : left ≤ 1048576) :
  Calls Tryz.prog 6 #[.agg #[v0, v1, .int .i64 x.Now, .int .i64 x.Ring], .int .i64 left] w (zCV (xH (zGc x) left) w) := by
 obtain ⟨a0, c0, rfl, hl0, -⟩ := s0.open
 obtain ⟨a1, c1, rfl, hl1, -⟩ := s1.open
 have hsz : Hid (zGc x = zH9 x.Defs + zIV x.Works) := rfl
 obtain ⟨xNow, xRing⟩ := hx
 go_enter Tryz.func6, Tryz.ntmps6
 go_wp2_with fail
 refine (zkA x.Defs _ left _ (s0.to (by simp (maxDischargeDepth := 9))) (by omega) (by omega)).mono ?_
 rintro e w1 ⟨rfl, hb1⟩
 have B1 := via (w0 := w) (by simp (maxDischargeDepth := 9)) hb1
 have X1 : Bx w1 w.heap.size [(.slice a0 x.Defs.length c0), (.slice a1 x.Works.length c1), .int .i64 x.Now, .int .i64 x.Ring] := Bx.via (by simp (maxDischargeDepth := 9)) hb1
 have k1_0 := X1.c 0 _ rfl
 have k1_1 := X1.c 1 _ rfl
 have k1_2 := X1.c 2 _ rfl
 have k1_3 := X1.c 3 _ rfl
 by_cases q0 : ((zH9 x.Defs : Nat) : Int) ≤ left
 rotate_left
 ·rw [yG q0]
  go_wp2
  go_ret
  exact ⟨zL (by rw [hsz.out]; unfold xH; split <;> omega), (by simp (maxDischargeDepth := 9) [B1])⟩
 rw [yF q0]
 go_wp2_with fail
 refine (zf1 x.Works _ (left - (zH9 x.Defs : Nat)) _ (s1.to (by simp (maxDischargeDepth := 9) [B1])) (by omega) (by omega)).mono ?_
 rintro e w2 ⟨rfl, hb2⟩
 have B2 := via (w0 := w) (by simp (maxDischargeDepth := 9) [B1]) hb2
 have X2 : Bx w2 w.heap.size [(.slice a0 x.Defs.length c0), (.slice a1 x.Works.length c1), .int .i64 x.Now, .int .i64 x.Ring] := Bx.via (by simp (maxDischargeDepth := 9) [X1]) hb2
 have k2_0 := X2.c 0 _ rfl
 have k2_1 := X2.c 1 _ rfl
 have k2_2 := X2.c 2 _ rfl
 have k2_3 := X2.c 3 _ rfl
 by_cases q1 : ((zIV x.Works : Nat) : Int) ≤ (left - (zH9 x.Defs : Nat))
 rotate_left
 ·rw [yG q1]
  go_wp2
  go_ret
  exact ⟨zL (by rw [hsz.out]; unfold xH; split <;> omega), (by simp (maxDischargeDepth := 9) [B2])⟩
 rw [yF q1]
 go_wp2
 go_ret
 exact ⟨zL (by rw [hsz.out]; unfold xH; split <;> omega), (by simp (maxDischargeDepth := 9) [B2])⟩
end Go.Proofs.YtipbfgknaihifaaGreat
