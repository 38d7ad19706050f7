/- Parts of a proof. -/
import Derived.WalkKit
import Derived.Great.BuildSlice
import Derived.Lib.Hide
import Derived.Laws.BytesArg
import Derived.Laws.StructEq
namespace Go.Proofs.YtkdidadegedmiaaGreat
open Go.RowKit
inductive Ty where
 | int | u8 | bool | str
 | lst (t : Ty)
 | pr (a b : Ty)
deriving DecidableEq
abbrev El : Ty → Type
 | .int => Int
 | .u8 => Int
 | .bool => Bool
 | .str => ByteArray
 | .lst t => List (El t)
 | .pr a b => El a × El b
def zO : Ty → Nat
 | .pr a b => zO a + zO b
 | _ => 1
def Ty.eq? : (a b : Ty) → Option (PLift (a = b))
 | .int, .int => some ⟨rfl⟩
 | .u8, .u8 => some ⟨rfl⟩
 | .bool, .bool => some ⟨rfl⟩
 | .str, .str => some ⟨rfl⟩
 | .lst a, .lst b => match Ty.eq? a b with | some h => some ⟨congrArg Ty.lst h.down⟩ | none => none
 | .pr a b, .pr c d => match Ty.eq? a c, Ty.eq? b d with | some h, some g => some ⟨by rw [h.down, g.down]⟩ | _, _ => none
 | _, _ => none
def zRG (t t' : Ty) (l : List (El t')) : List (El t) :=
 match Ty.eq? t' t with
 | some h => h.down ▸ l
 | none => []
theorem Ty.eq?_self : ∀ t : Ty, Ty.eq? t t = some ⟨rfl⟩ := by
 intro t
 induction t with
 | lst a ih => simp [Ty.eq?, ih]
 | pr a b iha ihb => simp [Ty.eq?, iha, ihb]
 | _ => rfl
theorem zGC (t : Ty) (l : List (El t)) : zRG t t l = l := by
 unfold zRG; rw [Ty.eq?_self]
inductive OT where
 | d (t : Ty)
 | o (s : OT)
 | pr (a b : OT)
deriving DecidableEq
abbrev OT.ty : OT → Ty
 | .d t => t
 | .o s => .lst s.ty
 | .pr a b => .pr a.ty b.ty
def OT.eq? : (a b : OT) → Option (PLift (a = b))
 | .d a, .d b => match Ty.eq? a b with | some h => some ⟨congrArg OT.d h.down⟩ | none => none
 | .o a, .o b => match OT.eq? a b with | some h => some ⟨congrArg OT.o h.down⟩ | none => none
 | .pr a b, .pr a' b' => match OT.eq? a a', OT.eq? b b' with | some h, some g => some ⟨by rw [h.down, g.down]⟩ | _, _ => none
 | _, _ => none
def zUB (s s' : OT) (l : List (El s'.ty)) : List (El s.ty) :=
 match OT.eq? s' s with
 | some h => h.down ▸ l
 | none => []
theorem OT.eq?_self : ∀ s : OT, OT.eq? s s = some ⟨rfl⟩ := by
 intro s
 induction s with
 | d t => simp [OT.eq?, Ty.eq?_self]
 | o a ih => simp [OT.eq?, ih]
 | pr a b iha ihb => simp [OT.eq?, iha, ihb]
theorem zIr (s : OT) (l : List (El s.ty)) : zUB s s l = l := by
 unfold zUB; rw [OT.eq?_self]
inductive V where
 | any
 | c (x : Value)
 | nil0
 | ptr (o off : Nat)
 | bx (cells : List V) (off : Nat)
 | ext (q : Nat) (t : Ty) (l : List (El t))
 | ept (q : Nat) (t : Ty) (l : List (El t)) (i : Int) (off : Nat)
 | obj (o : Nat)
 | opt (s : OT) (o : Nat) (i : Int) (off : Nat)
 | sl (s : OT) (o : Nat) (a b : Int)
 | agg (vs : List V)
 | tup (vs : List V)
 | fn (f : Nat) (caps : List V)
inductive Ob where
 | box (cells : List V)
 | arr (s : OT) (l : List (El s.ty))
 | frz (t : Ty) (l : List (El t))
 | gone
def enc (q : Nat) : (t : Ty) → El t → List V
 | .int, n => [.c (.int .i64 n)]
 | .u8, n => [.c (.int .u8 n)]
 | .bool, b => [.c (.bool b)]
 | .str, s => [.c (.string s)]
 | .lst t, l => [.ext q t l]
 | .pr a b, x => enc q a x.1 ++ enc q b x.2
theorem yB {q : Nat} : ∀ (t : Ty) (x : El t), (enc q t x).length = zO t
 | .int, _ => rfl
 | .u8, _ => rfl
 | .bool, _ => rfl
 | .str, _ => rfl
 | .lst _, _ => rfl
 | .pr a b, x => by simp only [enc, zO, List.length_append, yB a, yB b]
theorem zAs : ∀ t : Ty, 0 < zO t
 | .int => by decide
 | .u8 => by decide
 | .bool => by decide
 | .str => by decide
 | .lst _ => by simp [zO]
 | .pr a b => by have := zAs a; simp only [zO]; omega
def lim : Ty → Nat
 | .u8 => maxLen
 | _ => 16777216
structure Pl where
 b : Nat
 x : Value
 off : Nat
 fp : Nat → Prop
abbrev yH := Nat → Option Pl
abbrev Zs := Bool → Nat → Prop
def zAX : yH := fun _ => none
def vm : Nat → Prop := fun _ => False
def Qk (ρ : yH) (q : Nat) : Prop := ∀ o, q = o + 1 → ∃ p, ρ o = some p
theorem Qk.zero {ρ : yH} : Qk ρ 0 := fun _ h => by cases h
def Bk (ρ : yH) (Z : Zs) (q b : Nat) : Prop := Z false b ∨ ∃ o p, q = o + 1 ∧ ρ o = some p ∧ p.fp b
def okL : Value → Prop
 | .int k n => k.wrap n = n
 | .string s => s.size ≤ 9223372036854775807
 | .agg _ => False
 | _ => True
def okC : Value → Prop
 | .agg cs => ∀ c ∈ cs.toList, okL c
 | x => okL x
inductive Cn (ρ : yH) (Z : Zs) (w : World) : V → Value → Prop
 | any (x : Value) : Cn ρ Z w .any x
 | c (x : Value) (h : okC x) : Cn ρ Z w (.c x) x
 | nil0 (a : Option Addr) : Cn ρ Z w .nil0 (.slice a 0 0)
 | ptr {o off : Nat} {p : Pl} (h : ρ o = some p) : Cn ρ Z w (.ptr o off) (.pointer (some ⟨p.b, p.off + off, none⟩))
 | ext {q : Nat} {t : Ty} {l : List (El t)} {a : Option Addr} {c b o : Nat} (ys : Nat → Nat → Value) (hq : Qk ρ q) (h0 : l.length ≤ lim t) (h1 : l.length ≤ c) (h2 : c ≤ maxLen) (h3 : a = none → c = 0)
   (h4 : l = [] ∨ (a = some ⟨b, o, none⟩ ∧ Bk ρ Z q b)) (h5 : ∀ i j, i < l.length → j < zO t → w.cell? ⟨b, o + i * zO t + j, none⟩ = some (ys i j))
   (h6 : ∀ i x j u, l[i]? = some x → (enc q t x)[j]? = some u → Cn ρ Z w u (ys i j)) : Cn ρ Z w (.ext q t l) (.slice a l.length c)
 | ept {q : Nat} {t : Ty} {l : List (El t)} {b o off : Nat} {i : Int} (ys : Nat → Nat → Value) (hq : Qk ρ q) (h0 : 0 ≤ i ∧ i < l.length)
   (h4 : Bk ρ Z q b) (h5 : ∀ i j, i < l.length → j < zO t → w.cell? ⟨b, o + i * zO t + j, none⟩ = some (ys i j))
   (h6 : ∀ i x j u, l[i]? = some x → (enc q t x)[j]? = some u → Cn ρ Z w u (ys i j)) : Cn ρ Z w (.ept q t l i off) (.pointer (some ⟨b, o + i.toNat * zO t + off, none⟩))
 | bx {cells : List V} {b base off e : Nat} {xs : Array Value} (h0 : Z true b) (h1 : w.heap[b]? = some (.cells xs e (0, 0))) (h2 : base + cells.length ≤ xs.size)
   (h : ∀ (i : Nat) (u : V) (y : Value), cells[i]? = some u → xs[base + i]? = some y → Cn ρ Z w u y) : Cn ρ Z w (.bx cells off) (.pointer (some ⟨b, base + off, none⟩))
 | obj {o n c : Nat} {a : Option Addr} {p : Pl} (h : ρ o = some p) (hx : p.x = .slice a n c) : Cn ρ Z w (.obj o) (.slice a n c)
 | opt {s : OT} {o off n c : Nat} {i : Int} {p : Pl} (h : ρ o = some p) (hx : p.x = .slice (some ⟨p.b, 0, none⟩) n c) (h0 : 0 ≤ i ∧ i < n) :
   Cn ρ Z w (.opt s o i off) (.pointer (some ⟨p.b, i.toNat * zO s.ty + off, none⟩))
 | sl {s : OT} {o n c : Nat} {a b : Int} {ad : Option Addr} {p : Pl} (h : ρ o = some p) (hx : p.x = .slice (some ⟨p.b, 0, none⟩) n c) (h0 : 0 ≤ a ∧ a ≤ b ∧ b ≤ n) (h1 : n ≤ c) (h2 : a < c → ad = some ⟨p.b, a.toNat * zO s.ty, none⟩) :
   Cn ρ Z w (.sl s o a b) (.slice ad (b.toNat - a.toNat) (c - a.toNat))
 | agg {vs : List V} {xs : List Value} (h0 : xs.length = vs.length) (h : ∀ (i : Nat) (u : V) (y : Value), vs[i]? = some u → xs[i]? = some y → Cn ρ Z w u y) : Cn ρ Z w (.agg vs) (.agg xs.toArray)
 | tup {vs : List V} {xs : List Value} (h0 : xs.length = vs.length) (h : ∀ (i : Nat) (u : V) (y : Value), vs[i]? = some u → xs[i]? = some y → Cn ρ Z w u y) : Cn ρ Z w (.tup vs) (.tuple xs.toArray)
 | fn {f : Nat} {vs : List V} {xs : List Value} (h0 : xs.length = vs.length) (h : ∀ (i : Nat) (u : V) (y : Value), vs[i]? = some u → xs[i]? = some y → Cn ρ Z w u y) : Cn ρ Z w (.fn f vs) (.func (.func f) #[] xs.toArray)
def zu (cur : Array Value) (k i : Nat) : List Value := (cur.toList.drop (i * k)).take k
structure InB {α : Type} (k lm : Nat) (T : α → List Value → (Nat → Prop) → Prop) (Z : Zs) (w : World) (l : List α) (v : Value) (fp : Nat → Prop) (b : Nat) (cur : Array Value) (e c : Nat) (fs : Nat → Nat → Prop) : Prop where
 hv : v = .slice (some ⟨b, 0, none⟩) l.length c
 hw : w.heap[b]? = some (.cells cur e (0, 0))
 hz : ∀ q, ¬ Z q b
 hc : l.length ≤ c
 hm : c ≤ maxLen
 hl : l.length ≤ lm
 hs : c * k ≤ cur.size
 hf : ∀ b', fp b' ↔ b' = b ∨ ∃ i, i < l.length ∧ fs i b'
 hn : ∀ i, i < l.length → ¬ fs i b
 hd : ∀ i j b', i < l.length → j < l.length → fs i b' → fs j b' → i = j
 ht : ∀ i x, l[i]? = some x → T x (zu cur k i) (fs i)
def zI3 {α : Type} (k lm : Nat) (T : α → List Value → (Nat → Prop) → Prop) (Z : Zs) (w : World) (l : List α) (v : Value) (fp : Nat → Prop) (b : Nat) : Prop :=
 ((∃ a, v = .slice a 0 0) ∧ l = [] ∧ ∀ b', ¬ fp b') ∨ ∃ cur e c fs, InB k lm T Z w l v fp b cur e c fs
def TrO (Z : Zs) (w : World) : (s : OT) → El s.ty → List Value → (Nat → Prop) → Prop
 | .d t, x, vs, fp => (∀ b, ¬ fp b) ∧ vs.length = zO t ∧ ∀ (j : Nat) (u : V) (y : Value), (enc 0 t x)[j]? = some u → vs[j]? = some y → Cn zAX Z w u y
 | .o s, l, vs, fp => ∃ v b, vs = [v] ∧ zI3 (zO s.ty) (lim s.ty) (fun x vs fp => TrO Z w s x vs fp) Z w l v fp b
 | .pr a b, x, vs, fp => ∃ f g, TrO Z w a x.1 (vs.take (zO a.ty)) f ∧ TrO Z w b x.2 (vs.drop (zO a.ty)) g ∧ (∀ b', fp b' ↔ f b' ∨ g b') ∧ ∀ b', f b' → ¬ g b'
def ObR (ρ : yH) (Z : Zs) (w : World) : Ob → Pl → Prop
 | .box cells, p => (∀ b, ¬ p.fp b) ∧ (∀ q, ¬ Z q p.b) ∧ ∃ xs e, w.heap[p.b]? = some (.cells xs e (0, 0)) ∧ p.off + cells.length ≤ xs.size ∧ ∀ (i : Nat) (u : V) (y : Value), cells[i]? = some u → xs[p.off + i]? = some y → Cn ρ Z w u y
 | .arr s l, p => zI3 (zO s.ty) (lim s.ty) (TrO Z w s) Z w l p.x p.fp p.b
 | .frz t l, p => Cn zAX Z w (.ext 0 t l) p.x ∧ ∀ b, p.fp b → Z false b
 | .gone, p => ∀ b, ¬ p.fp b
def vy : Ob → Pl → Nat → Prop
 | .box _, p, b => b = p.b
 | .arr _ _, p, b => p.fp b
 | _, _, _ => False
structure HR (ρ : yH) (Z : Zs) (H : List Ob) (w : World) : Prop where
 zl : ∀ q b, Z q b → b < w.heap.size
 dom : ∀ o p, ρ o = some p → o < H.length
 ob : ∀ o p x, ρ o = some p → H[o]? = some x → ObR ρ Z w x p
 dj : ∀ o o' p p' x x' b, ρ o = some p → ρ o' = some p' → H[o]? = some x → H[o']? = some x' → vy x p b → vy x' p' b → o = o'
section
variable {ρ ρ' : yH} {Z Z' : Zs} {w w' : World}
theorem Cn.ext_inv {q : Nat} {t : Ty} {l : List (El t)} {x : Value} (h : Cn ρ Z w (.ext q t l) x) : ∃ (a : Option Addr) (c b o : Nat) (ys : Nat → Nat → Value), x = .slice a l.length c ∧ l.length ≤ lim t ∧ l.length ≤ c ∧ c ≤ maxLen ∧ (a = none → c = 0) ∧ (l = [] ∨ (a = some ⟨b, o, none⟩ ∧ Bk ρ Z q b)) ∧
  (∀ i j, i < l.length → j < zO t → w.cell? ⟨b, o + i * zO t + j, none⟩ = some (ys i j)) ∧ (∀ (i : Nat) (x : El t) (j : Nat) (u : V), l[i]? = some x → (enc q t x)[j]? = some u → Cn ρ Z w u (ys i j)) := by
 cases h with
 | ext ys hq h0 h1 h2 h3 h4 h5 h6 => exact ⟨_, _, _, _, ys, rfl, h0, h1, h2, h3, h4, h5, h6⟩
theorem Cn.ext_qk {q : Nat} {t : Ty} {l : List (El t)} {x : Value} (h : Cn ρ Z w (.ext q t l) x) : Qk ρ q := by
 cases h with
 | ext ys hq => exact hq
theorem Cn.obj_inv {o : Nat} {x : Value} (h : Cn ρ Z w (.obj o) x) : ∃ p, ρ o = some p ∧ x = p.x := by
 cases h with
 | obj h hx => exact ⟨_, h, hx.symm⟩
theorem x8 {x : Value} {y : Value} (h : Cn ρ Z w (.c x) y) : y = x := by cases h; rfl
theorem zKF {x : Value} {y : Value} (h : Cn ρ Z w (.c x) y) : okC x := by cases h; assumption
theorem Cn.emp {q : Nat} {t : Ty} {a : Option Addr} {c : Nat} (hq : Qk ρ q) (h2 : c ≤ maxLen) (h3 : a = none → c = 0) : Cn ρ Z w (.ext q t []) (.slice a 0 c) :=
 .ext (l := []) (b := 0) (o := 0) (fun _ _ => undef) hq (Nat.zero_le _) (Nat.zero_le _) h2 h3 (.inl rfl) (by intro i j h; simp at h) (by intro i x j u h; simp at h)
theorem zPR {b o : Nat} (h : w'.heap[b]? = w.heap[b]?) : w'.cell? ⟨b, o, none⟩ = w.cell? ⟨b, o, none⟩ := by
 unfold World.cell?; rw [h]
structure Kp (ρ : yH) (Z : Zs) (w : World) (ρ' : yH) (Z' : Zs) (w' : World) : Prop where
 r : ∀ o p, ρ o = some p → ρ' o = some p
 z : ∀ q b, Z q b → Z' q b
 h : ∀ q b, Z q b → w'.heap[b]? = w.heap[b]?
 f : ∀ o p b, ρ o = some p → p.fp b → w'.heap[b]? = w.heap[b]?
theorem Kp.rz {ρ : yH} {Z Z' : Zs} {w : World} (h : ∀ q b, Z q b → Z' q b) : Kp ρ Z w ρ Z' w := ⟨fun _ _ h => h, h, fun _ _ _ => rfl, fun _ _ _ _ _ => rfl⟩
theorem Qk.mono {q : Nat} (h : Qk ρ q) (k : Kp ρ Z w ρ' Z' w') : Qk ρ' q := fun o e => (h o e).imp fun p h => k.r o p h
theorem Bk.mono {q b : Nat} (h : Bk ρ Z q b) (k : Kp ρ Z w ρ' Z' w') : Bk ρ' Z' q b := by
 rcases h with h | ⟨o, p, rfl, h1, h2⟩
 ·exact .inl (k.z _ _ h)
 ·exact .inr ⟨o, p, rfl, k.r _ _ h1, h2⟩
theorem Bk.same {q b : Nat} (h : Bk ρ Z q b) (k : Kp ρ Z w ρ' Z' w') : w'.heap[b]? = w.heap[b]? := by
 rcases h with h | ⟨o, p, rfl, h1, h2⟩
 ·exact k.h _ _ h
 ·exact k.f _ _ _ h1 h2
theorem Cn.mono {v : V} {x : Value} (h : Cn ρ Z w v x) (k : Kp ρ Z w ρ' Z' w') : Cn ρ' Z' w' v x := by
 induction h with
 | any x => exact .any x
 | c x h => exact .c x h
 | nil0 a => exact .nil0 a
 | ptr h => exact .ptr (k.r _ _ h)
 | ext ys hq h0 h1 h2 h3 h4 h5 h6 ih =>
  rcases h4 with h4 | ⟨h4, h7⟩
  ·subst h4
   exact .emp (hq.mono k) h2 h3
  ·exact .ext ys (hq.mono k) h0 h1 h2 h3 (.inr ⟨h4, h7.mono k⟩) (fun i j hi hj => by rw [zPR (h7.same k)]; exact h5 i j hi hj) ih
 | ept ys hq h0 h4 h5 h6 ih => exact .ept ys (hq.mono k) h0 (h4.mono k) (fun i j hi hj => by rw [zPR (h4.same k)]; exact h5 i j hi hj) ih
 | bx h0 h1 h2 _ ih => exact .bx (k.z _ _ h0) (by rw [k.h _ _ h0]; exact h1) h2 ih
 | obj h hx => exact .obj (k.r _ _ h) hx
 | opt h hx h0 => exact .opt (k.r _ _ h) hx h0
 | sl h hx h0 h1 h2 => exact .sl (k.r _ _ h) hx h0 h1 h2
 | agg h0 _ ih => exact .agg h0 ih
 | tup h0 _ ih => exact .tup h0 ih
 | fn h0 _ ih => exact .fn h0 ih
theorem zI3.imp {α : Type} {k lm : Nat} {T T' : α → List Value → (Nat → Prop) → Prop} {l : List α} {v : Value} {fp : Nat → Prop} {b : Nat} (h : zI3 k lm T Z w l v fp b)
  (hw : ∀ b, fp b → w'.heap[b]? = w.heap[b]?) (hz : ∀ b q, fp b → ¬ Z' q b) (hT : ∀ x vs f, (∀ b, f b → fp b) → T x vs f → T' x vs f) : zI3 k lm T' Z' w' l v fp b := by
 rcases h with h | ⟨cur, e, c, fs, h⟩
 ·exact .inl h
 ·have hb : fp b := (h.hf b).2 (.inl rfl)
  exact .inr ⟨cur, e, c, fs, h.hv, by rw [hw b hb]; exact h.hw, fun q => hz b q hb, h.hc, h.hm, h.hl, h.hs, h.hf, h.hn, h.hd, fun i x hx => hT _ _ _ (fun b' hb' => (h.hf b').2 (.inr ⟨i, (List.getElem?_eq_some_iff.1 hx).1, hb'⟩)) (h.ht i x hx)⟩
theorem zp6 {Z Z' : Zs} {w w' : World} (hz : ∀ q b, Z q b → Z' q b) (hw : ∀ q b, Z q b → w'.heap[b]? = w.heap[b]?) : Kp zAX Z w zAX Z' w' :=
 ⟨fun _ _ h => h, hz, hw, fun o p b h => by simp [zAX] at h⟩
theorem TrO.mono : ∀ {s : OT} {x : El s.ty} {vs : List Value} {fp : Nat → Prop}, TrO Z w s x vs fp → (∀ q b, Z q b → Z' q b) → (∀ q b, Z q b → w'.heap[b]? = w.heap[b]?) → (∀ b, fp b → w'.heap[b]? = w.heap[b]?) → (∀ b q, fp b → ¬ Z' q b) → TrO Z' w' s x vs fp
 | .d t, x, vs, fp, h, hz, hw, _, _ => ⟨h.1, h.2.1, fun j u y hu hy => (h.2.2 j u y hu hy).mono (zp6 hz hw)⟩
 | .o s, x, vs, fp, h, hz, hw, hf, hn => by
  obtain ⟨v, b, e, h⟩ := h
  exact ⟨v, b, e, h.imp hf (fun b q hb => hn b q hb) fun x vs f hs ht => TrO.mono ht hz hw (fun b hb => hf b (hs b hb)) (fun b q hb => hn b q (hs b hb))⟩
 | .pr a b, x, vs, fp, h, hz, hw, hf, hn => by
  obtain ⟨f, g, h1, h2, h3, h4⟩ := h
  exact ⟨f, g, h1.mono hz hw (fun b hb => hf b ((h3 b).2 (.inl hb))) (fun b q hb => hn b q ((h3 b).2 (.inl hb))), h2.mono hz hw (fun b hb => hf b ((h3 b).2 (.inr hb))) (fun b q hb => hn b q ((h3 b).2 (.inr hb))), h3, h4⟩
theorem TrO.len : ∀ {s : OT} {x : El s.ty} {vs : List Value} {fp : Nat → Prop}, TrO Z w s x vs fp → vs.length = zO s.ty
 | .d t, _, _, _, h => h.2.1
 | .o s, _, _, _, h => by obtain ⟨v, b, e, _⟩ := h; rw [e]; rfl
 | .pr a b, _, vs, _, h => by
  obtain ⟨f, g, h1, h2, _, _⟩ := h
  have e1 := h1.len
  have e2 := h2.len
  have := zAs b.ty
  simp only [List.length_take, List.length_drop] at e1 e2
  simp only [zO]; omega
theorem zI3.own {α : Type} {k lm : Nat} {T : α → List Value → (Nat → Prop) → Prop} {l : List α} {v : Value} {fp : Nat → Prop} {b0 b : Nat} (h : zI3 k lm T Z w l v fp b0)
  (hT : ∀ x vs f, T x vs f → ∀ b, f b → (∀ q, ¬ Z q b) ∧ b < w.heap.size) (hb : fp b) : (∀ q, ¬ Z q b) ∧ b < w.heap.size := by
 rcases h with h | ⟨cur, e, c, fs, h⟩
 ·exact absurd hb (h.2.2 b)
 ·rcases (h.hf b).1 hb with rfl | ⟨i, hi, hb⟩
  ·exact ⟨h.hz, (Array.getElem?_eq_some_iff.1 h.hw).1⟩
  ·exact hT _ _ _ (h.ht i _ (List.getElem?_eq_getElem hi)) b hb
theorem TrO.own : ∀ {s : OT} {x : El s.ty} {vs : List Value} {fp : Nat → Prop}, TrO Z w s x vs fp → ∀ b, fp b → (∀ q, ¬ Z q b) ∧ b < w.heap.size
 | .d t, _, _, _, h, b, hb => absurd hb (h.1 b)
 | .o s, _, _, _, h, b, hb => by
  obtain ⟨v, b0, e, h⟩ := h
  exact h.own (fun x vs f ht => TrO.own ht) hb
 | .pr a b, _, vs, _, h, b', hb => by
  obtain ⟨f, g, h1, h2, h3, _⟩ := h
  rcases (h3 b').1 hb with hb | hb
  ·exact h1.own b' hb
  ·exact h2.own b' hb
theorem ObR.own {x : Ob} {p : Pl} (h : ObR ρ Z w x p) {b : Nat} (hb : vy x p b) : (∀ q, ¬ Z q b) ∧ b < w.heap.size := by
 cases x with
 | box cells => obtain ⟨_, h1, xs, e, h2, _⟩ := h; cases hb; exact ⟨h1, (Array.getElem?_eq_some_iff.1 h2).1⟩
 | arr s l => exact zI3.own h (fun x vs f ht => TrO.own ht) hb
 | frz t l => exact hb.elim
 | gone => exact hb.elim
theorem ObR.fpz {x : Ob} {p : Pl} (h : ObR ρ Z w x p) {b : Nat} (hb : p.fp b) : vy x p b ∨ Z false b := by
 cases x with
 | box cells => exact absurd hb (h.1 b)
 | arr s l => exact .inl hb
 | frz t l => exact .inr (h.2 b hb)
 | gone => exact absurd hb (h b)
theorem ObR.mono {x : Ob} {p : Pl} (h : ObR ρ Z w x p) (k : Kp ρ Z w ρ' Z' w') (hb : ∀ b, vy x p b → (∀ q, ¬ Z' q b) ∧ w'.heap[b]? = w.heap[b]?) : ObR ρ' Z' w' x p := by
 cases x with
 | box cells =>
  obtain ⟨h0, h1, xs, e, h2, h3, h4⟩ := h
  obtain ⟨g1, g2⟩ := hb _ rfl
  exact ⟨h0, g1, xs, e, by rw [g2]; exact h2, h3, fun i u y a b => (h4 i u y a b).mono k⟩
 | arr s l => exact zI3.imp h (fun b h => (hb b h).2) (fun b q h => (hb b h).1 q) fun x vs f hs ht => ht.mono k.z k.h (fun b h => (hb b (hs b h)).2) (fun b q h => (hb b (hs b h)).1 q)
 | frz t l => exact ⟨h.1.mono (zp6 k.z k.h), fun b hb => k.z _ _ (h.2 b hb)⟩
 | gone => exact h
end
end Go.Proofs.YtkdidadegedmiaaGreat
namespace Go.Proofs.YtkdidadegedmiaaGreat
open Go.RowKit
def dflt : (t : Ty) → El t
 | .int => (0 : Int)
 | .u8 => (0 : Int)
 | .bool => false
 | .str => (⟨#[]⟩ : ByteArray)
 | .lst _ => []
 | .pr a b => (dflt a, dflt b)
def zB (t : Ty) (l : List (El t)) (i : Int) : El t := l.getD i.toNat (dflt t)
def vD (P : Program) (t : TypeId) : Nat := match P.info? t with | some i => i.size | none => 0
def zTB (P : Program) (t : TypeId) : Nat := match P.info? t with | some i => i.bytes | none => 0
def zqD (P : Program) (t : TypeId) : Option Bool := match P.underlying t with
 | some (.struct _) => some true
 | some (.array _ _) => some true
 | some _ => some false
 | none => none
def zI6 : V → Bool
 | .any | .agg _ | .tup _ => false
 | .c x => x.oneCell'
 | _ => true
def zKD : V → Option (List V)
 | .agg vs => some vs
 | .c (.agg cs) => some (cs.toList.map .c)
 | v => if zI6 v then some [v] else none
def encB (q : Nat) : (s : OT) → El s.ty → List V
 | .d t, x => enc 0 t x
 | .o s, l => [.ext q s.ty l]
 | .pr a b, x => encB q a x.1 ++ encB q b x.2
def zGQ (H : List Ob) : V → Option (List V × Nat)
 | .ptr o off => match H[o]? with
  | some (.box cs) => some (cs, off)
  | _ => none
 | .bx cs off => some (cs, off)
 | .ept q t l i off => some (enc q t (zB t l i), off)
 | .opt s o i off => match H[o]? with
  | some (.arr s' l) => match OT.eq? s' s with
   | some _ => some (encB (o + 1) s (zB s.ty (zUB s s' l) i), off)
   | none => none
  | _ => none
 | _ => none
def zKr (P : Program) (t : TypeId) (cs : List V) (off : Nat) : Option V :=
 match zqD P t with
 | some true => if off + vD P t ≤ cs.length then some (.agg ((cs.drop off).take (vD P t))) else none
 | some false => cs[off]?
 | none => none
def zFE : Ty → Bool
 | .lst _ => false
 | .pr a b => zFE a && zFE b
 | _ => true
def zpa (H : List Ob) (t : Ty) : V → Option (List (El t))
 | .ext q t' l => if q == 0 || zFE t' then (match Ty.eq? t' t with | some _ => some (zRG t t' l) | none => none) else none
 | .obj o => match H[o]? with
  | some (.arr (.d t') l) => match Ty.eq? t' t with | some _ => some (zRG t t' l) | none => none
  | some (.frz t' l) => match Ty.eq? t' t with | some _ => some (zRG t t' l) | none => none
  | _ => none
 | .c (.slice none 0 0) => some []
 | .nil0 => some []
 | _ => none
def zr9 (H : List Ob) (t : Ty) : V → Option (List (El t))
 | .ext q t' l => if q == 0 then (match Ty.eq? t' t with | some _ => some (zRG t t' l) | none => none) else none
 | .obj o => match H[o]? with
  | some (.frz t' l) => match Ty.eq? t' t with | some _ => some (zRG t t' l) | none => none
  | _ => none
 | .c (.slice none 0 0) => some []
 | .nil0 => some []
 | _ => none
def zrU : List V → Option Int
 | [.c (.int .i64 n)] => some n
 | _ => none
def zrw : List V → Option Int
 | [.c (.int .u8 n)] => some n
 | _ => none
def zr5 : List V → Option Bool
 | [.c (.bool b)] => some b
 | _ => none
def zrQ : List V → Option ByteArray
 | [.c (.string s)] => some s
 | _ => none
def zrs (H : List Ob) (t : Ty) : List V → Option (List (El t))
 | [v] => zr9 H t v
 | _ => none
def dec (H : List Ob) : (t : Ty) → List V → Option (El t)
 | .int, vs => zrU vs
 | .u8, vs => zrw vs
 | .bool, vs => zr5 vs
 | .str, vs => zrQ vs
 | .lst t, vs => zrs H t vs
 | .pr a b, vs => match dec H a (vs.take (zO a)), dec H b (vs.drop (zO a)) with
  | some x, some y => some (x, y)
  | _, _ => none
def zNl : List V → List Nat
 | [] => []
 | .obj o :: vs => o :: zNl vs
 | _ :: vs => zNl vs
def freeze1 (H : List Ob) (o : Nat) : List Ob := match H[o]? with
 | some (.arr s l) => H.set o (.frz s.ty l)
 | _ => H
def freezeL (H : List Ob) : List Nat → List Ob
 | [] => H
 | o :: os => freezeL (freeze1 H o) os
def OT.n : OT → Nat
 | .d _ => 0
 | .o _ => 1
 | .pr a b => a.n + b.n
def zBI : (s : OT) → El s.ty → Nat → List V
 | .d t, x, _ => enc 0 t x
 | .o _, _, k => [.obj k]
 | .pr a b, x, k => zBI a x.1 k ++ zBI b x.2 (k + a.n)
def zG4 : (s : OT) → El s.ty → List Ob
 | .d _, _ => []
 | .o s, l => [.arr s l]
 | .pr a b, x => zG4 a x.1 ++ zG4 b x.2
abbrev TyL : List Ty → Type
 | [] => Unit
 | t :: ts => El t × TyL ts
inductive AD where
 | val (agg : Bool) (s : OT)
 | bx (t : Ty) (off : Nat)
 | fn (f : Nat) (ts : List Ty)
 | ref (s : OT)
 | pt (o off : Nat)
 | ep (t : Ty) (off : Nat)
abbrev AD.T : AD → Type
 | .val _ s => El s.ty
 | .bx t _ => El t
 | .fn _ ts => TyL ts
 | .ref s => El s.ty
 | .pt _ _ => Unit
 | .ep t _ => List (El t) × Int
abbrev xC : List AD → Type
 | [] => Unit
 | d :: ds => d.T × xC ds
def AD.n : AD → Nat
 | .val _ s => s.n
 | .ref s => s.n
 | _ => 0
def AD.r : AD → Nat
 | .ref _ => 1
 | _ => 0
def one (agg : Bool) (vs : List V) : V := if agg then .agg vs else vs.getD 0 .any
def zOE : (ts : List Ty) → TyL ts → List V
 | [], _ => []
 | t :: ts, x => .bx (enc 0 t x.1) 0 :: zOE ts x.2
def AD.enc : (d : AD) → d.T → (i k : Nat) → V
 | .val agg s, x, _, k => one agg (zBI s x k)
 | .bx t off, x, _, _ => .bx (Go.Proofs.YtkdidadegedmiaaGreat.enc 0 t x) off
 | .fn f ts, x, _, _ => .fn f (zOE ts x)
 | .ref _, _, i, _ => .ptr i 0
 | .pt o off, _, _, _ => .ptr o off
 | .ep t off, x, _, _ => .ept 0 t x.1 x.2 off
def AD.boxes : (d : AD) → d.T → (k : Nat) → List Ob
 | .ref s, x, k => [.box (zBI s x k)]
 | _, _, _ => []
def AD.arrs : (d : AD) → d.T → List Ob
 | .val _ s, x => zG4 s x
 | .ref s, x => zG4 s x
 | _, _ => []
def zi : List AD → Nat
 | [] => 0
 | d :: ds => d.r + zi ds
def zGY : (ds : List AD) → xC ds → (i k : Nat) → List V
 | [], _, _, _ => []
 | d :: ds, x, i, k => d.enc x.1 i k :: zGY ds x.2 (i + d.r) (k + d.n)
def xA : (ds : List AD) → xC ds → (k : Nat) → List Ob
 | [], _, _ => []
 | d :: ds, x, k => d.boxes x.1 k ++ xA ds x.2 (k + d.n)
def zCu : (ds : List AD) → xC ds → List Ob
 | [], _ => []
 | d :: ds, x => d.arrs x.1 ++ zCu ds x.2
def yM (ds : List AD) (a : xC ds) : List Ob := xA ds a (zi ds) ++ zCu ds a
def zC8 (ds : List AD) (a : xC ds) : List V := zGY ds a 0 (zi ds)
def zUX (fl : Bool) (H : List Ob) : V → V
 | .obj o => match H[o]? with
  | some (.arr s l) => bif fl then .ext 0 s.ty l else .any
  | some (.frz t l) => .ext 0 t l
  | _ => .any
 | .c x => .c x
 | .nil0 => .nil0
 | .ext 0 t l => .ext 0 t l
 | .ext (o + 1) t l => match H[o]? with
  | some (.arr _ _) => bif fl then .ext 0 t l else .any
  | some (.frz _ _) => .ext 0 t l
  | _ => .any
 | _ => .any
def zpp (fl : Bool) (H : List Ob) : V → V
 | .ptr o off => match H[o]? with
  | some (.box cs) => .bx (cs.map (zUX fl H)) off
  | _ => .any
 | .bx cs off => .bx (cs.map (zUX fl H)) off
 | _ => .any
def zYh (H : List Ob) (s : OT) : V → Option (List (El s.ty))
 | .obj o => match H[o]? with
  | some (.arr s' l) => match OT.eq? s' s with | some _ => some (zUB s s' l) | none => none
  | _ => none
 | .c (.slice none 0 0) => some []
 | .nil0 => some []
 | _ => none
def cellsOf (agg : Bool) (v : V) : Option (List V) := if agg then (match v with | .agg vs => some vs | _ => none) else some [v]
structure Cx where
 fl : Bool
 cv : Bool
 h : List Ob
 m : List Ob
def zI8 (H : List Ob) (s : OT) : List V → Option (List (El s.ty))
 | [v] => zYh H s v
 | _ => none
def rdO (c : Cx) : (s : OT) → List V → Option (El s.ty)
 | .d t, vs => dec [] t (vs.map (zUX c.fl c.m))
 | .o s, vs => zI8 c.h s vs
 | .pr a b, vs => match rdO c a (vs.take (zO a.ty)), rdO c b (vs.drop (zO a.ty)) with
  | some x, some y => some (x, y)
  | _, _ => none
def id1 : List V → Option Nat
 | [.obj o] => some o
 | _ => none
def zJ0 : (s : OT) → List V → List (Option Nat)
 | .d _, _ => []
 | .o _, vs => [id1 vs]
 | .pr a b, vs => zJ0 a (vs.take (zO a.ty)) ++ zJ0 b (vs.drop (zO a.ty))
def zi5 : (s : OT) → List V → List Nat
 | .d _, vs => zNl vs
 | .o _, _ => []
 | .pr a b, vs => zi5 a (vs.take (zO a.ty)) ++ zi5 b (vs.drop (zO a.ty))
def bx0 (off : Nat) : V → Option (List V)
 | .bx cs o => if o = off then some cs else none
 | _ => none
def zau : (ts : List Ty) → List V → Option (TyL ts)
 | [], [] => some ()
 | t :: ts, v :: vs => match (bx0 0 v).bind (dec [] t), zau ts vs with
  | some x, some y => some (x, y)
  | _, _ => none
 | _, _ => none
def zQm (H : List Ob) (n : Nat) : V → Option (List V)
 | .ptr o off => match H[o]? with
  | some (.box cs) => if off + n ≤ cs.length then some ((cs.drop off).take n) else none
  | _ => none
 | _ => none
def zmq (c : Cx) (v : V) : V := if c.cv then zpp c.fl c.m v else v
def AD.rd (c : Cx) : (d : AD) → V → Option d.T
 | .val agg s, v => (cellsOf agg v).bind (rdO c s)
 | .bx t off, v => (bx0 off (zmq c v)).bind (Go.Proofs.YtkdidadegedmiaaGreat.dec [] t)
 | .fn f ts, v => match v with
  | .fn f' vs => if f' = f then zau ts (vs.map (zmq c)) else none
  | _ => none
 | .ref s, v => (zQm c.h (zO s.ty) v).bind (rdO c s)
 | .pt o off, v => match v with
  | .ptr o' off' => if o' = o ∧ off' = off then some () else none
  | _ => none
 | .ep t off, v => match v with
  | .ept 0 t' l i off' => if off' = off then (match Ty.eq? t' t with | some _ => some (zRG t t' l, i) | none => none) else none
  | _ => none
def AD.ids (H : List Ob) : (d : AD) → V → List (Option Nat)
 | .val agg s, v => zJ0 s ((cellsOf agg v).getD [])
 | .ref s, v => zJ0 s ((zQm H (zO s.ty) v).getD [])
 | _, _ => []
def zrC : V → List Nat
 | .ptr o _ => [o]
 | _ => []
def AD.bxs : (d : AD) → V → List Nat
 | .ref _, v => zrC v
 | _, _ => []
def zsY (H : List Ob) : V → List Nat
 | .ptr o _ => match H[o]? with
  | some (.box cs) => zNl cs
  | _ => []
 | _ => []
def AD.frz (fl : Bool) (H : List Ob) : (d : AD) → V → List Nat
 | .val agg s, v => bif fl then [] else zi5 s ((cellsOf agg v).getD [])
 | .ref s, v => zi5 s ((zQm H (zO s.ty) v).getD [])
 | .bx _ _, v => bif fl then [] else zsY H v
 | _, _ => []
def rdA (c : Cx) : (ds : List AD) → List V → Option (xC ds)
 | [], [] => some ()
 | d :: ds, v :: vs => match d.rd c v, rdA c ds vs with
  | some x, some y => some (x, y)
  | _, _ => none
 | _, _ => none
def zBh (H : List Ob) : List AD → List V → List (Option Nat)
 | d :: ds, v :: vs => d.ids H v ++ zBh H ds vs
 | _, _ => []
def zAH : List AD → List V → List Nat
 | d :: ds, v :: vs => d.bxs v ++ zAH ds vs
 | _, _ => []
def zEt (fl : Bool) (H : List Ob) : List AD → List V → List Nat
 | d :: ds, v :: vs => d.frz fl H v ++ zEt fl H ds vs
 | _, _ => []
def xm : List (Option Nat) → List Nat
 | [] => []
 | some o :: l => o :: xm l
 | none :: l => xm l
def zWK : List Nat → Bool
 | [] => true
 | a :: l => !l.contains a && zWK l
def zJi (H : List Ob) (os : List Nat) : List Ob := H.zipIdx.map fun (x, i) => bif os.contains i then .gone else x
def zPZ (fl cv : Bool) (H : List Ob) (ds : List AD) (vs : List V) : Option (xC ds × List Ob × List Nat × List Nat) :=
 let H1 := freezeL H (zEt fl H ds vs)
 let os := xm (zBh H1 ds vs)
 let bs := zAH ds vs
 if zWK (os ++ bs) then (match rdA ⟨fl, cv, H1, zJi H1 (os ++ bs)⟩ ds vs with
  | some a => some (a, H1, os, bs)
  | none => none) else none
structure FnD where
 args : List AD
 res : List AD
 flat : Bool
 pre : xC args → Option Prop
 F : xC args → xC res
def zrM : List V → V
 | [v] => v
 | vs => .tup vs
def ztq : V → Nat
 | .ptr _ off => off
 | _ => 0
def AD.offs : (d : AD) → V → List Nat
 | .ref _, v => [ztq v]
 | _, _ => []
def vu : List AD → List V → List Nat
 | d :: ds, v :: vs => d.offs v ++ vu ds vs
 | _, _ => []
def AD.szs : AD → List Nat
 | .ref s => [zO s.ty]
 | _ => []
def vY : List AD → List Nat
 | [] => []
 | d :: ds => d.szs ++ vY ds
def zDg (H : List Ob) : List Nat → List Nat → List Ob → List Ob
 | o :: os, off :: offs, .box new :: xs => match H[o]? with
  | some (.box cs) => zDg (H.set o (.box (cs.take off ++ new ++ cs.drop (off + new.length)))) os offs xs
  | _ => zDg H os offs xs
 | _, _, _ => H
def vp (q o : Nat) : Bool := decide (3 ≤ q) && (q - 3).testBit (2 * o)
def zBf (q o : Nat) : Bool := decide (3 ≤ q) && ((q - 3).testBit (2 * o) || (q - 3).testBit (2 * o + 1))
def ye (os : List Nat) : Nat := 3 + os.foldl (fun m o => m ||| 2 ^ (2 * o)) 0
def yG (c : Nat) (os : List Nat) : Nat := 3 + os.foldl (fun m o => m ||| 2 ^ (2 * o)) (2 ^ (2 * c + 1))
def zYC : V → Bool
 | .c _ => true
 | .nil0 => true
 | .ext 0 _ _ => true
 | _ => false
def scrub0 (q : Nat) : V → V
 | .obj o' => if vp q o' then .any else .obj o'
 | .opt s o' i off => if vp q o' then .any else .opt s o' i off
 | .sl s o' a b => if vp q o' then .any else .sl s o' a b
 | .bx cs off => if cs.all zYC then .bx cs off else .any
 | .ptr o' off => if vp q o' then .any else .ptr o' off
 | .c x => .c x
 | .ext 0 t l => .ext 0 t l
 | .ext (o' + 1) t l => if zBf q o' then .any else .ext (o' + 1) t l
 | .nil0 => .nil0
 | _ => .any
def scrub (q : Nat) : V → V
 | .agg vs => .agg (vs.map (scrub0 q))
 | .tup vs => .tup (vs.map (scrub0 q))
 | .fn f vs => .fn f (vs.map (scrub0 q))
 | .bx cs off => .bx (cs.map (scrub0 q)) off
 | v => scrub0 q v
def vK (q : Nat) : Ob → Ob
 | .box cs => .box (cs.map (scrub q))
 | x => x
def zCe (hem : Bool) (os bs : List Nat) : Nat := match os with
 | [] => match bs with
  | [] => bif hem then 1 else 2
  | _ :: _ => 2
 | _ :: _ => ye os
def zCc (ds : List AD) (y : xC ds) (n : Nat) : List V := (zGY ds y 0 n).take (ds.length - zi ds)
def zy (H : List Ob) (os : List Nat) (q : Nat) : List Ob := match os with
 | [] => H
 | _ :: _ => (zJi H os).map (vK q)
inductive Eff where
 | bad
 | mk (kind : Nat) (ok : Option Prop) (v : V) (H : List Ob)
def zTw (d : FnD) (args : List V) (H : List Ob) : Option Eff := match zPZ d.flat true H d.args args with
 | none => none
 | some (a, H1, os, bs) =>
  let y := d.F a
  let n := H1.length
  let q := zCe (zEt d.flat H d.args args).isEmpty os bs
  some (.mk q (d.pre a) (zrM (zCc d.res y n))
   (zDg (zy H1 os q) bs (vu d.args args) (xA d.res y n) ++ zCu d.res y))
def zKa : List FnD → List V → List Ob → Eff
 | [], _, _ => .bad
 | d :: l, args, H => match zTw d args H with
  | some e => e
  | none => zKa l args H
def zTd (s : OT) : (n : Nat) → xC (List.replicate n (.val true s)) → List (El s.ty)
 | 0, _ => []
 | n + 1, a => a.1 :: zTd s n a.2
def zDk (k : Nat) : Nat → List V → List V
 | 0, _ => []
 | n + 1, cs => .agg (cs.take k) :: zDk k n (cs.drop k)
def zTn (s : OT) (n : Nat) (cs : List V) (H : List Ob) : Option (List (El s.ty) × List Ob × List Nat × Nat) := match zPZ false false H (List.replicate n (.val true s)) (zDk (zO s.ty) n cs) with
 | some (a, H1, os, _) => some (zTd s n a, H1, os, zCe (zEt false H (List.replicate n (.val true s)) (zDk (zO s.ty) n cs)).isEmpty os [])
 | none => none
end Go.Proofs.YtkdidadegedmiaaGreat
namespace Go.Proofs.YtkdidadegedmiaaGreat
open Go.RowKit
def bt (s : ByteArray) (i : Int) : UInt8 := s.data.getD i.toNat 0
structure Gv where
 wr : Bool
 ot : TypeId → Option OT
 hd : Bool
def zuP (f : TypeId → Option Ty) : List Field → Option Ty
 | [] => none
 | [x] => f x.type
 | x :: xs => match f x.type, zuP f xs with
  | some a, some b => some (.pr a b)
  | _, _ => none
def ztB (P : Program) : Nat → TypeId → Option Ty
 | 0, _ => none
 | n + 1, t => match P.underlying t with
  | some (.int .i64) => some .int
  | some (.int .u8) => some .u8
  | some .bool => some .bool
  | some .string => some .str
  | some (.slice e) => (ztB P n e).map .lst
  | some (.struct fs) => zuP (ztB P n) fs.toList
  | _ => none
def zs8 (P : Program) (g : Gv) (t : TypeId) : Option OT := match g.ot t with
 | some s => some s
 | none => (ztB P 12 t).map .d
def InK (k : IntKind) (n : Int) : Prop := k.wrap n = n
def zmf (op : BinOp) (a b : Int) : Option Bool := match op with
 | .eql => some (a == b)
 | .neq => some (a != b)
 | .lss => some (decide (a < b))
 | .leq => some (decide (a ≤ b))
 | .gtr => some (decide (a > b))
 | .geq => some (decide (a ≥ b))
 | _ => none
def zhz (op : BinOp) (a b : ByteArray) : Option Bool := match op with
 | .eql => some (a.toList == b.toList)
 | .neq => some (!(a.toList == b.toList))
 | .lss => some (Op.bytesLess a.toList b.toList)
 | .leq => some (Op.bytesLess a.toList b.toList || a.toList == b.toList)
 | .gtr => some (!(Op.bytesLess a.toList b.toList || a.toList == b.toList))
 | .geq => some (!(Op.bytesLess a.toList b.toList))
 | _ => none
def zHW (op : BinOp) (k : IntKind) (x y : Int) : Int := match op with
 | .and => k.wrap (BitVec.ofInt k.bits x &&& BitVec.ofInt k.bits y).toNat
 | .or => k.wrap (BitVec.ofInt k.bits x ||| BitVec.ofInt k.bits y).toNat
 | .xor => k.wrap (BitVec.ofInt k.bits x ^^^ BitVec.ofInt k.bits y).toNat
 | .shl => k.wrap (x * 2 ^ (min y.toNat k.bits))
 | _ => x.fdiv (2 ^ (min y.toNat k.bits))
def zeF (wr : Bool) (k : IntKind) (n : Int) (H : List Ob) : Eff := if wr then .mk 0 none (.c (.int k (k.wrap n))) H else .mk 0 (some (InK k n)) (.c (.int k n)) H
def zU2 (wr : Bool) (op : BinOp) (k : IntKind) (a b : Int) (H : List Ob) : Eff := match op with
 | .add => zeF wr k (a + b) H
 | .sub => zeF wr k (a - b) H
 | .mul => zeF wr k (a * b) H
 | .quo => .mk 0 (some (b ≠ 0 ∧ InK k (a.tdiv b))) (.c (.int k (a.tdiv b))) H
 | .rem => .mk 0 (some (b ≠ 0)) (.c (.int k (a.tmod b))) H
 | .and => .mk 0 none (.c (.int k (zHW .and k a b))) H
 | .or => .mk 0 none (.c (.int k (zHW .or k a b))) H
 | .xor => .mk 0 none (.c (.int k (zHW .xor k a b))) H
 | op => match zmf op a b with
  | some r => .mk 0 none (.c (.bool r)) H
  | none => .bad
def shV (op : BinOp) (k : IntKind) (a b : Int) (H : List Ob) : Eff := match op with
 | .shl => .mk 0 (some (0 ≤ b)) (.c (.int k (zHW .shl k a b))) H
 | .shr => .mk 0 (some (0 ≤ b)) (.c (.int k (zHW .shr k a b))) H
 | _ => .bad
def zlk : V → Option (List V)
 | .agg vs => some vs
 | .c (.agg cs) => some (cs.toList.map .c)
 | _ => none
def ztx (g : Field → Option Bool) : List Field → Option Bool
 | [] => some true
 | f :: fs => if f.name = "_" then none else match g f, ztx g fs with
  | some a, some b => some (a && b)
  | _, _ => none
def eqT (P : Program) : Nat → TypeId → V → V → Option Bool
 | 0, _, _, _ => none
 | n + 1, t, x, y => match P.underlying t with
  | some .bool => (match x, y with | .c (.bool a), .c (.bool b) => some (a == b) | _, _ => none)
  | some (.int _) => (match x, y with | .c (.int k a), .c (.int k' b) => if k = k' then some (a == b) else none | _, _ => none)
  | some .string => (match x, y with | .c (.string a), .c (.string b) => some (a.toList == b.toList) | _, _ => none)
  | some (.struct fs) => if P.stoodInHeld t = true then none else (match zlk x, zlk y with
   | some vs, some us => ztx (fun f => match zKr P f.type vs f.offset, zKr P f.type us f.offset with
    | some a, some b => eqT P n f.type a b
    | _, _ => none) fs.toList
   | _, _ => none)
  | _ => none
def eqV (P : Program) (op : BinOp) (t : TypeId) (x y : V) (H : List Ob) : Eff := if P.eqGuardType P.depth t = true then .bad else match eqT P 12 t x y with
 | some b => match op with
  | .eql => .mk 0 none (.c (.bool b)) H
  | .neq => .mk 0 none (.c (.bool !b)) H
  | _ => .bad
 | none => .bad
def zTN (P : Program) (wr : Bool) (op : BinOp) (t : TypeId) (x y : V) (H : List Ob) : Eff := match x, y with
 | .c (.int k a), .c (.int k' b) => match op with
  | .shl => shV .shl k a b H
  | .shr => shV .shr k a b H
  | op => if k = k' then zU2 wr op k a b H else .bad
 | .c (.string a), .c (.string b) => match op with
  | .add => .mk 0 (some (((a.size + b.size : Nat) : Int) ≤ 9223372036854775807)) (.c (.string (a ++ b))) H
  | op => match zhz op a b with
   | some r => .mk 0 none (.c (.bool r)) H
   | none => .bad
 | x, y => eqV P op t x y H
def unV (op : UnOp) (x : V) (H : List Ob) : Eff := match op, x with
 | .not, .c (.bool b) => .mk 0 none (.c (.bool !b)) H
 | .neg, .c (.int k n) => .mk 0 (some (InK k (0 - n))) (.c (.int k (0 - n))) H
 | _, _ => .bad
def zUF (P : Program) (src dst : TypeId) (x : V) (H : List Ob) : Eff := match P.underlying src, P.underlying dst, x with
 | some _, some (.int .i64), .c (.int _ n) => .mk 0 (some (InK .i64 n)) (.c (.int .i64 n)) H
 | some _, some (.int k), .c (.int _ n) => .mk 0 none (.c (.int k (k.wrap n))) H
 | some .string, some .string, .c (.string s) => .mk 0 none (.c (.string s)) H
 | _, _, _ => .bad
def zf9 (P : Program) (src dst : TypeId) (x : V) (H : List Ob) : Eff := match P.underlying src, P.underlying dst with
 | some (.slice e), some .string => match P.underlying e with
  | some (.int .u8) => match x with
   | .ext _ .u8 l => .mk 1 none (.c (.string (strOfNums l))) H
   | .obj o => match H[o]? with
    | some (.arr (.d .u8) l) => .mk 1 none (.c (.string (strOfNums l))) H
    | some (.frz .u8 l) => .mk 1 none (.c (.string (strOfNums l))) H
    | _ => .bad
   | _ => .bad
  | _ => .bad
 | _, _ => .bad
def zKK (P : Program) (t : TypeId) (f : Nat) : Option (Nat × TypeId) := match P.underlying t with
 | some (.struct fs) => (fs.toList[f]?).map fun f => (f.offset, f.type)
 | _ => none
def zpO (n : Nat) : V → Option V
 | .ptr o off => some (.ptr o (off + n))
 | .bx cs off => some (.bx cs (off + n))
 | .ept q t l i off => some (.ept q t l i (off + n))
 | .opt s o i off => some (.opt s o i (off + n))
 | _ => none
def zNh (place : Nat → Option (Nat × Nat)) (cells : List V) : List (Nat × V) → Option (List V)
 | [] => some cells
 | (i, v) :: rest => match place i, zKD v with
  | some (off, size), some vs => if vs.length = size ∧ off + size ≤ cells.length then zNh place (cells.take off ++ vs ++ cells.drop (off + size)) rest else none
  | _, _ => none
def zop : Value → Bool
 | .int k n => k.wrap n == n
 | .string s => decide (s.size ≤ 9223372036854775807)
 | .agg _ => false
 | _ => true
def zt3 : Value → Bool
 | .agg cs => cs.toList.all zop
 | x => zop x
def zP5 (P : Program) (t : TypeId) : Option (List V) := match P.info? t with
 | some i => match i.zero with
  | some z => if z.cells.toList.all zop then some (z.cells.toList.map .c) else none
  | none => none
 | none => none
def zOL (P : Program) (t : TypeId) (parts : List (Nat × V)) (H : List Ob) : Eff := match P.underlying t with
 | some (.struct fs) => match zP5 P t, fs.toList.mapM (fun f => (P.info? f.type).map fun i => (f.offset, i.size)) with
  | some z, some places => match zNh (places.toArray[·]?) z parts with
   | some cs => .mk 0 none (.agg cs) H
   | none => .bad
  | _, _ => .bad
 | _ => .bad
def zdt (P : Program) (g : Gv) (t : TypeId) (len : Nat) (parts : List (Nat × V)) (H : List Ob) : Eff := match P.underlying t with
 | some (.slice e) => match zs8 P g e, zP5 P e with
  | some s, some z => if len = 0 ∧ parts.length = 0 then .mk 1 none .nil0 H else if zO s.ty = vD P e ∧ z.length = zO s.ty ∧ 0 < len ∧ len * zO s.ty ≤ 16777216 then
    match zNh (fun i => some (i * zO s.ty, zO s.ty)) ((List.range (len * zO s.ty)).map fun i => z.getD (i % zO s.ty) .any) parts with
    | some cs => match zTn s len cs H with
     | some (xs, H1, os, q) => .mk q none (.obj H1.length) (zy H1 os q ++ [.arr s xs])
     | none => .bad
    | none => .bad
   else .bad
  | _, _ => .bad
 | _ => .bad
def zUt (P : Program) (g : Gv) (t : TypeId) (len cap : V) (H : List Ob) : Eff := match P.underlying t, len, cap with
 | some (.slice e), .c (.int .i64 n), .c (.int .i64 m) => match zs8 P g e, zP5 P e with
  | some s, some z => if zO s.ty = vD P e ∧ z.length = zO s.ty ∧ zTB P e ≤ 8388608 then (match rdO ⟨false, false, [], []⟩ s z with
   | some x => .mk 1 (some (0 ≤ n ∧ n ≤ m ∧ m ≤ 16777216)) (.obj H.length) (H ++ [.arr s (List.replicate n.toNat x)])
   | none => .bad) else .bad
  | _, _ => .bad
 | _, _, _ => .bad
def zQJ (P : Program) (t : TypeId) (H : List Ob) (v : V) : Eff := match P.underlying t, v with
 | some .string, .c (.string s) => .mk 0 none (.c (.int .i64 (s.size : Nat))) H
 | some (.slice _), .ext _ _ l => .mk 1 none (.c (.int .i64 (l.length : Nat))) H
 | some (.slice _), .c (.slice none 0 0) => .mk 0 none (.c (.int .i64 0)) H
 | some (.slice _), .nil0 => .mk 0 none (.c (.int .i64 0)) H
 | some (.slice _), .obj o => match H[o]? with
  | some (.arr _ l) => .mk 1 none (.c (.int .i64 (l.length : Nat))) H
  | some (.frz _ l) => .mk 1 none (.c (.int .i64 (l.length : Nat))) H
  | _ => .bad
 | _, _ => .bad
def zIq (P : Program) (t : TypeId) (x : V) (lo hi : Option V) (H : List Ob) : Eff := match P.underlying t with
 | some .string => match x, lo.getD (.c (.int .i64 0)) with
  | .c (.string s), .c (.int .i64 l) => match hi.getD (.c (.int .i64 (s.size : Nat))) with
   | .c (.int .i64 h) => .mk 0 (some (0 ≤ l ∧ l ≤ h ∧ h ≤ (s.size : Nat))) (.c (.string (s.extract l.toNat h.toNat))) H
   | _ => .bad
  | _, _ => .bad
 | some (.slice e) => match x, lo.getD (.c (.int .i64 0)) with
  | .ext q τ l, .c (.int .i64 a) => match hi.getD (.c (.int .i64 (l.length : Nat))) with
   | .c (.int .i64 b) => if zO τ = vD P e then .mk 1 (some (0 ≤ a ∧ a ≤ b ∧ b ≤ (l.length : Nat))) (.ext q τ ((l.take b.toNat).drop a.toNat)) H else .bad
   | _ => .bad
  | _, _ => .bad
 | _ => .bad
def zdk (P : Program) (t : TypeId) (o : Nat) (hi : Option V) (H : List Ob) : Eff := match P.underlying t, H[o]? with
 | some (.slice e), some (.arr s l) => match hi.getD (.c (.int .i64 (l.length : Nat))) with
  | .c (.int .i64 b) => if zO s.ty = vD P e then .mk (ye [o]) (some (0 ≤ b ∧ b ≤ (l.length : Nat))) (.obj o) ((zy H [o] (ye [o])).set o (.arr s (l.take b.toNat))) else .bad
  | _ => .bad
 | _, _ => .bad
def mmV (mx : Bool) (x y : V) (H : List Ob) : Eff := match x, y with
 | .c (.int k a), .c (.int k' b) => if k = k' then .mk 0 none (.c (.int k (match mx with
  | true => max a b
  | false => min a b))) H else .bad
 | _, _ => .bad
def zPm (P : Program) (t : TypeId) (o : Nat) (lo hi : Option V) (H : List Ob) : Eff := match P.underlying t, H[o]? with
 | some (.slice e), some (.arr s l) => match lo.getD (.c (.int .i64 0)), hi.getD (.c (.int .i64 (l.length : Nat))) with
  | .c (.int .i64 a), .c (.int .i64 b) => if zO s.ty = vD P e then .mk 1 (some (0 ≤ a ∧ a ≤ b ∧ b ≤ (l.length : Nat) ∧ 0 < (l.length : Int))) (.sl s o a b) H else .bad
  | _, _ => .bad
 | _, _ => .bad
def isD : OT → Bool
 | .d _ => true
 | _ => false
def zg2 (P : Program) (t : TypeId) (x : V) (H : List Ob) : Eff := match x with
 | .sl s o a b => match P.underlying t, H[o]? with
  | some (.slice e), some (.arr s' l) => match zP5 P e with
   | some z => if s = s' ∧ isD s' = true ∧ zO s'.ty = vD P e ∧ z.length = zO s'.ty ∧ z.all zI6 = true then (match rdO ⟨false, false, [], []⟩ s' z with
    | some x0 => .mk (yG o []) (some (0 < (l.length : Int))) .any ((H.set o (.arr s' ((l.take a.toNat ++ List.replicate (b.toNat - a.toNat) x0) ++ l.drop b.toNat))).map (vK (yG o [])))
    | none => .bad) else .bad
   | none => .bad
  | _, _ => .bad
 | _ => .bad
def zUL (P : Program) (t : TypeId) (x y : V) (H : List Ob) : Eff := match x, y with
 | .sl s o i j, .sl s2 o2 a b => match P.underlying t, H[o]? with
  | some (.slice e), some (.arr s' l) => match zP5 P e with
   | some z => if s = s' ∧ s2 = s' ∧ o2 = o ∧ isD s' = true ∧ zO s'.ty = vD P e ∧ z.length = vD P e ∧ zTB P e ≤ 8388608 then
     .mk (ye [o]) (some (i = 0 ∧ b = (l.length : Nat) ∧ 0 < b ∧ j + (b - a) ≤ 16777216)) (.obj o) ((zy H [o] (ye [o])).set o (.arr s' (l.take j.toNat ++ l.drop a.toNat))) else .bad
   | none => .bad
  | _, _ => .bad
 | _, _ => .bad
def zCR (P : Program) (t : TypeId) (x i : V) (H : List Ob) : Eff := match P.underlying t, x, i with
 | some (.slice e), .ext q τ l, .c (.int .i64 i) => if zO τ = vD P e then .mk 1 (some (0 ≤ i ∧ i < (l.length : Nat))) (.ept q τ l i 0) H else .bad
 | some (.slice e), .obj o, .c (.int .i64 i) => match H[o]? with
  | some (.arr s l) => if zO s.ty = vD P e then .mk 1 (some (0 ≤ i ∧ i < (l.length : Nat))) (.opt s o i 0) H else .bad
  | some (.frz τ l) => if zO τ = vD P e then .mk 1 (some (0 ≤ i ∧ i < (l.length : Nat))) (.ept 0 τ l i 0) H else .bad
  | _ => .bad
 | _, _, _ => .bad
def zhL (P : Program) (t : TypeId) (x i : V) (H : List Ob) : Eff := match P.underlying t, x, i with
 | some .string, .c (.string s), .c (.int .i64 i) => .mk 0 (some (0 ≤ i ∧ i < (s.size : Nat))) (.c (.int .u8 ((bt s i).toNat : Int))) H
 | _, _, _ => .bad
def zrD (b : Bool) : V → V → V
 | .c (.int k m), .c (.int k' n) => if k = k' then .c (.int k (bif b then m else n)) else bif b then .c (.int k m) else .c (.int k' n)
 | .c (.bool m), .c (.bool n) => .c (.bool (bif b then m else n))
 | .c (.string m), .c (.string n) => .c (.string (bif b then m else n))
 | x, y => bif b then x else y
structure Lens (s s' : OT) where
 get : El s.ty → El s'.ty
 set : El s.ty → El s'.ty → El s.ty
def Lens.same {s s' : OT} (h : s = s') : Lens s s' := ⟨fun x => h ▸ x, fun _ y => h ▸ y⟩
def Lens.fst {a b s' : OT} (l : Lens a s') : Lens (.pr a b) s' := ⟨fun x => l.get x.1, fun x y => (l.set x.1 y, x.2)⟩
def Lens.snd {a b s' : OT} (l : Lens b s') : Lens (.pr a b) s' := ⟨fun x => l.get x.2, fun x y => (x.1, l.set x.2 y)⟩
def Lens.fstD {a b : Ty} {s' : OT} (l : Lens (.d a) s') : Lens (.d (.pr a b)) s' := ⟨fun x => l.get x.1, fun x y => (l.set x.1 y, x.2)⟩
def Lens.sndD {a b : Ty} {s' : OT} (l : Lens (.d b) s') : Lens (.d (.pr a b)) s' := ⟨fun x => l.get x.2, fun x y => (x.1, l.set x.2 y)⟩
def zg7 (k : Nat) : (t : Ty) → Nat → Option (Σ s', Lens (.d t) s')
 | .pr a b, off => if off = 0 ∧ k = zO a + zO b then some ⟨.d (.pr a b), .same rfl⟩ else if off + k ≤ zO a then (zg7 k a off).map fun l => ⟨l.1, l.2.fstD⟩
   else if zO a ≤ off then (zg7 k b (off - zO a)).map fun l => ⟨l.1, l.2.sndD⟩ else none
 | t, off => if off = 0 ∧ k = zO t then some ⟨.d t, .same rfl⟩ else none
def zW0 (k : Nat) : (s : OT) → Nat → Option (Σ s', Lens s s')
 | .d t, off => zg7 k t off
 | .o s, off => if off = 0 ∧ k = 1 then some ⟨.o s, .same rfl⟩ else none
 | .pr a b, off => if off = 0 ∧ k = zO a.ty + zO b.ty then some ⟨.pr a b, .same rfl⟩ else if off + k ≤ zO a.ty then (zW0 k a off).map fun l => ⟨l.1, l.2.fst⟩
   else if zO a.ty ≤ off then (zW0 k b (off - zO a.ty)).map fun l => ⟨l.1, l.2.snd⟩ else none
def zcW (H : List Ob) (s : OT) (o : Nat) (i : Int) (off k : Nat) : Option (List Ob) := match H[o]? with
 | some (.arr s1 l) => match OT.eq? s1 s with
  | some _ => match zW0 k s off with
   | some L => some ((H.set o .gone).map (vK (yG o [])) ++ [.box (zBI L.1 (L.2.get (zB s.ty (zUB s s1 l) i)) (H.length + 1))] ++ zG4 L.1 (L.2.get (zB s.ty (zUB s s1 l) i)))
   | none => none
  | none => none
 | _ => none
def zdg (H0 H : List Ob) (s : OT) (o : Nat) (i : Int) (off k n : Nat) : Option (List Ob × List Nat) := match H0[o]? with
 | some (.arr s1 l) => match OT.eq? s1 s with
  | some _ => match zW0 k s off with
   | some L => match H[n]?, H[o]? with
    | some (.box cs), some .gone => match zTn L.1 1 cs H with
     | some ([y], H1, os, q) => some (((zy H1 os q).set n .gone).set o (.arr s ((zUB s s1 l).set i.toNat (L.2.set (zB s.ty (zUB s s1 l) i) y))), os)
     | _ => none
    | _, _ => none
   | none => none
  | none => none
 | _ => none
def zsH (q n : Nat) : Bool := decide (q < 3) || (List.range (n + 1)).all fun o => !vp q o && !zBf q o
def zSx (H0 : List Ob) (s : OT) (o : Nat) (i : Int) (off k n : Nat) : Eff → Eff
 | .bad => .bad
 | .mk q ok v H => if zsH q n = true then (match zdg H0 H s o i off k n with
  | some (H2, os) => .mk (yG o os) ok (scrub (yG o os) v) (H2.map (vK (yG o os)))
  | none => .bad) else .bad
def zL8 (P : Program) (t : TypeId) (o off : Nat) (vs : List V) (H : List Ob) : Eff := match H[o]? with
 | some (.box cs) => if vs.length = vD P t ∧ off + vs.length ≤ cs.length ∧ vs.all zI6 = true ∧ vD P t ≠ 0 then .mk 2 none .any (H.set o (.box (cs.take off ++ vs ++ cs.drop (off + vs.length)))) else .bad
 | _ => .bad
def zOR (P : Program) (t : TypeId) (a x : V) (H : List Ob) : Eff := match a with
 | .ptr o off => match zKD x with
  | some vs => zL8 P t o off vs H
  | none => .bad
 | .opt s o i off => match zcW H s o i off (vD P t), zKD (scrub (yG o []) x) with
  | some H1, some vs => zSx H s o i off (vD P t) H.length (zL8 P t H.length 0 vs H1)
  | _, _ => .bad
 | _ => .bad
def zWE (H : List Ob) : (s : OT) → V → Option (List (El s.ty) × List Nat)
 | .d t, x => (zpa H t x).map fun l => (l, [])
 | s, .obj o => (zYh H s (.obj o)).map fun l => (l, [o])
 | s, x => (zYh H s x).map fun l => (l, [])
def zsm : V → Bool
 | .nil0 => true
 | .c (.slice none 0 0) => true
 | _ => false
def ze2 (P : Program) (g : Gv) (t : TypeId) (s x : V) (H : List Ob) : Eff := match P.underlying t with
 | some (.slice e) => match zs8 P g e, zP5 P e with
  | some s0, some z => if z.length = vD P e ∧ zTB P e ≤ 8388608 then match s with
     | .obj o => match H[o]? with
      | some (.arr s' l) => if zO s'.ty = vD P e then match zWE H s' x with
       | some (l2, os) => if os.contains o then .bad else .mk (ye (o :: os)) (some (((l.length + l2.length : Nat) : Int) ≤ 16777216)) (.obj o) ((zy H (o :: os) (ye (o :: os))).set o (.arr s' (l ++ l2)))
       | none => .bad
       else .bad
      | _ => .bad
     | s => if zO s0.ty = vD P e ∧ zsm s = true then match zWE H s0 x with
      | some (l2, []) => .mk 1 (some ((l2.length : Int) ≤ 16777216)) (.obj H.length) (H ++ [.arr s0 l2])
      | some (l2, o :: os) => .mk (ye (o :: os)) (some ((l2.length : Int) ≤ 16777216)) (.obj H.length) (zy H (o :: os) (ye (o :: os)) ++ [.arr s0 l2])
      | none => .bad
      else .bad
   else .bad
  | _, _ => .bad
 | _ => .bad
def xT (P : Program) (g : Gv) (ev : Operand → V) (H : List Ob) : Op → Eff
 | .move x => .mk 0 none (ev x) H
 | .assign x => .mk 0 none (ev x) H
 | .pick c a b => match ev c with
  | .c (.bool q) => .mk 0 none (zrD q (ev a) (ev b)) H
  | _ => .bad
 | .alloc t => match zP5 P t with
  | some z => .mk 1 none (.ptr H.length 0) (H ++ [.box z])
  | none => .bad
 | .box _ x => match zKD (ev x) with
  | some vs => .mk 1 none (.ptr H.length 0) (H ++ [.box vs])
  | none => .bad
 | .build t parts => zOL P t (parts.toList.map fun p => (p.1, ev p.2)) H
 | .buildSlice t n parts => zdt P g t n (parts.toList.map fun p => (p.1, ev p.2)) H
 | .load t a => match zGQ H (ev a) with
  | some (cs, off) => match zKr P t cs off with
   | some v => .mk 1 none v H
   | none => .bad
  | none => .bad
 | .store t a x => zOR P t (ev a) (ev x) H
 | .nilCheck x => match ev x with
  | .ptr o off => .mk 0 none (.ptr o off) H
  | .bx cs off => .mk 0 none (.bx cs off) H
  | .ept q t l i off => .mk 0 none (.ept q t l i off) H
  | .opt t o i off => .mk 0 none (.opt t o i off) H
  | _ => .bad
 | .binOp op t x y _ => zTN P g.wr op t (ev x) (ev y) H
 | .unOp op _ x => unV op (ev x) H
 | .convert s d x => match P.underlying s with
  | some (.slice _) => zf9 P s d (ev x) H
  | _ => zUF P s d (ev x) H
 | .makeFunc (.func f) first caps => if first.size = 0 then .mk 0 none (.fn f (caps.toList.map ev)) H else .bad
 | .makeSlice t l c => zUt P g t (ev l) (ev c) H
 | .slice t x lo hi mx => match mx with
  | none => match ev x with
   | .obj o => match g.hd || lo.isSome with
    | true => zPm P t o (lo.map ev) (hi.map ev) H
    | false => zdk P t o (hi.map ev) H
   | x => zIq P t x (lo.map ev) (hi.map ev) H
  | some _ => .bad
 | .fieldAddr t x f => match zKK P t f with
  | some (off, u) => if vD P u = 0 then .bad else match zpO off (ev x) with
   | some v => .mk 0 none v H
   | none => .bad
  | none => .bad
 | .field t x f => match zKK P t f, ev x with
  | some (off, u), .agg cs => match zKr P u cs off with
   | some v => .mk 0 none v H
   | none => .bad
  | _, _ => .bad
 | .indexAddr t x i => zCR P t (ev x) (ev i) H
 | .index t x i => zhL P t (ev x) (ev i) H
 | .extract x i => match ev x with
  | .tup vs => match vs[i]? with
   | some v => .mk 0 none v H
   | none => .bad
  | _ => .bad
 | .call { callee := .builtin .len, args, argTypes } => match args.toList, argTypes.toList with
  | [x], [t] => zQJ P t H (ev x)
  | _, _ => .bad
 | .call { callee := .builtin .append, args, argTypes } => match args.toList, argTypes.toList with
  | [s, x], [t, t'] => if t' = t then (match ev s with
   | .sl _ _ _ _ => zUL P t (ev s) (ev x) H
   | _ => ze2 P g t (ev s) (ev x) H) else .bad
  | _, _ => .bad
 | .call { callee := .builtin .max, args, .. } => match args.toList with
  | [x, y] => mmV true (ev x) (ev y) H
  | _ => .bad
 | .call { callee := .builtin .min, args, .. } => match args.toList with
  | [x, y] => mmV false (ev x) (ev y) H
  | _ => .bad
 | .call { callee := .builtin .clear, args, argTypes } => match args.toList, argTypes.toList with
  | [x], [t] => zg2 P t (ev x) H
  | _, _ => .bad
 | _ => .bad
inductive Ex where
 | nrm
 | exit (id : Nat)
 | ret
structure S where
 r : List V
 h : List Ob
def zN4 (x : Value) : V := if zt3 x then .c x else .any
def S.ev (s : S) : Operand → V
 | .tmp t => s.r.getD t .any
 | .const x => zN4 x
 | .func f => .fn f []
 | .global _ => .any
def S.put (s : S) (d : Option Tmp) (v : V) : S := match d with
 | some d => { s with r := s.r.set d v }
 | none => s
def S.upd (s : S) (q : Nat) (H : List Ob) : S := if q < 3 then { s with h := H } else { r := s.r.map (scrub q), h := H }
structure LP where
 safe : S → Option Prop
 el : S → (R : Type) → (Ex → S → R) → R
 par : ∀ s, ∃ p : Ex × S, ∀ (R : Type) (k : Ex → S → R), el s R k = k p.1 p.2
structure NwD where
 a : Ty
 t : Ty
 F : El a → El t
structure LnD where
 d : FnD
 j : Nat
structure Env where
 g : Gv
 fn : Nat → List FnD
 lp : Nat → Option LP
 nw : Nat → Option NwD
 ln : Nat → Option LnD
structure Md (R : Type) where
 bad : R
 chk : Option Prop → R → R
 cnd : Bool → R → R → R
def mdV (R : Type) [Inhabited R] : Md R where
 bad := default
 chk _ r := r
 cnd b x y := bif b then x else y
def mdS : Md Prop where
 bad := False
 chk p r := match p with
  | some p => p ∧ r
  | none => r
 cnd b x y := bif b then x else y
inductive Tr (X : Type) where
 | bad
 | v (x : X)
 | ck (p : Prop) (t : Tr X)
def Tr.val {X : Type} [Inhabited X] : Tr X → X
 | .bad => default
 | .v x => x
 | .ck _ t => t.val
def Tr.ok {X : Type} : Tr X → Prop
 | .bad => False
 | .v _ => True
 | .ck p t => p ∧ t.ok
def mdT (X : Type) : Md (Tr X) where
 bad := .bad
 chk p r := match p with
  | none => r
  | some p => .ck p r
 cnd b x y := bif b then x else y
def zP8 : List V → Nat → Option (Nat × OT × Nat × Int × Nat)
 | [], _ => none
 | .opt s o i off :: _, j => some (j, s, o, i, off)
 | _ :: vs, j => zP8 vs (j + 1)
def zvH (d : FnD) (j : Nat) : Option Nat := match d.args[j]? with
 | some (.ref s) => some (zO s.ty)
 | _ => none
def zKj (l : List FnD) (args : List V) (H : List Ob) : Eff := match zP8 args 0 with
 | none => zKa l args H
 | some (j, s, o, i, off) => match l.findSome? fun d => zvH d j with
  | none => .bad
  | some k => match zcW H s o i off k with
   | some H1 => zSx H s o i off k H.length (zKa l ((args.map (scrub (yG o []))).set j (.ptr H.length 0)) H1)
   | none => .bad
def zTp (d : NwD) (args : List V) (H : List Ob) : Eff := match args with
 | [v] => match dec [] d.a [v] with
  | some x => .mk 1 none (.ptr H.length 0) (H ++ [.box (enc 0 d.t (d.F x))])
  | none => .bad
 | _ => .bad
def ztM (q n : Nat) : Bool := (List.range n).all fun o => !vp q o && !zBf q o
def zMv (H : List Ob) (ob : Nat) (x : Ob) : List Ob := (H.set ob .gone).map (vK (yG ob [])) ++ [x]
def zW9 (H : List Ob) (ob n2 : Nat) (x : Ob) : List Ob := ((H.set ob x).set n2 .gone).map (vK (yG ob [n2]))
def zcE (n o : Nat) (s : OT) (q : Nat) (ok : Option Prop) (us : List V) (H3 : List Ob) : Eff := match us.getLast? with
 | some (.obj n2) => match H3[n2]?, H3[o]? with
  | some (.arr s2 l2), some .gone => match OT.eq? s2 s with
   | some _ => if (ztM q n && decide (n < n2)) = true then .mk (yG o [n2]) ok (scrub (yG o [n2]) (zrM us.dropLast)) (zW9 H3 o n2 (.arr s2 l2)) else .bad
   | none => .bad
  | _, _ => .bad
 | _ => .bad
def zPh (l : LnD) (args : List V) (H : List Ob) : Eff := match args[l.j]? with
 | some (.obj o) => match H[o]? with
  | some (.arr s xs) => match zPZ l.d.flat true (zMv H o (.arr s xs)) l.d.args ((args.map (scrub (yG o []))).set l.j (.obj H.length)) with
   | some (a, H2, os, bs) =>
    zcE H.length o s (zCe (zEt l.d.flat (zMv H o (.arr s xs)) l.d.args ((args.map (scrub (yG o []))).set l.j (.obj H.length))).isEmpty os bs) (l.d.pre a) (zCc l.d.res (l.d.F a) H2.length)
     (zDg (zy H2 os (zCe (zEt l.d.flat (zMv H o (.arr s xs)) l.d.args ((args.map (scrub (yG o []))).set l.j (.obj H.length))).isEmpty os bs)) bs (vu l.d.args ((args.map (scrub (yG o []))).set l.j (.obj H.length))) (xA l.d.res (l.d.F a) H2.length) ++ zCu l.d.res (l.d.F a))
   | none => .bad
  | _ => .bad
 | _ => .bad
def zT0 (E : Env) (f : Nat) (args : List V) (H : List Ob) : Eff := match E.nw f with
 | none => match E.ln f with
  | none => zKj (E.fn f) args H
  | some l => match zPh l args H with
   | .bad => zKj (E.fn f) args H
   | .mk q ok v H' => .mk q ok v H'
 | some d => zTp d args H
def opV (P : Program) (E : Env) (ev : Operand → V) (H : List Ob) : Op → Eff
 | .call { callee := .value f, args, .. } => match ev f with
  | .fn f caps => zT0 E f (args.toList.map ev ++ caps) H
  | _ => .bad
 | op => xT P E.g ev H op
def zBG : OT → Bool
 | .d t => zFE t
 | .o s => zBG s
 | .pr a b => zBG a && zBG b
def zPv (fl : Bool) : AD → Bool
 | .val _ s => !fl || zBG s
 | .ref s => !fl || zBG s
 | _ => false
def ztt : AD → Bool
 | .pt _ _ => false
 | _ => true
def AD.one1 : AD → Bool
 | .val false s => decide (zO s.ty = 1)
 | _ => true
def FnD.ok (d : FnD) : Bool := d.args.all AD.one1 && d.res.all (zPv d.flat) && d.args.all ztt && decide (zi (d.res.take (d.res.length - zi d.res)) = 0) && decide (zi d.res = zi d.args) && decide (vY d.res = vY d.args)
def zjm : List Oper → List (List Nat) → List (List Nat)
 | [], acc => acc
 | o :: rest, acc => zjm rest (acc ++ [(o.after.toList.filter (Region.binds .any)).flatMap fun e => e.on :: acc.getD e.on []])
def names0 : V → List Nat
 | .obj o => [o]
 | .opt _ o _ _ => [o]
 | .sl _ o _ _ => [o]
 | .ptr o _ => [o]
 | .ext (o + 1) _ _ => [o]
 | .ept (o + 1) _ _ _ _ => [o]
 | _ => []
def names1 : V → List Nat
 | .agg vs => vs.flatMap names0
 | .tup vs => vs.flatMap names0
 | .bx cs _ => cs.flatMap names0
 | v => names0 v
def names : V → List Nat
 | .fn _ vs => vs.flatMap names1
 | v => names1 v
def ztK : Option Ob → List Nat
 | some (.box cs) => cs.flatMap names
 | _ => []
def vB (H : List Ob) (R : List Nat) : List Nat := R ++ R.flatMap fun o => ztK H[o]?
def zEY (R : List Nat) : V → Bool
 | .c _ => true
 | .nil0 => true
 | .ext 0 _ _ => true
 | .ext (o + 1) _ _ => !R.contains o
 | .obj o => !R.contains o
 | .opt _ o _ _ => !R.contains o
 | .sl _ o _ _ => !R.contains o
 | .ptr o _ => !R.contains o
 | _ => false
def zWT (R : List Nat) : Ob → Bool
 | .box cs => cs.all (zEY R)
 | _ => true
def zTS : V → Bool
 | .opt _ _ _ _ => true
 | _ => false
def zUj : V → Bool
 | .fn _ vs => vs.any zTS
 | v => zTS v
def zs1 (H : List Ob) (vs : List V) : List Nat := if vs.any zUj then List.range H.length else
 (List.range H.length).filter fun o => (vB H (vs.flatMap names)).contains o || !zWT (vB H (vs.flatMap names)) (H.getD o .gone)
def zpJ (q n : Nat) : Bool := decide (2 ^ (2 * n) ≤ q - 3)
def zsD (q : Nat) (H : List Ob) (vs : List V) : List Nat := if zpJ q H.length = true then List.range H.length else zs1 H vs
def zo1 : V → Bool
 | .agg vs => vs.all (zEY [])
 | .tup vs => vs.all (zEY [])
 | .fn _ vs => vs.all (zEY [])
 | .bx cs _ => cs.all (zEY [])
 | v => zEY [] v
def rdr (q : Nat) : Op → Bool
 | .load _ _ => true
 | .indexAddr _ _ _ => true
 | .slice _ _ _ _ _ => decide (q < 2)
 | .call { callee := .builtin .len, .. } => true
 | _ => q == 0
def zaI (m : Nat) : V → Bool
 | .any => true
 | .c _ => true
 | .nil0 => true
 | .ext q _ _ => decide (q ≤ m)
 | .ept q _ _ _ _ => decide (q ≤ m)
 | .ptr o _ => decide (o < m)
 | .obj o => decide (o < m)
 | .opt _ o _ _ => decide (o < m)
 | .sl _ o _ _ => decide (o < m)
 | _ => false
def okN (m : Nat) : V → Bool
 | .agg vs => vs.all (zaI m)
 | v => zaI m v
structure Kr where
 i : Nat
 q : Nat
 rd : Bool
 nm : List Nat
 kp : Bool
 tc : List Nat
 fr : Bool
 n : Nat
def zo3 : Operand → Bool
 | .const _ => true
 | _ => false
def zQj (op : Op) : Bool := (match op with
 | .alloc _ => true
 | .buildSlice _ _ _ => true
 | _ => false) && op.operands.toList.all zo3
def zK5 (i q : Nat) (op : Op) (ev : Operand → V) (H : List Ob) (v : V) : Kr :=
 let vs := op.operands.toList.map ev
 { i := i, q := q, rd := decide (q < 2) && (rdr q op && (q == 0 || okN H.length v)), nm := (v :: vs).flatMap names, kp := (v :: vs).all zo1, tc := if q < 2 then [] else zsD q H vs, fr := decide (q < 2) && zQj op, n := H.length }
def zA5 (r j : Kr) : Bool := (r.rd || (r.fr && decide (r.i < j.i) && !j.tc.contains r.n)) && (r.q == 0 || r.nm.all fun o => !j.tc.contains o) && (decide (j.q < 3) || (r.kp && r.nm.all fun o => !vp j.q o && !zBf j.q o))
def zV2 (ops : List Oper) (ks : List Kr) : Bool :=
 let b := zjm ops []
 let ds := ops.zipIdx.filterMap fun (o, i) => o.dst.map fun d => (d, i)
 let ahead (i j : Nat) : Bool := decide (i < j) && (b.getD j []).contains i
 (ops.zipIdx.all fun (o, i) => ds.all fun (d, j) => (o.dst != some d || i == j) && (!((o.looksAt ops.toArray).contains d) || ahead j i || ahead i j)) &&
 (ops.zipIdx.all fun (o, i) => o.after.toList.all fun e => !Region.binds .any e || decide (e.on < i)) &&
 (ks.all fun j => decide (j.q < 2) || ks.all fun r => r.i == j.i || ahead r.i j.i || ahead j.i r.i || zA5 r j)
section
variable (P : Program) (E : Env) {R : Type} (md : Md R)
def zU5 : List (Nat × Bool) → Nat → Option Bool
 | [], _ => none
 | (t, b) :: l, u => if t = u then some b else zU5 l u
def yW (ops : Array Oper) : Nat → List Oper → List Kr → List (Nat × Bool) → S → (List Kr → S → R) → R
 | _, [], ks, _, s, k => k ks s
 | i, o :: rest, ks, kn, s, k =>
  let run (kn : List (Nat × Bool)) (s : S) : R := match opV P E s.ev s.h o.op with
   | .bad => md.bad
   | .mk q ok v H => md.chk ok (yW ops (i + 1) rest (zK5 i q o.op s.ev s.h v :: ks) kn ((s.upd q H).put o.dst v) k)
  match o.guard with
  | none => run kn s
  | some (g, want) => match (ops[g]?).bind (·.dst) with
   | some t => match zU5 kn t, s.r.getD t .any with
    | some true, .c (.bool true) => match want with
     | true => run kn s
     | false => yW ops (i + 1) rest ks kn (s.put o.dst (.c undef)) k
    | some false, .c (.bool false) => match want with
     | true => yW ops (i + 1) rest ks kn (s.put o.dst (.c undef)) k
     | false => run kn s
    | _, .c (.bool b) => match want with
     | true => md.cnd b (run ((t, true) :: kn) { s with r := s.r.set t (.c (.bool true)) }) (yW ops (i + 1) rest ks ((t, false) :: kn) (({ s with r := s.r.set t (.c (.bool false)) } : S).put o.dst (.c undef)) k)
     | false => md.cnd b (yW ops (i + 1) rest ks ((t, true) :: kn) (({ s with r := s.r.set t (.c (.bool true)) } : S).put o.dst (.c undef)) k) (run ((t, false) :: kn) { s with r := s.r.set t (.c (.bool false)) })
    | _, .c (.tuple _) => yW ops (i + 1) rest ks kn (s.put o.dst (.c undef)) k
    | _, _ => md.bad
   | none => md.bad
def zi1 (o : Oper) : Bool := o.guard.isNone && o.after.isEmpty && zQj o.op
def zpM : Bool → List Oper → Bool
 | _, [] => false
 | b, o :: l => match zi1 o with
  | true => b || zpM b l
  | false => zpM true l
def zUK (f : Nat → Nat) (o : Oper) : Oper := { o with guard := o.guard.map fun p => (f p.1, p.2), after := o.after.map fun e => { e with on := f e.on } }
def zQn (ops : Array Oper) : List Nat := ((List.range ops.size).filter fun i => ((ops[i]?).map zi1).getD false) ++ ((List.range ops.size).filter fun i => !((ops[i]?).map zi1).getD false)
def zim (s : List Nat) (n : Nat) : List Nat := (List.range n).map fun i => s.idxOf i
def zlB (s t : List Nat) (n : Nat) : Bool := s.length == n && t.length == n && (List.range n).all fun i => s.getD (t.getD i n) n == i && t.getD (s.getD i n) n == i
def zIi (ops : Array Oper) : Array Oper := match zpM false ops.toList && zlB (zQn ops) (zim (zQn ops) ops.size) ops.size with
 | true => ((zQn ops).map fun i => zUK (fun j => (zim (zQn ops) ops.size).getD j j) (ops.getD i default)).toArray
 | false => ops
def zrV (draw : Bool) (ops : Array Oper) : Array Oper := match draw with
 | true => zIi ops
 | false => ops
def xj : Code → Nat
 | .seq a b => xj a + xj b
 | .cond _ a b => xj a + xj b
 | .block _ c => xj c
 | .loop c => xj c + 1
 | _ => 0
def evC : Code → Nat → S → (Ex → S → R) → R
 | .skip, _, s, k => k .nrm s
 | .seq a b, n, s, k => evC a n s fun e s' => match e with
  | .nrm => evC b (n + xj a) s' k
  | e => k e s'
 | .cond c a b, n, s, k => match s.ev c with
  | .c (.bool q) => md.cnd q (evC a n s k) (evC b (n + xj a) s k)
  | _ => md.bad
 | .block id c, n, s, k => evC c n s fun e s' => match e with
  | .exit i => if i = id then k .nrm s' else k (.exit i) s'
  | e => k e s'
 | .loop _, n, s, k => match E.lp n with
  | some lp => md.chk (lp.safe s) (lp.el s R k)
  | none => md.bad
 | .exit id, _, s, k => k (.exit id) s
 | .ret, _, s, k => k .ret s
 | .region _ ops draw, _, s, k => yW P E md (zrV draw ops) 0 (zrV draw ops).toList [] [] s fun ks s' => if draw && !zV2 (zrV draw ops).toList ks then md.bad else k .nrm s'
 | _, _, _, _ => md.bad
end
end Go.Proofs.YtkdidadegedmiaaGreat
namespace Go.Proofs.YtkdidadegedmiaaGreat
open Go.RowKit
def okP : Option Prop → Prop
 | some p => p
 | none => True
def Cl : V → Prop
 | .c _ => True
 | .nil0 => True
 | .ext q _ _ => q = 0
 | _ => False
theorem zFQ : ∀ (t : Ty) (x : El t), ∀ u ∈ enc 0 t x, Cl u
 | .int, _ => by simp [enc, Cl]
 | .u8, _ => by simp [enc, Cl]
 | .bool, _ => by simp [enc, Cl]
 | .str, _ => by simp [enc, Cl]
 | .lst _, _ => by simp [enc, Cl]
 | .pr a b, x => by
  intro u hu
  simp only [enc, List.mem_append] at hu
  rcases hu with h | h
  ·exact zFQ a _ u h
  ·exact zFQ b _ u h
section
variable {ρ ρ' : yH} {Z Z' : Zs} {w w' : World} {H H' : List Ob}
theorem Bk.zero {b : Nat} (h : Bk ρ Z 0 b) : Z false b := by
 rcases h with h | ⟨o, p, e, _⟩
 ·exact h
 ·cases e
theorem Cn.clF {v : V} {x : Value} (h : Cn ρ Z w v x) (hc : Cl v) (hZ : ∀ b, Z false b → Z' false b) (hw : ∀ b, Z false b → w'.heap[b]? = w.heap[b]?) : Cn ρ' Z' w' v x := by
 induction h with
 | c x h => exact .c x h
 | nil0 a => exact .nil0 a
 | ext ys hq h0 h1 h2 h3 h4 h5 h6 ih =>
  have he := hc
  simp only [Cl] at he
  subst he
  rcases h4 with h4 | ⟨h4, h7⟩
  ·subst h4
   exact .emp .zero h2 h3
  ·exact .ext ys .zero h0 h1 h2 h3 (.inr ⟨h4, .inl (hZ _ h7.zero)⟩) (fun i j hi hj => by rw [zPR (hw _ h7.zero)]; exact h5 i j hi hj)
    (fun i x j u hx hu => ih i x j u hx hu (zFQ _ _ u (List.mem_of_getElem? hu)))
 | any => exact hc.elim
 | ptr => exact hc.elim
 | bx => exact hc.elim
 | ept => exact hc.elim
 | obj => exact hc.elim
 | opt => exact hc.elim
 | sl => exact hc.elim
 | agg => exact hc.elim
 | tup => exact hc.elim
 | fn => exact hc.elim
theorem Cn.cl {v : V} {x : Value} (h : Cn ρ Z w v x) (hc : Cl v) (hZ : ∀ q b, Z q b → Z' q b) (hw : ∀ q b, Z q b → w'.heap[b]? = w.heap[b]?) : Cn ρ' Z' w' v x := h.clF hc (hZ false) (hw false)
theorem zVp {x : Value} {j : Nat} {u : V} {y : Value} (h1 : [V.c x][j]? = some u) (h : Cn ρ Z w u y) : Cn ρ' Z' w' u y := by
 cases j with
 | zero =>
  simp at h1; subst h1
  cases h with
  | c _ h => exact .c _ h
 | succ j => simp at h1
theorem Cn.tag {q q' : Nat} (hq : Qk ρ' q') (hb : ∀ b, Bk ρ Z q b → Bk ρ' Z' q' b) (hw : ∀ b, Bk ρ Z q b → w'.heap[b]? = w.heap[b]?) : ∀ (t : Ty) (x : El t) (j : Nat) (u u' : V) (y : Value), (enc q t x)[j]? = some u → (enc q' t x)[j]? = some u' → Cn ρ Z w u y → Cn ρ' Z' w' u' y
 | .int, x, j, u, u', y, h1, h2, h => by simp only [enc] at h1 h2; rw [h1] at h2; cases h2; exact zVp h1 h
 | .u8, x, j, u, u', y, h1, h2, h => by simp only [enc] at h1 h2; rw [h1] at h2; cases h2; exact zVp h1 h
 | .bool, x, j, u, u', y, h1, h2, h => by simp only [enc] at h1 h2; rw [h1] at h2; cases h2; exact zVp h1 h
 | .str, x, j, u, u', y, h1, h2, h => by simp only [enc] at h1 h2; rw [h1] at h2; cases h2; exact zVp h1 h
 | .lst t, l, j, u, u', y, h1, h2, h => by
  cases j with
  | succ j => simp [enc] at h1
  | zero =>
   simp only [enc, List.getElem?_cons_zero, Option.some.injEq] at h1 h2
   subst h1 h2
   obtain ⟨a, c, b, o, ys, rfl, g0, g1, g2, g3, g4, g5, g6⟩ := h.ext_inv
   rcases g4 with rfl | ⟨rfl, g4⟩
   ·exact .emp hq g2 g3
   ·refine .ext ys hq g0 g1 g2 g3 (.inr ⟨rfl, hb _ g4⟩) (fun i j hi hj => by rw [zPR (hw _ g4)]; exact g5 i j hi hj) fun i x j u hx hu => ?_
    have hj : j < zO t := by rw [← yB (q := q') t x]; exact (List.getElem?_eq_some_iff.1 hu).1
    exact Cn.tag hq hb hw t x j _ u _ (List.getElem?_eq_getElem (by rw [yB]; exact hj)) hu (g6 i x j _ hx (List.getElem?_eq_getElem (by rw [yB]; exact hj)))
 | .pr a b, x, j, u, u', y, h1, h2, h => by
  simp only [enc] at h1 h2
  by_cases hj : j < zO a
  ·rw [List.getElem?_append_left (by rw [yB]; exact hj)] at h1 h2
   exact Cn.tag hq hb hw a x.1 j u u' y h1 h2 h
  ·rw [List.getElem?_append_right (by rw [yB]; omega), yB] at h1 h2
   exact Cn.tag hq hb hw b x.2 _ u u' y h1 h2 h
theorem Cn.tagR {q q' : Nat} {t : Ty} {l : List (El t)} {y : Value} (hq : Qk ρ' q') (hb : ∀ b, Bk ρ Z q b → Bk ρ' Z' q' b) (hw : ∀ b, Bk ρ Z q b → w'.heap[b]? = w.heap[b]?) (h : Cn ρ Z w (.ext q t l) y) : Cn ρ' Z' w' (.ext q' t l) y :=
 Cn.tag hq hb hw (.lst t) l 0 _ _ y rfl rfl h
structure Sk (q : Nat) (ρ : yH) (Z : Zs) (w : World) (ρ' : yH) (Z' : Zs) (w' : World) : Prop where
 r : ∀ o p, ρ o = some p → vp q o = false → ∃ f, ρ' o = some ⟨p.b, p.x, p.off, f⟩ ∧ (zBf q o = false → f = p.fp)
 z : ∀ k b, Z k b → Z' k b
 h : ∀ k b, Z k b → w'.heap[b]? = w.heap[b]?
 f : ∀ o p b, ρ o = some p → zBf q o = false → p.fp b → w'.heap[b]? = w.heap[b]?
theorem zS7 {q o : Nat} (h : zBf q o = false) : vp q o = false := by
 unfold zBf at h; unfold vp
 cases e : decide (3 ≤ q) <;> simp_all
theorem Cn.scrub0 {q : Nat} {v : V} {x : Value} (h : Cn ρ Z w v x) (k : Sk q ρ Z w ρ' Z' w') : Cn ρ' Z' w' (scrub0 q v) x := by
 cases h with
 | c x h => exact .c x h
 | nil0 a => exact .nil0 a
 | any x => exact .any x
 | ptr h =>
  simp only [Go.Proofs.YtkdidadegedmiaaGreat.scrub0]
  split
  ·exact .any _
  ·rename_i hne
   obtain ⟨f, e, _⟩ := k.r _ _ h (by simpa using hne)
   exact .ptr (p := ⟨_, _, _, f⟩) e
 | obj h hx =>
  simp only [Go.Proofs.YtkdidadegedmiaaGreat.scrub0]
  split
  ·exact .any _
  ·rename_i hne
   obtain ⟨f, e, _⟩ := k.r _ _ h (by simpa using hne)
   exact .obj (p := ⟨_, _, _, f⟩) e hx
 | opt h hx h0 =>
  simp only [Go.Proofs.YtkdidadegedmiaaGreat.scrub0]
  split
  ·exact .any _
  ·rename_i hne
   obtain ⟨f, e, _⟩ := k.r _ _ h (by simpa using hne)
   exact .opt (p := ⟨_, _, _, f⟩) e hx h0
 | sl h hx h0 h1 h2 =>
  simp only [Go.Proofs.YtkdidadegedmiaaGreat.scrub0]
  split
  ·exact .any _
  ·rename_i hne
   obtain ⟨f, e, _⟩ := k.r _ _ h (by simpa using hne)
   exact .sl (p := ⟨_, _, _, f⟩) e hx h0 h1 h2
 | bx h0 h1 h2 h3 =>
  simp only [Go.Proofs.YtkdidadegedmiaaGreat.scrub0]
  split
  ·rename_i hs
   refine .bx (k.z _ _ h0) (by rw [k.h _ _ h0]; exact h1) h2 fun i u y hu hy => ?_
   have hst := List.all_eq_true.1 hs u (List.mem_of_getElem? hu)
   have hc := h3 i u y hu hy
   cases hc with
   | c _ h => exact .c _ h
   | nil0 _ => exact .nil0 _
   | ext ys hq g0 g1 g2 g3 g4 g5 g6 =>
    rename_i q' t l a c b o'
    have h : Cn ρ Z w (.ext q' t l) (.slice a l.length c) := .ext ys hq g0 g1 g2 g3 g4 g5 g6
    cases q' with
    | zero => exact h.cl rfl k.z k.h
    | succ o => cases hst
   | _ => cases hst
  ·exact .any _
 | ext ys hq h0 h1 h2 h3 h4 h5 h6 =>
  rename_i q' t l a c b o'
  have h : Cn ρ Z w (.ext q' t l) (.slice a l.length c) := .ext ys hq h0 h1 h2 h3 h4 h5 h6
  cases q' with
  | zero => exact h.cl rfl k.z k.h
  | succ o =>
   simp only [Go.Proofs.YtkdidadegedmiaaGreat.scrub0]
   split
   ·exact .any _
   ·rename_i hne
    have hc : zBf q o = false := by simpa using hne
    refine h.tagR (fun o1 e1 => by
     cases e1
     obtain ⟨p, e2⟩ := hq o rfl
     obtain ⟨f, e4, _⟩ := k.r _ _ e2 (zS7 hc)
     exact ⟨_, e4⟩) (fun b hb => ?_) (fun b hb => ?_)
    ·rcases hb with hb | ⟨o1, p, e1, e2, e3⟩
     ·exact .inl (k.z _ _ hb)
     ·cases e1
      obtain ⟨f, e4, e5⟩ := k.r _ _ e2 (zS7 hc)
      exact .inr ⟨o, _, rfl, e4, by rw [e5 hc]; exact e3⟩
    ·rcases hb with hb | ⟨o1, p, e1, e2, e3⟩
     ·exact k.h _ _ hb
     ·cases e1; exact k.f _ _ _ e2 hc e3
 | _ => exact .any _
theorem Cn.scrub {q : Nat} {v : V} {x : Value} (h : Cn ρ Z w v x) (k : Sk q ρ Z w ρ' Z' w') : Cn ρ' Z' w' (scrub q v) x := by
 have inner : ∀ (vs : List V) (xs : List Value), (∀ (i : Nat) (u : V) (y : Value), vs[i]? = some u → xs[i]? = some y → Cn ρ Z w u y) →
   ∀ (i : Nat) (u : V) (y : Value), (vs.map (Go.Proofs.YtkdidadegedmiaaGreat.scrub0 q))[i]? = some u → xs[i]? = some y → Cn ρ' Z' w' u y := by
  intro vs xs h i u y hu hy
  simp only [List.getElem?_map, Option.map_eq_some_iff] at hu
  obtain ⟨u', h1, rfl⟩ := hu
  exact (h i u' y h1 hy).scrub0 k
 cases h with
 | agg h0 h => exact .agg (by simpa using h0) (inner _ _ h)
 | tup h0 h => exact .tup (by simpa using h0) (inner _ _ h)
 | fn h0 h => exact .fn (by simpa using h0) (inner _ _ h)
 | bx h0 h1 h2 h3 =>
  refine .bx (k.z _ _ h0) (by rw [k.h _ _ h0]; exact h1) (by simpa using h2) fun i u y hu hy => ?_
  simp only [List.getElem?_map, Option.map_eq_some_iff] at hu
  obtain ⟨u', g1, rfl⟩ := hu
  exact (h3 i u' y g1 hy).scrub0 k
 | c x h => exact Cn.scrub0 (.c x h) k
 | nil0 a => exact Cn.scrub0 (.nil0 a) k
 | any x => exact Cn.scrub0 (.any x) k
 | ptr h => exact Cn.scrub0 (.ptr h) k
 | obj h hx => exact Cn.scrub0 (.obj h hx) k
 | opt h hx h0 => exact Cn.scrub0 (.opt h hx h0) k
 | sl h hx h0 h1 h2 => exact Cn.scrub0 (.sl h hx h0 h1 h2) k
 | ext ys hq h0 h1 h2 h3 h4 h5 h6 => exact Cn.scrub0 (.ext ys hq h0 h1 h2 h3 h4 h5 h6) k
 | ept ys hq h0 h4 h5 h6 => exact .any _
theorem zFv (f : Nat → Nat) : ∀ (os : List Nat) (m j : Nat), (os.foldl (fun m o => m ||| 2 ^ f o) m).testBit j = (m.testBit j || os.any fun o => f o == j)
 | [], m, j => by simp
 | o :: os, m, j => by
  rw [List.foldl_cons, zFv f os, Nat.testBit_or, Nat.testBit_two_pow, List.any_cons, Bool.or_assoc]
  congr 1
theorem zeu (os : List Nat) (o : Nat) : (os.any fun o' => 2 * o' == 2 * o) = os.contains o := by
 induction os with
 | nil => rfl
 | cons a os ih =>
  rw [List.any_cons, ih, List.contains_cons]
  congr 1
  rw [Bool.eq_iff_iff]; simp; omega
theorem zq7 (os : List Nat) (o : Nat) : (os.any fun o' => 2 * o' == 2 * o + 1) = false := by
 rw [List.any_eq_false]; intro x _; simp; omega
theorem zFa (os : List Nat) (o : Nat) : vp (ye os) o = os.contains o := by
 unfold vp ye
 rw [decide_eq_true (by omega), Nat.add_sub_cancel_left, zFv, zeu]; simp
theorem zF2 (os : List Nat) (o : Nat) : zBf (ye os) o = os.contains o := by
 unfold zBf ye
 rw [decide_eq_true (by omega), Nat.add_sub_cancel_left, zFv, zFv, zeu, zq7]; simp
theorem zMU (c : Nat) (os : List Nat) (o : Nat) : vp (yG c os) o = os.contains o := by
 unfold vp yG
 rw [decide_eq_true (by omega), Nat.add_sub_cancel_left, zFv, zeu, Nat.testBit_two_pow]
 have : decide (2 * c + 1 = 2 * o) = false := decide_eq_false (by omega)
 rw [this]; simp
theorem zAf (c : Nat) (os : List Nat) (o : Nat) : zBf (yG c os) o = (os.contains o || c == o) := by
 unfold zBf yG
 rw [decide_eq_true (by omega), Nat.add_sub_cancel_left, zFv, zFv, zeu, zq7, Nat.testBit_two_pow, Nat.testBit_two_pow]
 have h1 : decide (2 * c + 1 = 2 * o) = false := decide_eq_false (by omega)
 have h2 : decide (2 * c + 1 = 2 * o + 1) = (c == o) := by rw [Bool.eq_iff_iff]; simp; omega
 rw [h1, h2]; simp
def yH.upd (ρ : yH) (o : Nat) (p : Pl) : yH := fun i => if i = o then some p else ρ i
theorem yH.upd_self (ρ : yH) (o : Nat) (p : Pl) : (ρ.upd o p) o = some p := by simp [yH.upd]
theorem yH.upd_ne {ρ : yH} {o i : Nat} {p : Pl} (h : i ≠ o) : (ρ.upd o p) i = ρ i := by simp [yH.upd, h]
theorem HR.own (h : HR ρ Z H w) {o : Nat} {p : Pl} {x : Ob} (h1 : ρ o = some p) (h2 : H[o]? = some x) {b : Nat} (hb : vy x p b) : (∀ q, ¬ Z q b) ∧ b < w.heap.size := (h.ob o p x h1 h2).own hb
theorem HR.at (h : HR ρ Z H w) {o : Nat} {p : Pl} (h1 : ρ o = some p) : ∃ x, H[o]? = some x := ⟨_, List.getElem?_eq_getElem (h.dom o p h1)⟩
theorem HR.fpz (h : HR ρ Z H w) {o : Nat} {p : Pl} (h1 : ρ o = some p) {b : Nat} (hb : p.fp b) : (∃ x, H[o]? = some x ∧ vy x p b) ∨ Z false b := by
 obtain ⟨x, hx⟩ := h.at h1
 exact ((h.ob o p x h1 hx).fpz hb).imp (fun k => ⟨x, hx, k⟩) id
theorem HR.fplt (h : HR ρ Z H w) {o : Nat} {p : Pl} (h1 : ρ o = some p) {b : Nat} (hb : p.fp b) : b < w.heap.size := by
 rcases h.fpz h1 hb with ⟨x, hx, k⟩ | k
 ·exact (h.own h1 hx k).2
 ·exact h.zl _ _ k
theorem HR.kp (h : HR ρ Z H w) (hs : ∀ b, b < w.heap.size → w'.heap[b]? = w.heap[b]?) : Kp ρ Z w ρ Z w' :=
 ⟨fun _ _ h => h, fun _ _ h => h, fun q b hb => hs b (h.zl q b hb), fun _ _ b h1 hb => hs b (h.fplt h1 hb)⟩
theorem HR.keep (h : HR ρ Z H w) (hz : w.heap.size ≤ w'.heap.size) (hs : ∀ b, b < w.heap.size → w'.heap[b]? = w.heap[b]?) : HR ρ Z H w' where
 zl q b hb := Nat.lt_of_lt_of_le (h.zl q b hb) hz
 dom := h.dom
 ob o p x h1 h2 := (h.ob o p x h1 h2).mono (h.kp hs) fun _ hb => ⟨(h.own h1 h2 hb).1, hs _ (h.own h1 h2 hb).2⟩
 dj := h.dj
theorem HR.kpUp (h : HR ρ Z H w) (hs : ∀ b, b < w.heap.size → w'.heap[b]? = w.heap[b]?) (p : Pl) : Kp ρ Z w (ρ.upd H.length p) Z w' :=
 ⟨fun o q e => by rw [yH.upd_ne (Nat.ne_of_lt (h.dom o q e))]; exact e, fun _ _ h => h, fun q b hb => hs b (h.zl q b hb), fun o p b h1 hb => hs b (h.fplt h1 hb)⟩
theorem HR.new (h : HR ρ Z H w) (hz : w.heap.size ≤ w'.heap.size) (hs : ∀ b, b < w.heap.size → w'.heap[b]? = w.heap[b]?) {x : Ob} {p : Pl}
  (hx : ObR (ρ.upd H.length p) Z w' x p) (hb : ∀ b, vy x p b → w.heap.size ≤ b) : HR (ρ.upd H.length p) Z (H ++ [x]) w' := by
 have old : ∀ o q y, (ρ.upd H.length p) o = some q → (H ++ [x])[o]? = some y → (o = H.length ∧ q = p ∧ y = x) ∨ (ρ o = some q ∧ H[o]? = some y) := by
  intro o q y h1 h2
  by_cases e : o = H.length
  ·subst e
   simp [yH.upd] at h1
   simp at h2
   exact .inl ⟨rfl, h1.symm, h2.symm⟩
  ·rw [yH.upd_ne e] at h1
   rw [List.getElem?_append_left (h.dom o q h1)] at h2
   exact .inr ⟨h1, h2⟩
 refine ⟨fun q b hb => Nat.lt_of_lt_of_le (h.zl q b hb) hz, ?_, ?_, ?_⟩
 ·intro o q e
  by_cases e' : o = H.length
  ·subst e'; simp
  ·rw [yH.upd_ne e'] at e
   have := h.dom o q e
   simp; omega
 ·intro o q y h1 h2
  rcases old o q y h1 h2 with ⟨rfl, rfl, rfl⟩ | ⟨h3, h4⟩
  ·exact hx
  ·exact (h.ob o q y h3 h4).mono (h.kpUp hs p) fun b hb => ⟨(h.own h3 h4 hb).1, hs _ (h.own h3 h4 hb).2⟩
 ·intro o o' q q' y y' b h1 h1' h2 h2' hb1 hb2
  rcases old o q y h1 h2 with ⟨rfl, rfl, rfl⟩ | ⟨h3, h4⟩
  ·rcases old o' q' y' h1' h2' with ⟨rfl, rfl, rfl⟩ | ⟨h5, h6⟩
   ·rfl
   ·have := hb b hb1
    have := (h.own h5 h6 hb2).2
    omega
  ·rcases old o' q' y' h1' h2' with ⟨rfl, rfl, rfl⟩ | ⟨h5, h6⟩
   ·have := hb b hb2
    have := (h.own h3 h4 hb1).2
    omega
   ·exact h.dj o o' q q' y y' b h3 h5 h4 h6 hb1 hb2
structure Gr (w w' : World) : Prop where
 le : w.heap.size ≤ w'.heap.size
 os : w'.os = w.os
 tape : w'.tape = w.tape
 output : w'.output = w.output
theorem Gr.refl (w : World) : Gr w w := ⟨Nat.le_refl _, rfl, rfl, rfl⟩
theorem Gr.trans {a b c : World} (h : Gr a b) (k : Gr b c) : Gr a c := ⟨Nat.le_trans h.le k.le, k.os.trans h.os, k.tape.trans h.tape, k.output.trans h.output⟩
theorem Gr.alloc (w : World) (o : Obj) : Gr w (w.alloc o) := ⟨by simp, rfl, rfl, rfl⟩
theorem Gr.dalloc (w : World) (o : Obj) : Gr w (w.drew.alloc o) := ⟨by simp, rfl, rfl, rfl⟩
theorem Gr.setRow (w : World) (g : Nat) (cs : Array Value) : Gr w (w.setRow g cs) := ⟨by simp [World.setRow], rfl, rfl, rfl⟩
def zBF (b lo hi : Nat) (w w' : World) : Prop := ∀ xs e, w.heap[b]? = some (.cells xs e (0, 0)) → ∃ xs' : Array Value, w'.heap[b]? = some (.cells xs' e (0, 0)) ∧ xs'.size = xs.size ∧ ∀ j, (j < lo ∨ hi ≤ j) → xs'[j]? = xs[j]?
theorem zBF.same {b lo hi : Nat} {w w' : World} (h : w'.heap[b]? = w.heap[b]?) : zBF b lo hi w w' := fun xs _ g => ⟨xs, h.trans g, rfl, fun _ _ => rfl⟩
theorem zBF.trans {b lo hi : Nat} {u v w : World} (h : zBF b lo hi u v) (k : zBF b lo hi v w) : zBF b lo hi u w := by
 intro xs e g
 obtain ⟨ys, h1, h2, h3⟩ := h xs e g
 obtain ⟨zs, k1, k2, k3⟩ := k ys e h1
 exact ⟨zs, k1, k2.trans h2, fun j hj => (k3 j hj).trans (h3 j hj)⟩
structure Post (q : Nat) (ρ : yH) (Z : Zs) (H : List Ob) (w : World) (ρ' : yH) (Z' : Zs) (H' : List Ob) (w' : World) : Prop where
 size : Gr w w'
 rho : ∀ o p, ρ o = some p → (vp q o = false ∨ ∃ cs, H[o]? = some (.box cs)) → ∃ f, ρ' o = some ⟨p.b, p.x, p.off, f⟩ ∧ ((zBf q o = false ∨ ∃ cs, H[o]? = some (.box cs)) → f = p.fp)
 brw : ∀ o p b, ρ o = some p → zBf q o = false → p.fp b → w'.heap[b]? = w.heap[b]?
 bxs : ∀ (o : Nat) (cs : List V), H[o]? = some (.box cs) → ∃ cs', H'[o]? = some (.box cs') ∧ cs'.length = cs.length
 part : ∀ (o : Nat) (p : Pl) (cs : List V), ρ o = some p → H[o]? = some (.box cs) → zBF p.b p.off (p.off + cs.length) w w'
 dom : ∀ o p, ρ' o = some p → (∃ p0, ρ o = some p0) ∨ H.length ≤ o
 newb : ∀ o p x b, ρ' o = some p → H'[o]? = some x → vy x p b → w.heap.size ≤ b ∨ ∃ o0 p0 x0, ρ o0 = some p0 ∧ H[o0]? = some x0 ∧ vy x0 p0 b
 zm : ∀ k b, Z k b → Z' k b
 zn : ∀ k b, Z' k b → Z k b ∨ w.heap.size ≤ b ∨ ∃ o0 p0 x0, ρ o0 = some p0 ∧ H[o0]? = some x0 ∧ vy x0 p0 b
 same : ∀ b, b < w.heap.size → (∀ o p x, ρ o = some p → H[o]? = some x → ¬ vy x p b) → w'.heap[b]? = w.heap[b]?
 quiet : q < 2 → (∀ b, b < w.heap.size → w'.heap[b]? = w.heap[b]?) ∧ (∀ k b, Z' k b → Z k b ∨ w.heap.size ≤ b) ∧ (∃ obs, H' = H ++ obs) ∧
  (∀ o p x b, H.length ≤ o → ρ' o = some p → H'[o]? = some x → vy x p b → w.heap.size ≤ b)
 hr : HR ρ' Z' H' w'
theorem zVn {q o : Nat} (h : q < 3) : vp q o = false := by unfold vp; rw [decide_eq_false (by omega)]; rfl
theorem zRQ {q o : Nat} (h : q < 3) : zBf q o = false := by unfold zBf; rw [decide_eq_false (by omega)]; rfl
theorem Post.rhoq {q : Nat} (h : Post q ρ Z H w ρ' Z' H' w') (hq : q < 3) {o : Nat} {p : Pl} (e : ρ o = some p) : ρ' o = some p := by
 obtain ⟨f, h1, h2⟩ := h.rho o p e (.inl (zVn hq))
 rw [h1, h2 (.inl (zRQ hq))]
theorem HR.zsame {q : Nat} (h : HR ρ Z H w) (hp : Post q ρ Z H w ρ' Z' H' w') : ∀ k b, Z k b → w'.heap[b]? = w.heap[b]? :=
 fun k b hb => hp.same b (h.zl k b hb) fun _ _ _ h1 h2 h3 => (h.own h1 h2 h3).1 k hb
theorem Post.kp {q : Nat} (h : HR ρ Z H w) (hp : Post q ρ Z H w ρ' Z' H' w') (hq : q < 3) : Kp ρ Z w ρ' Z' w' :=
 ⟨fun _ _ e => hp.rhoq hq e, hp.zm, h.zsame hp, fun o p b e hb => hp.brw o p b e (zRQ hq) hb⟩
theorem Post.sk {q : Nat} (h : HR ρ Z H w) (hp : Post q ρ Z H w ρ' Z' H' w') : Sk q ρ Z w ρ' Z' w' :=
 ⟨fun o p e k => (hp.rho o p e (.inl k)).imp fun _ h => ⟨h.1, fun k => h.2 (.inl k)⟩, hp.zm, h.zsame hp, hp.brw⟩
theorem HR.post (h : HR ρ Z H w) (q : Nat) : Post q ρ Z H w ρ Z H w where
 size := Gr.refl w
 rho _ p h _ := ⟨p.fp, h, fun _ => rfl⟩
 brw _ _ _ _ _ _ := rfl
 bxs o cs h := ⟨cs, h, rfl⟩
 part o p cs _ _ := zBF.same rfl
 dom o p e := .inl ⟨p, e⟩
 newb o p x b h1 h2 h3 := .inr ⟨o, p, x, h1, h2, h3⟩
 zm _ _ h := h
 zn _ _ h := .inl h
 same _ _ _ := rfl
 quiet _ := ⟨fun _ _ => rfl, fun _ _ h => .inl h, ⟨[], by simp⟩, fun o p x b h1 h2 _ _ => absurd (h.dom o p h2) (by omega)⟩
 hr := h
theorem HR.postNew (h : HR ρ Z H w) (hz : Gr w w') (hs : ∀ b, b < w.heap.size → w'.heap[b]? = w.heap[b]?) {x : Ob} {p : Pl}
  (hx : ObR (ρ.upd H.length p) Z w' x p) (hb : ∀ b, vy x p b → w.heap.size ≤ b) (q : Nat) : Post q ρ Z H w (ρ.upd H.length p) Z (H ++ [x]) w' where
 size := hz
 rho o p' e _ := ⟨p'.fp, by rw [yH.upd_ne (Nat.ne_of_lt (h.dom o p' e))]; exact e, fun _ => rfl⟩
 brw o p' b e _ hb := hs b (h.fplt e hb)
 bxs o cs e := ⟨cs, by rw [List.getElem?_append_left (List.getElem?_eq_some_iff.1 e).1]; exact e, rfl⟩
 part o p' cs e e' := zBF.same (hs _ (h.own e e' rfl).2)
 dom o p' e := by
  by_cases e' : o = H.length
  ·exact .inr (by omega)
  ·rw [yH.upd_ne e'] at e; exact .inl ⟨_, e⟩
 newb o p' y b h1 h2 h3 := by
  by_cases e' : o = H.length
  ·subst e'
   simp [yH.upd] at h1; simp at h2
   subst h1 h2
   exact .inl (hb b h3)
  ·rw [yH.upd_ne e'] at h1
   rw [List.getElem?_append_left (h.dom o p' h1)] at h2
   exact .inr ⟨o, p', y, h1, h2, h3⟩
 zm _ _ h := h
 zn _ _ h := .inl h
 same b hb _ := hs b hb
 quiet _ := ⟨hs, fun _ _ h => .inl h, ⟨[x], rfl⟩, fun o p' y b h1 h2 h3 h4 => by
  by_cases e' : o = H.length
  ·subst e'
   simp [yH.upd] at h2; simp at h3
   subst h2 h3
   exact hb b h4
  ·rw [yH.upd_ne e'] at h2
   exact absurd (h.dom o p' h2) (by omega)⟩
 hr := h.new hz.le hs hx hb
end
def OpS (P : Program) (o : Oper) (ev : Operand → V) (H : List Ob) : Eff → Prop
 | .bad => True
 | .mk q ok v H' => ∀ ρ Z w a, HR ρ Z H w → (∀ x ∈ o.op.operands, Cn ρ Z w (ev x) (a.eval x)) → okP ok →
   ∀ K Q, (∀ ρ' Z' w' x, Post q ρ Z H w ρ' Z' H' w' → Cn ρ' Z' w' v x → K (a.put o.dst x) w') → o.wp P a w K Q
theorem yL {P : Program} {o : Oper} {ev : Operand → V} {H : List Ob} {q : Nat} {ok : Option Prop} {v : V}
  (h : ∀ ρ Z w (a : Act), HR ρ Z H w → (∀ x ∈ o.op.operands, Cn ρ Z w (ev x) (a.eval x)) → okP ok → ∃ x, (execOp a.eval o).run P w = .ok (.value x) w ∧ Cn ρ Z w v x) :
  OpS P o ev H (.mk q ok v H) := by
 intro ρ Z w a hr hx hok K Q hK
 obtain ⟨x, h1, h2⟩ := h ρ Z w a hr hx hok
 unfold Oper.wp
 rw [h1]
 exact hK ρ Z w x (hr.post q) h2
end Go.Proofs.YtkdidadegedmiaaGreat
namespace Go.Proofs.YtkdidadegedmiaaGreat
open Go.RowKit
section
variable {P : Program} {ρ ρ' : yH} {Z Z' : Zs} {w w' : World} {H H' : List Ob} {o : Oper} {ev : Operand → V}
theorem zDf (b o j : Nat) : (⟨b, o, none⟩ : Addr).add j = ⟨b, o + j, none⟩ := by
 unfold Addr.add; split <;> simp_all
theorem zZL {t : TypeId} {d : TypeDesc} (h : P.underlying t = some d) : ∃ i, P.info? t = some i := by
 unfold Program.underlying at h
 cases e : P.info? t with
 | none => rw [e] at h; cases h
 | some i => exact ⟨i, rfl⟩
theorem zcC {t : TypeId} {d : TypeDesc} (h : P.underlying t = some d) (w : World) : (sizeOf t).run P w = .ok (vD P t) w := by
 obtain ⟨i, hi⟩ := zZL h
 simp only [sizeOf, typeInfo, program, Sem.run_bind, Sem.run, Result.andThen_ok, hi, Sem.run_pure, vD]
theorem zWN {t : TypeId} {q : Bool} (h : zqD P t = some q) : ∃ d, P.underlying t = some d ∧ (∀ w, (isAgg t).run P w = .ok q w) := by
 unfold zqD at h
 cases e : P.underlying t with
 | none => rw [e] at h; cases h
 | some d =>
  rw [e] at h
  refine ⟨d, rfl, fun w => ?_⟩
  unfold isAgg
  rw [Sem.run_bind, run_underlying e]
  simp only [Result.andThen_ok]
  cases d <;> simp_all <;> subst h <;> rfl
theorem zSE {q : Nat} : ∀ (s : OT) (x : El s.ty), (encB q s x).length = zO s.ty
 | .d t, x => yB t x
 | .o _, _ => rfl
 | .pr a b, x => by simp only [encB, List.length_append, zSE a, zSE b, zO]
def Mem (ρ : yH) (Z : Zs) (w : World) (cs : List V) (b base : Nat) : Prop :=
 ∀ (j : Nat) (u : V), cs[j]? = some u → ∃ y, w.cell? ⟨b, base + j, none⟩ = some y ∧ Cn ρ Z w u y
theorem zmY {α : Type} {n : Nat} {p : Nat → α → Prop} (h : ∀ j, j < n → ∃ y, p j y) : ∃ l : List α, l.length = n ∧ ∀ j y, l[j]? = some y → p j y := by
 induction n with
 | zero => exact ⟨[], rfl, by intro j y h; simp at h⟩
 | succ n ih =>
  obtain ⟨l, h1, h2⟩ := ih fun j hj => h j (by omega)
  obtain ⟨y, hy⟩ := h n (by omega)
  refine ⟨l ++ [y], by simp [h1], fun j z hz => ?_⟩
  by_cases hj : j < n
  ·rw [List.getElem?_append_left (by omega)] at hz; exact h2 j z hz
  ·have hl : j < (l ++ [y]).length := (List.getElem?_eq_some_iff.1 hz).1
   simp [h1] at hl
   obtain rfl : j = n := by omega
   rw [List.getElem?_append_right (by omega)] at hz
   simp [h1] at hz
   subst hz; exact hy
theorem zbD {t : TypeId} {cs : List V} {off : Nat} {v : V} {b base : Nat} (hm : Mem ρ Z w cs b base) (h : zKr P t cs off = some v) :
  ∃ x, (loadVar t ⟨b, base + off, none⟩).run P w = .ok x w ∧ Cn ρ Z w v x := by
 unfold zKr at h
 cases ha : zqD P t with
 | none => rw [ha] at h; cases h
 | some q =>
  obtain ⟨d, hd, hq⟩ := zWN ha
  rw [ha] at h
  unfold loadVar
  rw [Sem.run_bind, hq]
  simp only [Result.andThen_ok]
  cases q with
  | true =>
   simp only [if_true]
   rw [Sem.run_bind, zcC hd]
   simp only [Result.andThen_ok]
   simp only at h
   split at h
   ·rename_i hle
    cases h
    rw [Sem.run_bind]
    obtain ⟨l, h1, h2⟩ := zmY (n := vD P t) (p := fun j y => ∃ u, cs[off + j]? = some u ∧ w.cell? ⟨b, base + off + j, none⟩ = some y ∧ Cn ρ Z w u y) (by
     intro j hj
     obtain ⟨y, hy⟩ := hm (off + j) cs[off + j] (List.getElem?_eq_getElem (by omega))
     exact ⟨y, _, List.getElem?_eq_getElem (by omega), by rw [Nat.add_assoc]; exact hy.1, hy.2⟩)
    have hr := run_loadCells_list (P := P) (w := w) ⟨b, base + off, none⟩ l (fun j v hv => by
     obtain ⟨u, _, g, _⟩ := h2 j v hv
     rw [zDf]; exact g)
    rw [h1] at hr
    rw [hr]
    refine ⟨_, rfl, ?_⟩
    refine .agg (by simp [h1]; omega) fun i u y hu hy => ?_
    obtain ⟨u', g1, _, g2⟩ := h2 i y hy
    have hi : i < vD P t := by rw [← h1]; exact (List.getElem?_eq_some_iff.1 hy).1
    rw [List.getElem?_take, if_pos hi, List.getElem?_drop] at hu
    rw [g1] at hu; cases hu; exact g2
   ·cases h
  | false =>
   simp only at h
   obtain ⟨y, h1, h2⟩ := hm off v h
   refine ⟨y, ?_, h2⟩
   simp [load, Sem.run, h1]
theorem zQc {t : TypeId} {cs : List V} {off : Nat} {v : V} {xs : Array Value} (hl : xs.size = cs.length) (hm : ∀ (j : Nat) (u : V) (y : Value), cs[j]? = some u → xs[j]? = some y → Cn ρ Z w u y) (h : zKr P t cs off = some v) :
  ∃ x, (part t xs off).run P w = .ok x w ∧ Cn ρ Z w v x := by
 unfold zKr at h
 cases ha : zqD P t with
 | none => rw [ha] at h; cases h
 | some q =>
  obtain ⟨d, hd, hq⟩ := zWN ha
  rw [ha] at h
  unfold part
  rw [Sem.run_bind, hq]
  simp only [Result.andThen_ok]
  cases q with
  | true =>
   simp only [if_true]
   rw [Sem.run_bind, zcC hd]
   simp only [Result.andThen_ok]
   simp only at h
   split at h
   ·rename_i hle
    cases h
    refine ⟨_, rfl, ?_⟩
    have e : xs.extract off (off + vD P t) = ((xs.toList.drop off).take (vD P t)).toArray := by
     apply Array.toList_inj.1
     simp [List.take_drop]
    rw [e]
    refine .agg (by simp [hl]) fun i u y hu hy => ?_
    rw [List.getElem?_take] at hu hy
    split at hu
    ·rename_i hi
     rw [if_pos hi, List.getElem?_drop] at hy
     rw [List.getElem?_drop] at hu
     exact hm _ u y hu (by simpa using hy)
    ·cases hu
   ·cases h
  | false =>
   simp only at h
   have hlt : off < xs.size := by rw [hl]; exact (List.getElem?_eq_some_iff.1 h).1
   have hx : xs[off]? = some xs[off] := by simp [hlt]
   simp only [hx, Bool.false_eq_true, if_false]
   exact ⟨_, rfl, hm off v _ h hx⟩
theorem zdp {t : Ty} {l : List (El t)} {i : Int} (h : 0 ≤ i ∧ i < l.length) : l[i.toNat]? = some (zB t l i) := by
 have : i.toNat < l.length := by omega
 unfold zB
 rw [List.getElem?_eq_getElem this]
 congr 1
 simp [List.getD, this]
theorem xR {cur : Array Value} {k i j : Nat} (hj : j < k) : (zu cur k i)[j]? = cur[i * k + j]? := by
 unfold zu
 rw [List.getElem?_take, if_pos hj, List.getElem?_drop, Array.getElem?_toList]
theorem zQt {cur : Array Value} {k c i n : Nat} (hi : i < n) (hn : n ≤ c) (hs : c * k ≤ cur.size) : (zu cur k i).length = k := by
 have : (i + 1) * k ≤ c * k := Nat.mul_le_mul_right _ (by omega)
 rw [Nat.succ_mul] at this
 simp only [zu, List.length_take, List.length_drop, Array.length_toList]; omega
theorem zI3.ext {α : Type} {t : Ty} {T : α → List Value → (Nat → Prop) → Prop} {l : List α} {l' : List (El t)} {v : Value} {fp : Nat → Prop} {b : Nat} {q : Nat} (h : zI3 (zO t) (lim t) T Z w l v fp b) (hl : l'.length = l.length)
  (hq : Qk ρ q) (hb : ∀ b, fp b → Bk ρ Z' q b) (hT : ∀ (i : Nat) (x : α) (x' : El t) (vs : List Value) (f : Nat → Prop), l[i]? = some x → l'[i]? = some x' → (∀ b, f b → fp b) → T x vs f → ∀ (j : Nat) (u : V) (y : Value), (enc q t x')[j]? = some u → vs[j]? = some y → Cn ρ Z' w u y) :
  Cn ρ Z' w (.ext q t l') v := by
 rcases h with ⟨⟨a, rfl⟩, rfl, _⟩ | ⟨cur, e, c, fs, h⟩
 ·obtain rfl : l' = [] := List.eq_nil_of_length_eq_zero hl
  exact .emp hq (Nat.zero_le _) (fun _ => rfl)
 ·rw [h.hv, ← hl]
  refine .ext (b := b) (o := 0) (fun i j => cur.getD (i * zO t + j) undef) hq (by rw [hl]; exact h.hl) (by rw [hl]; exact h.hc) h.hm (by simp) (.inr ⟨rfl, hb b ((h.hf b).2 (.inl rfl))⟩) (fun i j hi hj => ?_) (fun i x j u hx hu => ?_)
  ·have hk := zQt (cur := cur) (i := i) (by omega) h.hc h.hs
   have : i * zO t + j < cur.size := by
    have : (i + 1) * zO t ≤ c * zO t := Nat.mul_le_mul_right _ (by have := h.hc; omega)
    rw [Nat.succ_mul] at this; have := h.hs; omega
   simp [World.cell?, h.hw, this]
  ·have hj : j < zO t := by rw [← yB (q := q) t x]; exact (List.getElem?_eq_some_iff.1 hu).1
   have hi : i < l.length := by rw [← hl]; exact (List.getElem?_eq_some_iff.1 hx).1
   have ht := h.ht i _ (List.getElem?_eq_getElem hi)
   have hk := zQt (cur := cur) (i := i) hi h.hc h.hs
   have hlt : j < (zu cur (zO t) i).length := by omega
   have hy : (zu cur (zO t) i)[j]? = some (zu cur (zO t) i)[j] := List.getElem?_eq_getElem hlt
   have := hT i _ x _ _ (List.getElem?_eq_getElem hi) hx (fun b' hb' => (h.hf b').2 (.inr ⟨i, hi, hb'⟩)) ht j u _ hu hy
   rw [xR hj] at hy
   rwa [Array.getD_eq_getD_getElem?, hy]
theorem TrO.enc {q : Nat} (hq : Qk ρ q) (hz : ∀ k b, Z k b → Z' k b) : ∀ {s : OT} {x : El s.ty} {vs : List Value} {fp : Nat → Prop}, TrO Z w s x vs fp → (∀ b, fp b → Bk ρ Z' q b) → ∀ (j : Nat) (u : V) (y : Value), (enc q s.ty x)[j]? = some u → vs[j]? = some y → Cn ρ Z' w u y
 | .d t, x, vs, fp, h, hb, j, u, y, hu, hy => by
  have hj : j < zO t := by rw [← yB (q := q) t x]; exact (List.getElem?_eq_some_iff.1 hu).1
  have h0 : (Go.Proofs.YtkdidadegedmiaaGreat.enc 0 t x)[j]? = some ((Go.Proofs.YtkdidadegedmiaaGreat.enc 0 t x)[j]'(by rw [yB]; exact hj)) := List.getElem?_eq_getElem _
  exact (Cn.tag (ρ' := ρ) (Z' := Z') (q' := q) hq (fun b hb => .inl (hz _ _ hb.zero)) (fun _ _ => rfl) t x j _ u y h0 hu (h.2.2 j _ y h0 hy))
 | .o s, l, vs, fp, h, hb, j, u, y, hu, hy => by
  obtain ⟨v, b, rfl, h⟩ := h
  cases j with
  | succ j => simp at hy
  | zero =>
   simp at hy; subst hy
   simp only [Go.Proofs.YtkdidadegedmiaaGreat.enc, List.getElem?_cons_zero, Option.some.injEq] at hu
   subst hu
   exact zI3.ext (t := s.ty) h rfl hq hb fun i x x' vs f hx hx' hf ht j u y => by
    rw [hx] at hx'; cases hx'
    exact TrO.enc hq hz ht (fun b hb' => hb b (hf b hb')) j u y
 | .pr a b, x, vs, fp, h, hb, j, u, y, hu, hy => by
  obtain ⟨f, g, h1, h2, h3, _⟩ := h
  simp only [Go.Proofs.YtkdidadegedmiaaGreat.enc] at hu
  by_cases hj : j < zO a.ty
  ·rw [List.getElem?_append_left (by rw [yB]; exact hj)] at hu
   exact TrO.enc hq hz h1 (fun b hb' => hb b ((h3 b).2 (.inl hb'))) j u y hu (by rw [List.getElem?_take, if_pos hj]; exact hy)
  ·rw [List.getElem?_append_right (by rw [yB]; omega), yB] at hu
   exact TrO.enc hq hz h2 (fun b hb' => hb b ((h3 b).2 (.inr hb'))) _ u y hu (by rw [List.getElem?_drop, ← hy]; congr 1; omega)
theorem TrO.encB {q : Nat} (hq : Qk ρ q) : ∀ {s : OT} {x : El s.ty} {vs : List Value} {fp : Nat → Prop}, TrO Z w s x vs fp → (∀ b, fp b → Bk ρ Z q b) → ∀ (j : Nat) (u : V) (y : Value), (encB q s x)[j]? = some u → vs[j]? = some y → Cn ρ Z w u y
 | .d t, x, vs, fp, h, hb, j, u, y, hu, hy => (h.2.2 j u y hu hy).clF (zFQ t x u (List.mem_of_getElem? hu)) (fun _ h => h) (fun _ _ => rfl)
 | .o s, l, vs, fp, h, hb, j, u, y, hu, hy => TrO.enc (s := .o s) hq (fun _ _ h => h) h hb j u y hu hy
 | .pr a b, x, vs, fp, h, hb, j, u, y, hu, hy => by
  obtain ⟨f, g, h1, h2, h3, _⟩ := h
  simp only [Go.Proofs.YtkdidadegedmiaaGreat.encB] at hu
  have hlen : (Go.Proofs.YtkdidadegedmiaaGreat.encB q a x.1).length = zO a.ty := zSE a x.1
  by_cases hj : j < zO a.ty
  ·rw [List.getElem?_append_left (by omega)] at hu
   exact TrO.encB hq h1 (fun b hb' => hb b ((h3 b).2 (.inl hb'))) j u y hu (by rw [List.getElem?_take, if_pos hj]; exact hy)
  ·rw [List.getElem?_append_right (by omega), hlen] at hu
   exact TrO.encB hq h2 (fun b hb' => hb b ((h3 b).2 (.inr hb'))) _ u y hu (by rw [List.getElem?_drop, ← hy]; congr 1; omega)
theorem zQC {v : V} {x : Value} {cs : List V} {off : Nat} (hr : HR ρ Z H w) (h : Cn ρ Z w v x) (hc : zGQ H v = some (cs, off)) :
  ∃ b base, x = .pointer (some ⟨b, base + off, none⟩) ∧ Mem ρ Z w cs b base := by
 cases h with
 | ptr h =>
  rename_i o off' p
  simp only [zGQ] at hc
  cases e : H[o]? with
  | none => rw [e] at hc; cases hc
  | some y =>
   rw [e] at hc
   cases y with
   | box cells =>
    cases hc
    obtain ⟨_, _, xs, e', h2, h3, h4⟩ := hr.ob o p _ h e
    refine ⟨p.b, p.off, rfl, fun j u hu => ?_⟩
    have hj : p.off + j < xs.size := by have := (List.getElem?_eq_some_iff.1 hu).1; omega
    exact ⟨xs[p.off + j], by simp [World.cell?, h2, hj], h4 j u _ hu (by simp [hj])⟩
   | _ => cases hc
 | bx h0 h1 h2 h3 =>
  cases hc
  rename_i b base e xs
  refine ⟨b, base, rfl, fun j u hu => ?_⟩
  have hj : base + j < xs.size := by have := (List.getElem?_eq_some_iff.1 hu).1; omega
  exact ⟨xs[base + j], by simp [World.cell?, h1, hj], h3 j u _ hu (by simp [hj])⟩
 | ept ys hq h0 h4 h5 h6 =>
  cases hc
  rename_i q t l b o i
  refine ⟨b, o + i.toNat * zO t, rfl, fun j u hu => ?_⟩
  have hj : j < zO t := by rw [← yB (q := q) t (zB t l i)]; exact (List.getElem?_eq_some_iff.1 hu).1
  exact ⟨_, h5 i.toNat j (by omega) hj, h6 i.toNat _ j u (zdp h0) hu⟩
 | opt h hx h0 =>
  rename_i s o off' n c i p
  simp only [zGQ] at hc
  cases e : H[o]? with
  | none => rw [e] at hc; cases hc
  | some y =>
   rw [e] at hc
   cases y with
   | arr s' l =>
    simp only at hc
    cases et : OT.eq? s' s with
    | none => rw [et] at hc; cases hc
    | some ht =>
     rw [et] at hc
     obtain rfl := ht.down
     rw [zIr] at hc
     cases hc
     rcases hr.ob o p _ h e with ⟨⟨ad, h1⟩, _⟩ | ⟨cur, e', c', fs, g⟩
     ·rw [hx] at h1; cases h1; omega
     ·have h3 := g.hv
      rw [hx] at h3; cases h3
      refine ⟨p.b, i.toNat * zO s'.ty, rfl, fun j u hu => ?_⟩
      have hj : j < zO s'.ty := by rw [← zSE (q := o + 1) s' (zB s'.ty l i)]; exact (List.getElem?_eq_some_iff.1 hu).1
      have hk := zQt (cur := cur) (i := i.toNat) (n := l.length) (k := zO s'.ty) (by omega) g.hc g.hs
      have hy : (zu cur (zO s'.ty) i.toNat)[j]? = some (zu cur (zO s'.ty) i.toNat)[j] := List.getElem?_eq_getElem (by omega)
      have hb : ∀ b, fs i.toNat b → Bk ρ Z (o + 1) b := fun b hb => .inr ⟨o, p, rfl, h, (g.hf b).2 (.inr ⟨i.toNat, by omega, hb⟩)⟩
      refine ⟨_, ?_, (g.ht i.toNat _ (zdp h0)).encB (fun o1 e1 => by cases e1; exact ⟨p, h⟩) hb j u _ hu hy⟩
      rw [xR hj] at hy
      simp [World.cell?, g.hw, hy]
   | _ => cases hc
 | _ => cases hc
theorem zpz {x : Operand} (ho : o.op = .move x ∨ o.op = .assign x) : OpS P o ev H (.mk 0 none (ev x) H) :=
 yL fun ρ Z w a hr hx _ => ⟨a.eval x, by rcases ho with ho | ho <;> simp only [execOp, ho] <;> rfl, by rcases ho with ho | ho <;> exact hx x (by simp [ho, Op.operands])⟩
theorem ztf {t : TypeId} {x : Operand} (ho : o.op = .load t x) {cs : List V} {off : Nat} {v : V} (h1 : zGQ H (ev x) = some (cs, off)) (h2 : zKr P t cs off = some v) : OpS P o ev H (.mk 1 none v H) :=
 yL fun ρ Z w a hr hx _ => by
  obtain ⟨b, base, e, hm⟩ := zQC hr (hx x (by simp [ho, Op.operands])) h1
  obtain ⟨y, g1, g2⟩ := zbD hm h2
  refine ⟨y, ?_, g2⟩
  simp only [execOp, ho, Instr.loadAt, e, Instr.sureAddr, Sem.run_bind, Sem.run_pure, Result.andThen_ok, g1]
end
end Go.Proofs.YtkdidadegedmiaaGreat
namespace Go.Proofs.YtkdidadegedmiaaGreat
open Go.RowKit
theorem zgu {x : Value} (h : okL x) : okC x := by cases x <;> first | exact h | exact h.elim
theorem zhE (k : IntKind) (n : Int) : k.wrap n = n ↔ (if k.signed then -(2 ^ (k.bits - 1)) ≤ n ∧ n < 2 ^ (k.bits - 1) else 0 ≤ n ∧ n < 2 ^ k.bits) := by
 cases k <;> simp [IntKind.wrap, IntKind.signed, IntKind.bits] <;> omega
theorem zEp (k : IntKind) (n : Int) : k.wrap (k.wrap n) = k.wrap n := by
 rw [zhE]
 cases k <;> simp [IntKind.wrap, IntKind.signed, IntKind.bits] <;> omega
theorem zlN (k : IntKind) {a b : Int} (h : k.wrap a = a) (h1 : 0 ≤ a → 0 ≤ b ∧ b ≤ a) (h2 : a < 0 → a ≤ b ∧ b ≤ 0) : k.wrap b = b := by
 rw [zhE] at h ⊢
 have hp : (0 : Int) < 2 ^ (k.bits - 1) := Int.pow_pos (by decide)
 by_cases hs : k.signed = true
 ·rw [if_pos hs] at h ⊢
  rcases Int.lt_or_le a 0 with h0 | h0
  ·have := h2 h0; omega
  ·have := h1 h0; omega
 ·rw [if_neg hs] at h ⊢
  have := h1 h.1; omega
theorem zoA (k : IntKind) (a b : Int) (h : k.wrap a = a) : k.wrap (a.tmod b) = a.tmod b := by
 have e : (a.tmod b).natAbs ≤ a.natAbs := by rw [Int.natAbs_tmod]; exact Nat.mod_le _ _
 refine zlN k h (fun h0 => ?_) (fun h0 => ?_)
 ·have := Int.tmod_nonneg b h0; omega
 ·have h3 : a.tmod b = -((-a).tmod b) := by rw [Int.neg_tmod]; simp
  have := Int.tmod_nonneg b (show 0 ≤ -a by omega)
  omega
theorem zoO (k : IntKind) (a : Int) (n : Nat) (h : k.wrap a = a) : k.wrap (a.fdiv (2 ^ n)) = a.fdiv (2 ^ n) := by
 have hp : (0 : Int) < 2 ^ n := Int.pow_pos (by decide)
 have e : a.fdiv (2 ^ n) = a / 2 ^ n := Int.fdiv_eq_ediv_of_nonneg _ (Int.le_of_lt hp)
 rw [e]
 refine zlN k h (fun h0 => ⟨Int.ediv_nonneg h0 (Int.le_of_lt hp), Int.ediv_le_self _ h0⟩) (fun h0 => ⟨?_, Int.le_of_lt (Int.ediv_neg_of_neg_of_pos h0 hp)⟩)
 rw [Int.le_ediv_iff_mul_le hp]
 have h3 : (1 : Int) ≤ 2 ^ n := hp
 have := Int.mul_le_mul_of_nonpos_left (Int.le_of_lt h0) h3
 omega
section
variable {P : Program} {ρ ρ' : yH} {Z Z' : Zs} {w w' : World} {H H' : List Ob} {o : Oper} {ev : Operand → V}
theorem zuD {g : Gv} {x : Operand} (ho : o.op = .nilCheck x) {v : V} (h : xT P g ev H (.nilCheck x) = .mk 0 none v H) : OpS P o ev H (.mk 0 none v H) :=
 yL fun ρ Z w a hr hx _ => by
  have hx := hx x (by simp [ho, Op.operands])
  simp only [xT] at h
  have key : v = ev x ∧ ∃ b, a.eval x = .pointer (some b) := by
   revert h
   cases e : ev x with
   | ptr o off => intro h; cases h; rw [e] at hx; generalize a.eval x = y at hx; cases hx; exact ⟨rfl, _, rfl⟩
   | bx cs off => intro h; cases h; rw [e] at hx; generalize a.eval x = y at hx; cases hx; exact ⟨rfl, _, rfl⟩
   | ept q t l i off => intro h; cases h; rw [e] at hx; generalize a.eval x = y at hx; cases hx; exact ⟨rfl, _, rfl⟩
   | opt s o i off => intro h; cases h; rw [e] at hx; generalize a.eval x = y at hx; cases hx; exact ⟨rfl, _, rfl⟩
   | _ => intro h; cases h
  obtain ⟨rfl, b, hb⟩ := key
  refine ⟨a.eval x, ?_, hx⟩
  simp only [execOp, ho, hb]
  rfl
theorem zrx (op : BinOp) (t : TypeId) (x y : Operand) (k k' : IntKind) (a b : Int) : eqGuard op t x y (.int k a) (.int k' b) = pure () := by
 unfold eqGuard; cases op <;> rfl
theorem zrW (op : BinOp) (t : TypeId) (x y : Operand) (a b : ByteArray) : eqGuard op t x y (.string a) (.string b) = pure () := by
 unfold eqGuard; cases op <;> rfl
theorem zoH : ∀ (n d : Nat) (t : TypeId) (u v : V) (b : Bool), n ≤ d → eqT P n t u v = some b → ∀ {x y : Value}, Cn ρ Z w u x → Cn ρ Z w v y → (Op.equalIn d t x y).run P w = .ok b w ∧
  ∀ op, (op = .eql ∨ op = .neq) → d = 10000 → (binOp op t x y).run P w = .ok (.bool (if op = .eql then b else !b)) w := by
 have agg : ∀ {v : V} {x : Value} {vs : List V}, Cn ρ Z w v x → zlk v = some vs → ∃ xs : Array Value, x = .agg xs ∧ xs.size = vs.length ∧ ∀ (j : Nat) (u : V) (y : Value), vs[j]? = some u → xs[j]? = some y → Cn ρ Z w u y := by
  intro v x vs h hv
  unfold zlk at hv
  split at hv
  ·cases hv
   cases h with
   | agg h0 h => rename_i xs; exact ⟨xs.toArray, rfl, by simpa using h0, fun j u y hu hy => h j u y hu (by simpa using hy)⟩
  ·cases hv
   rename_i cs
   rw [x8 h]
   refine ⟨cs, rfl, by simp, fun j u y hu hy => ?_⟩
   simp only [List.getElem?_map, Array.getElem?_toList, Option.map_eq_some_iff] at hu
   obtain ⟨z, g1, rfl⟩ := hu
   rw [hy] at g1; cases g1
   exact .c _ (zgu ((show ∀ c ∈ cs.toList, okL c from zKF h) _ (Array.mem_toList_iff.2 (Array.mem_of_getElem? hy))))
  ·cases hv
 intro n
 induction n with
 | zero => intro d t u v b _ h; cases h
 | succ n ih =>
  intro d t u v b hd h x y hx hy
  obtain ⟨d, rfl⟩ : ∃ e, d = e + 1 := ⟨d - 1, by omega⟩
  simp only [eqT] at h
  split at h
  ·rename_i hu
   split at h
   ·rename_i a c
    cases h
    rw [x8 hx, x8 hy]
    refine ⟨run_equalIn_bool' w d t _ _ hu, fun op hop hd => ?_⟩
    have k := run_equalIn_bool' (P := P) w d t a c hu
    rcases hop with rfl | rfl <;> simp [binOp, Op.equal, Op.maxDepth, ← hd, k]
   ·cases h
  ·rename_i hu
   split at h
   ·rename_i k a k' c
    split at h
    ·rename_i e
     subst e
     cases h
     rw [x8 hx, x8 hy]
     refine ⟨run_equalIn_int w d t _ _ _ _ hu, fun op hop hd => ?_⟩
     rcases hop with rfl | rfl <;> simp [binOp, Op.intCmp] <;> rfl
    ·cases h
   ·cases h
  ·rename_i hu
   split at h
   ·rename_i a c
    cases h
    rw [x8 hx, x8 hy]
    refine ⟨run_equalIn_string w d t _ _ hu, fun op hop hd => ?_⟩
    rcases hop with rfl | rfl <;> simp [binOp, Op.stringOp] <;> rfl
   ·cases h
  ·rename_i fs hu
   split at h
   ·cases h
   ·rename_i hst
    have hst : P.stoodInHeld t = false := by simpa using hst
    split at h
    ·rename_i vs us e1 e2
     obtain ⟨xs, rfl, g1, g2⟩ := agg hx e1
     obtain ⟨ys, rfl, g3, g4⟩ := agg hy e2
     have hfs : P.fieldsOf t = fs := by simp only [Program.fieldsOf, hu]
     have main : (Op.equalIn (d + 1) t (.agg xs) (.agg ys)).run P w = .ok b w := by
      rw [run_equalIn_agg w d t xs ys (by rw [hfs]; exact hu) hst, hfs]
      generalize fs.toList = l at h
      clear hu hfs
      induction l generalizing b with
      | nil => cases h; rfl
      | cons f l ihl =>
       simp only [ztx] at h
       split at h
       ·cases h
       ·rename_i hn
        split at h
        ·rename_i a c e3 e4
         cases h
         split at e3
         ·rename_i p q e5 e6
          obtain ⟨z1, k1, k2⟩ := zQc (P := P) g1 g2 e5
          obtain ⟨z2, k3, k4⟩ := zQc (P := P) g3 g4 e6
          have k5 := (ih d f.type p q a (by omega) e3 k2 k4).1
          have hn' : f.name ≠ "_" := hn
          simp only [Op.eqFields, if_pos hn', Sem.run_bind, k1, k3, k5, Result.andThen_ok]
          cases a with
          | false => simp [Sem.run_pure]
          | true =>
           simp only [Bool.not_true, Bool.false_eq_true, if_false, Bool.true_and]
           exact ihl c e4
         ·cases e3
        ·cases h
     refine ⟨main, fun op hop hd => ?_⟩
     rcases hop with rfl | rfl
     ·rw [run_eql_struct, ← hd, main]; rfl
     ·rw [run_neq_struct, ← hd, main]; rfl
    ·cases h
  ·cases h
theorem zpT {n : Nat} {t : TypeId} {u v : V} {b : Bool} (h : eqT P (n + 1) t u v = some b) {x y : Value} (hx : Cn ρ Z w u x) (hy : Cn ρ Z w v y) : (∃ a, x = .bool a) ∨ (∃ k a, x = .int k a) ∨ (∃ a, x = .string a) ∨ (∃ a c, x = .agg a ∧ y = .agg c) := by
 simp only [eqT] at h
 split at h
 ·split at h
  ·exact .inl ⟨_, x8 hx⟩
  ·cases h
 ·split at h
  ·exact .inr (.inl ⟨_, _, x8 hx⟩)
  ·cases h
 ·split at h
  ·exact .inr (.inr (.inl ⟨_, x8 hx⟩))
  ·cases h
 ·split at h
  ·cases h
  ·split at h
   ·rename_i e1 e2
    have agg : ∀ {v : V} {x : Value} {vs : List V}, Cn ρ Z w v x → zlk v = some vs → ∃ xs, x = .agg xs := by
     intro v x vs h hv
     unfold zlk at hv
     split at hv
     ·cases h; exact ⟨_, rfl⟩
     ·exact ⟨_, x8 h⟩
     ·cases hv
    obtain ⟨a, ha⟩ := agg hx e1
    obtain ⟨c, hc⟩ := agg hy e2
    exact .inr (.inr (.inr ⟨a, c, ha, hc⟩))
   ·cases h
 ·cases h
theorem zs2 {op : BinOp} {t : TypeId} (hm : P.eqGuardType P.depth t = false) (x y : Operand) {a b : Value} (h : (∃ c, a = .bool c) ∨ (∃ k c, a = .int k c) ∨ (∃ c, a = .string c) ∨ (∃ c d, a = .agg c ∧ b = .agg d)) : (eqGuard op t x y a b).run P w = .ok () w := by
 rcases h with ⟨c, rfl⟩ | ⟨k, c, rfl⟩ | ⟨c, rfl⟩ | ⟨c, d, rfl, rfl⟩
 ·cases op <;> simp [eqGuard]
 ·cases op <;> simp [eqGuard]
 ·cases op <;> simp [eqGuard]
 ·exact run_eqGuard_agg w op t x y c d hm
theorem zka {wr : Bool} {k : IntKind} {n : Int} {q : Nat} {ok : Option Prop} {v : V} (h : zeF wr k n H = .mk q ok v H') : H' = H ∧ q = 0 ∧ (okP ok → v = .c (.int k (k.wrap n))) := by
 unfold zeF at h
 split at h
 ·cases h; exact ⟨rfl, rfl, fun _ => rfl⟩
 ·cases h; exact ⟨rfl, rfl, fun h => by simp only [okP, InK] at h; rw [h]⟩
theorem ztn {wr : Bool} {op : BinOp} {k : IntKind} {m n : Int} {q : Nat} {ok : Option Prop} {v : V} (t : TypeId) (h : zU2 wr op k m n H = .mk q ok v H') (hm : k.wrap m = m) (hop : op ≠ .shl ∧ op ≠ .shr) :
  H' = H ∧ q = 0 ∧ (okP ok → ∃ z, (binOp op t (.int k m) (.int k n) : Sem Value) = pure z ∧ v = .c z ∧ okC z) := by
 cases op <;> simp only [zU2, zmf] at h
 case add => obtain ⟨rfl, rfl, g⟩ := zka h; exact ⟨rfl, rfl, fun hok => ⟨.int k (k.wrap _), by simp only [binOp, ne_eq, not_true_eq_false, if_false, Op.intArith], g hok, zEp k _⟩⟩
 case sub => obtain ⟨rfl, rfl, g⟩ := zka h; exact ⟨rfl, rfl, fun hok => ⟨.int k (k.wrap _), by simp only [binOp, ne_eq, not_true_eq_false, if_false, Op.intArith], g hok, zEp k _⟩⟩
 case mul => obtain ⟨rfl, rfl, g⟩ := zka h; exact ⟨rfl, rfl, fun hok => ⟨.int k (k.wrap _), by simp only [binOp, ne_eq, not_true_eq_false, if_false, Op.intArith], g hok, zEp k _⟩⟩
 case quo => cases h; refine ⟨rfl, rfl, fun hok => ?_⟩; simp only [okP, InK] at hok; exact ⟨_, by simp only [binOp, ne_eq, not_true_eq_false, if_false, Op.intDiv, hok.1, hok.2], rfl, hok.2⟩
 case rem => cases h; refine ⟨rfl, rfl, fun hok => ?_⟩; simp only [okP] at hok; exact ⟨_, by simp only [binOp, ne_eq, not_true_eq_false, if_false, Op.intDiv, hok], rfl, zoA k m n hm⟩
 case and => cases h; exact ⟨rfl, rfl, fun _ => ⟨.int k (zHW .and k m n), by simp only [binOp, ne_eq, not_true_eq_false, if_false, Op.intBits, zHW], rfl, zEp k _⟩⟩
 case or => cases h; exact ⟨rfl, rfl, fun _ => ⟨.int k (zHW .or k m n), by simp only [binOp, ne_eq, not_true_eq_false, if_false, Op.intBits, zHW], rfl, zEp k _⟩⟩
 case xor => cases h; exact ⟨rfl, rfl, fun _ => ⟨.int k (zHW .xor k m n), by simp only [binOp, ne_eq, not_true_eq_false, if_false, Op.intBits, zHW], rfl, zEp k _⟩⟩
 case shl => exact absurd rfl hop.1
 case shr => exact absurd rfl hop.2
 case andNot => cases h
 all_goals cases h; exact ⟨rfl, rfl, fun _ => ⟨_, by simp only [binOp, ne_eq, not_true_eq_false, if_false, Op.intCmp], rfl, trivial⟩⟩
theorem zsO {op : BinOp} {k k' : IntKind} {m n : Int} {q : Nat} {ok : Option Prop} {v : V} (t : TypeId) (h : shV op k m n H = .mk q ok v H') (hm : k.wrap m = m) :
  H' = H ∧ q = 0 ∧ (okP ok → ∃ z, (binOp op t (.int k m) (.int k' n) : Sem Value) = pure z ∧ v = .c z ∧ okC z) := by
 unfold shV at h
 split at h
 ·cases h; refine ⟨rfl, rfl, fun hok => ?_⟩; simp only [okP] at hok
  have : ¬ (n < 0) := by omega
  exact ⟨.int k (zHW .shl k m n), by simp only [binOp, Op.shift, this, if_false, zHW], rfl, zEp k _⟩
 ·cases h; refine ⟨rfl, rfl, fun hok => ?_⟩; simp only [okP] at hok
  have : ¬ (n < 0) := by omega
  exact ⟨.int k (zHW .shr k m n), by simp only [binOp, Op.shift, this, if_false, zHW], rfl, zoO k m _ hm⟩
 ·cases h
theorem zuo {wr : Bool} {op : BinOp} {t u : TypeId} {x y : Operand} (ho : o.op = .binOp op t x y u) {q : Nat} {ok : Option Prop} {v : V} (h : zTN P wr op t (ev x) (ev y) H = .mk q ok v H') : OpS P o ev H (.mk q ok v H') := by
  unfold zTN at h
  split at h
  · rename_i k m k' n e1 e2
    have fin : (∀ (hm : k.wrap m = m), H' = H ∧ q = 0 ∧ (okP ok → ∃ z, (binOp op t (.int k m) (.int k' n) : Sem Value) = pure z ∧ v = .c z ∧ okC z)) → OpS P o ev H (.mk q ok v H') := by
      intro key ρ Z w a hr hx hok K Q hK
      have h1 := hx x (by simp [ho, Op.operands])
      have h2 := hx y (by simp [ho, Op.operands])
      rw [e1] at h1; rw [e2] at h2
      have hk : k.wrap m = m := zKF h1
      obtain ⟨rfl, rfl, key2⟩ := key hk
      obtain ⟨z, k1, rfl, k2⟩ := key2 hok
      have hrun : (execOp a.eval o).run P w = .ok (.value z) w := by
        simp only [execOp, ho, x8 h1, x8 h2, zrx, k1, Sem.run_bind, Sem.run_pure, Result.andThen_ok]
      unfold Oper.wp
      rw [hrun]
      exact hK ρ Z w z (hr.post 0) (.c z k2)
    split at h
    · exact fin fun hm => zsO t h hm
    · exact fin fun hm => zsO t h hm
    · rename_i n1 n2
      split at h
      · rename_i hk
        subst hk
        exact fin fun hm => ztn t h hm ⟨fun e => n1 e, fun e => n2 e⟩
      · cases h
  · rename_i m n e1 e2
    have key : H' = H ∧ (okP ok → ∃ z, (binOp op t (.string m) (.string n) : Sem Value) = pure z ∧ v = .c z ∧ okC z) := by
      cases op <;> simp only [zhz] at h <;> cases h <;> refine ⟨rfl, fun hok => ?_⟩ <;> simp only [okP] at hok <;>
        first
          | (refine ⟨_, ?_, rfl, trivial⟩; simp only [binOp, Op.stringOp]; done)
          | (refine ⟨_, ?_, rfl, ?_⟩
             · have hk : ¬ (((m.size + n.size : Nat) : Int) > IntKind.i64.max) := by simp only [IntKind.max, IntKind.bits, IntKind.signed]; simp at hok ⊢; omega
               simp only [binOp, Op.stringOp, hk, if_false]
             · simp only [okC, okL, ByteArray.size_append]; omega)
    obtain ⟨rfl, key⟩ := key
    refine yL fun ρ Z w a hr hx hok => ?_
    have h1 := hx x (by simp [ho, Op.operands])
    have h2 := hx y (by simp [ho, Op.operands])
    rw [e1] at h1; rw [e2] at h2
    obtain ⟨z, k1, rfl, k2⟩ := key hok
    refine ⟨z, ?_, .c z k2⟩
    simp only [execOp, ho, x8 h1, x8 h2, zrW, k1, Sem.run_bind, Sem.run_pure, Result.andThen_ok]
  · unfold eqV at h
    split at h
    · cases h
    · rename_i hg
      have hg : P.eqGuardType P.depth t = false := by simpa using hg
      split at h
      · rename_i b e
        have fin : ∀ (ρ : yH) (Z : Zs) (w : World) (a : Act), (∀ z ∈ o.op.operands, Cn ρ Z w (ev z) (a.eval z)) → (eqGuard op t x y (a.eval x) (a.eval y)).run P w = .ok () w ∧ (Op.equal t (a.eval x) (a.eval y)).run P w = .ok b w ∧
            ∀ op', (op' = .eql ∨ op' = .neq) → (binOp op' t (a.eval x) (a.eval y)).run P w = .ok (.bool (if op' = .eql then b else !b)) w := by
          intro ρ Z w a hx
          have h1 := hx x (by simp [ho, Op.operands])
          have h2 := hx y (by simp [ho, Op.operands])
          obtain ⟨k1, k2⟩ := zoH 12 10000 t (ev x) (ev y) b (by decide) e h1 h2
          refine ⟨?_, k1, fun op' hop => k2 op' hop rfl⟩
          exact zs2 hg _ _ (zpT e h1 h2)
        split at h
        · cases h
          refine yL fun ρ Z w a hr hx hok => ?_
          obtain ⟨k1, _, k3⟩ := fin ρ Z w a hx
          refine ⟨.bool b, ?_, .c _ trivial⟩
          simp only [execOp, ho, Sem.run_bind, k1, Result.andThen_ok, k3 _ (.inl rfl), Sem.run_pure, if_true]
        · cases h
          refine yL fun ρ Z w a hr hx hok => ?_
          obtain ⟨k1, _, k3⟩ := fin ρ Z w a hx
          refine ⟨.bool !b, ?_, .c _ trivial⟩
          have := k3 _ (.inr rfl)
          simp only [show ¬ (BinOp.neq = BinOp.eql) by decide, if_false] at this
          simp only [execOp, ho, Sem.run_bind, k1, Result.andThen_ok, this, Sem.run_pure]
        · cases h
      · cases h
theorem zu2 {op : UnOp} {t : TypeId} {x : Operand} (ho : o.op = .unOp op t x) {q : Nat} {ok : Option Prop} {v : V} (h : unV op (ev x) H = .mk q ok v H') : OpS P o ev H (.mk q ok v H') := by
 unfold unV at h
 split at h
 ·rename_i b e1
  cases h
  refine yL fun ρ Z w a hr hx hok => ?_
  have h1 := hx x (by simp [ho, Op.operands])
  rw [e1] at h1
  refine ⟨_, ?_, .c _ trivial⟩
  simp only [execOp, ho, x8 h1, Op.unary, Sem.run_bind, Sem.run_pure, Result.andThen_ok]
 ·rename_i k n e1
  cases h
  refine yL fun ρ Z w a hr hx hok => ?_
  have h1 := hx x (by simp [ho, Op.operands])
  rw [e1] at h1
  simp only [okP, InK] at hok
  refine ⟨_, ?_, .c _ hok⟩
  simp only [execOp, ho, x8 h1, Op.unary, Op.intArith, Sem.run_bind, Sem.run_pure, Result.andThen_ok, hok]
 ·cases h
theorem ztp {s t : TypeId} {x : Operand} (ho : o.op = .convert s t x) {q : Nat} {ok : Option Prop} {v : V} (h : zUF P s t (ev x) H = .mk q ok v H') : OpS P o ev H (.mk q ok v H') := by
 unfold zUF at h
 split at h
 ·rename_i d n e1 e2 e3
  cases h
  refine yL fun ρ Z w a hr hx hok => ?_
  have h1 := hx x (by simp [ho, Op.operands])
  rw [e3] at h1
  have h1 : ∃ k, a.eval x = .int k n := by generalize a.eval x = z at h1; cases h1; exact ⟨_, rfl⟩
  obtain ⟨k, h1⟩ := h1
  simp only [okP, InK] at hok
  refine ⟨_, ?_, .c _ hok⟩
  simp only [execOp, ho, h1, convert, Sem.run_bind, run_underlying e1, run_underlying e2, Result.andThen_ok, Conv.intToInt, hok, Sem.run_pure]
 ·rename_i e0 k' k n e1 e2 e3 e4
  cases h
  refine yL fun ρ Z w a hr hx hok => ?_
  have h1 := hx x (by simp [ho, Op.operands])
  rw [e4] at h1
  have h1 : ∃ k, a.eval x = .int k n := by generalize a.eval x = z at h1; cases h1; exact ⟨_, rfl⟩
  obtain ⟨k, h1⟩ := h1
  refine ⟨_, ?_, .c _ (zEp _ _)⟩
  simp only [execOp, ho, h1, convert, Sem.run_bind, run_underlying e2, run_underlying e3, Result.andThen_ok, Conv.intToInt, Sem.run_pure]
 ·rename_i n e1 e2 e3
  cases h
  refine yL fun ρ Z w a hr hx hok => ?_
  have h1 := hx x (by simp [ho, Op.operands])
  rw [e3] at h1
  have h2 := zKF h1
  have h1 : a.eval x = .string n := x8 h1
  refine ⟨_, ?_, .c _ h2⟩
  simp only [execOp, ho, h1, convert, Sem.run_bind, run_underlying e1, run_underlying e2, Result.andThen_ok, Sem.run_pure]
 ·cases h
theorem zOJ {t u : TypeId} {f off : Nat} (h : zKK P t f = some (off, u)) : ∃ fs fd, P.underlying t = some (.struct fs) ∧ fs[f]? = some fd ∧ fd.offset = off ∧ fd.type = u := by
 unfold zKK at h
 cases e : P.underlying t with
 | none => rw [e] at h; cases h
 | some d =>
  rw [e] at h
  cases d with
  | struct fs =>
   simp only [Option.map_eq_some_iff] at h
   obtain ⟨fd, h1, h2⟩ := h
   cases h2
   exact ⟨fs, fd, rfl, by simpa using h1, rfl, rfl⟩
  | _ => cases h
theorem zrR {t u : TypeId} {x : Operand} {f off : Nat} (ho : o.op = .field t x f) (h1 : zKK P t f = some (off, u)) {cs : List V} (h2 : ev x = .agg cs) {v : V} (h3 : zKr P u cs off = some v) : OpS P o ev H (.mk 0 none v H) := by
 obtain ⟨fs, fd, e1, e2, rfl, rfl⟩ := zOJ h1
 refine yL fun ρ Z w a hr hx hok => ?_
 have g := hx x (by simp [ho, Op.operands])
 rw [h2] at g
 generalize ea : a.eval x = z at g
 cases g with
 | agg g0 g =>
  rename_i xs
  obtain ⟨y, k1, k2⟩ := zQc (P := P) (ρ := ρ) (Z := Z) (w := w) (xs := xs.toArray) (by simpa using g0) (fun j u y hu hy => g j u y hu (by simpa using hy)) h3
  refine ⟨y, ?_, k2⟩
  simp only [execOp, ho, Instr.field, Sem.run_bind, run_underlying e1, Result.andThen_ok, e2, ea, asAgg, Sem.run_pure, k1]
theorem zhb {v u : V} {x : Value} {n : Nat} (h : Cn ρ Z w v x) (hm : zpO n v = some u) : ∃ b off, x = .pointer (some ⟨b, off, none⟩) ∧ Cn ρ Z w u (.pointer (some ⟨b, off + n, none⟩)) := by
 cases h with
 | ptr h => cases hm; exact ⟨_, _, rfl, by rw [Nat.add_assoc]; exact .ptr h⟩
 | bx h0 h1 h2 h3 => cases hm; exact ⟨_, _, rfl, by rw [Nat.add_assoc]; exact .bx h0 h1 h2 h3⟩
 | ept ys hq h0 h4 h5 h6 => cases hm; exact ⟨_, _, rfl, by rw [Nat.add_assoc]; exact .ept ys hq h0 h4 h5 h6⟩
 | opt h hx h0 => cases hm; exact ⟨_, _, rfl, by rw [Nat.add_assoc]; exact .opt h hx h0⟩
 | _ => cases hm
theorem zTF {t : TypeId} (h : vD P t ≠ 0) (w : World) : (sizeOf t).run P w = .ok (vD P t) w := by
 unfold vD at h ⊢
 cases e : P.info? t with
 | none => rw [e] at h; exact absurd rfl h
 | some i => simp only [sizeOf, typeInfo, program, Sem.run_bind, Sem.run, Result.andThen_ok, e, Sem.run_pure]
theorem zff {t u : TypeId} {x : Operand} {f off : Nat} (ho : o.op = .fieldAddr t x f) (h1 : zKK P t f = some (off, u)) (h2 : vD P u ≠ 0) {v : V} (h3 : zpO off (ev x) = some v) : OpS P o ev H (.mk 0 none v H) := by
 obtain ⟨fs, fd, e1, e2, rfl, rfl⟩ := zOJ h1
 refine yL fun ρ Z w a hr hx hok => ?_
 obtain ⟨b, off, ea, k⟩ := zhb (hx x (by simp [ho, Op.operands])) h3
 refine ⟨_, ?_, k⟩
 simp only [execOp, ho, Instr.fieldAt, Sem.run_bind, run_underlying e1, Result.andThen_ok, e2, ea, Instr.sureAddr, Sem.run_pure, fieldPlace, zTF h2, h2, if_false, zDf]
theorem zr8 {t : TypeId} {x y : Operand} (ho : o.op = .index t x y) {q : Nat} {ok : Option Prop} {v : V} (h : zhL P t (ev x) (ev y) H = .mk q ok v H') : OpS P o ev H (.mk q ok v H') := by
 unfold zhL at h
 split at h
 ·rename_i s i e1 e2 e3
  cases h
  refine yL fun ρ Z w a hr hx hok => ?_
  have h1 := hx x (by simp [ho, Op.operands])
  have h2 := hx y (by simp [ho, Op.operands])
  rw [e2] at h1; rw [e3] at h2
  have h1 : a.eval x = .string s := by generalize a.eval x = z at h1; cases h1; rfl
  have h2 : a.eval y = .int .i64 i := by generalize a.eval y = z at h2; cases h2; rfl
  refine ⟨_, ?_, .c _ (by simp only [okC, okL]; rw [IntKind.wrap_u8]; have := (bt s i).toNat_lt; omega)⟩
  have hlt : i.toNat < s.size := by simp only [okP] at hok; omega
  have hb : s[i.toNat]? = some (bt s i) := by
   have hlt' : i.toNat < s.data.size := hlt
   have : s[i.toNat]? = some s[i.toNat] := by simp [hlt]
   rw [this]
   congr 1
   simp only [bt, Array.getD_eq_getD_getElem?, Array.getElem?_eq_getElem hlt', Option.getD_some]
   rfl
  simp only [execOp, ho, h1, h2, Instr.index, asIntOf, Sem.run_bind, Sem.run_pure, Result.andThen_ok, run_underlying e1, hok.1, if_true, hb]
 ·cases h
theorem znk {x : Operand} {i : Nat} (ho : o.op = .extract x i) {vs : List V} (h1 : ev x = .tup vs) {v : V} (h2 : vs[i]? = some v) : OpS P o ev H (.mk 0 none v H) := by
 refine yL fun ρ Z w a hr hx hok => ?_
 have g := hx x (by simp [ho, Op.operands])
 rw [h1] at g
 generalize ea : a.eval x = z at g
 cases g with
 | tup g0 g =>
  rename_i xs
  have hlt : i < xs.length := by rw [g0]; exact (List.getElem?_eq_some_iff.1 h2).1
  have hy : xs[i]? = some xs[i] := List.getElem?_eq_getElem hlt
  refine ⟨xs[i], ?_, g i v _ h2 hy⟩
  have hy' : xs.toArray[i]? = some xs[i] := by simp
  simp only [execOp, ho, Instr.extract, ea, hy', Sem.run_bind, Sem.run_pure, Result.andThen_ok]
theorem zjO {f : Nat} {first caps : Array Operand} (ho : o.op = .makeFunc (.func f) first caps) (h : first.size = 0) : OpS P o ev H (.mk 0 none (.fn f (caps.toList.map ev)) H) := by
 refine yL fun ρ Z w a hr hx hok => ?_
 obtain rfl : first = #[] := Array.eq_empty_of_size_eq_zero h
 refine ⟨.func (.func f) #[] (caps.toList.map a.eval).toArray, ?_, .fn (by simp) fun i u y hu hy => ?_⟩
 ·simp only [execOp, ho, Instr.makeFunc, Sem.run_bind, Sem.run_pure, Result.andThen_ok]
  congr 3
  simp
  apply Array.toList_inj.1; simp
 ·simp only [List.getElem?_map, Option.map_eq_some_iff] at hu hy
  obtain ⟨c, h1, rfl⟩ := hu
  obtain ⟨d, h2, rfl⟩ := hy
  rw [h1] at h2; cases h2
  exact hx c (by simp only [ho, Op.operands]; simp; exact Array.mem_of_getElem? (by simpa using h1))
end
end Go.Proofs.YtkdidadegedmiaaGreat
namespace Go.Proofs.YtkdidadegedmiaaGreat
open Go.RowKit
section
variable {P : Program} {ρ ρ' : yH} {Z Z' : Zs} {w w' : World} {H H' : List Ob} {o : Oper} {ev : Operand → V}
theorem zHx {t : TypeId} {τ : Ty} (h : zO τ = vD P t) (w : World) : (sizeOf t).run P w = .ok (zO τ) w := by
 rw [h]; exact zTF (by rw [← h]; have := zAs τ; omega) w
theorem zln {t : TypeId} {x y : Operand} (ho : o.op = .indexAddr t x y) {q : Nat} {ok : Option Prop} {v : V} (h : zCR P t (ev x) (ev y) H = .mk q ok v H') : OpS P o ev H (.mk q ok v H') := by
 unfold zCR at h
 split at h
 ·rename_i e q' τ l i e1 e2 e3
  split at h
  ·rename_i hk
   cases h
   refine yL fun ρ Z w a hr hx hok => ?_
   have h1 := hx x (by simp [ho, Op.operands])
   have h2 := hx y (by simp [ho, Op.operands])
   rw [e2] at h1; rw [e3] at h2
   have h2 := x8 h2
   simp only [okP] at hok
   generalize ea : a.eval x = z at h1
   cases h1 with
   | ext ys hq g0 g1 g2 g3 g4 g5 g6 =>
    rename_i a' c b off
    rcases g4 with rfl | ⟨rfl, g4⟩
    ·simp at hok; omega
    ·refine ⟨_, ?_, .ept ys hq hok g4 g5 g6⟩
     simp only [execOp, ho, Instr.indexAt, ea, h2, asIntOf, Sem.run_bind, Sem.run_pure, Result.andThen_ok, run_underlying e1, hok, and_self, if_true, zHx hk, zDf, Nat.add_zero]
  ·cases h
 ·rename_i e o' i e1 e2 e3
  split at h
  ·rename_i s l e4
   split at h
   ·rename_i hk
    cases h
    refine yL fun ρ Z w a hr hx hok => ?_
    have h1 := hx x (by simp [ho, Op.operands])
    have h2 := hx y (by simp [ho, Op.operands])
    rw [e2] at h1; rw [e3] at h2
    have h2 := x8 h2
    simp only [okP] at hok
    obtain ⟨p, g, ea⟩ := h1.obj_inv
    ·skip
     rcases hr.ob o' p _ g e4 with ⟨k1, rfl, _⟩ | ⟨cur, e', c, fs, kk⟩
     ·simp at hok; omega
     ·have k3 := kk.hv
      refine ⟨_, ?_, .opt g k3 hok⟩
      simp only [execOp, ho, Instr.indexAt, ea, k3, h2, asIntOf, Sem.run_bind, Sem.run_pure, Result.andThen_ok, run_underlying e1, hok, and_self, if_true, zHx hk, zDf, Nat.add_zero, Nat.zero_add]
   ·cases h
  ·rename_i τ l e4
   split at h
   ·rename_i hk
    cases h
    refine yL fun ρ Z w a hr hx hok => ?_
    have h1 := hx x (by simp [ho, Op.operands])
    have h2 := hx y (by simp [ho, Op.operands])
    rw [e2] at h1; rw [e3] at h2
    have h2 := x8 h2
    simp only [okP] at hok
    obtain ⟨p, g, ea⟩ := h1.obj_inv
    ·skip
     have h1 : Cn zAX Z w (.ext 0 τ l) p.x := (hr.ob o' p _ g e4).1
     generalize eb : p.x = z at h1 ea
     cases h1 with
     | ext ys hq g0 g1 g2 g3 g4 g5 g6 =>
      rename_i a' c b off
      rcases g4 with rfl | ⟨rfl, g4⟩
      ·simp at hok; omega
      ·refine ⟨_, ?_, .ept ys .zero hok (.inl g4.zero) g5 fun i x j u hx hu => (g6 i x j u hx hu).clF (zFQ _ _ u (List.mem_of_getElem? hu)) (fun _ h => h) (fun _ _ => rfl)⟩
       simp only [execOp, ho, Instr.indexAt, ea, h2, asIntOf, Sem.run_bind, Sem.run_pure, Result.andThen_ok, run_underlying e1, hok, and_self, if_true, zHx hk, zDf, Nat.add_zero]
   ·cases h
  ·cases h
 ·cases h
theorem Cn.rowlen {q : Nat} {t : Ty} {l : List (El t)} {x : Value} (h : Cn ρ Z w (.ext q t l) x) : ∃ a c, x = .slice a l.length c ∧ l.length ≤ c ∧ c ≤ maxLen ∧ (a = none → c = 0) := by
 cases h with
 | ext ys hq g0 g1 g2 g3 g4 g5 g6 => exact ⟨_, _, rfl, g1, g2, g3⟩
theorem Cn.rowlim {q : Nat} {t : Ty} {l : List (El t)} {x : Value} (h : Cn ρ Z w (.ext q t l) x) : l.length ≤ lim t := by
 cases h; assumption
theorem okI {n : Nat} (h : n ≤ maxLen) : okC (.int .i64 (n : Int)) := by
 simp only [okC, okL]; rw [IntKind.wrap_i64] <;> unfold maxLen at h <;> omega
theorem zjh (t : Ty) : lim t ≤ maxLen := by cases t <;> simp [lim, maxLen]
theorem zuQ {args : Array Operand} {argTypes : Array TypeId} {x : Operand} {t : TypeId} (ho : o.op = .call { callee := .builtin .len, args, argTypes }) (ha : args.toList = [x]) (ht : argTypes.toList = [t])
  {q : Nat} {ok : Option Prop} {v : V} (h : zQJ P t H (ev x) = .mk q ok v H') : OpS P o ev H (.mk q ok v H') := by
 obtain rfl : args = #[x] := Array.toList_inj.1 (by simpa using ha)
 obtain rfl : argTypes = #[t] := Array.toList_inj.1 (by simpa using ht)
 have run_slice : ∀ (e : TypeId) (w : World) (a : Act) (ad : Option Addr) (n c : Nat), P.underlying t = some (.slice e) → a.eval x = .slice ad n c → (execOp a.eval o).run P w = .ok (.value (.int .i64 n)) w := by
  intro e w a ad n c h1 h2
  simp only [execOp, ho, resolve, invoke, builtin, Sem.run_bind, Sem.run_pure, Result.andThen_ok, List.map_toArray, List.map_cons, List.map_nil, h2, Builtin.len_, run_underlying h1,
   List.getElem?_toArray, List.getElem?_cons_zero, goInt]
 unfold zQJ at h
 split at h
 ·rename_i s e1 e2
  cases h
  refine yL fun ρ Z w a hr hx hok => ?_
  have h1 := hx x (by simp [ho, Op.operands, Call.operands])
  rw [e2] at h1
  refine ⟨_, ?_, .c _ (by have : _ ≤ _ := zKF h1; simp only [okC, okL]; rw [IntKind.wrap_i64] <;> omega)⟩
  simp only [execOp, ho, resolve, invoke, builtin, Sem.run_bind, Sem.run_pure, Result.andThen_ok, List.map_toArray, List.map_cons, List.map_nil, x8 h1, Builtin.len_, run_underlying e1,
   List.getElem?_toArray, List.getElem?_cons_zero, goInt]
 ·rename_i e q' τ l e1 e2
  cases h
  refine yL fun ρ Z w a hr hx hok => ?_
  have h1 := hx x (by simp [ho, Op.operands, Call.operands])
  rw [e2] at h1
  obtain ⟨ad, c, e', _⟩ := h1.rowlen
  exact ⟨_, run_slice _ _ _ _ _ _ e1 e', .c _ (okI (Nat.le_trans h1.rowlim (zjh _)))⟩
 ·rename_i e e1 e2
  cases h
  refine yL fun ρ Z w a hr hx hok => ?_
  have h1 := hx x (by simp [ho, Op.operands, Call.operands])
  rw [e2] at h1
  exact ⟨_, run_slice _ _ _ _ _ _ e1 (x8 h1), .c _ (okI (n := 0) (by simp))⟩
 ·rename_i e e1 e2
  cases h
  refine yL fun ρ Z w a hr hx hok => ?_
  have h1 := hx x (by simp [ho, Op.operands, Call.operands])
  rw [e2] at h1
  have h1 : ∃ ad, a.eval x = .slice ad 0 0 := by generalize a.eval x = z at h1; cases h1; exact ⟨_, rfl⟩
  obtain ⟨ad, h1⟩ := h1
  exact ⟨_, run_slice _ _ _ _ _ _ e1 h1, .c _ (okI (n := 0) (by simp))⟩
 ·rename_i e o' e1 e2
  split at h
  ·rename_i s l e3
   cases h
   refine yL fun ρ Z w a hr hx hok => ?_
   have h1 := hx x (by simp [ho, Op.operands, Call.operands])
   rw [e2] at h1
   obtain ⟨p, g, ea⟩ := h1.obj_inv
   ·skip
    rcases hr.ob o' p _ g e3 with ⟨k1, rfl, _⟩ | ⟨cur, e', c, fs, kk⟩
    ·obtain ⟨ad, k1⟩ := k1
     exact ⟨_, run_slice _ _ _ _ _ _ e1 (ea.trans k1), .c _ (okI (n := 0) (by simp))⟩
    ·exact ⟨_, run_slice _ _ _ _ _ _ e1 (ea.trans kk.hv), .c _ (okI (Nat.le_trans kk.hl (zjh _)))⟩
  ·rename_i τ l e3
   cases h
   refine yL fun ρ Z w a hr hx hok => ?_
   have h1 := hx x (by simp [ho, Op.operands, Call.operands])
   rw [e2] at h1
   obtain ⟨p, g, ea⟩ := h1.obj_inv
   ·skip
    obtain ⟨ad, c, e', _⟩ := Cn.rowlen (hr.ob o' p _ g e3).1
    exact ⟨_, run_slice _ _ _ _ _ _ e1 (ea.trans e'), .c _ (okI (Nat.le_trans (Cn.rowlim (hr.ob o' p _ g e3).1) (zjh _)))⟩
  ·cases h
 ·cases h
theorem zcF {n : Int} {y : Nat} (code : BoundsCode) (h : 0 ≤ n ∧ n ≤ y) (w : World) : (Instr.sliceBound (.int .i64 n) y code).run P w = .ok n.toNat w := by
 simp only [Instr.sliceBound, asIntOf, Sem.run_bind, Sem.run_pure, Result.andThen_ok, h, and_self, if_true]
theorem zMO {isS : Bool} {len cap : Nat} {l h : Int} (lo hi : Option Value) (hlo : lo.getD (.int .i64 0) = .int .i64 l) (hhi : hi.getD (.int .i64 (len : Nat)) = .int .i64 h) (hc : len ≤ cap)
  (hb : 0 ≤ l ∧ l ≤ h ∧ h ≤ (len : Nat)) (w : World) : (Instr.sliceBounds isS len cap lo hi none).run P w = .ok (l.toNat, h.toNat, cap) w := by
 obtain ⟨h1, h2, h3⟩ := hb
 have e1 : ∀ code, (Instr.sliceBound (.int .i64 h) cap code).run P w = .ok h.toNat w := fun code => zcF code ⟨by omega, by omega⟩ w
 have e2 : ∀ code, (Instr.sliceBound (.int .i64 l) h.toNat code).run P w = .ok l.toNat w := fun code => zcF code ⟨by omega, by omega⟩ w
 cases lo with
 | none =>
  simp only [Option.getD_none, Value.int.injEq, true_and] at hlo
  subst hlo
  cases hi with
  | none =>
   simp only [Option.getD_none, Value.int.injEq, true_and] at hhi
   subst hhi
   simp only [Instr.sliceBounds, Sem.run_bind, Sem.run_pure, Result.andThen_ok, Int.toNat_natCast, Int.toNat_zero]
  | some y =>
   simp only [Option.getD_some] at hhi
   subst hhi
   simp only [Instr.sliceBounds, Sem.run_bind, Sem.run_pure, Result.andThen_ok, e1, Int.toNat_zero]
 | some x =>
  simp only [Option.getD_some] at hlo
  subst hlo
  cases hi with
  | none =>
   simp only [Option.getD_none, Value.int.injEq, true_and] at hhi
   subst hhi
   simp only [Int.toNat_natCast] at e2
   simp only [Instr.sliceBounds, Sem.run_bind, Sem.run_pure, Result.andThen_ok, e2, Int.toNat_natCast, Option.isSome_none, Bool.false_eq_true, if_false]
  | some y =>
   simp only [Option.getD_some] at hhi
   subst hhi
   simp only [Instr.sliceBounds, Sem.run_bind, Sem.run_pure, Result.andThen_ok, e1, e2, Option.isSome_none, Bool.false_eq_true, if_false]
end
end Go.Proofs.YtkdidadegedmiaaGreat
namespace Go.Proofs.YtkdidadegedmiaaGreat
open Go.RowKit
section
variable {P : Program} {ρ ρ' : yH} {Z Z' : Zs} {w w' : World} {H H' : List Ob} {o : Oper} {ev : Operand → V}
theorem Cn.sub {q : Nat} {τ : Ty} {l : List (El τ)} {ad : Option Addr} {n c : Nat} {i j : Nat} (h : Cn ρ Z w (.ext q τ l) (.slice ad n c)) (hij : i ≤ j) (hj : j ≤ l.length) :
  Cn ρ Z w (.ext q τ ((l.take j).drop i)) (.slice (if c = i then ad else ad.map (·.add (i * zO τ))) (j - i) (c - i)) := by
 have hqk := h.ext_qk
 obtain ⟨a, c', b, off, ys, e, g0, g1, g2, g3, g4, g5, g6⟩ := h.ext_inv
 cases e
 ·skip
  have hl : ((l.take j).drop i).length = j - i := by simp; omega
  rw [← hl]
  have hx : ∀ m x, ((l.take j).drop i)[m]? = some x → l[i + m]? = some x ∧ i + m < l.length := by
   intro m x e
   rw [List.getElem?_drop, List.getElem?_take] at e
   split at e
   ·exact ⟨e, by omega⟩
   ·cases e
  rcases g4 with rfl | ⟨rfl, g4⟩
  ·simp only [List.length_nil] at hj
   obtain rfl : j = 0 := by omega
   obtain rfl : i = 0 := by omega
   refine .ext (b := 0) (o := 0) ys hqk (by simp) (by simp) (by omega) (fun e => ?_) (.inl (by simp)) (by intro i j h; simp at h) (by intro i x j u h; simp at h)
   have : ad = none := by
    split at e
    ·exact e
    ·cases ad <;> simp_all
   have := g3 this; omega
  ·by_cases hci : c = i
   ·refine .ext (b := b) (o := off) (fun m k => ys (i + m) k) hqk (by rw [hl]; omega) (by rw [hl]; omega) (by omega) (by simp [hci]) (.inl (List.eq_nil_of_length_eq_zero (by rw [hl]; omega))) (fun m k hm => by rw [hl] at hm; omega) (fun m x k u e => by
     have := (hx m x e).2; omega)
   ·rw [if_neg hci]
    simp only [Option.map_some, zDf]
    refine .ext (b := b) (o := off + i * zO τ) (fun m k => ys (i + m) k) hqk (by rw [hl]; omega) (by rw [hl]; omega) (by omega) (by simp) (.inr ⟨rfl, g4⟩) (fun m k hm hk => ?_) (fun m x k u e hu => ?_)
    ·rw [hl] at hm
     have := g5 (i + m) k (by omega) hk
     rw [← this]
     congr 2
     rw [Nat.add_mul]; omega
    ·exact g6 (i + m) x k u (hx m x e).1 hu
theorem zkL {src dst e : TypeId} (hs : P.underlying src = some (.slice e)) (he : P.underlying e = some (.int .u8)) (hd : P.underlying dst = some .string) {l : List Int} {ad : Option Addr} {c b off : Nat} (w : World)
  (h : l = [] ∨ (ad = some ⟨b, off, none⟩ ∧ ∀ i, i < l.length → w.cell? ⟨b, off + i, none⟩ = some (.int .u8 (l.getD i 0)))) : (convert src dst (.slice ad l.length c)).run P w = .ok (.string (strOfNums l)) w := by
 rcases h with rfl | ⟨rfl, h⟩
 ·cases ad with
  | none => exact run_convert_bytes_nil w src e hs he _ c dst hd
  | some a =>
   rw [run_convert_bytes_string w src dst e _ _ c hs he hd, List.length_nil, run_bytesToString w a 0 c [] (run_loadCells_list (P := P) w a [] (fun j v hj => by simp at hj))]
   rfl
 ·exact run_convert_bytes_arg w src e hs he b off l.length c l rfl h dst hd
theorem zuS {s t : TypeId} {x : Operand} (ho : o.op = .convert s t x) {q : Nat} {ok : Option Prop} {v : V} (h : zf9 P s t (ev x) H = .mk q ok v H') : OpS P o ev H (.mk q ok v H') := by
 unfold zf9 at h
 split at h
 rotate_left
 ·cases h
 rename_i e e1 e2
 split at h
 rotate_left
 ·cases h
 rename_i e3
 have main : ∀ {l : List Int} {ad : Option Addr} {c b off : Nat} (a : Act) (w : World), a.eval x = .slice ad l.length c → (l = [] ∨ (ad = some ⟨b, off, none⟩ ∧ ∀ i, i < l.length → w.cell? ⟨b, off + i, none⟩ = some (.int .u8 (l.getD i 0)))) → (execOp a.eval o).run P w = .ok (.value (.string (strOfNums l))) w := by
  intro l ad c b off a w ea h
  simp only [execOp, ho, ea, Sem.run_bind, zkL e1 e3 e2 w h, Result.andThen_ok, Sem.run_pure]
 have ext : ∀ {q' : Nat} {l : List (El .u8)} {ρ : yH} {Z : Zs} {w : World} {y : Value}, Cn ρ Z w (.ext q' .u8 l) y → ∃ (ad : Option Addr) (c b off : Nat), y = .slice ad l.length c ∧ l.length ≤ maxLen ∧ (l = [] ∨ (ad = some ⟨b, off, none⟩ ∧ ∀ i, i < l.length → w.cell? ⟨b, off + i, none⟩ = some (.int .u8 ((l : List Int).getD i 0)))) := by
  intro q' l ρ Z w y h1
  obtain ⟨ad, c, b, off, ys, ea, g0, g1, g2, g3, g4, g5, g6⟩ := h1.ext_inv
  refine ⟨ad, c, b, off, ea, g0, ?_⟩
  rcases g4 with rfl | ⟨rfl, g4⟩
  ·exact .inl rfl
  ·refine .inr ⟨rfl, fun i hi => ?_⟩
   have c1 := g5 i 0 hi (by simp [zO])
   have c2 := x8 (g6 i l[i] 0 (.c (.int .u8 l[i])) (List.getElem?_eq_getElem hi) rfl)
   rw [show off + i * zO .u8 + 0 = off + i by simp [zO]] at c1
   rw [c1, c2, List.getD_eq_getElem?_getD, List.getElem?_eq_getElem hi]; rfl
 have big : ∀ {l : List Int}, l.length ≤ maxLen → okC (.string (strOfNums l)) := fun h => by
  simp only [okC, okL, strOfNums_size]; simpa [maxLen] using h
 split at h
 ·rename_i q' l e4
  cases h
  refine yL fun ρ Z w a hr hx hok => ?_
  have h1 := hx x (by simp [ho, Op.operands])
  rw [e4] at h1
  obtain ⟨ad, c, b, off, ea, g0, g⟩ := ext h1
  exact ⟨_, main a w ea g, .c _ (big g0)⟩
 ·rename_i ob e4
  split at h
  ·rename_i l e5
   cases h
   refine yL fun ρ Z w a hr hx hok => ?_
   have h1 := hx x (by simp [ho, Op.operands])
   rw [e4] at h1
   obtain ⟨p, g, ea⟩ := h1.obj_inv
   rcases hr.ob ob p _ g e5 with ⟨⟨a0, k1⟩, rfl, _⟩ | ⟨cur, e', c, fs, k⟩
   ·refine ⟨_, main (l := []) (b := 0) (off := 0) a w (by rw [ea, k1]; rfl) (.inl rfl), .c _ (big (by simp))⟩
   ·refine ⟨_, main (l := l) (b := p.b) (off := 0) (c := c) a w (by rw [ea, k.hv]) (.inr ⟨rfl, fun i hi => ?_⟩), .c _ (big (by have := k.hl; exact this))⟩
    obtain ⟨_, t2, t3⟩ := k.ht i l[i] (List.getElem?_eq_getElem hi)
    have hlt : 0 < (zu cur (zO (OT.d .u8).ty) i).length := by rw [t2]; simp [zO]
    have c2 := x8 (t3 0 (.c (.int .u8 l[i])) _ rfl (List.getElem?_eq_getElem hlt))
    have c3 : cur.toList[i]? = some (.int .u8 l[i]) := by
     have : (zu cur (zO (OT.d .u8).ty) i)[0]? = some (.int .u8 l[i]) := by rw [List.getElem?_eq_getElem hlt, c2]
     simpa [zu, zO, OT.ty, List.getElem?_take, List.getElem?_drop] using this
    rw [Nat.zero_add, List.getD_eq_getElem?_getD, List.getElem?_eq_getElem hi]
    simp only [World.cell?, k.hw]
    simpa using c3
  ·rename_i l e5
   cases h
   refine yL fun ρ Z w a hr hx hok => ?_
   have h1 := hx x (by simp [ho, Op.operands])
   rw [e4] at h1
   obtain ⟨p, g, ea⟩ := h1.obj_inv
   obtain ⟨ad, c, b, off, ec, g0, g⟩ := ext (hr.ob ob p _ g e5).1
   exact ⟨_, main a w (ea.trans ec) g, .c _ (big g0)⟩
  ·cases h
 ·cases h
theorem zrN {t : TypeId} {x : Operand} {lo hi : Option Operand} (ho : o.op = .slice t x lo hi none) {q : Nat} {ok : Option Prop} {v : V}
  (h : zIq P t (ev x) (lo.map ev) (hi.map ev) H = .mk q ok v H') : OpS P o ev H (.mk q ok v H') := by
 have hlo : ∀ (ρ : yH) (Z : Zs) (w : World) (a : Act), (∀ x ∈ o.op.operands, Cn ρ Z w (ev x) (a.eval x)) → ∀ l, (lo.map ev).getD (.c (.int .i64 0)) = .c (.int .i64 l) → (lo.map a.eval).getD (.int .i64 0) = .int .i64 l := by
  intro ρ Z w a hx l e
  cases lo with
  | none => simpa using e
  | some y =>
   have := hx y (by simp [ho, Op.operands])
   simp only [Option.map_some, Option.getD_some] at e ⊢
   rw [e] at this; exact x8 this
 have hhi : ∀ (ρ : yH) (Z : Zs) (w : World) (a : Act), (∀ x ∈ o.op.operands, Cn ρ Z w (ev x) (a.eval x)) → ∀ n l, (hi.map ev).getD (.c (.int .i64 n)) = .c (.int .i64 l) → (hi.map a.eval).getD (.int .i64 n) = .int .i64 l := by
  intro ρ Z w a hx n l e
  cases hi with
  | none => simpa using e
  | some y =>
   have := hx y (by simp [ho, Op.operands])
   simp only [Option.map_some, Option.getD_some] at e ⊢
   rw [e] at this; exact x8 this
 unfold zIq at h
 split at h
 ·rename_i e1
  split at h
  ·rename_i s l e2 e3
   split at h
   ·rename_i r e4
    cases h
    refine yL fun ρ Z w a hr hx hok => ?_
    have h1 := hx x (by simp [ho, Op.operands])
    rw [e2] at h1
    have hsz : s.size ≤ 9223372036854775807 := zKF h1
    refine ⟨_, ?_, .c _ (by simp only [okC, okL, ByteArray.size_extract]; omega)⟩
    have hb := zMO (P := P) (isS := false) (len := s.size) (cap := s.size) _ _ (hlo ρ Z w a hx l e3) (hhi ρ Z w a hx _ r e4) (Nat.le_refl _) hok w
    simp only [execOp, ho, Instr.sliceAt, x8 h1, Sem.run_bind, Sem.run_pure, Result.andThen_ok, run_underlying e1, Instr.slice, Option.map_none, Option.isSome_none, Bool.false_eq_true, if_false, hb]
   ·cases h
  ·cases h
 ·rename_i e e1
  split at h
  ·rename_i q' τ l i e2 e3
   split at h
   ·rename_i j e4
    split at h
    ·rename_i hk
     cases h
     refine yL fun ρ Z w a hr hx hok => ?_
     have h1 := hx x (by simp [ho, Op.operands])
     rw [e2] at h1
     obtain ⟨ad, c, ea, h2, _, _⟩ := h1.rowlen
     rw [ea] at h1
     simp only [okP] at hok
     have hb := zMO (P := P) (isS := true) (len := l.length) (cap := c) _ _ (hlo ρ Z w a hx i e3) (hhi ρ Z w a hx _ j e4) h2 hok w
     refine ⟨_, ?_, h1.sub (i := i.toNat) (j := j.toNat) (by omega) (by omega)⟩
     simp only [execOp, ho, Instr.sliceAt, ea, Sem.run_bind, Sem.run_pure, Result.andThen_ok, run_underlying e1, Instr.slice, Option.map_none, hb, zHx hk]
    ·cases h
   ·cases h
  ·cases h
 ·cases h
theorem zto {c x y : Operand} (ho : o.op = .pick c x y) {b : Bool} (h1 : ev c = .c (.bool b)) : OpS P o ev H (.mk 0 none (zrD b (ev x) (ev y)) H) := by
 refine yL fun ρ Z w a hr hx hok => ?_
 have g1 := hx c (by simp [ho, Op.operands])
 have g2 := hx x (by simp [ho, Op.operands])
 have g3 := hx y (by simp [ho, Op.operands])
 rw [h1] at g1
 have g1 := x8 g1
 have key : (execOp a.eval o).run P w = .ok (.value (if b then a.eval x else a.eval y)) w := by
  simp only [execOp, ho, g1, asBool, Sem.run_bind, Sem.run_pure, Result.andThen_ok]
 refine ⟨_, key, ?_⟩
 unfold zrD
 split
 ·rename_i e1 e2
  rw [e1] at g2; rw [e2] at g3
  rw [x8 g2, x8 g3]
  split
  ·rename_i hk
   subst hk
   cases b
   ·exact .c _ (zKF g3)
   ·exact .c _ (zKF g2)
  ·cases b
   ·exact .c _ (zKF g3)
   ·exact .c _ (zKF g2)
 ·rename_i e1 e2
  rw [e1] at g2; rw [e2] at g3
  rw [x8 g2, x8 g3]
  cases b
  ·exact .c _ (zKF g3)
  ·exact .c _ (zKF g2)
 ·rename_i e1 e2
  rw [e1] at g2; rw [e2] at g3
  rw [x8 g2, x8 g3]
  cases b
  ·exact .c _ (zKF g3)
  ·exact .c _ (zKF g2)
 ·cases b
  ·exact g3
  ·exact g2
theorem zHl {v : V} {x : Value} {vs : List V} (h : Cn ρ Z w v x) (hv : zKD v = some vs) : x.cells.size = vs.length ∧ ∀ (i : Nat) (u : V) (y : Value), vs[i]? = some u → x.cells[i]? = some y → Cn ρ Z w u y := by
 have one : ∀ y : Value, (∀ cs, y ≠ .agg cs) → y.cells = #[y] := by
  intro y hy
  cases y <;> first | rfl | exact absurd rfl (hy _)
 unfold zKD at hv
 split at hv
 ·cases hv
  cases h with
  | agg h0 h => exact ⟨by simpa [Value.cells] using h0, fun i u y hu hy => h i u y hu (by simpa [Value.cells] using hy)⟩
 ·rename_i cs
  cases hv
  have hk : ∀ c ∈ cs.toList, okL c := zKF h
  have := x8 h
  subst this
  refine ⟨by simp [Value.cells], fun i u y hu hy => ?_⟩
  simp only [Value.cells] at hy
  simp only [List.getElem?_map, Array.getElem?_toList, Option.map_eq_some_iff] at hu
  obtain ⟨z, h1, rfl⟩ := hu
  rw [h1] at hy; cases hy
  exact .c _ (zgu (hk _ (Array.mem_toList_iff.2 (Array.mem_of_getElem? h1))))
 ·split at hv
  ·rename_i hl
   cases hv
   have hx : x.cells = #[x] := by
    apply one
    intro cs e
    subst e
    cases h <;> simp_all [zI6]
   rw [hx]
   refine ⟨rfl, fun i u y hu hy => ?_⟩
   cases i with
   | zero => simp at hu hy; subst hu hy; exact h
   | succ i => simp at hu
  ·cases hv
theorem zpZ : ∀ (l : List Value) (n : Nat) (cs : Array Value) (off : Nat), off + n + l.length ≤ cs.size →
  ((l.zipIdx n).foldl (fun cs (p : Value × Nat) => cs.setIfInBounds (off + p.2) p.1) cs).toList = cs.toList.take (off + n) ++ l ++ cs.toList.drop (off + n + l.length) := by
 intro l
 induction l with
 | nil => intro n cs off h; simp
 | cons x xs ih =>
  intro n cs off h
  simp only [List.length_cons] at h
  rw [List.zipIdx_cons, List.foldl_cons, ih (n + 1) _ off (by simp; omega)]
  simp only [Array.toList_setIfInBounds]
  have := list_seg_step cs.toList (off + n) x xs (by simp; omega)
  rw [show off + (n + 1) = off + n + 1 by omega]
  rw [this]
  simp [Nat.add_assoc]
theorem zlf {place : Nat → Option (Nat × Nat)} : ∀ {parts : List (Nat × V)} {zs cs : List V}, zNh place zs parts = some cs → cs.length = zs.length := by
 intro parts
 induction parts with
 | nil => intro zs cs h; cases h; rfl
 | cons p parts ih =>
  intro zs cs h
  obtain ⟨i, v⟩ := p
  simp only [zNh] at h
  split at h
  ·split at h
   ·rename_i hle
    rw [ih h]; simp; omega
   ·cases h
  ·cases h
theorem zYV (place : Nat → Option (Nat × Nat)) : ∀ (parts : List (Nat × V)) (xs : List (Nat × Value)) (zs : List V) (ys : Array Value) (cs : List V),
  xs.length = parts.length → (∀ (i : Nat) (p : Nat × V) (x : Nat × Value), parts[i]? = some p → xs[i]? = some x → x.1 = p.1 ∧ Cn ρ Z w p.2 x.2) →
  ys.size = zs.length → (∀ (i : Nat) (u : V) (y : Value), zs[i]? = some u → ys[i]? = some y → Cn ρ Z w u y) → zNh place zs parts = some cs →
  ∃ rs, Instr.fill place ys xs = some rs ∧ rs.size = cs.length ∧ ∀ (i : Nat) (u : V) (y : Value), cs[i]? = some u → rs[i]? = some y → Cn ρ Z w u y := by
 intro parts
 induction parts with
 | nil =>
  intro xs zs ys cs hl _ hs hz hf
  obtain rfl : xs = [] := List.eq_nil_of_length_eq_zero hl
  cases hf
  exact ⟨ys, rfl, hs, hz⟩
 | cons p parts ih =>
  intro xs zs ys cs hl hp hs hz hf
  cases xs with
  | nil => simp at hl
  | cons x xs =>
   obtain ⟨i, v⟩ := p
   obtain ⟨i', x⟩ := x
   obtain ⟨e0, hc⟩ := hp 0 (i, v) (i', x) rfl rfl
   simp only at e0 hc
   subst e0
   simp only [zNh] at hf
   split at hf
   ·rename_i off size vs e1 e2
    split at hf
    ·rename_i hle
     obtain ⟨g1, g2⟩ := zHl hc e2
     simp only [Instr.fill, e1]
     have hn : ¬ ((x.cells.size ≠ size || decide (off + x.cells.size > ys.size)) = true) := by simp; omega
     rw [if_neg (by simpa using hn)]
     have hfold := zpZ x.cells.toList 0 ys off (by simp; omega)
     refine ih xs _ _ cs (by simpa using hl) (fun j p y a b => hp (j + 1) p y (by simpa using a) (by simpa using b)) ?_ ?_ hf
     ·rw [← Array.length_toList, ← Array.foldl_toList, Array.toList_zipIdx, hfold]
      simp; omega
     ·intro j u y hu hy
      rw [← Array.getElem?_toList, ← Array.foldl_toList, Array.toList_zipIdx, hfold] at hy
      simp only [Nat.add_zero, Array.length_toList, g1] at hy
      have ht1 : (zs.take off ++ vs).length = off + vs.length := by simp; omega
      have ht2 : (ys.toList.take off ++ x.cells.toList).length = off + vs.length := by simp; omega
      by_cases h1 : j < off
      ·rw [List.append_assoc, List.getElem?_append_left (by simp; omega), List.getElem?_take, if_pos h1] at hu hy
       exact hz j u y hu (by simpa using hy)
      ·by_cases h2 : j < off + vs.length
       ·rw [List.getElem?_append_left (by omega), List.getElem?_append_right (by simp; omega)] at hu hy
        have e3 : (zs.take off).length = off := by simp; omega
        have e4 : (ys.toList.take off).length = off := by simp; omega
        rw [e3] at hu
        rw [e4] at hy
        exact g2 _ u y hu (by simpa using hy)
       ·rw [List.getElem?_append_right (by omega)] at hu hy
        rw [ht1, List.getElem?_drop] at hu
        rw [ht2, List.getElem?_drop] at hy
        rw [← hle.1] at hu
        exact hz _ u y hu (by simpa using hy)
    ·cases hf
   ·cases hf
end
end Go.Proofs.YtkdidadegedmiaaGreat
namespace Go.Proofs.YtkdidadegedmiaaGreat
open Go.RowKit
section
variable {P : Program} {ρ ρ' : yH} {Z Z' : Zs} {w w' : World} {H H' : List Ob} {o : Oper} {ev : Operand → V}
theorem ziY {t : Ty} {v : V} {l : List (El t)} {x : Value} (hr : HR ρ Z H w) (h : Cn ρ Z w v x) (hd : zr9 H t v = some l) : Cn ρ Z w (.ext 0 t l) x := by
 unfold zr9 at hd
 split at hd
 ·rename_i q t' l'
  split at hd
  ·rename_i hq
   have hq : q = 0 := by simpa using hq
   subst hq
   split at hd
   ·rename_i e _
    obtain rfl := e.down
    rw [zGC] at hd
    cases hd; exact h
   ·cases hd
  ·cases hd
 ·rename_i o
  split at hd
  ·rename_i t' l' e
   split at hd
   ·rename_i e' _
    obtain rfl := e'.down
    rw [zGC] at hd
    cases hd
    obtain ⟨p, g, rfl⟩ := h.obj_inv
    exact (hr.ob _ p _ g e).1.cl rfl (fun _ _ h => h) (fun _ _ _ => rfl)
   ·cases hd
  ·cases hd
 ·cases hd
  rw [x8 h]
  exact .emp .zero (Nat.zero_le _) (fun _ => rfl)
 ·cases hd
  cases h
  exact .emp .zero (Nat.zero_le _) (fun _ => rfl)
 ·cases hd
theorem zLs {t : Ty} {vs : List V} {x : El t} (hd : dec H t vs = some x) : vs.length = zO t := by
 induction t generalizing vs with
 | pr a b iha ihb =>
  simp only [dec] at hd
  split at hd
  ·rename_i y z e1 e2
   have h1 := iha e1
   have h2 := ihb e2
   simp only [zO]
   rw [List.length_take] at h1
   rw [List.length_drop] at h2
   have := zAs b
   omega
  ·cases hd
 | int => simp only [dec] at hd; unfold zrU at hd; split at hd; exact rfl; cases hd
 | u8 => simp only [dec] at hd; unfold zrw at hd; split at hd; exact rfl; cases hd
 | bool => simp only [dec] at hd; unfold zr5 at hd; split at hd; exact rfl; cases hd
 | str => simp only [dec] at hd; unfold zrQ at hd; split at hd; exact rfl; cases hd
 | lst t => simp only [dec] at hd; unfold zrs at hd; split at hd; exact rfl; cases hd
theorem zOW (hr : HR ρ Z H w) {t : Ty} {vs : List V} {x : El t} (hd : dec H t vs = some x) {xs : List Value} (hl : xs.length = vs.length)
  (hc : ∀ (i : Nat) (u : V) (y : Value), vs[i]? = some u → xs[i]? = some y → Cn ρ Z w u y) : ∀ (j : Nat) (u : V), (enc 0 t x)[j]? = some u → ∃ y, xs[j]? = some y ∧ Cn ρ Z w u y := by
 induction t generalizing vs xs with
 | pr a b iha ihb =>
  have hlen := zLs hd
  simp only [zO] at hlen
  simp only [dec] at hd
  split at hd
  ·rename_i y z e1 e2
   cases hd
   intro j u hu
   simp only [enc] at hu
   have hk := yB (q := 0) a y
   by_cases hj : j < zO a
   ·rw [List.getElem?_append_left (by omega)] at hu
    obtain ⟨y', h1, h2⟩ := iha e1 (xs := xs.take (zO a)) (by simp [hl]) (fun i u y hu hy => by
     rw [List.getElem?_take] at hu hy
     split at hu
     ·rename_i hi
      rw [if_pos hi] at hy
      exact hc i u y hu hy
     ·cases hu) j u hu
    rw [List.getElem?_take, if_pos hj] at h1
    exact ⟨y', h1, h2⟩
   ·rw [List.getElem?_append_right (by omega), hk] at hu
    obtain ⟨y', h1, h2⟩ := ihb e2 (xs := xs.drop (zO a)) (by simp [hl]) (fun i u y hu hy => by
     rw [List.getElem?_drop] at hu hy
     exact hc _ u y hu hy) (j - zO a) u hu
    rw [List.getElem?_drop] at h1
    rw [show zO a + (j - zO a) = j by omega] at h1
    exact ⟨y', h1, h2⟩
  ·cases hd
 | lst t ih =>
  simp only [dec] at hd
  unfold zrs at hd
  split at hd
  ·rename_i v
   intro j u hu
   cases j with
   | zero =>
    simp [enc] at hu
    subst hu
    have hlt : 0 < xs.length := by simp [hl]
    have hx0 : xs[0]? = some xs[0] := List.getElem?_eq_getElem hlt
    exact ⟨_, hx0, ziY hr (hc 0 v _ rfl hx0) hd⟩
   | succ j => simp [enc] at hu
  ·cases hd
 | int =>
  simp only [dec] at hd
  unfold zrU at hd
  split at hd
  ·skip
   cases hd
   intro j u hu
   cases j with
   | zero =>
    simp [enc] at hu
    subst hu
    have hlt : 0 < xs.length := by simp [hl]
    have hx0 : xs[0]? = some xs[0] := List.getElem?_eq_getElem hlt
    exact ⟨_, hx0, hc 0 _ _ rfl hx0⟩
   | succ j => simp [enc] at hu
  ·cases hd
 | u8 =>
  simp only [dec] at hd
  unfold zrw at hd
  split at hd
  ·skip
   cases hd
   intro j u hu
   cases j with
   | zero =>
    simp [enc] at hu
    subst hu
    have hlt : 0 < xs.length := by simp [hl]
    have hx0 : xs[0]? = some xs[0] := List.getElem?_eq_getElem hlt
    exact ⟨_, hx0, hc 0 _ _ rfl hx0⟩
   | succ j => simp [enc] at hu
  ·cases hd
 | bool =>
  simp only [dec] at hd
  unfold zr5 at hd
  split at hd
  ·skip
   cases hd
   intro j u hu
   cases j with
   | zero =>
    simp [enc] at hu
    subst hu
    have hlt : 0 < xs.length := by simp [hl]
    have hx0 : xs[0]? = some xs[0] := List.getElem?_eq_getElem hlt
    exact ⟨_, hx0, hc 0 _ _ rfl hx0⟩
   | succ j => simp [enc] at hu
  ·cases hd
 | str =>
  simp only [dec] at hd
  unfold zrQ at hd
  split at hd
  ·skip
   cases hd
   intro j u hu
   cases j with
   | zero =>
    simp [enc] at hu
    subst hu
    have hlt : 0 < xs.length := by simp [hl]
    have hx0 : xs[0]? = some xs[0] := List.getElem?_eq_getElem hlt
    exact ⟨_, hx0, hc 0 _ _ rfl hx0⟩
   | succ j => simp [enc] at hu
  ·cases hd
theorem HR.freeze1 (h : HR ρ Z H w) (o : Nat) : ∃ Z', (∀ k b, Z k b → Z' k b) ∧ (∀ k b, Z' k b → Z k b ∨ ∃ o0 p0 x0, ρ o0 = some p0 ∧ H[o0]? = some x0 ∧ vy x0 p0 b) ∧ HR ρ Z' (freeze1 H o) w := by
 unfold Go.Proofs.YtkdidadegedmiaaGreat.freeze1
 split
 ·rename_i s l e
  have hlt : o < H.length := (List.getElem?_eq_some_iff.1 e).1
  have hself : (H.set o (.frz s.ty l))[o]? = some (.frz s.ty l) := List.getElem?_set_self hlt
  have hset : ∀ o', o' ≠ o → (H.set o (.frz s.ty l))[o']? = H[o']? := fun o' hne => List.getElem?_set_ne (Ne.symm hne)
  refine ⟨fun k b => Z k b ∨ (k = false ∧ ∃ p, ρ o = some p ∧ p.fp b), fun _ _ h => .inl h, fun k b hb => hb.imp id fun hb => ?_, ?_⟩
  ·obtain ⟨_, p, h1, h2⟩ := hb
   exact ⟨o, p, _, h1, e, h2⟩
  ·have kp : Kp ρ Z w ρ (fun k b => Z k b ∨ (k = false ∧ ∃ p, ρ o = some p ∧ p.fp b)) w := Kp.rz fun _ _ h => .inl h
   refine ⟨fun k b hb => ?_, fun o' p e' => by rw [List.length_set]; exact h.dom o' p e', fun o' p' x h1 h2 => ?_, fun a c p1 q x y b h1 h2 h3 h4 hb1 hb2 => ?_⟩
   ·rcases hb with hb | ⟨_, p, h1, h2⟩
    ·exact h.zl k b hb
    ·exact h.fplt h1 h2
   ·by_cases ho : o' = o
    ·subst ho
     rw [hself] at h2; cases h2
     have hob := h.ob o' p' _ h1 e
     exact ⟨zI3.ext hob rfl .zero (fun b hb => .inl (.inr ⟨rfl, p', h1, hb⟩)) fun i x x' vs f hx hx' hf ht j u y => by
      rw [hx] at hx'; cases hx'
      exact ht.enc .zero (fun _ _ h => .inl h) (fun b hb => .inl (.inr ⟨rfl, p', h1, hf b hb⟩)) j u y, fun b hb => .inr ⟨rfl, p', h1, hb⟩⟩
    ·rw [hset o' ho] at h2
     refine (h.ob o' p' x h1 h2).mono kp fun b hb => ⟨fun k hk => ?_, rfl⟩
     rcases hk with hk | ⟨_, p, g1, g2⟩
     ·exact (h.own h1 h2 hb).1 k hk
     ·exact ho (h.dj o' o p' p x _ b h1 g1 h2 e hb g2)
   ·by_cases ha : a = o
    ·subst ha; rw [hself] at h3; cases h3; exact hb1.elim
    ·by_cases hc : c = o
     ·subst hc; rw [hself] at h4; cases h4; exact hb2.elim
     ·rw [hset a ha] at h3
      rw [hset c hc] at h4
      exact h.dj a c p1 q x y b h1 h2 h3 h4 hb1 hb2
 ·exact ⟨Z, fun _ _ h => h, fun _ _ h => .inl h, h⟩
theorem zNS {o o0 : Nat} {p0 : Pl} {x0 : Ob} {b : Nat} (h : (freeze1 H o)[o0]? = some x0) (hb : vy x0 p0 b) : H[o0]? = some x0 := by
 unfold freeze1 at h
 split at h
 ·rename_i t l e
  by_cases ho : o = o0
  ·subst ho
   have hlt : o < H.length := (List.getElem?_eq_some_iff.1 e).1
   rw [List.getElem?_set_self hlt] at h
   cases h; exact hb.elim
  ·rwa [List.getElem?_set_ne ho] at h
 ·exact h
theorem zUE (o : Nat) : (freeze1 H o).length = H.length := by
 unfold freeze1; split <;> simp
theorem HR.freezeL (os : List Nat) : ∀ {H : List Ob} {Z : Zs}, HR ρ Z H w → ∃ Z', (∀ k b, Z k b → Z' k b) ∧ (∀ k b, Z' k b → Z k b ∨ ∃ o0 p0 x0, ρ o0 = some p0 ∧ H[o0]? = some x0 ∧ vy x0 p0 b) ∧ HR ρ Z' (freezeL H os) w ∧
  (freezeL H os).length = H.length ∧ (∀ (o0 : Nat) (p0 : Pl) (x0 : Ob) (b : Nat), (Go.Proofs.YtkdidadegedmiaaGreat.freezeL H os)[o0]? = some x0 → vy x0 p0 b → H[o0]? = some x0) := by
 induction os with
 | nil => intro H Z h; exact ⟨Z, fun _ _ h => h, fun _ _ h => .inl h, h, rfl, fun _ _ _ _ h _ => h⟩
 | cons o os ih =>
  intro H Z h
  obtain ⟨Z1, a1, a2, a3⟩ := h.freeze1 o
  obtain ⟨Z2, b1, b2, b3, b4, b5⟩ := ih a3
  refine ⟨Z2, fun k b h => b1 k b (a1 k b h), fun k b hk => ?_, b3, by simp only [Go.Proofs.YtkdidadegedmiaaGreat.freezeL]; rw [b4, zUE], fun o0 p0 x0 b h1 h2 => zNS (b5 o0 p0 x0 b h1 h2) h2⟩
  rcases b2 k b hk with hk | ⟨o0, p0, x0, h1, h2, h3⟩
  ·exact a2 k b hk
  ·exact .inr ⟨o0, p0, x0, h1, zNS h2 h3, h3⟩
theorem zhl {o o0 : Nat} {cs : List V} (h : H[o0]? = some (.box cs)) : (freeze1 H o)[o0]? = some (.box cs) := by
 unfold freeze1
 split
 ·rename_i t l e
  by_cases ho : o = o0
  ·subst ho; rw [h] at e; cases e
  ·rwa [List.getElem?_set_ne ho]
 ·exact h
theorem zUH (os : List Nat) : ∀ {H : List Ob} (o0 : Nat) (cs : List V), H[o0]? = some (.box cs) → (Go.Proofs.YtkdidadegedmiaaGreat.freezeL H os)[o0]? = some (.box cs) := by
 induction os with
 | nil => intro H o0 cs h; exact h
 | cons o os ih => intro H o0 cs h; exact ih o0 cs (zhl h)
end
end Go.Proofs.YtkdidadegedmiaaGreat
namespace Go.Proofs.YtkdidadegedmiaaGreat
open Go.RowKit
section
variable {P : Program} {ρ ρ' ρ2 : yH} {Z Z' Zv : Zs} {w w' : World} {H H' : List Ob}
theorem HR.none (hz : ∀ k b, Z k b → b < w.heap.size) : HR zAX Z [] w :=
 ⟨hz, fun _ _ e => by simp [zAX] at e, fun _ _ _ e => by simp [zAX] at e, fun _ _ _ _ _ _ _ e => by simp [zAX] at e⟩
theorem zeK {g : V → V} {vs : List V} {xs : List Value} (h : ∀ (i : Nat) (u : V) (y : Value), vs[i]? = some u → xs[i]? = some y → Cn ρ' Z' w' (g u) y) :
  ∀ (i : Nat) (u : V) (y : Value), (vs.map g)[i]? = some u → xs[i]? = some y → Cn ρ' Z' w' u y := by
 intro i u y hu hy
 simp only [List.getElem?_map, Option.map_eq_some_iff] at hu
 obtain ⟨u', h1, rfl⟩ := hu
 exact h i u' y h1 hy
structure Vw (ρ : yH) (Z : Zs) (w : World) (c : Cx) (Zv : Zs) : Prop where
 hz : ∀ k b, Z k b → Zv k b
 hl : ∀ k b, Zv k b → b < w.heap.size
 hm : ∀ (o : Nat) (x : Ob), c.m[o]? = some x → x = .gone ∨ c.h[o]? = some x
 hf : c.fl = true → ∀ (o : Nat) (p : Pl) (x : Ob) (b : Nat), ρ o = some p → c.m[o]? = some x → vy x p b → Zv false b
 hb : c.cv = true → ∀ (o : Nat) (p : Pl) (x : Ob) (b : Nat), ρ o = some p → c.m[o]? = some x → vy x p b → Zv true b
section views
variable {c : Cx} (hr : HR ρ Z c.h w) (hv : Vw ρ Z w c Zv)
include hr hv
theorem zSb {v : V} {x : Value} (h : Cn ρ Z w v x) : Cn zAX Zv w (zUX c.fl c.m v) x := by
 have ext : ∀ {ρ : yH} {t : Ty} {l : List (El t)} {x : Value}, Cn ρ Z w (.ext 0 t l) x → Cn zAX Zv w (.ext 0 t l) x := fun h => h.cl rfl hv.hz (fun _ _ _ => rfl)
 cases h with
 | c x h => exact .c x h
 | nil0 a => exact .nil0 a
 | ext ys hq h0 h1 h2 h3 h4 h5 h6 =>
  rename_i q t l a cp b o'
  have h : Cn ρ Z w (.ext q t l) (.slice a l.length cp) := .ext ys hq h0 h1 h2 h3 h4 h5 h6
  cases q with
  | zero => exact ext h
  | succ o =>
   simp only [zUX]
   have key : ∀ x, c.m[o]? = some x → x ≠ .gone → (∀ p b, ρ o = some p → vy x p b → Zv false b) → Cn zAX Zv w (.ext 0 t l) (.slice a l.length cp) := by
    intro x e hx hown
    refine h.tagR .zero (fun b hb => .inl ?_) (fun _ _ => rfl)
    rcases hb with hb | ⟨o1, p, e1, e2, e3⟩
    ·exact hv.hz _ _ hb
    ·cases e1
     rcases hr.fpz e2 e3 with ⟨x', e4, e5⟩ | e4
     ·rcases hv.hm o x e with e' | e'
      ·exact absurd e' hx
      ·rw [e4] at e'; cases e'
       exact hown p b e2 e5
     ·exact hv.hz _ _ e4
   split
   ·rename_i s l' e
    cases hfl : c.fl with
    | false => exact .any _
    | true => exact key _ e (by simp) fun p b e2 e5 => hv.hf hfl o p _ b e2 e e5
   ·rename_i t' l' e
    exact key _ e (by simp) fun p b e2 e5 => e5.elim
   ·exact .any _
 | obj h hx =>
  rename_i ob n cp a p
  simp only [zUX]
  split
  ·rename_i s l e
   cases hfl : c.fl with
   | false => exact .any _
   | true =>
    show Cn zAX Zv w (.ext 0 s.ty l) _
    rw [← hx]
    rcases hv.hm ob _ e with e' | e'
    ·cases e'
    exact zI3.ext (hr.ob ob p _ h e') rfl .zero (fun b hb => .inl (hv.hf hfl _ _ _ b h e hb)) fun i x x' vs f hx hx' hf ht j u y => by
     rw [hx] at hx'; cases hx'
     exact ht.enc .zero hv.hz (fun b hb => .inl (hv.hf hfl _ _ _ b h e (hf b hb))) j u y
  ·rename_i t l e
   rw [← hx]
   rcases hv.hm ob _ e with e' | e'
   ·cases e'
   ·exact ext (hr.ob ob p _ h e').1
  ·exact .any _
 | _ => exact .any _
theorem ze5 (hcv : c.cv = true) {v : V} {x : Value} (h : Cn ρ Z w v x) : Cn zAX Zv w (zpp c.fl c.m v) x := by
 cases h with
 | ptr h =>
  rename_i ob off p
  simp only [zpp]
  split
  ·rename_i cs e
   rcases hv.hm ob _ e with e' | e'
   ·cases e'
   obtain ⟨_, _, xs, e', k2, k3, k4⟩ := hr.ob ob p _ h e'
   refine .bx (hv.hb hcv _ _ _ _ h e rfl) k2 (by simpa using k3) fun i u y hu hy => ?_
   simp only [List.getElem?_map, Option.map_eq_some_iff] at hu
   obtain ⟨u', g1, rfl⟩ := hu
   exact zSb hr hv (k4 i u' y g1 hy)
  ·exact .any _
 | bx h0 h1 h2 h3 =>
  refine .bx (hv.hz _ _ h0) h1 (by simpa using h2) fun i u y hu hy => ?_
  simp only [List.getElem?_map, Option.map_eq_some_iff] at hu
  obtain ⟨u', g1, rfl⟩ := hu
  exact zSb hr hv (h3 i u' y g1 hy)
 | _ => exact .any _
end views
theorem zS1 {t : Ty} {vs : List V} {xs : List Value} {x : El t} (hr : HR ρ Z H w) (hl : xs.length = vs.length) (hc : ∀ (i : Nat) (u : V) (y : Value), vs[i]? = some u → xs[i]? = some y → Cn ρ Z w u y) (hd : dec H t vs = some x) :
  xs.length = (enc 0 t x).length ∧ ∀ (i : Nat) (u : V) (y : Value), (enc 0 t x)[i]? = some u → xs[i]? = some y → Cn ρ Z w u y := by
 refine ⟨by rw [hl, yB, zLs hd], fun i u y hu hy => ?_⟩
 obtain ⟨y', g1, g2⟩ := zOW hr hd hl hc i u hu
 rw [hy] at g1; cases g1
 exact g2
theorem zIV : ∀ (t : Ty) (vs : List V) (x : El t), dec [] t vs = some x → ∀ u ∈ vs, Cl u
 | .int, vs, x, h => by
  simp only [dec] at h; unfold zrU at h; split at h
  ·intro u hu; simp at hu; subst hu; trivial
  ·cases h
 | .u8, vs, x, h => by
  simp only [dec] at h; unfold zrw at h; split at h
  ·intro u hu; simp at hu; subst hu; trivial
  ·cases h
 | .bool, vs, x, h => by
  simp only [dec] at h; unfold zr5 at h; split at h
  ·intro u hu; simp at hu; subst hu; trivial
  ·cases h
 | .str, vs, x, h => by
  simp only [dec] at h; unfold zrQ at h; split at h
  ·intro u hu; simp at hu; subst hu; trivial
  ·cases h
 | .lst t, vs, x, h => by
  simp only [dec] at h; unfold zrs at h; split at h
  ·rename_i v
   intro u hu; simp at hu; subst hu
   unfold zr9 at h
   split at h
   ·split at h
    ·rename_i hq; exact (by simpa using hq : _ = 0)
    ·cases h
   ·split at h
    ·rename_i e; simp at e
    ·cases h
   ·trivial
   ·trivial
   ·cases h
  ·cases h
 | .pr a b, vs, x, h => by
  simp only [dec] at h
  split at h
  ·rename_i p q e1 e2
   intro u hu
   rw [← List.take_append_drop (zO a) vs] at hu
   rcases List.mem_append.1 hu with hu | hu
   ·exact zIV a _ p e1 u hu
   ·exact zIV b _ q e2 u hu
  ·cases h
theorem zo5 {t : Ty} {y : Value} {cs : List V} {x : El t} {off : Nat} (hz : ∀ k b, Z k b → b < w.heap.size) (h : Cn ρ Z w (.bx cs off) y) (h2 : dec [] t cs = some x) : Cn ρ' Z w (.bx (enc 0 t x) off) y := by
 have hcl := zIV t cs x h2
 cases h with
 | bx h0 h1 h3 h =>
  rename_i b base e xs
  have hlen := zLs h2
  obtain ⟨g1, g2⟩ := zS1 (HR.none hz) (xs := (xs.toList.drop base).take cs.length) (by simp; omega) (fun i u y hu hy => by
   have hi := (List.getElem?_eq_some_iff.1 hu).1
   rw [List.getElem?_take, if_pos hi, List.getElem?_drop, Array.getElem?_toList] at hy
   exact (h i u y hu hy).clF (hcl u (List.mem_of_getElem? hu)) (fun _ h => h) (fun _ _ => rfl)) h2
  refine .bx h0 h1 (by rw [yB, ← hlen]; exact h3) fun i u y hu hy => ?_
  have hi : i < cs.length := by rw [hlen, ← yB (q := 0) t x]; exact (List.getElem?_eq_some_iff.1 hu).1
  exact (g2 i u y hu (by rw [List.getElem?_take, if_pos hi, List.getElem?_drop, Array.getElem?_toList]; exact hy)).clF (zFQ t x u (List.mem_of_getElem? hu)) (fun _ h => h) (fun _ _ => rfl)
theorem zq4 {off : Nat} {v : V} {cs : List V} (h : bx0 off v = some cs) : v = .bx cs off := by
 unfold bx0 at h
 split at h
 ·split at h
  ·rename_i e; subst e; cases h; rfl
  ·cases h
 ·cases h
theorem zou (hz : ∀ k b, Z k b → b < w.heap.size) : ∀ (ts : List Ty) (vs : List V) (xs : List Value) (x : TyL ts), xs.length = vs.length → (∀ (i : Nat) (u : V) (y : Value), vs[i]? = some u → xs[i]? = some y → Cn ρ Z w u y) → zau ts vs = some x →
  xs.length = (zOE ts x).length ∧ ∀ (i : Nat) (u : V) (y : Value), (zOE ts x)[i]? = some u → xs[i]? = some y → Cn ρ' Z w u y := by
 intro ts
 induction ts with
 | nil =>
  intro vs xs x hl hc hd
  cases vs with
  | nil => exact ⟨by simpa [zOE] using hl, fun i u y hu _ => by simp [zOE] at hu⟩
  | cons v vs => simp [zau] at hd
 | cons t ts ih =>
  intro vs xs x hl hc hd
  cases vs with
  | nil => simp [zau] at hd
  | cons v vs =>
   cases xs with
   | nil => simp at hl
   | cons y ys =>
    simp only [zau] at hd
    split at hd
    ·rename_i p q e1 e2
     cases hd
     simp only [Option.bind_eq_some_iff] at e1
     obtain ⟨cs, e0, e1⟩ := e1
     obtain rfl := zq4 e0
     obtain ⟨g1, g2⟩ := ih vs ys q (by simpa using hl) (fun i u z hu hz => hc (i + 1) u z (by simpa using hu) (by simpa using hz)) e2
     refine ⟨by simp [zOE, g1], fun i u z hu hy => ?_⟩
     cases i with
     | zero =>
      simp [zOE] at hu hy; subst hu hy
      exact zo5 hz (hc 0 _ y rfl rfl) e1
     | succ i => exact g2 i u z (by simpa [zOE] using hu) (by simpa using hy)
    ·cases hd
theorem yd : ∀ (s : OT) (x : El s.ty) (k : Nat), (zBI s x k).length = zO s.ty
 | .d t, x, _ => yB t x
 | .o _, _, _ => rfl
 | .pr a b, x, k => by simp only [zBI, List.length_append, yd a, yd b, zO]
theorem zGl : ∀ (s : OT) (x : El s.ty), (zG4 s x).length = s.n
 | .d _, _ => rfl
 | .o _, _ => rfl
 | .pr a b, x => by simp only [zG4, List.length_append, zGl a, zGl b, OT.n]
theorem zSI : ∀ (s : OT) (vs : List V), (zJ0 s vs).length = s.n
 | .d _, _ => rfl
 | .o _, _ => rfl
 | .pr a b, vs => by simp only [zJ0, List.length_append, zSI a, zSI b, OT.n]
def PL (ρ : yH) (H : List Ob) (id : Option Nat) (ob : Ob) (p : Pl) : Prop := match id with
 | some o => ρ o = some p ∧ H[o]? = some ob
 | none => ∀ b, ¬ vy ob p b
structure OwnAt (ρ : yH) (Z : Zs) (w : World) (H : List Ob) (id : Option Nat) (ob : Ob) (p : Pl) : Prop where
 pl : PL ρ H id ob p
 obr : ObR ρ Z w ob p
 sl : ∃ a n c, p.x = .slice a n c
 ar : ∃ s l, ob = .arr s l
def zhe (ρ : yH) (Z : Zs) (w : World) (H : List Ob) (ids : List (Option Nat)) (obs : List Ob) (ps : List Pl) : Prop :=
 ∀ (i : Nat) (id : Option Nat) (ob : Ob) (p : Pl), ids[i]? = some id → obs[i]? = some ob → ps[i]? = some p → OwnAt ρ Z w H id ob p
theorem zhe.app {i1 i2 : List (Option Nat)} {o1 o2 : List Ob} {p1 p2 : List Pl} (h1 : zhe ρ Z w H i1 o1 p1) (h2 : zhe ρ Z w H i2 o2 p2) (e1 : i1.length = p1.length) (e2 : o1.length = p1.length) : zhe ρ Z w H (i1 ++ i2) (o1 ++ o2) (p1 ++ p2) := by
 intro i id ob p a b c
 by_cases hi : i < p1.length
 ·rw [List.getElem?_append_left (by omega)] at a b c
  exact h1 i id ob p a b c
 ·rw [List.getElem?_append_right (by omega)] at a b c
  rw [e1] at a; rw [e2] at b
  exact h2 _ id ob p a b c
def At (ρ : yH) (k : Nat) (ps : List Pl) : Prop := ∀ (i : Nat) (p : Pl), ps[i]? = some p → ρ (k + i) = some p
theorem At.left {k : Nat} {p1 p2 : List Pl} (h : At ρ k (p1 ++ p2)) : At ρ k p1 := fun i p e => h i p (by rw [List.getElem?_append_left (List.getElem?_eq_some_iff.1 e).1]; exact e)
theorem At.right {k : Nat} {p1 p2 : List Pl} (h : At ρ k (p1 ++ p2)) : At ρ (k + p1.length) p2 := fun i p e => by
 have := h (p1.length + i) p (by rw [List.getElem?_append_right (by omega), Nat.add_sub_cancel_left]; exact e)
 rwa [Nat.add_assoc]
section reads
variable {c : Cx} (hr : HR ρ Z c.h w) (hv : Vw ρ Z w c Zv)
include hr
theorem zla {s : OT} {vs : List V} {ys : List Value} {l : List (El s.ty)} (hl : ys.length = vs.length) (hc : ∀ (i : Nat) (u : V) (y : Value), vs[i]? = some u → ys[i]? = some y → Cn ρ Z w u y) (hd : zI8 c.h s vs = some l) :
  vs.length = 1 ∧ ∃ p : Pl, ys = [p.x] ∧ OwnAt ρ Z w c.h (id1 vs) (.arr s l) p := by
 unfold zI8 at hd
 split at hd
 ·rename_i v
  cases ys with
  | nil => simp at hl
  | cons y ys =>
   have : ys = [] := List.eq_nil_of_length_eq_zero (by simpa using hl)
   subst this
   have h := hc 0 v y rfl rfl
   refine ⟨rfl, ?_⟩
   unfold zYh at hd
   split at hd
   ·rename_i o
    obtain ⟨p, g, rfl⟩ := h.obj_inv
    split at hd
    ·rename_i t' l' e
     split at hd
     ·rename_i pe _
      obtain rfl := pe.down
      rw [zIr] at hd
      cases hd
      have ho := hr.ob o p _ g e
      refine ⟨p, rfl, ⟨g, e⟩, ho, ?_, _, _, rfl⟩
      rcases ho with ⟨⟨a, k1⟩, _⟩ | ⟨_, _, _, _, k⟩
      ·exact ⟨a, 0, 0, k1⟩
      ·exact ⟨_, _, _, k.hv⟩
     ·cases hd
    ·cases hd
   ·cases hd
    refine ⟨⟨0, y, 0, vm⟩, rfl, ?_⟩
    rw [x8 h]
    exact ⟨fun b hb => hb, .inl ⟨⟨_, rfl⟩, rfl, fun b hb => hb⟩, ⟨_, _, _, rfl⟩, _, _, rfl⟩
   ·cases hd
    cases h
    rename_i a
    exact ⟨⟨0, .slice a 0 0, 0, vm⟩, rfl, ⟨fun b hb => hb, .inl ⟨⟨_, rfl⟩, rfl, fun b hb => hb⟩, ⟨_, _, _, rfl⟩, _, _, rfl⟩⟩
   ·cases hd
 ·cases hd
include hv
theorem zeZ : ∀ (s : OT) (vs : List V) (ys : List Value) (x : El s.ty), ys.length = vs.length → (∀ (i : Nat) (u : V) (y : Value), vs[i]? = some u → ys[i]? = some y → Cn ρ Z w u y) → rdO c s vs = some x →
  vs.length = zO s.ty ∧ ∃ ps : List Pl, ps.length = s.n ∧ zhe ρ Z w c.h (zJ0 s vs) (zG4 s x) ps ∧
   ∀ (ρ2 : yH) (k : Nat), At ρ2 k ps → ∀ (j : Nat) (u : V) (y : Value), (zBI s x k)[j]? = some u → ys[j]? = some y → Cn ρ2 Zv w u y
 | .d t, vs, ys, x, hl, hc, hd => by
  simp only [rdO] at hd
  have hlen := zLs hd
  rw [List.length_map] at hlen
  obtain ⟨g1, g2⟩ := zS1 (HR.none hv.hl) (xs := ys) (by simpa using hl) (zeK fun i u y hu hy => zSb hr hv (hc i u y hu hy)) hd
  exact ⟨hlen, [], rfl, fun i id ob p h => by simp [zJ0] at h, fun ρ2 k _ j u y hu hy => (g2 j u y hu hy).clF (zFQ t x u (List.mem_of_getElem? hu)) (fun _ h => h) (fun _ _ => rfl)⟩
 | .o t, vs, ys, x, hl, hc, hd => by
  simp only [rdO] at hd
  obtain ⟨g0, p, rfl, g2⟩ := zla hr hl hc hd
  refine ⟨g0, [p], rfl, fun i id ob p' h1 h2 h3 => ?_, fun ρ2 k hk j u y hu hy => ?_⟩
  ·cases i with
   | zero => simp [zJ0, zG4] at h1 h2 h3; subst h1 h2 h3; exact g2
   | succ i => simp at h3
  ·cases j with
   | zero =>
    simp [zBI] at hu hy; subst hu hy
    obtain ⟨a, n, cp, e⟩ := g2.sl
    rw [e]
    exact .obj (p := p) (hk 0 p rfl) e
   | succ j => simp at hy
 | .pr a b, vs, ys, x, hl, hc, hd => by
  simp only [rdO] at hd
  split at hd
  ·rename_i p q e1 e2
   cases hd
   obtain ⟨l1, ps1, n1, o1, c1⟩ := zeZ a (vs.take (zO a.ty)) (ys.take (zO a.ty)) p (by simp [hl]) (fun i u y hu hy => by
    rw [List.getElem?_take] at hu hy
    split at hu
    ·rename_i hi; rw [if_pos hi] at hy; exact hc i u y hu hy
    ·cases hu) e1
   obtain ⟨l2, ps2, n2, o2, c2⟩ := zeZ b (vs.drop (zO a.ty)) (ys.drop (zO a.ty)) q (by simp [hl]) (fun i u y hu hy => by
    rw [List.getElem?_drop] at hu hy
    exact hc _ u y hu hy) e2
   have hk : zO a.ty ≤ vs.length := by simp at l1; omega
   refine ⟨by simp only [zO]; simp at l2; omega, ps1 ++ ps2, by simp [n1, n2, OT.n], o1.app o2 (by rw [zSI, n1]) (by rw [zGl, n1]), fun ρ2 k h j u y hu hy => ?_⟩
   simp only [zBI] at hu
   by_cases hj : j < zO a.ty
   ·rw [List.getElem?_append_left (by rw [yd]; exact hj)] at hu
    exact c1 ρ2 k h.left j u y hu (by rw [List.getElem?_take, if_pos hj]; exact hy)
   ·rw [List.getElem?_append_right (by rw [yd]; omega), yd] at hu
    refine c2 ρ2 (k + a.n) (by rw [← n1]; exact h.right) (j - zO a.ty) u y hu ?_
    rw [List.getElem?_drop, ← hy]; congr 1; omega
  ·cases hd
end reads
end
end Go.Proofs.YtkdidadegedmiaaGreat
namespace Go.Proofs.YtkdidadegedmiaaGreat
open Go.RowKit
section
variable {P : Program} {ρ ρ' ρ2 : yH} {Z Z' Zv : Zs} {w w' : World} {H H' : List Ob}
def zuV (ρ : yH) (Z : Zs) (w : World) (ob : Ob) (p : Pl) : Prop :=
 ∃ cells, ob = .box cells ∧ ∃ xs e, w.heap[p.b]? = some (.cells xs e (0, 0)) ∧ p.off + cells.length ≤ xs.size ∧ ∀ (i : Nat) (u : V) (y : Value), cells[i]? = some u → xs[p.off + i]? = some y → Cn ρ Z w u y
def zir (ρ : yH) (H : List Ob) (os offs ns : List Nat) (ps : List Pl) : Prop :=
 ∀ (i o off n : Nat) (p : Pl), os[i]? = some o → offs[i]? = some off → ns[i]? = some n → ps[i]? = some p → ∃ p0 cs, ρ o = some p0 ∧ H[o]? = some (.box cs) ∧ p = ⟨p0.b, p0.x, p0.off + off, vm⟩ ∧ off + n ≤ cs.length
theorem zir.app {o1 o2 f1 f2 n1 n2 : List Nat} {p1 p2 : List Pl} (h1 : zir ρ H o1 f1 n1 p1) (h2 : zir ρ H o2 f2 n2 p2) (e1 : o1.length = p1.length) (e2 : f1.length = p1.length) (e3 : n1.length = p1.length) : zir ρ H (o1 ++ o2) (f1 ++ f2) (n1 ++ n2) (p1 ++ p2) := by
 intro i o off n p a b c d
 by_cases hi : i < p1.length
 ·rw [List.getElem?_append_left (by omega)] at a b c d
  exact h1 i o off n p a b c d
 ·rw [List.getElem?_append_right (by omega)] at a b c d
  rw [e1] at a; rw [e2] at b; rw [e3] at c
  exact h2 _ o off n p a b c d
theorem AD.bxs_len (c : Cx) (d : AD) (v : V) (x : d.T) (h : d.rd c v = some x) : (d.bxs v).length = d.r := by
 cases d with
 | ref s =>
  simp only [AD.rd, Option.bind_eq_some_iff] at h
  obtain ⟨cs, h1, _⟩ := h
  unfold zQm at h1
  split at h1
  ·rfl
  ·cases h1
 | _ => rfl
theorem AD.offs_len (d : AD) (v : V) : (d.offs v).length = d.r := by cases d <;> rfl
theorem AD.szs_len (d : AD) : d.szs.length = d.r := by cases d <;> rfl
theorem AD.ids_len (H : List Ob) (d : AD) (v : V) : (d.ids H v).length = d.n := by
 cases d <;> simp [AD.ids, AD.n, zSI]
theorem AD.arrs_len (d : AD) (x : d.T) : (d.arrs x).length = d.n := by
 cases d <;> simp [AD.arrs, AD.n, zGl]
theorem AD.boxes_len (d : AD) (x : d.T) (k : Nat) : (d.boxes x k).length = d.r := by cases d <;> rfl
theorem ztC {agg : Bool} {s : OT} {v : V} {y : Value} {cs : List V} (h : Cn ρ Z w v y) (h1 : cellsOf agg v = some cs) : ∃ ys : List Value, ys.length = cs.length ∧ (∀ (i : Nat) (u : V) (z : Value), cs[i]? = some u → ys[i]? = some z → Cn ρ Z w u z) ∧
  ∀ (ρ2 : yH) (Zv : Zs) (x : El s.ty) (k : Nat), (cs.length = zO s.ty → (∀ (i : Nat) (u : V) (z : Value), (zBI s x k)[i]? = some u → ys[i]? = some z → Cn ρ2 Zv w u z) → Cn ρ2 Zv w (one agg (zBI s x k)) y) := by
 cases agg with
 | true =>
  simp only [cellsOf, if_true] at h1
  cases h with
  | agg h0 h =>
   cases h1
   rename_i xs
   exact ⟨xs, h0, h, fun ρ2 Zv x k hl hc => .agg (by rw [h0, hl, yd]) hc⟩
  | _ => cases h1
 | false =>
  simp only [cellsOf, Bool.false_eq_true, if_false, Option.some.injEq] at h1
  subst h1
  refine ⟨[y], rfl, fun i u z hu hz => ?_, fun ρ2 Zv x k hl hc => ?_⟩
  ·cases i with
   | zero => simp at hu hz; subst hu hz; exact h
   | succ i => simp at hu
  ·have hk : (zBI s x k).length = 1 := by rw [yd]; exact hl.symm
   have h0 : (zBI s x k)[0]? = some ((zBI s x k).getD 0 .any) := by
    rw [List.getD_eq_getElem?_getD]
    have : 0 < (zBI s x k).length := by omega
    rw [List.getElem?_eq_getElem this]; rfl
   exact hc 0 _ y h0 rfl
section reads
variable {c : Cx} (hr : HR ρ Z c.h w) (hv : Vw ρ Z w c Zv)
include hr hv
theorem AD.rd_cn (d : AD) (v : V) (y : Value) (x : d.T) (h : Cn ρ Z w v y) (hd : d.rd c v = some x) :
  ∃ ps bps : List Pl, ps.length = d.n ∧ bps.length = d.r ∧ zhe ρ Z w c.h (d.ids c.h v) (d.arrs x) ps ∧ zir ρ c.h (d.bxs v) (d.offs v) d.szs bps ∧
   ∀ (ρ2 : yH) (i k : Nat), At ρ2 k ps → At ρ2 i bps → (∀ o off, d = .pt o off → ∀ p, ρ o = some p → ρ2 o = some p) →
    Cn ρ2 Zv w (d.enc x i k) y ∧ (∀ (j : Nat) (ob : Ob) (p : Pl), (d.boxes x k)[j]? = some ob → bps[j]? = some p → zuV ρ2 Zv w ob p) := by
 have noOwn : ∀ {ids : List (Option Nat)} {obs : List Ob}, zhe ρ Z w c.h ids obs [] := fun i id ob p _ _ h => by simp at h
 have noBx : ∀ {a b n : List Nat}, zir ρ c.h a b n [] := fun i o off n p _ _ _ h => by simp at h
 have seen : ∀ {v : V} {y : Value}, Cn ρ Z w v y → ∀ {cs : List V} {off : Nat}, zmq c v = .bx cs off → ∃ ρ0, Cn ρ0 Zv w (.bx cs off) y := by
  intro v y h cs off e
  unfold zmq at e
  split at e
  ·rename_i hcv; rw [← e]; exact ⟨_, ze5 hr hv hcv h⟩
  ·rw [← e]; exact ⟨ρ, h.mono (Kp.rz hv.hz)⟩
 cases d with
 | val agg s =>
  simp only [AD.rd, Option.bind_eq_some_iff] at hd
  obtain ⟨cs, h1, h2⟩ := hd
  obtain ⟨ys, g1, g2, g3⟩ := ztC (s := s) h h1
  obtain ⟨l1, ps, n1, o1, c1⟩ := zeZ hr hv s cs ys x g1 g2 h2
  exact ⟨ps, [], n1, rfl, by simp only [AD.ids, h1, Option.getD_some]; exact o1, noBx, fun ρ2 i k hk _ _ => ⟨g3 ρ2 Zv x k l1 (c1 ρ2 k hk), fun j ob p h => by simp [AD.boxes] at h⟩⟩
 | bx t off =>
  simp only [AD.rd, Option.bind_eq_some_iff] at hd
  obtain ⟨cs, h1, h2⟩ := hd
  obtain ⟨ρ0, g⟩ := seen h (zq4 h1)
  exact ⟨[], [], rfl, rfl, noOwn, noBx, fun ρ2 i k _ _ _ => ⟨zo5 hv.hl g h2, fun j ob p h => by simp [AD.boxes] at h⟩⟩
 | fn f ts =>
  simp only [AD.rd] at hd
  split at hd
  ·rename_i f' vs
   split at hd
   ·rename_i e
    subst e
    cases h with
    | fn h0 h =>
     rename_i xs
     refine ⟨[], [], rfl, rfl, noOwn, noBx, fun ρ2 i k _ _ _ => ⟨?_, fun j ob p h => by simp [AD.boxes] at h⟩⟩
     cases hcv : c.cv with
     | true =>
      obtain ⟨g1, g2⟩ := zou (ρ := zAX) (ρ' := ρ2) hv.hl ts _ xs x (by simpa using h0) (zeK fun i u y hu hy => by
       have := ze5 hr hv hcv (h i u y hu hy)
       simpa only [zmq, hcv, if_true] using this) hd
      exact .fn g1 g2
     | false =>
      obtain ⟨g1, g2⟩ := zou (ρ := ρ) (ρ' := ρ2) hv.hl ts _ xs x (by simpa using h0) (zeK fun i u y hu hy => by
       simp only [zmq, hcv, Bool.false_eq_true, if_false]
       exact (h i u y hu hy).mono (Kp.rz hv.hz)) hd
      exact .fn g1 g2
   ·cases hd
  ·cases hd
 | ref s =>
  simp only [AD.rd, Option.bind_eq_some_iff] at hd
  obtain ⟨cs, h1, h2⟩ := hd
  have hcr := h1
  unfold zQm at h1
  split at h1
  ·rename_i o off
   split at h1
   ·rename_i cs0 e
    split at h1
    ·rename_i hle
     cases h1
     cases h with
     | ptr h =>
      rename_i p0
      obtain ⟨_, _, xs, e', k2, k3, k4⟩ := hr.ob o p0 _ h e
      obtain ⟨l1, ps, n1, o1, c1⟩ := zeZ hr hv s _ ((xs.toList.drop (p0.off + off)).take (zO s.ty)) x (by simp; omega) (fun i u y hu hy => by
       rw [List.getElem?_take] at hu hy
       split at hu
       ·rename_i hi
        rw [if_pos hi, List.getElem?_drop, Array.getElem?_toList] at hy
        rw [List.getElem?_drop] at hu
        exact k4 _ u y hu (by rw [← Nat.add_assoc]; exact hy)
       ·cases hu) h2
      refine ⟨ps, [⟨p0.b, p0.x, p0.off + off, vm⟩], n1, rfl, by simp only [AD.ids, hcr, Option.getD_some]; exact o1, fun i o' off' n p a b d' f => ?_, fun ρ2 i k hk hb _ => ⟨.ptr (p := ⟨p0.b, p0.x, p0.off + off, vm⟩) (hb 0 _ rfl), fun j ob p hj hp => ?_⟩⟩
      ·cases i with
       | zero =>
        simp [AD.bxs, zrC, AD.offs, ztq, AD.szs] at a b d' f
        subst a b d' f
        exact ⟨p0, cs0, h, e, rfl, hle⟩
       | succ i => simp at f
      ·cases j with
       | zero =>
        simp [AD.boxes] at hj hp
        subst hj hp
        refine ⟨_, rfl, xs, e', k2, by rw [yd]; simp only; omega, fun i u y hu hy => ?_⟩
        have hi : i < zO s.ty := by rw [← yd s x k]; exact (List.getElem?_eq_some_iff.1 hu).1
        exact c1 ρ2 k hk i u y hu (by rw [List.getElem?_take, if_pos hi, List.getElem?_drop, Array.getElem?_toList]; exact hy)
       | succ j => simp at hp
    ·cases h1
   ·cases h1
  ·cases h1
 | pt o off =>
  simp only [AD.rd] at hd
  split at hd
  ·rename_i o' off'
   split at hd
   ·rename_i e
    obtain ⟨rfl, rfl⟩ := e
    cases h with
    | ptr h => exact ⟨[], [], rfl, rfl, noOwn, noBx, fun ρ2 i k _ _ hp => ⟨.ptr (hp _ _ rfl _ h), fun j ob p h => by simp [AD.boxes] at h⟩⟩
   ·cases hd
  ·cases hd
 | ep t off =>
  simp only [AD.rd] at hd
  split at hd
  ·rename_i t' l i' off'
   split at hd
   ·rename_i e
    subst e
    split at hd
    ·rename_i pe _
     obtain rfl := pe.down
     cases hd
     refine ⟨[], [], rfl, rfl, noOwn, noBx, fun ρ2 i k _ _ _ => ⟨?_, fun j ob p h => by simp [AD.boxes] at h⟩⟩
     show Cn ρ2 Zv w (.ept 0 t' (zRG t' t' l) i' off') y
     rw [zGC]
     cases h with
     | ept ys hq h0 h4 h5 h6 => exact .ept ys .zero h0 (.inl (hv.hz _ _ h4.zero)) h5 fun i x j u hx hu => (h6 i x j u hx hu).clF (zFQ _ _ u (List.mem_of_getElem? hu)) (fun _ h => hv.hz _ _ h) (fun _ _ => rfl)
    ·cases hd
   ·cases hd
  ·cases hd
theorem zqe : ∀ (ds : List AD) (vs : List V) (ys : List Value) (a : xC ds), ys.length = vs.length → (∀ (i : Nat) (u : V) (y : Value), vs[i]? = some u → ys[i]? = some y → Cn ρ Z w u y) → rdA c ds vs = some a →
  vs.length = ds.length ∧ ∃ ps bps : List Pl, ps.length = (zBh c.h ds vs).length ∧ ps.length = (zCu ds a).length ∧ bps.length = zi ds ∧ (zAH ds vs).length = zi ds ∧ (vu ds vs).length = zi ds ∧ (vY ds).length = zi ds ∧
   zhe ρ Z w c.h (zBh c.h ds vs) (zCu ds a) ps ∧ zir ρ c.h (zAH ds vs) (vu ds vs) (vY ds) bps ∧
   ∀ (ρ2 : yH) (i k : Nat), At ρ2 k ps → At ρ2 i bps → (∀ o off, .pt o off ∈ ds → ∀ p, ρ o = some p → ρ2 o = some p) →
    (∀ (j : Nat) (u : V) (y : Value), (zGY ds a i k)[j]? = some u → ys[j]? = some y → Cn ρ2 Zv w u y) ∧ (∀ (j : Nat) (ob : Ob) (p : Pl), (xA ds a k)[j]? = some ob → bps[j]? = some p → zuV ρ2 Zv w ob p)
 | [], vs, ys, a, hl, hc, hd => by
  cases vs with
  | cons v vs => simp [rdA] at hd
  | nil => exact ⟨rfl, [], [], rfl, rfl, rfl, rfl, rfl, rfl, fun i id ob p _ _ h => by simp at h, fun i o off n p _ _ _ h => by simp at h, fun ρ2 i k _ _ _ => ⟨fun j u y h => by simp [zGY] at h, fun j ob p h => by simp [xA] at h⟩⟩
 | d :: ds, vs, ys, a, hl, hc, hd => by
  cases vs with
  | nil => simp [rdA] at hd
  | cons v vs =>
   cases ys with
   | nil => simp at hl
   | cons y ys =>
    simp only [rdA] at hd
    split at hd
    ·rename_i p q e1 e2
     cases hd
     obtain ⟨ps1, b1, n1, r1, o1, x1, c1⟩ := AD.rd_cn hr hv d v y p (hc 0 v y rfl rfl) e1
     obtain ⟨l2, ps2, b2, n2, m2, r2, s2, t2, u2, o2, x2, c2⟩ := zqe ds vs ys q (by simpa using hl) (fun i u z hu hz => hc (i + 1) u z (by simpa using hu) (by simpa using hz)) e2
     refine ⟨by simp [l2], ps1 ++ ps2, b1 ++ b2, by simp only [zBh, List.length_append, AD.ids_len, n1, n2], by simp only [zCu, List.length_append, AD.arrs_len, n1, m2], by simp only [List.length_append, zi, r1, r2],
      by simp only [zAH, List.length_append, zi, AD.bxs_len c d v p e1, s2], by simp only [vu, List.length_append, zi, AD.offs_len, t2], by simp only [vY, List.length_append, zi, AD.szs_len, u2],
      o1.app o2 (by rw [AD.ids_len, n1]) (by rw [AD.arrs_len, n1]), x1.app x2 (by rw [AD.bxs_len c d v p e1, r1]) (by rw [AD.offs_len, r1]) (by rw [AD.szs_len, r1]), fun ρ2 i k hk hb hp => ?_⟩
     obtain ⟨f1, f2⟩ := c1 ρ2 i k hk.left hb.left (fun o off e p h => hp o off (by rw [← e]; simp) p h)
     obtain ⟨g1, g2⟩ := c2 ρ2 (i + d.r) (k + d.n) (by rw [← n1]; exact hk.right) (by rw [← r1]; exact hb.right) (fun o off e p h => hp o off (List.mem_cons_of_mem _ e) p h)
     refine ⟨fun j u z hu hz => ?_, fun j ob p' hj hp' => ?_⟩
     ·cases j with
      | zero => simp only [zGY, List.getElem?_cons_zero, Option.some.injEq] at hu hz; subst hu hz; exact f1
      | succ j => exact g1 j u z (by simpa [zGY] using hu) (by simpa using hz)
     ·simp only [xA] at hj
      by_cases hlt : j < d.r
      ·rw [List.getElem?_append_left (by rw [AD.boxes_len]; exact hlt)] at hj
       rw [List.getElem?_append_left (by omega)] at hp'
       exact f2 j ob p' hj hp'
      ·rw [List.getElem?_append_right (by rw [AD.boxes_len]; omega), AD.boxes_len] at hj
       rw [List.getElem?_append_right (by omega), r1] at hp'
       exact g2 _ ob p' hj hp'
    ·cases hd
end reads
end
end Go.Proofs.YtkdidadegedmiaaGreat
namespace Go.Proofs.YtkdidadegedmiaaGreat
open Go.RowKit
theorem zH2 (H : List Ob) (os : List Nat) (o : Nat) : (zJi H os)[o]? = H[o]?.map (fun x => bif os.contains o then .gone else x) := by
 unfold zJi
 rw [List.getElem?_map, List.getElem?_zipIdx]
 cases H[o]? <;> simp
theorem zl6 (H : List Ob) (os : List Nat) : (zJi H os).length = H.length := by simp [zJi]
theorem zFT : ∀ {l : List Nat}, zWK l = true → l.Nodup
 | [], _ => List.nodup_nil
 | a :: l, h => by
  simp only [zWK, Bool.and_eq_true, Bool.not_eq_true', List.contains_eq_mem, decide_eq_false_iff_not] at h
  exact List.nodup_cons.2 ⟨h.1, zFT h.2⟩
theorem zK2 {l : List (Option Nat)} {a i : Nat} (h : l[i]? = some (some a)) : a ∈ xm l := by
 induction l generalizing i with
 | nil => simp at h
 | cons x l ih =>
  cases i with
  | zero => simp at h; subst h; exact List.mem_cons_self
  | succ i =>
   have := ih (i := i) (by simpa using h)
   cases x with
   | none => exact this
   | some o => exact List.mem_cons_of_mem _ this
theorem znU {l : List (Option Nat)} (hn : (xm l).Nodup) {a i j : Nat} (hi : l[i]? = some (some a)) (hj : l[j]? = some (some a)) : i = j := by
 induction l generalizing i j with
 | nil => simp at hi
 | cons x l ih =>
  cases x with
  | none =>
   cases i with
   | zero => simp at hi
   | succ i =>
    cases j with
    | zero => simp at hj
    | succ j => exact congrArg (· + 1) (ih hn (by simpa using hi) (by simpa using hj))
  | some o =>
   have hn := List.nodup_cons.1 hn
   cases i with
   | zero =>
    cases j with
    | zero => rfl
    | succ j => simp at hi; subst hi; exact absurd (zK2 (i := j) (by simpa using hj)) hn.1
   | succ i =>
    cases j with
    | zero => simp at hj; subst hj; exact absurd (zK2 (i := i) (by simpa using hi)) hn.1
    | succ j => exact congrArg (· + 1) (ih hn.2 (by simpa using hi) (by simpa using hj))
theorem xy : ∀ (ds : List AD) (a : xC ds) (k : Nat), (xA ds a k).length = zi ds
 | [], _, _ => rfl
 | d :: ds, a, k => by simp only [xA, List.length_append, AD.boxes_len, xy ds, zi]
section
variable {P : Program} {ρ ρ' ρ2 : yH} {Z Z' Zv : Zs} {w w' : World} {H H' : List Ob} {c : Cx}
theorem TrO.monoF : ∀ {s : OT} {x : El s.ty} {vs : List Value} {fp : Nat → Prop}, TrO Z w s x vs fp → (∀ b, Z false b → Z' false b) → (∀ b, Z false b → w'.heap[b]? = w.heap[b]?) → (∀ b, fp b → w'.heap[b]? = w.heap[b]?) → (∀ b q, fp b → ¬ Z' q b) → TrO Z' w' s x vs fp
 | .d t, x, vs, fp, h, hz, hw, _, _ => ⟨h.1, h.2.1, fun j u y hu hy => (h.2.2 j u y hu hy).clF (zFQ t x u (List.mem_of_getElem? hu)) hz hw⟩
 | .o s, x, vs, fp, h, hz, hw, hf, hn => by
  obtain ⟨v, b, e, h⟩ := h
  exact ⟨v, b, e, h.imp hf (fun b q hb => hn b q hb) fun x vs f hs ht => TrO.monoF ht hz hw (fun b hb => hf b (hs b hb)) (fun b q hb => hn b q (hs b hb))⟩
 | .pr a b, x, vs, fp, h, hz, hw, hf, hn => by
  obtain ⟨f, g, h1, h2, h3, h4⟩ := h
  exact ⟨f, g, h1.monoF hz hw (fun b hb => hf b ((h3 b).2 (.inl hb))) (fun b q hb => hn b q ((h3 b).2 (.inl hb))), h2.monoF hz hw (fun b hb => hf b ((h3 b).2 (.inr hb))) (fun b q hb => hn b q ((h3 b).2 (.inr hb))), h3, h4⟩
theorem ztk {cs : List V} {p : Pl} (h : ObR ρ Z w (.box cs) p) : p.fp = vm := funext fun b => propext ⟨fun k => h.1 b k, False.elim⟩
theorem ObR.arr_cn {s : OT} {l : List (El s.ty)} {p : Pl} (h : ObR ρ Z w (.arr s l) p) (hz : ∀ b, Z false b → Zv false b) (hn : ∀ b, p.fp b → ∀ q, ¬ Zv q b) : ObR ρ2 Zv w (.arr s l) p :=
 zI3.imp h (fun _ _ => rfl) (fun b q hb => hn b hb q) fun _ _ _ hf ht => ht.monoF hz (fun _ _ => rfl) (fun _ _ => rfl) (fun b q hb => hn b (hf b hb) q)
def zID (ρ : yH) (H : List Ob) (os : List Nat) (b : Nat) : Prop := ∃ o p x, o ∈ os ∧ ρ o = some p ∧ H[o]? = some x ∧ vy x p b
theorem zlW (hr : HR ρ Z c.h w) (hv : Vw ρ Z w c Zv) {ds : List AD} {vs : List V} {ys : List Value} {a : xC ds} (hl : ys.length = vs.length) (hc : ∀ (i : Nat) (u : V) (y : Value), vs[i]? = some u → ys[i]? = some y → Cn ρ Z w u y)
  (hd : rdA c ds vs = some a) (hn : (xm (zBh c.h ds vs) ++ zAH ds vs).Nodup) (hx : ∀ b, zID ρ c.h (xm (zBh c.h ds vs) ++ zAH ds vs) b → ∀ q, ¬ Zv q b)
  (hpt : ∀ o off, .pt o off ∈ ds → o < zi ds ∧ (zAH ds vs)[o]? = some o ∧ (vu ds vs)[o]? = some 0) :
  ∃ ρ2, HR ρ2 Zv (yM ds a) w ∧ (∀ (j : Nat) (u : V) (y : Value), (zC8 ds a)[j]? = some u → ys[j]? = some y → Cn ρ2 Zv w u y) ∧ vs.length = ds.length ∧
   (∀ o p, ρ2 o = some p → o < (yM ds a).length) ∧ (∀ o, o < (yM ds a).length → ∃ p, ρ2 o = some p) ∧
   (∀ o p x b, ρ2 o = some p → (yM ds a)[o]? = some x → vy x p b → zID ρ c.h (xm (zBh c.h ds vs) ++ zAH ds vs) b) ∧
   (∀ (i o off n : Nat), (zAH ds vs)[i]? = some o → (vu ds vs)[i]? = some off → (vY ds)[i]? = some n → ∃ p0 cs, ρ o = some p0 ∧ c.h[o]? = some (.box cs) ∧ ρ2 i = some ⟨p0.b, p0.x, p0.off + off, vm⟩ ∧ off + n ≤ cs.length) ∧
   (zAH ds vs).length = zi ds ∧ (vu ds vs).length = zi ds ∧ (vY ds).length = zi ds := by
 obtain ⟨l1, ps, bps, n1, n2, n3, m1, m2, m3, ow, bx, key⟩ := zqe hr hv ds vs ys a hl hc hd
 let ρ2 : yH := fun j => if j < zi ds then bps[j]? else ps[j - zi ds]?
 have hat : At ρ2 (zi ds) ps := fun i p e => by
  show (if zi ds + i < zi ds then bps[zi ds + i]? else ps[zi ds + i - zi ds]?) = some p
  rw [if_neg (by omega), Nat.add_sub_cancel_left]; exact e
 have hbt : At ρ2 0 bps := fun i p e => by
  have := (List.getElem?_eq_some_iff.1 e).1
  show (if 0 + i < zi ds then bps[0 + i]? else _) = some p
  rw [if_pos (by omega), Nat.zero_add]; exact e
 have hbx : ∀ (i o off n : Nat), (zAH ds vs)[i]? = some o → (vu ds vs)[i]? = some off → (vY ds)[i]? = some n → ∃ p0 cs, ρ o = some p0 ∧ c.h[o]? = some (.box cs) ∧ ρ2 i = some ⟨p0.b, p0.x, p0.off + off, vm⟩ ∧ off + n ≤ cs.length := by
  intro i o off n e1 e2 e3
  have hlt : i < bps.length := by have := (List.getElem?_eq_some_iff.1 e1).1; omega
  obtain ⟨p0, cs, g1, g2, g3, g4⟩ := bx i o off n bps[i] e1 e2 e3 (List.getElem?_eq_getElem hlt)
  refine ⟨p0, cs, g1, g2, ?_, g4⟩
  have := hbt i bps[i] (List.getElem?_eq_getElem hlt)
  rw [Nat.zero_add] at this
  rw [this, g3]
 obtain ⟨kv, kb⟩ := key ρ2 0 (zi ds) hat hbt (fun o off hm p e => by
  obtain ⟨h1, h2, h3⟩ := hpt o off hm
  obtain ⟨n, h4⟩ : ∃ n, (vY ds)[o]? = some n := ⟨_, List.getElem?_eq_getElem (by omega)⟩
  obtain ⟨p0, cs, g1, g2, g3, _⟩ := hbx o o 0 n h2 h3 h4
  rw [e] at g1; cases g1
  rw [g3, Nat.add_zero, ← ztk (hr.ob o p _ e g2)])
 have hbl : (xA ds a (zi ds)).length = zi ds := xy ds a _
 have hlen : (yM ds a).length = zi ds + ps.length := by simp only [yM, List.length_append, hbl, n2]
 have obj : ∀ o p x, ρ2 o = some p → (yM ds a)[o]? = some x → (o < zi ds ∧ bps[o]? = some p ∧ (xA ds a (zi ds))[o]? = some x ∧ ∃ o0 p0 cs, (zAH ds vs)[o]? = some o0 ∧ ρ o0 = some p0 ∧ c.h[o0]? = some (.box cs) ∧ p.b = p0.b) ∨
   (zi ds ≤ o ∧ ∃ id, (zBh c.h ds vs)[o - zi ds]? = some id ∧ OwnAt ρ Z w c.h id x p) := by
  intro o p x e1 e2
  simp only [yM] at e2
  by_cases ho : o < zi ds
  ·left
   simp only [ρ2, if_pos ho] at e1
   rw [List.getElem?_append_left (by omega)] at e2
   have b1 : (zAH ds vs)[o]? = some (zAH ds vs)[o] := List.getElem?_eq_getElem (by omega)
   have b2 : (vu ds vs)[o]? = some (vu ds vs)[o] := List.getElem?_eq_getElem (by omega)
   have b3 : (vY ds)[o]? = some (vY ds)[o] := List.getElem?_eq_getElem (by omega)
   obtain ⟨p0, cs, g1, g2, g3, _⟩ := bx o _ _ _ p b1 b2 b3 e1
   exact ⟨ho, e1, e2, _, p0, cs, b1, g1, g2, by rw [g3]⟩
  ·right
   simp only [ρ2, if_neg ho] at e1
   rw [List.getElem?_append_right (by omega), hbl] at e2
   have hlt := (List.getElem?_eq_some_iff.1 e1).1
   have b1 : (zBh c.h ds vs)[o - zi ds]? = some (zBh c.h ds vs)[o - zi ds] := List.getElem?_eq_getElem (by omega)
   exact ⟨by omega, _, b1, ow _ _ x p b1 e2 e1⟩
 have origin : ∀ o p x b, ρ2 o = some p → (yM ds a)[o]? = some x → vy x p b → ∃ o0 p0 x0, ρ o0 = some p0 ∧ c.h[o0]? = some x0 ∧ vy x0 p0 b ∧ ((o < zi ds ∧ (zAH ds vs)[o]? = some o0) ∨ (zi ds ≤ o ∧ (zBh c.h ds vs)[o - zi ds]? = some (some o0))) := by
  intro o p x b e1 e2 e3
  rcases obj o p x e1 e2 with ⟨ho, _, hb, o0, p0, cs, g1, g2, g3, g4⟩ | ⟨ho, id, g1, g2⟩
  ·obtain ⟨cells, rfl, _⟩ := kb o x p hb (by assumption)
   cases e3
   exact ⟨o0, p0, _, g2, g3, g4, .inl ⟨ho, g1⟩⟩
  ·have := g2.pl
   cases id with
   | none => exact absurd e3 (this b)
   | some o0 => exact ⟨o0, p, x, this.1, this.2, e3, .inr ⟨ho, g1⟩⟩
 have from_ : ∀ o p x b, ρ2 o = some p → (yM ds a)[o]? = some x → vy x p b → zID ρ c.h (xm (zBh c.h ds vs) ++ zAH ds vs) b := by
  intro o p x b e1 e2 e3
  obtain ⟨o0, p0, x0, g1, g2, g3, g5⟩ := origin o p x b e1 e2 e3
  refine ⟨o0, p0, x0, ?_, g1, g2, g3⟩
  rcases g5 with ⟨_, g5⟩ | ⟨_, g5⟩
  ·exact List.mem_append_right _ (List.mem_of_getElem? g5)
  ·exact List.mem_append_left _ (zK2 g5)
 have hdom : ∀ o p, ρ2 o = some p → o < (yM ds a).length := by
  intro o p e
  rw [hlen]
  by_cases ho : o < zi ds
  ·omega
  ·simp only [ρ2, if_neg ho] at e
   have := (List.getElem?_eq_some_iff.1 e).1; omega
 refine ⟨ρ2, ⟨hv.hl, hdom, fun o p x e1 e2 => ?_, fun o o' p p' x x' b e1 e1' e2 e2' hb hb' => ?_⟩, kv, l1, hdom, fun o ho => ?_, from_, hbx, m1, m2, m3⟩
 ·rcases obj o p x e1 e2 with ⟨ho, g1, g2, _⟩ | ⟨ho, id, g1, g2⟩
  ·obtain ⟨cells, rfl, xs, e, k1, k2, k3⟩ := kb o x p g2 g1
   refine ⟨fun b hb => ?_, hx _ (from_ o p _ _ e1 e2 rfl), xs, e, k1, k2, k3⟩
   have b2 : (vu ds vs)[o]? = some (vu ds vs)[o] := List.getElem?_eq_getElem (by omega)
   have b3 : (vY ds)[o]? = some (vY ds)[o] := List.getElem?_eq_getElem (by omega)
   have b1 : (zAH ds vs)[o]? = some (zAH ds vs)[o] := List.getElem?_eq_getElem (by omega)
   obtain ⟨p0, cs, _, _, g3, _⟩ := bx o _ _ _ p b1 b2 b3 g1
   rw [g3] at hb; exact hb
  ·obtain ⟨s, l, rfl⟩ := g2.ar
   exact g2.obr.arr_cn (hv.hz false) fun b hB => hx _ (from_ o p _ b e1 e2 hB)
 ·obtain ⟨o1, p1, x1, g1, g2, g3, g5⟩ := origin o p x b e1 e2 hb
  obtain ⟨o2, p2, x2, k1, k2, k3, k5⟩ := origin o' p' x' b e1' e2' hb'
  obtain rfl := hr.dj o1 o2 p1 p2 x1 x2 b g1 k1 g2 k2 g3 k3
  have hna := List.nodup_append.1 hn
  rcases g5 with ⟨a1, a2⟩ | ⟨a1, a2⟩ <;> rcases k5 with ⟨b1, b2⟩ | ⟨b1, b2⟩
  ·exact (List.getElem?_inj (List.getElem?_eq_some_iff.1 a2).1 hna.2.1).1 (a2.trans b2.symm)
  ·exact absurd rfl (hna.2.2 o1 (zK2 b2) o1 (List.mem_of_getElem? a2))
  ·exact absurd rfl (hna.2.2 o1 (zK2 a2) o1 (List.mem_of_getElem? b2))
  ·have := znU hna.1 a2 b2
   omega
 ·by_cases ho' : o < zi ds
  ·exact ⟨bps[o]'(by omega), by simp only [ρ2, if_pos ho']; exact List.getElem?_eq_getElem _⟩
  ·exact ⟨ps[o - zi ds]'(by omega), by simp only [ρ2, if_neg ho']; exact List.getElem?_eq_getElem _⟩
end
end Go.Proofs.YtkdidadegedmiaaGreat
namespace Go.Proofs.YtkdidadegedmiaaGreat
open Go.RowKit
def zhq (ys : List Value) : Value := if h : ys.toArray.size = 1 then ys.toArray[0] else .tuple ys.toArray
structure FnG (P : Program) (f : Nat) (d : FnD) (R : List Value → List Value → Value → Prop) : Prop where
 ok : d.ok = true
 enter : ∀ args w, (callFunc f args).run P w = .ok (.enter f args) w
 call : ∀ (w : World) (Z : Zs) (ρ : yH) (a : xC d.args) (xs : List Value), HR ρ Z (yM d.args a) w → xs.length = d.args.length →
  (∀ (i : Nat) (u : V) (y : Value), (zC8 d.args a)[i]? = some u → xs[i]? = some y → Cn ρ Z w u y) → (∀ o, o < (yM d.args a).length → ∃ p, ρ o = some p) → okP (d.pre a) →
  Calls P f xs.toArray w (fun e w' => ∃ x ys ρ' Z', e = .returned x ∧ R xs ys x ∧ Gr w w' ∧
   (∀ b, b < w.heap.size → (∀ (o : Nat) (p : Pl) (y : Ob), ρ o = some p → (yM d.args a)[o]? = some y → ¬ vy y p b) → w'.heap[b]? = w.heap[b]?) ∧
   (∀ b, Z' false b → Z false b ∨ w.heap.size ≤ b ∨ ∃ (o : Nat) (p : Pl) (y : Ob), ρ o = some p ∧ (yM d.args a)[o]? = some y ∧ vy y p b) ∧
   HR ρ' Z' (yM d.res (d.F a)) w' ∧
   (∀ (o : Nat) (p : Pl) (y : Ob) (b : Nat), ρ' o = some p → (yM d.res (d.F a))[o]? = some y → vy y p b → w.heap.size ≤ b ∨ ∃ (o0 : Nat) (p0 : Pl) (y0 : Ob), ρ o0 = some p0 ∧ (yM d.args a)[o0]? = some y0 ∧ vy y0 p0 b) ∧
   (∀ i, i < zi d.args → ρ' i = ρ i) ∧
   (∀ (i : Nat) (p : Pl) (n : Nat), i < zi d.args → ρ i = some p → (vY d.args)[i]? = some n → zBF p.b p.off (p.off + n) w w') ∧
   ys.length = (zCc d.res (d.F a) (zi d.res)).length ∧ ∀ (i : Nat) (u : V) (y : Value), (zCc d.res (d.F a) (zi d.res))[i]? = some u → ys[i]? = some y → Cn ρ' Z' w' u y)
abbrev zKC (P : Program) (f : Nat) (d : FnD) : Prop := FnG P f d fun _ ys x => x = zhq ys
structure NwOk (P : Program) (f : Nat) (d : NwD) : Prop where
 enter : ∀ args w, (callFunc f args).run P w = .ok (.enter f args) w
 call : ∀ (w : World) (Z : Zs) (ρ : yH) (v : V) (x : El d.a) (y : Value), (∀ k b, Z k b → b < w.heap.size) → dec [] d.a [v] = some x → Cn ρ Z w v y →
  Calls P f #[y] w (fun e w' => ∃ (p : Pl) (Z' : Zs), e = .returned (.pointer (some ⟨p.b, p.off, none⟩)) ∧ Gr w w' ∧ (∀ b, b < w.heap.size → w'.heap[b]? = w.heap[b]?) ∧
   (∀ k b, Z k b → Z' k b) ∧ (∀ k b, Z' k b → Z k b ∨ w.heap.size ≤ b) ∧ (∀ k b, Z' k b → b < w'.heap.size) ∧ w.heap.size ≤ p.b ∧
   ∀ ρ', ObR ρ' Z' w' (.box (enc 0 d.t (d.F x))) p)
abbrev zpu (P : Program) (f : Nat) (l : LnD) : Prop := FnG P f l.d fun xs ys x => x = zhq ys.dropLast ∧ ys.getLast? = xs[l.j]?
structure EnvOk (P : Program) (E : Env) : Prop where
 fn : ∀ f d, d ∈ E.fn f → zKC P f d
 nw : ∀ f d, E.nw f = some d → NwOk P f d
 ln : ∀ f l, E.ln f = some l → zpu P f l
section
variable {P : Program} {ρ ρ' ρ2 : yH} {Z Z' Zv : Zs} {w w' : World} {H H' : List Ob} {o : Oper} {ev : Operand → V}
theorem zjv {vs : List V} {ys : List Value} (hl : ys.length = vs.length) (h : ∀ (i : Nat) (u : V) (y : Value), vs[i]? = some u → ys[i]? = some y → Cn ρ Z w u y) : Cn ρ Z w (zrM vs) (zhq ys) := by
 cases vs with
 | nil => have : ys = [] := List.eq_nil_of_length_eq_zero hl; subst this; exact .tup rfl h
 | cons v vs =>
  cases ys with
  | nil => simp at hl
  | cons y ys =>
   cases vs with
   | nil =>
    have : ys = [] := List.eq_nil_of_length_eq_zero (by simpa using hl)
    subst this
    exact h 0 v y rfl rfl
   | cons v' vs =>
    have : ¬ ((y :: ys).toArray.size = 1) := by simp at hl ⊢; intro e; rw [e] at hl; simp at hl
    unfold zhq; rw [dif_neg this]
    exact .tup hl h
theorem HR.newZ (h : HR ρ Z H w) (hs : ∀ b, b < w.heap.size → w'.heap[b]? = w.heap[b]?) (hm : ∀ k b, Z k b → Z' k b) (hn : ∀ k b, Z' k b → Z k b ∨ w.heap.size ≤ b) (hl : ∀ k b, Z' k b → b < w'.heap.size) {x : Ob} {p : Pl}
  (hx : ObR (ρ.upd H.length p) Z' w' x p) (hb : ∀ b, vy x p b → w.heap.size ≤ b) : HR (ρ.upd H.length p) Z' (H ++ [x]) w' := by
 have old : ∀ o q y, (ρ.upd H.length p) o = some q → (H ++ [x])[o]? = some y → (o = H.length ∧ q = p ∧ y = x) ∨ (ρ o = some q ∧ H[o]? = some y) := by
  intro o q y h1 h2
  by_cases e : o = H.length
  ·subst e
   simp [yH.upd] at h1
   simp at h2
   exact .inl ⟨rfl, h1.symm, h2.symm⟩
  ·rw [yH.upd_ne e] at h1
   rw [List.getElem?_append_left (h.dom o q h1)] at h2
   exact .inr ⟨h1, h2⟩
 have kp := h.kpUp hs p
 refine ⟨hl, ?_, ?_, ?_⟩
 ·intro o q e
  by_cases e' : o = H.length
  ·subst e'; simp
  ·rw [yH.upd_ne e'] at e
   have := h.dom o q e
   simp; omega
 ·intro o q y h1 h2
  rcases old o q y h1 h2 with ⟨rfl, rfl, rfl⟩ | ⟨h3, h4⟩
  ·exact hx
  ·refine (h.ob o q y h3 h4).mono ⟨kp.1, hm, kp.3, kp.4⟩ fun b hb => ⟨fun k hk => ?_, hs _ (h.own h3 h4 hb).2⟩
   rcases hn k b hk with hk | hk
   ·exact (h.own h3 h4 hb).1 k hk
   ·have := (h.own h3 h4 hb).2; omega
 ·intro o o' q q' y y' b h1 h1' h2 h2' hb1 hb2
  rcases old o q y h1 h2 with ⟨rfl, rfl, rfl⟩ | ⟨h3, h4⟩
  ·rcases old o' q' y' h1' h2' with ⟨rfl, rfl, rfl⟩ | ⟨h5, h6⟩
   ·rfl
   ·have := hb b hb1
    have := (h.own h5 h6 hb2).2
    omega
  ·rcases old o' q' y' h1' h2' with ⟨rfl, rfl, rfl⟩ | ⟨h5, h6⟩
   ·have := hb b hb2
    have := (h.own h3 h4 hb1).2
    omega
   ·exact h.dj o o' q q' y y' b h3 h5 h4 h6 hb1 hb2
theorem HR.postNewZ (h : HR ρ Z H w) (hz : Gr w w') (hs : ∀ b, b < w.heap.size → w'.heap[b]? = w.heap[b]?) (hm : ∀ k b, Z k b → Z' k b) (hn : ∀ k b, Z' k b → Z k b ∨ w.heap.size ≤ b) (hl : ∀ k b, Z' k b → b < w'.heap.size) {x : Ob} {p : Pl}
  (hx : ObR (ρ.upd H.length p) Z' w' x p) (hb : ∀ b, vy x p b → w.heap.size ≤ b) (q : Nat) : Post q ρ Z H w (ρ.upd H.length p) Z' (H ++ [x]) w' where
 size := hz
 rho o p' e _ := ⟨p'.fp, by rw [yH.upd_ne (Nat.ne_of_lt (h.dom o p' e))]; exact e, fun _ => rfl⟩
 brw o p' b e _ hb := hs b (h.fplt e hb)
 bxs o cs e := ⟨cs, by rw [List.getElem?_append_left (List.getElem?_eq_some_iff.1 e).1]; exact e, rfl⟩
 part o p' cs e e' := zBF.same (hs _ (h.own e e' rfl).2)
 dom o p' e := by
  by_cases e' : o = H.length
  ·exact .inr (by omega)
  ·rw [yH.upd_ne e'] at e; exact .inl ⟨_, e⟩
 newb o p' y b h1 h2 h3 := by
  by_cases e' : o = H.length
  ·subst e'
   simp [yH.upd] at h1; simp at h2
   subst h1 h2
   exact .inl (hb b h3)
  ·rw [yH.upd_ne e'] at h1
   rw [List.getElem?_append_left (h.dom o p' h1)] at h2
   exact .inr ⟨o, p', y, h1, h2, h3⟩
 zm := hm
 zn k b h := (hn k b h).imp id .inl
 same b hb _ := hs b hb
 quiet _ := ⟨hs, hn, ⟨[x], rfl⟩, fun o p' y b h1 h2 h3 h4 => by
  by_cases e' : o = H.length
  ·subst e'
   simp [yH.upd] at h2; simp at h3
   subst h2 h3
   exact hb b h4
  ·rw [yH.upd_ne e'] at h2
   exact absurd (h.dom o p' h2) (by omega)⟩
 hr := h.newZ hs hm hn hl hx hb
theorem zex : ∀ {t : Ty} {x : El t}, zFE t = true → ∀ u ∈ enc 0 t x, ∃ c, u = .c c
 | .int, _, _ => by simp [enc]
 | .u8, _, _ => by simp [enc]
 | .bool, _, _ => by simp [enc]
 | .str, _, _ => by simp [enc]
 | .lst _, _, h => by simp [zFE] at h
 | .pr a b, x, h => by
  simp only [zFE, Bool.and_eq_true] at h
  intro u hu
  simp only [enc, List.mem_append] at hu
  rcases hu with h' | h'
  ·exact zex h.1 u h'
  ·exact zex h.2 u h'
theorem zkx {t : Ty} {x : El t} {u : V} {y : Value} (hu : u ∈ enc 0 t x) (h : Cn ρ Z w u y) (hz : (∀ b, Z false b → Zv false b) ∨ zFE t = true) : Cn ρ2 Zv w u y := by
 rcases hz with hz | hf
 ·exact h.clF (zFQ t x u hu) hz (fun _ _ => rfl)
 ·obtain ⟨c, rfl⟩ := zex hf u hu
  rw [x8 h]; exact .c c (zKF h)
theorem zSn : ∀ (s : OT) (x : El s.ty) (k k2 : Nat), ((∀ b, Z false b → Zv false b) ∨ zBG s = true) → (∀ i, i < s.n → ∀ p, ρ (k + i) = some p → ρ2 (k2 + i) = some p) →
  ∀ (j : Nat) (u u' : V) (y : Value), (zBI s x k)[j]? = some u → (zBI s x k2)[j]? = some u' → Cn ρ Z w u y → Cn ρ2 Zv w u' y
 | .d t, x, k, k2, hz, _, j, u, u', y, h1, h2, h => by
  simp only [zBI] at h1 h2
  rw [h1] at h2; cases h2
  exact zkx (List.mem_of_getElem? h1) h hz
 | .o t, x, k, k2, _, hr, j, u, u', y, h1, h2, h => by
  cases j with
  | zero =>
   simp [zBI] at h1 h2; subst h1 h2
   cases h with
   | obj h hx => exact .obj (hr 0 (by simp [OT.n]) _ h) hx
  | succ j => simp [zBI] at h1
 | .pr a b, x, k, k2, hz, hr, j, u, u', y, h1, h2, h => by
  simp only [zBI] at h1 h2
  have za : (∀ b, Z false b → Zv false b) ∨ zBG a = true := hz.imp id fun h => by simp only [zBG, Bool.and_eq_true] at h; exact h.1
  have zb : (∀ b, Z false b → Zv false b) ∨ zBG b = true := hz.imp id fun h => by simp only [zBG, Bool.and_eq_true] at h; exact h.2
  by_cases hj : j < zO a.ty
  ·rw [List.getElem?_append_left (by rw [yd]; exact hj)] at h1 h2
   exact zSn a x.1 k k2 za (fun i hi p e => hr i (by simp only [OT.n]; omega) p e) j u u' y h1 h2 h
  ·rw [List.getElem?_append_right (by rw [yd]; omega), yd] at h1 h2
   exact zSn b x.2 (k + a.n) (k2 + a.n) zb (fun i hi p e => by rw [Nat.add_assoc] at e ⊢; exact hr (a.n + i) (by simp only [OT.n]; omega) p e) _ u u' y h1 h2 h
theorem ztr (agg : Bool) (s : OT) (x : El s.ty) (k k2 : Nat) {y : Value} (hz : (∀ b, Z false b → Zv false b) ∨ zBG s = true) (hr : ∀ i, i < s.n → ∀ p, ρ (k + i) = some p → ρ2 (k2 + i) = some p)
  (h : Cn ρ Z w (one agg (zBI s x k)) y) : Cn ρ2 Zv w (one agg (zBI s x k2)) y := by
 have hlt : ∀ j, j < zO s.ty → ∃ u u', (zBI s x k)[j]? = some u ∧ (zBI s x k2)[j]? = some u' := fun j hj =>
  ⟨_, _, List.getElem?_eq_getElem (by rw [yd]; exact hj), List.getElem?_eq_getElem (by rw [yd]; exact hj)⟩
 cases agg with
 | true =>
  cases h with
  | agg h0 h =>
   refine .agg (by rw [h0, yd, yd]) fun j u' y hu hy => ?_
   have hj : j < zO s.ty := by rw [← yd s x k2]; exact (List.getElem?_eq_some_iff.1 hu).1
   obtain ⟨u, _, g1, _⟩ := hlt j hj
   exact zSn s x k k2 hz hr j u u' y g1 hu (h j u y g1 hy)
 | false =>
  obtain ⟨u, u', g1, g2⟩ := hlt 0 (zAs _)
  have e1 : (zBI s x k).getD 0 .any = u := by rw [List.getD_eq_getElem?_getD, g1]; rfl
  have e2 : (zBI s x k2).getD 0 .any = u' := by rw [List.getD_eq_getElem?_getD, g2]; rfl
  simp only [one, Bool.false_eq_true, if_false, e1, e2] at h ⊢
  exact zSn s x k k2 hz hr 0 u u' y g1 g2 h
def zgB : List AD → Nat
 | [] => 0
 | d :: ds => d.n + zgB ds
theorem zor {fl : Bool} {s : OT} (hz : fl = false → ∀ b, Z false b → Zv false b) (h : (!fl || zBG s) = true) : (∀ b, Z false b → Zv false b) ∨ zBG s = true := by
 cases fl with
 | false => exact .inl (hz rfl)
 | true => exact .inr (by simpa using h)
theorem zgp (fl : Bool) (hz : fl = false → ∀ b, Z false b → Zv false b) : ∀ (ds : List AD) (a : xC ds) (i i2 k k2 : Nat), ds.all (zPv fl) = true → (∀ i, i < zgB ds → ∀ p, ρ (k + i) = some p → ρ2 (k2 + i) = some p) →
  ∀ (j : Nat) (u u' : V) (y : Value), (zGY ds a i k)[j]? = some u → (zGY ds a i2 k2)[j]? = some u' → (∀ d, ds[j]? = some d → d.r = 0) → Cn ρ Z w u y → Cn ρ2 Zv w u' y
 | [], _, _, _, _, _, _, _, j, u, u', y, h1, _, _, _ => by simp [zGY] at h1
 | d :: ds, a, i, i2, k, k2, hall, hr, j, u, u', y, h1, h2, hd, h => by
  simp only [List.all_cons, Bool.and_eq_true] at hall
  cases j with
  | zero =>
   simp only [zGY, List.getElem?_cons_zero, Option.some.injEq] at h1 h2
   subst h1 h2
   cases d with
   | val agg s => exact ztr agg s a.1 k k2 (zor hz hall.1) (fun i hi p e => hr i (by simp only [zgB, AD.n]; omega) p e) h
   | ref s => exact absurd (hd _ rfl) (by simp [AD.r])
   | _ => exact absurd hall.1 (by simp [zPv])
  | succ j => exact zgp fl hz ds a.2 _ _ (k + d.n) (k2 + d.n) hall.2 (fun i hi p e => by rw [Nat.add_assoc] at e ⊢; exact hr _ (by simp only [zgB]; omega) p e) j u u' y (by simpa [zGY] using h1) (by simpa [zGY] using h2) (fun d e => hd d (by simpa using e)) h
theorem zcd (fl : Bool) (hz : fl = false → ∀ b, Z false b → Zv false b) : ∀ (ds : List AD) (a : xC ds) (k k2 : Nat), ds.all (zPv fl) = true → (∀ i, i < zgB ds → ∀ p, ρ (k + i) = some p → ρ2 (k2 + i) = some p) →
  ∀ (j : Nat) (ob ob' : Ob), (xA ds a k)[j]? = some ob → (xA ds a k2)[j]? = some ob' → ∃ cs cs' : List V, ob = .box cs ∧ ob' = .box cs' ∧ cs'.length = cs.length ∧ (vY ds)[j]? = some cs.length ∧
   ∀ (i : Nat) (u u' : V) (y : Value), cs[i]? = some u → cs'[i]? = some u' → Cn ρ Z w u y → Cn ρ2 Zv w u' y
 | [], _, _, _, _, _, j, ob, ob', h1, _ => by simp [xA] at h1
 | d :: ds, a, k, k2, hall, hr, j, ob, ob', h1, h2 => by
  simp only [List.all_cons, Bool.and_eq_true] at hall
  have ih := zcd fl hz ds a.2 (k + d.n) (k2 + d.n) hall.2 (fun i hi p e => by rw [Nat.add_assoc] at e ⊢; exact hr _ (by simp only [zgB]; omega) p e)
  cases d with
  | val agg s =>
   simp only [xA, AD.boxes, List.nil_append] at h1 h2
   obtain ⟨cs, cs', g1, g2, g3, g4, g5⟩ := ih j ob ob' h1 h2
   exact ⟨cs, cs', g1, g2, g3, by simpa [vY, AD.szs] using g4, g5⟩
  | ref s =>
   simp only [xA, AD.boxes, List.singleton_append] at h1 h2
   cases j with
   | zero =>
    simp at h1 h2; subst h1 h2
    refine ⟨_, _, rfl, rfl, by rw [yd, yd], by simp [vY, AD.szs, yd], fun i u u' y a b c => ?_⟩
    exact zSn s _ k k2 (zor hz hall.1) (fun i hi p e => hr i (by simp only [zgB, AD.n]; omega) p e) i u u' y a b c
   | succ j =>
    obtain ⟨cs, cs', g1, g2, g3, g4, g5⟩ := ih j ob ob' (by simpa using h1) (by simpa using h2)
    exact ⟨cs, cs', g1, g2, g3, by simpa [vY, AD.szs] using g4, g5⟩
  | _ => exact absurd hall.1 (by simp [zPv])
theorem zOx : ∀ (s : OT) (x : El s.ty), ∀ ob ∈ zG4 s x, ∃ t l, ob = .arr t l ∧ (zBG s = true → zBG t = true)
 | .d _, _, _, h => by simp [zG4] at h
 | .o t, l, ob, h => by simp [zG4] at h; subst h; exact ⟨t, l, rfl, fun h => h⟩
 | .pr a b, x, ob, h => by
  simp only [zG4, List.mem_append] at h
  rcases h with h | h
  ·obtain ⟨t, l, e, g⟩ := zOx a x.1 ob h
   exact ⟨t, l, e, fun h => g (by simp only [zBG, Bool.and_eq_true] at h; exact h.1)⟩
  ·obtain ⟨t, l, e, g⟩ := zOx b x.2 ob h
   exact ⟨t, l, e, fun h => g (by simp only [zBG, Bool.and_eq_true] at h; exact h.2)⟩
theorem zYk (fl : Bool) : ∀ (ds : List AD) (a : xC ds), ds.all (zPv fl) = true → ∀ ob ∈ zCu ds a, ∃ t l, ob = .arr t l ∧ (fl = true → zBG t = true)
 | [], _, _, ob, h => by simp [zCu] at h
 | d :: ds, a, hall, ob, h => by
  simp only [List.all_cons, Bool.and_eq_true] at hall
  simp only [zCu, List.mem_append] at h
  have key : ∀ s : OT, (!fl || zBG s) = true → fl = true → zBG s = true := by intro s h1 h2; subst h2; simpa using h1
  rcases h with h | h
  ·cases d with
   | val agg s => obtain ⟨t, l, e, g⟩ := zOx s a.1 ob h; exact ⟨t, l, e, fun e => g (key s hall.1 e)⟩
   | ref s => obtain ⟨t, l, e, g⟩ := zOx s a.1 ob h; exact ⟨t, l, e, fun e => g (key s hall.1 e)⟩
   | _ => exact absurd hall.1 (by simp [zPv])
  ·exact zYk fl ds a.2 hall.2 ob h
theorem TrO.re : ∀ {s : OT} {x : El s.ty} {vs : List Value} {fp : Nat → Prop}, TrO Z w s x vs fp → ((∀ b, Z false b → Zv false b) ∨ zBG s = true) → (∀ b q, fp b → ¬ Zv q b) → TrO Zv w s x vs fp
 | .d t, x, vs, fp, h, hz, _ => ⟨h.1, h.2.1, fun j u y hu hy => zkx (List.mem_of_getElem? hu) (h.2.2 j u y hu hy) hz⟩
 | .o s, x, vs, fp, h, hz, hn => by
  obtain ⟨v, b, e, h⟩ := h
  exact ⟨v, b, e, h.imp (fun _ _ => rfl) (fun b q hb => hn b q hb) fun x vs f hs ht => TrO.re ht hz (fun b q hb => hn b q (hs b hb))⟩
 | .pr a b, x, vs, fp, h, hz, hn => by
  obtain ⟨f, g, h1, h2, h3, h4⟩ := h
  have za : (∀ b, Z false b → Zv false b) ∨ zBG a = true := hz.imp id fun h => by simp only [zBG, Bool.and_eq_true] at h; exact h.1
  have zb : (∀ b, Z false b → Zv false b) ∨ zBG b = true := hz.imp id fun h => by simp only [zBG, Bool.and_eq_true] at h; exact h.2
  exact ⟨f, g, h1.re za (fun b q hb => hn b q ((h3 b).2 (.inl hb))), h2.re zb (fun b q hb => hn b q ((h3 b).2 (.inr hb))), h3, h4⟩
theorem ObR.arr_re {s : OT} {l : List (El s.ty)} {p : Pl} (h : ObR ρ Z w (.arr s l) p) (hz : (∀ b, Z false b → Zv false b) ∨ zBG s = true) (hn : ∀ b, p.fp b → ∀ q, ¬ Zv q b) : ObR ρ2 Zv w (.arr s l) p :=
 zI3.imp h (fun _ _ => rfl) (fun b q hb => hn b hb q) fun _ _ _ hf ht => ht.re hz (fun b q hb => hn b (hf b hb) q)
theorem zOH : ∀ (os offs : List Nat) (xs H : List Ob), (zDg H os offs xs).length = H.length := by
 intro os
 induction os with
 | nil => intro offs xs H; simp [zDg]
 | cons o os ih =>
  intro offs xs H
  cases offs with
  | nil => simp [zDg]
  | cons off offs =>
   cases xs with
   | nil => simp [zDg]
   | cons x xs =>
    cases x with
    | box new =>
     simp only [zDg]
     split
     ·rw [ih, List.length_set]
     ·rw [ih]
    | _ => simp [zDg]
theorem zIo : ∀ (os offs : List Nat) (xs H : List Ob) (o : Nat), o ∉ os → (zDg H os offs xs)[o]? = H[o]? := by
 intro os
 induction os with
 | nil => intro offs xs H o _; simp [zDg]
 | cons a os ih =>
  intro offs xs H o h
  have h1 : o ≠ a := fun e => h (by rw [e]; exact List.mem_cons_self)
  have h2 : o ∉ os := fun e => h (List.mem_cons_of_mem _ e)
  cases offs with
  | nil => simp [zDg]
  | cons off offs =>
   cases xs with
   | nil => simp [zDg]
   | cons x xs =>
    cases x with
    | box new =>
     simp only [zDg]
     split
     ·rw [ih _ _ _ o h2, List.getElem?_set_ne (Ne.symm h1)]
     ·rw [ih _ _ _ o h2]
    | _ => simp [zDg]
theorem zn1 : ∀ (os offs : List Nat) (xs H : List Ob), os.Nodup → xs.all (fun x => match x with | .box _ => true | _ => false) = true → ∀ (i o off : Nat) (new cs : List V), os[i]? = some o → offs[i]? = some off → xs[i]? = some (.box new) → H[o]? = some (.box cs) →
  (zDg H os offs xs)[o]? = some (.box (cs.take off ++ new ++ cs.drop (off + new.length))) := by
 intro os
 induction os with
 | nil => intro offs xs H _ _ i o off new cs h; simp at h
 | cons a os ih =>
  intro offs xs H hn hall i o off new cs h1 h2 h3 h4
  have hn := List.nodup_cons.1 hn
  cases offs with
  | nil => simp at h2
  | cons f offs =>
   cases xs with
   | nil => simp at h3
   | cons x xs =>
    simp only [List.all_cons, Bool.and_eq_true] at hall
    cases x with
    | box new' =>
     simp only [zDg]
     cases i with
     | zero =>
      simp at h1 h2 h3; subst h1 h2 h3
      rw [h4]
      simp only
      rw [zIo _ _ _ _ _ hn.1, List.getElem?_set_self (List.getElem?_eq_some_iff.1 h4).1]
     | succ i =>
      have h1 : os[i]? = some o := by simpa using h1
      have hne : a ≠ o := fun e => hn.1 (e ▸ List.mem_of_getElem? h1)
      split
      ·exact ih offs xs _ hn.2 hall.2 i o off new cs h1 (by simpa using h2) (by simpa using h3) (by rw [List.getElem?_set_ne hne]; exact h4)
      ·exact ih offs xs _ hn.2 hall.2 i o off new cs h1 (by simpa using h2) (by simpa using h3) h4
    | _ => exact absurd hall.1 (by simp)
theorem zX9 : ∀ (ds : List AD) (a : xC ds) (k : Nat), (xA ds a k).all (fun x => match x with | .box _ => true | _ => false) = true
 | [], _, _ => rfl
 | d :: ds, a, k => by
  simp only [xA, List.all_append, Bool.and_eq_true]
  refine ⟨?_, zX9 ds a.2 _⟩
  cases d <;> rfl
theorem xJ (H : List Ob) (os : List Nat) (q : Nat) : (zy H os q).length = H.length := by
 unfold zy; split
 ·rfl
 ·rw [List.length_map, zl6]
theorem zML {H : List Ob} {os : List Nat} {q o : Nat} {x : Ob} (h : (zy H os q)[o]? = some x) : (o ∈ os ∧ x = .gone) ∨ (o ∉ os ∧ ∃ y, H[o]? = some y ∧ (os = [] ∧ x = y ∨ os ≠ [] ∧ x = vK q y)) := by
 unfold zy at h
 split at h
 ·exact .inr ⟨by simp, x, h, .inl ⟨rfl, rfl⟩⟩
 ·rename_i a l
  rw [List.getElem?_map, zH2, Option.map_map, Option.map_eq_some_iff] at h
  obtain ⟨y, h1, h2⟩ := h
  simp only [Function.comp] at h2
  by_cases hm : o ∈ a :: l
  ·rw [List.contains_iff_mem.2 hm, cond_true] at h2
   exact .inl ⟨hm, h2.symm⟩
  ·have : (a :: l).contains o = false := by
    cases e : (a :: l).contains o with
    | false => rfl
    | true => exact absurd (List.contains_iff_mem.1 e) hm
   rw [this, cond_false] at h2
   exact .inr ⟨hm, y, h1, .inr ⟨by simp, h2.symm⟩⟩
theorem zBF.mono {b lo hi lo' hi' : Nat} (h : zBF b lo hi w w') (h1 : lo' ≤ lo) (h2 : hi ≤ hi') : zBF b lo' hi' w w' := by
 intro xs e g
 obtain ⟨ys, k1, k2, k3⟩ := h xs e g
 exact ⟨ys, k1, k2, fun j hj => k3 j (by omega)⟩
end
end Go.Proofs.YtkdidadegedmiaaGreat
namespace Go.Proofs.YtkdidadegedmiaaGreat
open Go.RowKit
theorem FnD.ok_eq {d : FnD} (h : d.ok = true) : d.res.all (zPv d.flat) = true ∧ d.args.all ztt = true ∧ zi (d.res.take (d.res.length - zi d.res)) = 0 ∧ zi d.res = zi d.args ∧ vY d.res = vY d.args := by
 simp only [FnD.ok, Bool.and_eq_true, decide_eq_true_eq] at h
 exact ⟨h.1.1.1.1.2, h.1.1.1.2, h.1.1.2, h.1.2, h.2⟩
theorem FnD.ok_one {d : FnD} (h : d.ok = true) : d.args.all AD.one1 = true := by
 simp only [FnD.ok, Bool.and_eq_true, decide_eq_true_eq] at h
 exact h.1.1.1.1.1
theorem zpg : ∀ {ds : List AD}, zi ds = 0 → ∀ d ∈ ds, d.r = 0
 | [], _, d, h => by cases h
 | a :: ds, h, d, hd => by
  simp only [zi] at h
  rcases List.mem_cons.1 hd with rfl | hd
  ·omega
  ·exact zpg (by omega) d hd
theorem zKz : ∀ (ds : List AD) (a : xC ds) (i k : Nat), (zGY ds a i k).length = ds.length
 | [], _, _, _ => rfl
 | d :: ds, a, i, k => by simp only [zGY, List.length_cons, zKz ds]
theorem zEZ (os : List Nat) : ∀ H : List Ob, (freezeL H os).length = H.length := by
 induction os with
 | nil => intro H; rfl
 | cons o os ih => intro H; simp only [freezeL]; rw [ih, zUE]
theorem zH5 : ∀ (a b : List (Option Nat)), xm (a ++ b) = xm a ++ xm b
 | [], _ => rfl
 | some o :: a, b => by simp only [List.cons_append, xm, zH5 a b]
 | none :: a, b => by simp only [List.cons_append, xm, zH5 a b]
section
variable {P : Program} {ρ ρ' ρ2 : yH} {Z Z' Zv : Zs} {w w' : World} {H H' : List Ob} {o : Oper} {ev : Operand → V}
def Scr (os : List Nat) (q : Nat) (u u' : V) : Prop := (os = [] ∧ u' = u) ∨ (os ≠ [] ∧ u' = scrub q u)
theorem zQq {os : List Nat} {q o : Nat} {cs : List V} (h : H[o]? = some (.box cs)) (ho : o ∉ os) : ∃ cs1, (zy H os q)[o]? = some (.box cs1) ∧ cs1.length = cs.length ∧ ∀ (i : Nat) (u' : V), cs1[i]? = some u' → ∃ u, cs[i]? = some u ∧ Scr os q u u' := by
 unfold zy
 split
 ·exact ⟨cs, h, rfl, fun i u' e => ⟨u', e, .inl ⟨rfl, rfl⟩⟩⟩
 ·rename_i a l
  refine ⟨cs.map (scrub q), ?_, by simp, fun i u' e => ?_⟩
  ·rw [List.getElem?_map, zH2, h]
   have : (a :: l).contains o = false := by
    cases e : (a :: l).contains o with
    | false => rfl
    | true => exact absurd (List.contains_iff_mem.1 e) ho
   rw [Option.map_some, this]; rfl
  ·rw [List.getElem?_map, Option.map_eq_some_iff] at e
   obtain ⟨u, h1, h2⟩ := e
   exact ⟨u, h1, .inr ⟨by simp, h2.symm⟩⟩
theorem zNG {c : Cx} : ∀ (s : OT) (vs : List V) (x : El s.ty), rdO c s vs = some x → ∀ o ∈ xm (zJ0 s vs), ∃ t l, c.h[o]? = some (.arr t l)
 | .d _, _, _, _, o, h => by simp [zJ0, xm] at h
 | .o t, vs, x, hd, o, h => by
  simp only [rdO] at hd
  unfold zI8 at hd
  split at hd
  ·rename_i v
   simp only [zJ0, id1] at h
   split at h
   ·rename_i o' e
    simp only [List.cons.injEq, and_true] at e
    subst e
    simp [xm] at h; subst h
    unfold zYh at hd
    simp only at hd
    split at hd
    ·rename_i t' l' e'; exact ⟨t', l', e'⟩
    ·cases hd
   ·simp [xm] at h
  ·cases hd
 | .pr a b, vs, x, hd, o, h => by
  simp only [rdO] at hd
  split at hd
  ·rename_i p q e1 e2
   simp only [zJ0, zH5, List.mem_append] at h
   rcases h with h | h
   ·exact zNG a _ p e1 o h
   ·exact zNG b _ q e2 o h
  ·cases hd
theorem zWP {c : Cx} {ds : List AD} {vs : List V} {a : xC ds} (hd : rdA c ds vs = some a) {o : Nat} (h : o ∈ xm (zBh c.h ds vs)) : ∃ s l, c.h[o]? = some (.arr s l) := by
 induction ds generalizing vs with
 | nil => cases vs <;> simp [zBh, xm] at h
 | cons d ds ih =>
  cases vs with
  | nil => simp [zBh, xm] at h
  | cons v vs =>
   simp only [rdA] at hd
   split at hd
   ·rename_i p q e1 e2
    simp only [zBh, zH5, List.mem_append] at h
    rcases h with h | h
    ·cases d with
     | val agg s =>
      simp only [AD.rd, Option.bind_eq_some_iff] at e1
      obtain ⟨cells, g1, g2⟩ := e1
      simp only [AD.ids, g1, Option.getD_some] at h
      exact zNG s cells p g2 o h
     | ref s =>
      simp only [AD.rd, Option.bind_eq_some_iff] at e1
      obtain ⟨cells, g1, g2⟩ := e1
      simp only [AD.ids, g1, Option.getD_some] at h
      exact zNG s cells p g2 o h
     | _ => simp [AD.ids, xm] at h
    ·exact ih e2 h
   ·cases hd
theorem zly {c : Cx} {ds : List AD} {vs : List V} {a : xC ds} (hd : rdA c ds vs = some a) {o : Nat} (h : o ∈ xm (zBh c.h ds vs)) {cs : List V} (e : c.h[o]? = some (.box cs)) : False := by
 obtain ⟨s, l, g⟩ := zWP hd h
 rw [e] at g; cases g
theorem x3 {q : Nat} {z : Ob} {p : Pl} {b : Nat} : vy (vK q z) p b ↔ vy z p b := by cases z <;> exact Iff.rfl
theorem zKM {hem : Bool} {os bs : List Nat} (o : Nat) : vp (zCe hem os bs) o = os.contains o ∧ zBf (zCe hem os bs) o = os.contains o := by
 unfold zCe
 cases os with
 | cons a l => exact ⟨zFa _ _, zF2 _ _⟩
 | nil =>
  have : ∀ q, q < 3 → vp q o = ([] : List Nat).contains o ∧ zBf q o = ([] : List Nat).contains o := fun q hq => ⟨zVn hq, zRQ hq⟩
  cases bs with
  | cons a l => exact this 2 (by decide)
  | nil => cases hem <;> exact this _ (by decide)
theorem za8 {fid : Nat} {d : FnD} {R : List Value → List Value → Value → Prop} (hF : FnG P fid d R) {vs us : List V} {q : Nat} {ok : Option Prop} {a0 : xC d.args} {H1 : List Ob} {os bs : List Nat} (hp : zPZ d.flat true H d.args vs = some (a0, H1, os, bs))
  (h : zCe (zEt d.flat H d.args vs).isEmpty os bs = q ∧ d.pre a0 = ok ∧ zCc d.res (d.F a0) H1.length = us ∧
   zDg (zy H1 os (zCe (zEt d.flat H d.args vs).isEmpty os bs)) bs (vu d.args vs) (xA d.res (d.F a0) H1.length) ++ zCu d.res (d.F a0) = H')
  (hr : HR ρ Z H w) {xs : List Value} (hys : xs.length = vs.length)
  (hall0 : ∀ (i : Nat) (u : V) (y : Value), vs[i]? = some u → xs[i]? = some y → Cn ρ Z w u y) (hpre : okP ok) :
  Calls P fid xs.toArray w (fun e w' => ∃ x rs ρ' Z', e = .returned x ∧ R xs rs x ∧ Post q ρ Z H w ρ' Z' H' w' ∧ rs.length = us.length ∧ ∀ (i : Nat) (u : V) (y : Value), us[i]? = some u → rs[i]? = some y → Cn ρ' Z' w' u y) := by
 obtain ⟨hok, henter, hcall⟩ := hF
 obtain ⟨ok1, ok2, ok3, ok4, ok5⟩ := FnD.ok_eq hok
 unfold zPZ at hp
 simp only at hp
 generalize hfz : zEt d.flat H d.args vs = fz at h hp
 split at hp
 rotate_left
 ·cases hp
 rename_i hnd
 have hnd := zFT hnd
 split at hp
 rotate_left
 ·cases hp
 rename_i a hrd
 simp only [Option.some.injEq, Prod.mk.injEq] at hp
 obtain ⟨rfl, rfl, rfl, rfl⟩ := hp
 obtain ⟨hq, rfl, rfl, rfl⟩ := h
 rw [hq]
 obtain ⟨Z1, a1, a2, a3, a4, a5, a6⟩ : ∃ Z1 : Zs, (∀ k b, Z k b → Z1 k b) ∧ (∀ k b, Z1 k b → Z k b ∨ ∃ o0 p0 x0, ρ o0 = some p0 ∧ H[o0]? = some x0 ∧ vy x0 p0 b) ∧ HR ρ Z1 (freezeL H fz) w ∧
   (freezeL H fz).length = H.length ∧ (∀ (o0 : Nat) (p0 : Pl) (x0 : Ob) (b : Nat), (freezeL H fz)[o0]? = some x0 → vy x0 p0 b → H[o0]? = some x0) ∧ (fz = [] → Z1 = Z) := by
  by_cases hem : fz = []
  ·subst hem
   exact ⟨Z, fun _ _ h => h, fun _ _ h => .inl h, hr, rfl, fun _ _ _ _ h _ => h, fun _ => rfl⟩
  ·obtain ⟨Z1, a1, a2, a3, a4, a5⟩ := hr.freezeL fz
   exact ⟨Z1, a1, a2, a3, a4, a5, fun h => absurd h hem⟩
 have hbx := fun (o : Nat) (cs : List V) (e : H[o]? = some (.box cs)) => zUH fz o cs e
 have hall : ∀ (i : Nat) (u : V) (y : Value), vs[i]? = some u → xs[i]? = some y → Cn ρ Z1 w u y := fun i u y hu hy => (hall0 i u y hu hy).mono (Kp.rz a1)
 generalize hH1 : freezeL H fz = H1 at *
 generalize hbs : zAH d.args vs = bs at *
 generalize hoff : vu d.args vs = offs at *
 generalize hos : xm (zBh H1 d.args vs) = os at *
 let Mv : Nat → Prop := zID ρ H1 (os ++ bs)
 have mz : ∀ b, Mv b → b < w.heap.size ∧ ∀ k, ¬ Z1 k b := by
  rintro b ⟨o0, p0, x0, _, g1, g2, g3⟩
  have := a3.own g1 g2 g3
  exact ⟨this.2, this.1⟩
 have zA5 : ∀ o0 p0 x0 b, ρ o0 = some p0 → H1[o0]? = some x0 → vy x0 p0 b → o0 ∉ os ++ bs → ¬ Mv b := by
  rintro o0 p0 x0 b g1 g2 g3 g4 ⟨o', p', x', k0, k1, k2, k3⟩
  exact g4 (a3.dj o' o0 p' p0 x' x0 b k1 g1 k2 g2 k3 g3 ▸ k0)
 have hgm : ∀ (o0 : Nat) (x : Ob), (zJi H1 (os ++ bs))[o0]? = some x → x = .gone ∨ (H1[o0]? = some x ∧ o0 ∉ os ++ bs) := by
  intro o0 x e
  rw [zH2, Option.map_eq_some_iff] at e
  obtain ⟨y, e1, e2⟩ := e
  by_cases hm : o0 ∈ os ++ bs
  ·rw [List.contains_iff_mem.2 hm] at e2; exact .inl e2.symm
  ·have : (os ++ bs).contains o0 = false := by
    cases e : (os ++ bs).contains o0 with
    | false => rfl
    | true => exact absurd (List.contains_iff_mem.1 e) hm
   rw [this] at e2
   exact .inr ⟨by rw [e1]; exact congrArg some e2, hm⟩
 let Zv : Zs := fun k b => b < w.heap.size ∧ ¬ Mv b ∧ (k = true ∨ d.flat = true ∨ Z1 k b)
 have zz : ∀ k b, Z1 k b → Zv k b := fun k b hb => ⟨a3.zl k b hb, fun hm => (mz b hm).2 k hb, .inr (.inr hb)⟩
 have seen : ∀ (o0 : Nat) (p : Pl) (x : Ob) (b : Nat), ρ o0 = some p → (zJi H1 (os ++ bs))[o0]? = some x → vy x p b → b < w.heap.size ∧ ¬ Mv b := by
  intro o0 p x b g1 g2 g3
  rcases hgm o0 x g2 with rfl | ⟨g4, g5⟩
  ·exact g3.elim
  ·exact ⟨(a3.own g1 g4 g3).2, zA5 o0 p x b g1 g4 g3 g5⟩
 have hv : Vw ρ Z1 w ⟨d.flat, true, H1, zJi H1 (os ++ bs)⟩ Zv :=
  ⟨zz, fun k b h => h.1, fun o0 x e => (hgm o0 x e).imp id And.left, fun hf o0 p x b g1 g2 g3 => ⟨(seen o0 p x b g1 g2 g3).1, (seen o0 p x b g1 g2 g3).2, .inr (.inl hf)⟩, fun _ o0 p x b g1 g2 g3 => ⟨(seen o0 p x b g1 g2 g3).1, (seen o0 p x b g1 g2 g3).2, .inl rfl⟩⟩
 obtain ⟨ρ2, r1, r2, r3, r4, r5, r6, r7, r8, r9, r10⟩ := zlW (c := ⟨d.flat, true, H1, zJi H1 (os ++ bs)⟩) a3 hv hys hall hrd (by rw [hos, hbs]; exact hnd) (by rw [hos, hbs]; exact fun b hm q hz => hz.2.1 hm) (fun o off hm => by
  have := List.all_eq_true.1 ok2 _ hm; cases this)
 simp only [hos, hbs, hoff] at r6 r7 r8 r9
 have hc := hcall w Zv ρ2 a xs r1 (by rw [hys, r3]) r2 r5 hpre
 refine hc.mono ?_
 rintro e w' ⟨x, rs, ρ', Z', rfl, hR, gr, same, zs, hr', own, refs, parts, hrl, hv'⟩
 generalize hy : d.F a = y at *
 have mv : ∀ (o0 : Nat) (p : Pl) (x : Ob) (b : Nat), ρ2 o0 = some p → (yM d.args a)[o0]? = some x → vy x p b → Mv b := r6
 have low : ∀ b, b < w.heap.size → ¬ Mv b → w'.heap[b]? = w.heap[b]? := fun b hb hm => same b hb fun o0 p x g1 g2 g3 => hm (mv o0 p x b g1 g2 g3)
 have zkeep : ∀ k b, Z1 k b → w'.heap[b]? = w.heap[b]? := fun k b hb => low b (a3.zl k b hb) (zz k b hb).2.1
 let n := H1.length
 let Z2 : Zs := fun k b => Z1 k b ∨ ((w.heap.size ≤ b ∨ Mv b) ∧ Z' k b)
 let ρ3 : yH := fun o => if o < n then (if o ∈ os then none else ρ o) else ρ' (zi d.res + (o - n))
 have up : ∀ o p, ρ o = some p → o ∉ os → ρ3 o = some p := fun o p e h => by simp only [ρ3, if_pos (show o < n from a3.dom o p e), if_neg h]; exact e
 have dn : ∀ o p, o < n → ρ3 o = some p → o ∉ os ∧ ρ o = some p := fun o p hlt e => by
  simp only [ρ3, if_pos hlt] at e
  split at e
  ·cases e
  ·exact ⟨by assumption, e⟩
 have re : ∀ i, i < zgB d.res → ∀ p, ρ' (zi d.res + i) = some p → ρ3 (n + i) = some p := fun i _ p e => by
  simp only [ρ3, if_neg (show ¬ (n + i < n) by omega), Nat.add_sub_cancel_left]; exact e
 have zf : d.flat = false → ∀ b, Z' false b → Z2 false b := by
  intro hf b hb
  rcases zs b hb with h | h | ⟨o0, p, y, g1, g2, g3⟩
  ·rcases h.2.2 with h | h | h
   ·cases h
   ·rw [hf] at h; cases h
   ·exact .inl h
  ·exact .inr ⟨.inl h, hb⟩
  ·exact .inr ⟨.inr (mv o0 p y b g1 g2 g3), hb⟩
 have fpk : ∀ o p b, ρ o = some p → o ∉ os → p.fp b → w'.heap[b]? = w.heap[b]? := by
  intro o p b e h hb
  rcases a3.fpz e hb with ⟨x, e1, e2⟩ | e1
  ·by_cases hb' : o ∈ bs
   ·-- a variable has no rows
    have : ∃ cs, H1[o]? = some (.box cs) := by
     obtain ⟨i, hi⟩ := List.mem_iff_getElem?.1 hb'
     have hlt : i < zi d.args := by rw [← r8]; exact (List.getElem?_eq_some_iff.1 hi).1
     obtain ⟨p0, cs0, _, g2, _⟩ := r7 i o _ _ hi (List.getElem?_eq_getElem (by omega)) (List.getElem?_eq_getElem (by omega))
     exact ⟨cs0, g2⟩
    obtain ⟨cs0, g⟩ := this
    exact absurd hb ((a3.ob o p _ e g).1 b)
   ·exact low b (a3.own e e1 e2).2 (zA5 o p x b e e1 e2 fun hm => (List.mem_append.1 hm).elim h hb')
  ·exact zkeep _ b e1
 have kh := fun o => zKM (hem := fz.isEmpty) (os := os) (bs := bs) o
 rw [hq] at kh
 have sk : Sk q ρ Z1 w ρ3 Z2 w' := ⟨fun o p e k => ⟨p.fp, up o p e (fun hm => by rw [(kh o).1, List.contains_iff_mem.2 hm] at k; cases k), fun _ => rfl⟩, fun _ _ h => .inl h, zkeep,
  fun o p b e k hb => fpk o p b e (fun hm => by rw [(kh o).2, List.contains_iff_mem.2 hm] at k; cases k) hb⟩
 have keepc : ∀ (u u' : V) (y : Value), Scr os q u u' → Cn ρ Z1 w u y → Cn ρ3 Z2 w' u' y := by
  intro u u' y hu hc
  rcases hu with ⟨h0, rfl⟩ | ⟨_, rfl⟩
  ·exact hc.mono ⟨fun o p e => up o p e (by rw [h0]; simp), fun _ _ h => .inl h, zkeep, fun o p b e hb => fpk o p b e (by rw [h0]; simp) hb⟩
  ·exact hc.scrub sk
 have hn0 := List.nodup_append.1 hnd
 have hbn : bs.Nodup := hn0.2.1
 have nos : ∀ o0, o0 ∈ bs → o0 ∉ os := fun o0 h1 h2 => hn0.2.2 o0 h2 o0 h1 rfl
 have hKl : (zDg (zy H1 os q) bs offs (xA d.res y n)).length = n := by rw [zOH, xJ]
 have stored : ∀ o0, o0 ∈ bs → ∃ (i : Nat) (p0 : Pl) (off : Nat) (cs0 cs1 new csa : List V), i < zi d.args ∧ ρ o0 = some p0 ∧ H1[o0]? = some (.box cs0) ∧ ρ' i = some ⟨p0.b, p0.x, p0.off + off, vm⟩ ∧ off + new.length ≤ cs0.length ∧ cs1.length = cs0.length ∧
   (zDg (zy H1 os q) bs offs (xA d.res y n))[o0]? = some (.box (cs1.take off ++ new ++ cs1.drop (off + new.length))) ∧ (∀ (i : Nat) (u' : V), cs1[i]? = some u' → ∃ u, cs0[i]? = some u ∧ Scr os q u u') ∧
   (yM d.res y)[i]? = some (.box csa) ∧ csa.length = new.length ∧ (∀ (i : Nat) (u u' : V) (z : Value), csa[i]? = some u → new[i]? = some u' → Cn ρ' Z' w' u z → Cn ρ3 Z2 w' u' z) ∧
   zBF p0.b (p0.off + off) (p0.off + off + new.length) w w' := by
  intro o0 hm
  obtain ⟨i, hi⟩ := List.mem_iff_getElem?.1 hm
  have hlt : i < zi d.args := by rw [← r8]; exact (List.getElem?_eq_some_iff.1 hi).1
  have h2 : offs[i]? = some (offs[i]'(by omega)) := List.getElem?_eq_getElem _
  have h3 : (vY d.args)[i]? = some ((vY d.args)[i]'(by omega)) := List.getElem?_eq_getElem _
  generalize offs[i]'(by omega) = off at h2
  generalize (vY d.args)[i]'(by omega) = sz at h3
  obtain ⟨p0, cs0, g1, g2, g3, g4⟩ := r7 i o0 off sz hi h2 h3
  obtain ⟨cs1, k1, k2, k3⟩ := zQq (os := os) (q := q) g2 (nos o0 hm)
  have hb1 : (xA d.res y (zi d.res))[i]? = some ((xA d.res y (zi d.res))[i]'(by rw [xy]; omega)) := List.getElem?_eq_getElem _
  have hb2 : (xA d.res y n)[i]? = some ((xA d.res y n)[i]'(by rw [xy]; omega)) := List.getElem?_eq_getElem _
  obtain ⟨csa, new, e1, e2, e3, e4, e5⟩ := zcd (ρ := ρ') (ρ2 := ρ3) (Z := Z') (Zv := Z2) (w := w') d.flat zf d.res y (zi d.res) n ok1 re i _ _ hb1 hb2
  rw [e1] at hb1; rw [e2] at hb2
  rw [ok5, h3] at e4
  have e4 : sz = csa.length := by simpa using e4
  refine ⟨i, p0, off, cs0, cs1, new, csa, hlt, g1, g2, by rw [refs i hlt, g3], by omega, k2, zn1 bs offs _ _ hbn (zX9 _ _ _) i o0 off new cs1 hi h2 hb2 k1, k3, ?_, e3.symm, e5, ?_⟩
  ·simp only [yM]
   rw [List.getElem?_append_left (by rw [xy]; omega)]; exact hb1
  ·have := parts i _ sz hlt g3 h3
   rw [e3, ← e4]; exact this
 have oldo : ∀ o0 x, (zDg (zy H1 os q) bs offs (xA d.res y n))[o0]? = some x → o0 ∉ bs → x = .gone ∨ (o0 ∉ os ++ bs ∧ ∃ z, H1[o0]? = some z ∧ (os = [] ∧ x = z ∨ os ≠ [] ∧ x = vK q z)) := by
  intro o0 x e hb
  rw [zIo _ _ _ _ _ hb] at e
  rcases zML e with ⟨_, h⟩ | ⟨h, z, g1, g2⟩
  ·exact .inl h
  ·exact .inr ⟨fun hm => (List.mem_append.1 hm).elim h hb, z, g1, g2⟩
 have was : ∀ o0 p x b, o0 < n → ρ3 o0 = some p → (zDg (zy H1 os q) bs offs (xA d.res y n))[o0]? = some x → vy x p b → ρ o0 = some p ∧ ∃ z, H1[o0]? = some z ∧ vy z p b ∧ (o0 ∈ bs ∨ o0 ∉ os ++ bs) := by
  intro o0 p x b hlt e1 e2 e3
  obtain ⟨e0, e1⟩ := dn o0 p hlt e1
  refine ⟨e1, ?_⟩
  by_cases hb : o0 ∈ bs
  ·obtain ⟨i, p0, off, cs0, cs1, new, csa, _, g1, g2, _, _, _, g7, _⟩ := stored o0 hb
   rw [g7] at e2; cases e2
   exact ⟨_, g2, e3, .inl hb⟩
  ·rcases oldo o0 x e2 hb with rfl | ⟨g0, z, g1, g2⟩
   ·exact e3.elim
   ·refine ⟨z, g1, ?_, .inr g0⟩
    rcases g2 with ⟨_, rfl⟩ | ⟨_, rfl⟩
    ·exact e3
    ·exact x3.1 e3
 have newo : ∀ o0 p x, n ≤ o0 → ρ3 o0 = some p → (zDg (zy H1 os q) bs offs (xA d.res y n) ++ zCu d.res y)[o0]? = some x → ρ' (zi d.res + (o0 - n)) = some p ∧ (yM d.res y)[zi d.res + (o0 - n)]? = some x ∧ ∃ t l, x = .arr t l ∧ (d.flat = true → zBG t = true) := by
  intro o0 p x hge e1 e2
  simp only [ρ3, if_neg (show ¬ (o0 < n) by omega)] at e1
  rw [List.getElem?_append_right (by omega), hKl] at e2
  refine ⟨e1, ?_, zYk d.flat d.res y ok1 x (List.mem_of_getElem? e2)⟩
  simp only [yM]
  rw [List.getElem?_append_right (by rw [xy]; omega), xy, Nat.add_sub_cancel_left]; exact e2
 have newb : ∀ o0 p x b, n ≤ o0 → ρ3 o0 = some p → (zDg (zy H1 os q) bs offs (xA d.res y n) ++ zCu d.res y)[o0]? = some x → vy x p b → w.heap.size ≤ b ∨ Mv b := by
  intro o0 p x b hge e1 e2 e3
  obtain ⟨g1, g2, _⟩ := newo o0 p x hge e1 e2
  rcases own _ p x b g1 g2 e3 with h | ⟨o1, p1, y1, k1, k2, k3⟩
  ·exact .inl h
  ·exact .inr (mv o1 p1 y1 b k1 k2 k3)
 have mvOld : ∀ b, Mv b → ∃ o0 p0 x0, ρ o0 = some p0 ∧ H[o0]? = some x0 ∧ vy x0 p0 b := by
  rintro b ⟨o0, p0, x0, _, g1, g2, g3⟩
  exact ⟨o0, p0, x0, g1, a5 o0 p0 x0 b g2 g3, g3⟩
 have split : ∀ o0 p x, ρ3 o0 = some p → (zDg (zy H1 os q) bs offs (xA d.res y n) ++ zCu d.res y)[o0]? = some x → (o0 < n ∧ (zDg (zy H1 os q) bs offs (xA d.res y n))[o0]? = some x) ∨ n ≤ o0 := by
  intro o0 p x _ e
  by_cases hlt : o0 < n
  ·rw [List.getElem?_append_left (by rw [hKl]; exact hlt)] at e; exact .inl ⟨hlt, e⟩
  ·exact .inr (by omega)
 have hH1l : n = H.length := a4
 have mbs : ∀ o0, o0 ∈ bs → o0 ∈ os ++ bs := fun o0 h => List.mem_append_right _ h
 have nbox : ∀ o0 cs, H1[o0]? = some (.box cs) → o0 ∉ os := by
  intro o0 cs e hm
  rw [← hos] at hm
  exact zly (c := ⟨d.flat, true, H1, zJi H1 (os ++ bs)⟩) hrd hm e
 have post : Post q ρ Z H w ρ3 Z2 (zDg (zy H1 os q) bs offs (xA d.res y n) ++ zCu d.res y) w' := by
  refine ⟨gr, fun o p e hk => ⟨p.fp, up o p e ?_, fun _ => rfl⟩, fun o p b e k hb => fpk o p b e (fun hm => by rw [(kh o).2, List.contains_iff_mem.2 hm] at k; cases k) hb, fun o0 cs e => ?_, fun o0 p cs e e' => ?_, fun o0 p e => ?_, fun o0 p x b e1 e2 e3 => ?_, fun k b h => .inl (a1 k b h), fun k b h => ?_, fun b hb hne => ?_, fun hq2 => ?_, ?_⟩
  ·rcases hk with hk | ⟨cs, hk⟩
   ·exact fun hm => by rw [(kh o).1, List.contains_iff_mem.2 hm] at hk; cases hk
   ·exact nbox o cs (hbx o cs hk)
  ·have e1 := hbx o0 cs e
   by_cases hb : o0 ∈ bs
   ·obtain ⟨i, p0, off, cs0, cs1, new, csa, _, _, g2, _, g4, g5, g6, _⟩ := stored o0 hb
    rw [e1] at g2; cases g2
    have hlt := (List.getElem?_eq_some_iff.1 g6).1
    exact ⟨_, by rw [List.getElem?_append_left hlt]; exact g6, by simp; omega⟩
   ·obtain ⟨cs1, k1, k2, _⟩ := zQq (q := q) e1 (nbox o0 cs e1)
    have hlt := (List.getElem?_eq_some_iff.1 k1).1
    refine ⟨cs1, ?_, k2⟩
    rw [List.getElem?_append_left (by rw [zOH]; exact hlt), zIo _ _ _ _ _ hb]; exact k1
  ·have e1 := hbx o0 cs e'
   by_cases hb : o0 ∈ bs
   ·obtain ⟨i, p0, off, cs0, cs1, new, csa, _, g1, g2, _, g4, _, _, _, _, _, _, g9⟩ := stored o0 hb
    rw [e1] at g2; cases g2
    rw [e] at g1; cases g1
    exact g9.mono (by omega) (by omega)
   ·exact zBF.same (low _ (a3.own e e1 rfl).2 (zA5 o0 p _ _ e e1 rfl fun hm => (List.mem_append.1 hm).elim (nbox o0 cs e1) hb))
  ·by_cases hlt : o0 < n
   ·exact .inl ⟨p, (dn o0 p hlt e).2⟩
   ·exact .inr (by omega)
  ·rcases split o0 p x e1 e2 with ⟨hlt, e2⟩ | hge
   ·obtain ⟨g1, z, g2, g3, _⟩ := was o0 p x b hlt e1 e2 e3
    exact .inr ⟨o0, p, z, g1, a5 o0 p z b g2 g3, g3⟩
   ·rcases newb o0 p x b hge e1 e2 e3 with h | h
    ·exact .inl h
    ·exact .inr (mvOld _ h)
  ·rcases h with h | ⟨h | h, _⟩
   ·rcases a2 k b h with h | h
    ·exact .inl h
    ·exact .inr (.inr h)
   ·exact .inr (.inl h)
   ·exact .inr (.inr (mvOld _ h))
  ·exact low b hb fun hm => by
    obtain ⟨o0, p0, x0, g1, g2, g3⟩ := mvOld b hm
    exact hne o0 p0 x0 g1 g2 g3
  ·-- nothing was moved
   have hnil : os = [] ∧ bs = [] ∧ fz = [] := by
    rw [← hq] at hq2
    unfold zCe at hq2
    cases os with
    | cons a l => simp only [ye] at hq2; omega
    | nil =>
     cases bs with
     | cons a l => simp only at hq2; omega
     | nil =>
      cases fz with
      | cons a l => simp at hq2
      | nil => exact ⟨rfl, rfl, rfl⟩
   obtain ⟨e1, e2, e3⟩ := hnil
   have hno : ∀ b, ¬ Mv b := by
    rintro b ⟨o0, p0, x0, hm, _⟩
    rw [e1, e2] at hm; cases hm
   have hH : H1 = H := by rw [← hH1, e3]; rfl
   refine ⟨fun b hb => low b hb (hno b), fun k b h => ?_, ⟨zCu d.res y, by rw [e1, e2]; simp only [zDg, zy]; rw [hH]⟩, fun o0 p x b g0 g1 g2 g3 => ?_⟩
   ·rcases h with h | ⟨h | h, _⟩
    ·rw [a6 e3] at h; exact .inl h
    ·exact .inr h
    ·exact absurd h (hno b)
   ·rcases newb o0 p x b (by omega) g1 g2 g3 with h | h
    ·exact h
    ·exact absurd h (hno _)
  ·-- the memory behind the call
   have zn : ∀ o0 p z b, ρ o0 = some p → H1[o0]? = some z → vy z p b → o0 ∉ os ++ bs → ∀ k, ¬ Z2 k b := by
    intro o0 p z b g1 g2 g3 g4 k hk
    rcases hk with hk | ⟨hk | hk, _⟩
    ·exact (a3.own g1 g2 g3).1 k hk
    ·have := (a3.own g1 g2 g3).2; omega
    ·exact zA5 o0 p z b g1 g2 g3 g4 hk
   have mixed : ∀ o1 o2 p1 p2 x2 b {z1 : Ob}, ρ o1 = some p1 → H1[o1]? = some z1 → vy z1 p1 b → (o1 ∈ bs ∨ o1 ∉ os ++ bs) → n ≤ o2 → ρ3 o2 = some p2 → (zDg (zy H1 os q) bs offs (xA d.res y n) ++ zCu d.res y)[o2]? = some x2 → vy x2 p2 b → False := by
    intro o1 o2 p1 p2 x2 b z1 m1 m2 m3 m4 hge2 h2 g2 hb2
    rcases m4 with m4 | m4
    ·obtain ⟨i, p0, off, cs0, cs1, new, csa, i1, i2, i3, i4, _, _, _, _, i9, _⟩ := stored o1 m4
     rw [m1] at i2; cases i2
     rw [i3] at m2; cases m2
     cases m3
     obtain ⟨k1, k2, _⟩ := newo o2 p2 x2 hge2 h2 g2
     have := hr'.dj i _ _ p2 _ x2 p1.b i4 k1 i9 k2 rfl hb2
     omega
    ·rcases newb o2 p2 x2 b hge2 h2 g2 hb2 with h | h
     ·have := (a3.own m1 m2 m3).2; omega
     ·exact zA5 o1 p1 _ b m1 m2 m3 m4 h
   refine ⟨fun k b hb => ?_, fun o0 p e => ?_, fun o0 p x e1 e2 => ?_, fun o1 o2 p1 p2 x1 x2 b h1 h2 g1 g2 hb1 hb2 => ?_⟩
   ·rcases hb with hb | hb
    ·exact Nat.lt_of_lt_of_le (a3.zl k b hb) gr.le
    ·exact hr'.zl k b hb.2
   ·rw [List.length_append, hKl]
    by_cases hlt : o0 < n
    ·omega
    ·simp only [ρ3, if_neg hlt] at e
     have := hr'.dom _ p e
     simp only [yM, List.length_append, xy] at this
     omega
   ·rcases split o0 p x e1 e2 with ⟨hlt, e2⟩ | hge
    ·obtain ⟨e0', e1'⟩ := dn o0 p hlt e1
     by_cases hb : o0 ∈ bs
     ·obtain ⟨i, p0, off, cs0, cs1, new, csa, i1, i2, i3, i4, i5, i6, i7, i8, i9, i10, i11, i12⟩ := stored o0 hb
      rw [e2] at i7; cases i7
      rw [e1'] at i2; cases i2
      obtain ⟨_, nz, xs', e', k2, k3, k4⟩ := hr'.ob i _ _ i4 i9
      obtain ⟨nf, nz0, xs, e0, m2, m3, m4⟩ := a3.ob o0 p _ e1' i3
      obtain ⟨xs2, q1, q2, q3⟩ := i12 xs e0 m2
      simp only at k2 k3 k4
      rw [k2] at q1; cases q1
      refine ⟨nf, fun k hk => ?_, xs', e', k2, by simp; omega, fun j u' z hu hz => ?_⟩
      ·rcases hk with hk | hk
       ·exact nz0 k hk
       ·exact nz k hk.2
      ·have l1 : (cs1.take off).length = off := by simp; omega
       by_cases j1 : j < off
       ·rw [List.append_assoc, List.getElem?_append_left (by omega), List.getElem?_take, if_pos j1] at hu
        obtain ⟨u, s1, s2⟩ := i8 j u' hu
        rw [q3 _ (by omega)] at hz
        exact keepc u u' z s2 (m4 j u z s1 hz)
       ·by_cases j2 : j < off + new.length
        ·rw [List.getElem?_append_left (by simp; omega), List.getElem?_append_right (by omega), l1] at hu
         have hj : j - off < csa.length := by omega
         exact i11 (j - off) _ u' z (List.getElem?_eq_getElem hj) hu (k4 (j - off) _ z (List.getElem?_eq_getElem hj) (by rw [show p.off + off + (j - off) = p.off + j by omega]; exact hz))
        ·have l2 : (cs1.take off ++ new).length = off + new.length := by simp; omega
         rw [List.getElem?_append_right (by omega), l2, List.getElem?_drop] at hu
         have hjj : off + new.length + (j - (off + new.length)) = j := by omega
         rw [hjj] at hu
         obtain ⟨u, s1, s2⟩ := i8 j u' hu
         rw [q3 _ (by omega)] at hz
         exact keepc u u' z s2 (m4 j u z s1 hz)
     ·rcases oldo o0 x e2 hb with rfl | ⟨g0, z, g1, g2⟩
      ·-- it was moved
       have : (zy H1 os q)[o0]? = some .gone := by rw [← zIo bs offs (xA d.res y n) _ _ hb]; exact e2
       rcases zML this with ⟨h, _⟩ | ⟨_, z, g1, g2⟩
       ·exact absurd h e0'
       ·have hz : z = .gone := by
         rcases g2 with ⟨_, g2⟩ | ⟨_, g2⟩
         ·exact g2.symm
         ·cases z <;> first | rfl | cases g2
        subst hz
        exact a3.ob o0 p _ e1' g1
      ·have hob := a3.ob o0 p z e1' g1
       have zI8 : ∀ b, vy z p b → (∀ k, ¬ Z2 k b) ∧ w'.heap[b]? = w.heap[b]? := fun b hB => ⟨zn o0 p z b e1' g1 hB g0, low _ (hob.own hB).2 (zA5 o0 p z b e1' g1 hB g0)⟩
       cases z with
       | box cells =>
        obtain ⟨nf, nz, xs, e', k2, k3, k4⟩ := hob
        have : ∃ cells', x = .box cells' ∧ cells'.length = cells.length ∧ ∀ (i : Nat) (u' : V), cells'[i]? = some u' → ∃ u, cells[i]? = some u ∧ Scr os q u u' := by
         rcases g2 with ⟨h0, rfl⟩ | ⟨h0, rfl⟩
         ·exact ⟨cells, rfl, rfl, fun i u' e => ⟨u', e, .inl ⟨h0, rfl⟩⟩⟩
         ·refine ⟨cells.map (scrub q), rfl, by simp, fun i u' e => ?_⟩
          rw [List.getElem?_map, Option.map_eq_some_iff] at e
          obtain ⟨u, h1, h2⟩ := e
          exact ⟨u, h1, .inr ⟨h0, h2.symm⟩⟩
        obtain ⟨cells', rfl, s2, s3⟩ := this
        refine ⟨nf, (zI8 _ rfl).1, xs, e', by rw [(zI8 _ rfl).2]; exact k2, by omega, fun i u' y hu hy => ?_⟩
        obtain ⟨u, t1, t2⟩ := s3 i u' hu
        exact keepc u u' y t2 (k4 i u y t1 hy)
       | arr s l =>
        have hxe : x = .arr s l := by rcases g2 with ⟨_, rfl⟩ | ⟨_, rfl⟩ <;> rfl
        subst hxe
        exact zI3.imp hob (fun b h => (zI8 b h).2) (fun b k h => (zI8 b h).1 k) fun _ _ _ hs ht => ht.mono (fun _ _ h => .inl h) zkeep (fun b h => (zI8 b (hs b h)).2) (fun b k h => (zI8 b (hs b h)).1 k)
       | frz t l =>
        have hxe : x = .frz t l := by rcases g2 with ⟨_, rfl⟩ | ⟨_, rfl⟩ <;> rfl
        subst hxe
        exact ⟨hob.1.mono (zp6 (fun _ _ h => .inl h) zkeep), fun b hb => .inl (hob.2 b hb)⟩
       | gone =>
        have hxe : x = .gone := by rcases g2 with ⟨_, rfl⟩ | ⟨_, rfl⟩ <;> rfl
        subst hxe
        exact hob
    ·obtain ⟨g1, g2, s, l, rfl, g3⟩ := newo o0 p x hge e1 e2
     refine (hr'.ob _ p _ g1 g2).arr_re ?_ fun b hB k hk => ?_
     ·by_cases hf : d.flat = true
      ·exact .inr (g3 hf)
      ·exact .inl (zf (by simpa using hf))
     ·rcases hk with hk | hk
      ·rcases newb o0 p _ b hge e1 e2 hB with h | h
       ·have := a3.zl k _ hk; omega
       ·exact (mz _ h).2 k hk
      ·exact (hr'.own g1 g2 hB).1 k hk.2
   ·rcases split o1 p1 x1 h1 g1 with ⟨hlt1, g1'⟩ | hge1
    ·obtain ⟨m1, z1, m2, m3, m4⟩ := was o1 p1 x1 b hlt1 h1 g1' hb1
     rcases split o2 p2 x2 h2 g2 with ⟨hlt2, g2'⟩ | hge2
     ·obtain ⟨n1, z2, n2, n3, _⟩ := was o2 p2 x2 b hlt2 h2 g2' hb2
      exact a3.dj o1 o2 p1 p2 z1 z2 b m1 n1 m2 n2 m3 n3
     ·exact (mixed o1 o2 p1 p2 x2 b m1 m2 m3 m4 hge2 h2 g2 hb2).elim
    ·rcases split o2 p2 x2 h2 g2 with ⟨hlt2, g2'⟩ | hge2
     ·obtain ⟨m1, z1, m2, m3, m4⟩ := was o2 p2 x2 b hlt2 h2 g2' hb2
      exact (mixed o2 o1 p2 p1 x1 b m1 m2 m3 m4 hge1 h1 g1 hb1).elim
     ·obtain ⟨k1, k2, _⟩ := newo o1 p1 x1 hge1 h1 g1
      obtain ⟨k3, k4, _⟩ := newo o2 p2 x2 hge2 h2 g2
      have := hr'.dj _ _ p1 p2 x1 x2 b k1 k3 k2 k4 hb1 hb2
      omega
 refine ⟨x, rs, ρ3, Z2, rfl, hR, post, by rw [hrl]; simp only [zCc, List.length_take, zKz], fun j u' z h2 hz => ?_⟩
 ·obtain ⟨u, h1⟩ : ∃ u, (zCc d.res y (zi d.res))[j]? = some u := ⟨_, List.getElem?_eq_getElem (by rw [← hrl]; exact (List.getElem?_eq_some_iff.1 hz).1)⟩
  have h3 := hv' j u z h1 hz
  simp only [zCc, List.getElem?_take] at h1 h2
  split at h1
  ·rename_i hj
   rw [if_pos hj] at h2
   refine zgp (ρ := ρ') (ρ2 := ρ3) (Z := Z') (Zv := Z2) d.flat zf d.res y 0 0 (zi d.res) n ok1 re j u u' z h1 h2 (fun dd e => ?_) h3
   refine zpg ok3 dd (List.mem_of_getElem? (i := j) ?_)
   rw [List.getElem?_take, if_pos hj]; exact e
  ·cases h1
theorem zn0 {fid : Nat} {d : FnD} (hF : zKC P fid d) {vs : List V} {q : Nat} {ok : Option Prop} {v : V} (h : zTw d vs H = some (.mk q ok v H')) (hr : HR ρ Z H w) {xs : List Value} (hys : xs.length = vs.length)
  (hall0 : ∀ (i : Nat) (u : V) (y : Value), vs[i]? = some u → xs[i]? = some y → Cn ρ Z w u y) (hpre : okP ok) :
  Calls P fid xs.toArray w (fun e w' => ∃ x ρ' Z', e = .returned x ∧ Post q ρ Z H w ρ' Z' H' w' ∧ Cn ρ' Z' w' v x) := by
 unfold zTw at h
 split at h
 ·cases h
 rename_i a0 H1 os bs hp
 simp only [Option.some.injEq, Eff.mk.injEq] at h
 obtain ⟨h1, h2, h3, h4⟩ := h
 subst h3
 refine (za8 hF hp ⟨h1, h2, rfl, h4⟩ hr hys hall0 hpre).mono ?_
 rintro e w' ⟨x, rs, ρ', Z', rfl, rfl, post, hl, hc⟩
 exact ⟨_, ρ', Z', rfl, post, zjv hl hc⟩
end
end Go.Proofs.YtkdidadegedmiaaGreat
namespace Go.Proofs.YtkdidadegedmiaaGreat
open Go.RowKit
section
variable {P : Program} {ρ ρ' ρ1 : yH} {Z Z' Z1 : Zs} {w w' : World} {H H' H1 : List Ob} {o : Oper} {ev : Operand → V}
def yH.del (ρ : yH) (os : List Nat) : yH := fun o => if o ∈ os then none else ρ o
theorem yH.del_some {os : List Nat} {o : Nat} {p : Pl} (h : (ρ.del os) o = some p) : o ∉ os ∧ ρ o = some p := by
 unfold yH.del at h
 split at h
 ·cases h
 ·exact ⟨by assumption, h⟩
theorem yH.del_ne {os : List Nat} {o : Nat} (h : o ∉ os) : (ρ.del os) o = ρ o := by unfold yH.del; rw [if_neg h]
theorem yH.del_in {os : List Nat} {o : Nat} (h : o ∈ os) : (ρ.del os) o = none := by unfold yH.del; rw [if_pos h]
theorem HR.move (hr : HR ρ Z H w) (fz os : List Nat) {q : Nat} (hq : ∀ o, vp q o = os.contains o ∧ zBf q o = os.contains o) (hos : os = [] → q < 3) (hk : q < 2 → fz = [] ∧ os = []) (hbox : ∀ o cs, H[o]? = some (.box cs) → o ∉ os) :
    ∃ Z1 : Zs, (∀ k b, Z k b → Z1 k b) ∧ HR ρ Z1 (Go.Proofs.YtkdidadegedmiaaGreat.freezeL H fz) w ∧ Post q ρ Z H w (ρ.del os) Z1 (zy (Go.Proofs.YtkdidadegedmiaaGreat.freezeL H fz) os q) w ∧ (fz = [] → Z1 = Z) := by
  obtain ⟨Z1, a1, a2, a3, a4, a5, a6⟩ : ∃ Z1 : Zs, (∀ k b, Z k b → Z1 k b) ∧ (∀ k b, Z1 k b → Z k b ∨ ∃ o0 p0 x0, ρ o0 = some p0 ∧ H[o0]? = some x0 ∧ vy x0 p0 b) ∧ HR ρ Z1 (Go.Proofs.YtkdidadegedmiaaGreat.freezeL H fz) w ∧
      (Go.Proofs.YtkdidadegedmiaaGreat.freezeL H fz).length = H.length ∧ (∀ (o0 : Nat) (p0 : Pl) (x0 : Ob) (b : Nat), (Go.Proofs.YtkdidadegedmiaaGreat.freezeL H fz)[o0]? = some x0 → vy x0 p0 b → H[o0]? = some x0) ∧ (fz = [] → Z1 = Z) := by
    by_cases hem : fz = []
    · subst hem
      exact ⟨Z, fun _ _ h => h, fun _ _ h => .inl h, hr, rfl, fun _ _ _ _ h _ => h, fun _ => rfl⟩
    · obtain ⟨Z1, a1, a2, a3, a4, a5⟩ := hr.freezeL fz
      exact ⟨Z1, a1, a2, a3, a4, a5, fun h => absurd h hem⟩
  have hbx := fun (o : Nat) (cs : List V) (e : H[o]? = some (.box cs)) => zUH fz o cs e
  generalize hH1 : Go.Proofs.YtkdidadegedmiaaGreat.freezeL H fz = H1 at *
  have bl : (zy H1 os q).length = H.length := by rw [xJ]; exact a4
  have sk : Sk q ρ Z1 w (ρ.del os) Z1 w := ⟨fun o p e k => ⟨p.fp, by rw [yH.del_ne (fun hm => by rw [(hq o).1, List.contains_iff_mem.2 hm] at k; cases k)]; exact e, fun _ => rfl⟩, fun _ _ h => h, fun _ _ _ => rfl, fun _ _ _ _ _ _ => rfl⟩
  have old : ∀ o0 p x, (ρ.del os) o0 = some p → (zy H1 os q)[o0]? = some x → ρ o0 = some p ∧ o0 ∉ os ∧ ∃ z, H1[o0]? = some z ∧ (os = [] ∧ x = z ∨ os ≠ [] ∧ x = vK q z) := by
    intro o0 p x e1 e2
    obtain ⟨g1, g2⟩ := yH.del_some e1
    rcases zML e2 with ⟨h, _⟩ | ⟨_, h⟩
    · exact absurd h g1
    · exact ⟨g2, g1, h⟩
  have oldOwn : ∀ o0 p x b, (ρ.del os) o0 = some p → (zy H1 os q)[o0]? = some x → vy x p b → ρ o0 = some p ∧ ∃ z, H1[o0]? = some z ∧ vy z p b := by
    intro o0 p x b e1 e2 e3
    obtain ⟨g1, _, z, g2, g3⟩ := old o0 p x e1 e2
    refine ⟨g1, z, g2, ?_⟩
    rcases g3 with ⟨_, rfl⟩ | ⟨_, rfl⟩
    · exact e3
    · exact x3.1 e3
  refine ⟨Z1, a1, a3, ⟨Gr.refl w, fun o p e hk' => ⟨p.fp, ?_, fun _ => rfl⟩, fun _ _ _ _ _ _ => rfl, fun o cs e => ?_, fun _ _ _ _ _ => zBF.same rfl, fun o p e => .inl ⟨p, (yH.del_some e).2⟩, fun o p x b e1 e2 e3 => ?_, a1, fun k b hb => ?_, fun _ _ _ => rfl, fun hq2 => ?_, ?_⟩, a6⟩
  · rw [yH.del_ne ?_]; exact e
    rcases hk' with hk' | ⟨cs, hk'⟩
    · exact fun hm => by rw [(hq o).1, List.contains_iff_mem.2 hm] at hk'; cases hk'
    · exact hbox o cs hk'
  · obtain ⟨cs1, k1, k2, _⟩ := zQq (q := q) (hbx o cs e) (hbox o cs e)
    exact ⟨cs1, k1, k2⟩
  · obtain ⟨g1, z, g2, g3⟩ := oldOwn o p x b e1 e2 e3
    exact .inr ⟨o, p, z, g1, a5 o p z b g2 g3, g3⟩
  · rcases a2 k b hb with h | h
    · exact .inl h
    · exact .inr (.inr h)
  · obtain ⟨e1, e2⟩ := hk hq2
    have hz := a6 e1
    subst e1 e2
    refine ⟨fun _ _ => rfl, fun k b hb => .inl (by rw [← hz]; exact hb), ⟨[], by rw [← hH1]; simp [zy, Go.Proofs.YtkdidadegedmiaaGreat.freezeL]⟩, fun o p x b g0 g1 _ _ => ?_⟩
    have := hr.dom o p (yH.del_some g1).2; omega
  · refine ⟨a3.zl, fun o p e => by rw [bl]; exact hr.dom o p (yH.del_some e).2, fun o p x e1 e2 => ?_, fun o o' p p' x x' b e1 e2 e3 e4 h1 h2 => ?_⟩
    · obtain ⟨g1, g2, z, g3, g4⟩ := old o p x e1 e2
      have hob := a3.ob o p z g1 g3
      cases z with
      | box cells =>
        obtain ⟨nf, nz, xs, e', k2, k3, k4⟩ := hob
        rcases g4 with ⟨h0, rfl⟩ | ⟨h0, rfl⟩
        · subst h0
          exact ⟨nf, nz, xs, e', k2, k3, fun i u y hu hy => (k4 i u y hu hy).mono ⟨fun o p e => by rw [yH.del_ne (by simp)]; exact e, fun _ _ h => h, fun _ _ _ => rfl, fun _ _ _ _ _ => rfl⟩⟩
        · refine ⟨nf, nz, xs, e', k2, by simpa using k3, fun i u y hu hy => ?_⟩
          rw [List.getElem?_map, Option.map_eq_some_iff] at hu
          obtain ⟨u', h1, rfl⟩ := hu
          exact (k4 i u' y h1 hy).scrub sk
      | arr s l => have hxe : x = .arr s l := by rcases g4 with ⟨_, rfl⟩ | ⟨_, rfl⟩ <;> rfl
                   subst hxe; exact hob
      | frz t l => have hxe : x = .frz t l := by rcases g4 with ⟨_, rfl⟩ | ⟨_, rfl⟩ <;> rfl
                   subst hxe; exact hob
      | gone => have hxe : x = .gone := by rcases g4 with ⟨_, rfl⟩ | ⟨_, rfl⟩ <;> rfl
                subst hxe; exact hob
    · obtain ⟨g1, z, g2, g3⟩ := oldOwn o p x b e1 e3 h1
      obtain ⟨k1, z', k2, k3⟩ := oldOwn o' p' x' b e2 e4 h2
      exact a3.dj o o' p p' z z' b g1 k1 g2 k2 g3 k3
theorem Post.place {q : Nat} (hr : HR ρ Z H w) (hp : Post q ρ Z H w ρ1 Z1 H1 w) {o : Nat} {p : Pl} {x : Ob} {H2 : List Ob} {M f0 : Nat → Prop} (h0 : ρ1 o = none) (hH : ∀ i, i ≠ o → H2[i]? = H1[i]?) (hHo : H2[o]? = some x)
  (hM : ∀ b, M b → ∃ o0 p0 x0, ρ o0 = some p0 ∧ H[o0]? = some x0 ∧ vy x0 p0 b) (hMz : ∀ b k, M b → ¬ Z1 k b) (hMo : ∀ o' p' x' b, ρ1 o' = some p' → H1[o']? = some x' → vy x' p' b → ¬ M b)
  (gr : Gr w w') (hs : ∀ b, b < w.heap.size → ¬ M b → w'.heap[b]? = w.heap[b]?) (hx : ObR (ρ1.upd o p) Z1 w' x p) (hb : ∀ b, vy x p b → w.heap.size ≤ b ∨ M b)
  (hbox : ∀ cs, H[o]? ≠ some (.box cs)) (hit : (vp q o = true ∧ ∃ p0, ρ o = some p0) ∨ H.length ≤ o ∨ (zBf q o = true ∧ ρ o = some ⟨p.b, p.x, p.off, f0⟩)) (hq : q < 2 → o = H1.length ∧ ∀ b, ¬ M b) : Post q ρ Z H w (ρ1.upd o p) Z1 H2 w' := by
 have kz : ∀ k b, Z1 k b → w'.heap[b]? = w.heap[b]? := fun k b h => hs b (hp.hr.zl k b h) fun m => hMz b k m h
 have kown : ∀ o' p' x' b, ρ1 o' = some p' → H1[o']? = some x' → vy x' p' b → w'.heap[b]? = w.heap[b]? := fun o' p' x' b e1 e2 e3 => hs b (hp.hr.own e1 e2 e3).2 (hMo o' p' x' b e1 e2 e3)
 have kf : ∀ o' p' b, ρ1 o' = some p' → p'.fp b → w'.heap[b]? = w.heap[b]? := fun o' p' b e1 e2 => by
  rcases hp.hr.fpz e1 e2 with ⟨x', e3, e4⟩ | e3
  ·exact kown o' p' x' b e1 e3 e4
  ·exact kz _ b e3
 have hne : ∀ o' p', ρ1 o' = some p' → o' ≠ o := fun o' p' e h => by subst h; rw [h0] at e; cases e
 have kp : Kp ρ1 Z1 w (ρ1.upd o p) Z1 w' := ⟨fun o' p' e => by rw [yH.upd_ne (hne o' p' e)]; exact e, fun _ _ h => h, kz, kf⟩
 have split : ∀ o' p' x', (ρ1.upd o p) o' = some p' → H2[o']? = some x' → (o' = o ∧ p' = p ∧ x' = x) ∨ (o' ≠ o ∧ ρ1 o' = some p' ∧ H1[o']? = some x') := by
  intro o' p' x' e1 e2
  by_cases h : o' = o
  ·subst h
   rw [yH.upd_self] at e1; cases e1
   rw [hHo] at e2; cases e2
   exact .inl ⟨rfl, rfl, rfl⟩
  ·rw [yH.upd_ne h] at e1
   rw [hH o' h] at e2
   exact .inr ⟨h, e1, e2⟩
 refine ⟨gr, fun o0 p0 e hk => ?_, fun o0 p0 b e k hb => ?_, fun o0 cs e => ?_, fun o0 p0 cs e e' => ?_, fun o' p' e => ?_, fun o' p' x' b e1 e2 e3 => ?_, hp.zm, hp.zn, fun b hb hn => hs b hb fun m => ?_, fun hq2 => ?_, ?_⟩
 ·by_cases h : o0 = o
  ·subst h
   rcases hit with ⟨hit, _⟩ | hit | ⟨hit, e'⟩
   ·rcases hk with hk | ⟨cs, hk⟩
    ·rw [hit] at hk; cases hk
    ·exact absurd hk (hbox cs)
   ·have := hr.dom o0 p0 e; omega
   ·rw [e] at e'; cases e'
    refine ⟨p.fp, yH.upd_self _ _ _, fun hk' => ?_⟩
    rcases hk' with hk' | ⟨cs, hk'⟩
    ·rw [hit] at hk'; cases hk'
    ·exact absurd hk' (hbox cs)
  ·obtain ⟨f, g1, g2⟩ := hp.rho o0 p0 e hk
   exact ⟨f, by rw [yH.upd_ne h]; exact g1, g2⟩
 ·obtain ⟨f, g1, g2⟩ := hp.rho o0 p0 e (.inl (zS7 k))
  have := g2 (.inl k)
  subst this
  exact kf o0 _ b g1 hb
 ·obtain ⟨cs', g1, g2⟩ := hp.bxs o0 cs e
  have : o0 ≠ o := fun h => by subst h; exact hbox cs e
  exact ⟨cs', by rw [hH o0 this]; exact g1, g2⟩
 ·obtain ⟨f, g1, g2⟩ := hp.rho o0 p0 e (.inr ⟨cs, e'⟩)
  obtain ⟨cs', g3, g4⟩ := hp.bxs o0 cs e'
  exact zBF.same (kown o0 _ _ p0.b g1 g3 rfl)
 ·by_cases h : o' = o
  ·subst h
   rcases hit with ⟨_, hit⟩ | hit | ⟨_, hit⟩
   ·exact .inl hit
   ·exact .inr hit
   ·exact .inl ⟨_, hit⟩
  ·rw [yH.upd_ne h] at e
   exact hp.dom o' p' e
 ·rcases split o' p' x' e1 e2 with ⟨rfl, rfl, rfl⟩ | ⟨_, g1, g2⟩
  ·exact (hb b e3).imp id (hM b)
  ·exact hp.newb o' p' x' b g1 g2 e3
 ·obtain ⟨o0, p0, x0, g1, g2, g3⟩ := hM b m
  exact hn o0 p0 x0 g1 g2 g3
 ·obtain ⟨e1, e2⟩ := hq hq2
  obtain ⟨q1, q2, ⟨obs, q3⟩, q4⟩ := hp.quiet hq2
  refine ⟨fun b hb => hs b hb (e2 b), q2, ⟨obs ++ [x], ?_⟩, fun o' p' x' b g0 g1 g2 g3 => ?_⟩
  ·apply List.ext_getElem?
   intro i
   by_cases h : i = o
   ·subst h
    rw [hHo, ← List.append_assoc, ← q3, e1]; simp
   ·rw [hH i h, ← List.append_assoc, ← q3]
    by_cases hlt : i < H1.length
    ·rw [List.getElem?_append_left hlt]
    ·rw [List.getElem?_eq_none (by omega), List.getElem?_eq_none (by simp; omega)]
  ·rcases split o' p' x' g1 g2 with ⟨rfl, rfl, rfl⟩ | ⟨_, k1, k2⟩
   ·exact (hb b g3).resolve_right (e2 b)
   ·exact q4 o' p' x' b g0 k1 k2 g3
 ·refine ⟨fun k b hb => Nat.lt_of_lt_of_le (hp.hr.zl k b hb) gr.le, fun o' p' e => ?_, fun o' p' x' e1 e2 => ?_, fun a c p1 p2 x1 x2 b e1 e2 e3 e4 b1 b2 => ?_⟩
  ·by_cases h : o' = o
   ·subst h; exact (List.getElem?_eq_some_iff.1 hHo).1
   ·rw [yH.upd_ne h] at e
    have := hp.hr.dom o' p' e
    have e3 : H2[o']? = some H1[o'] := by rw [hH o' h]; exact List.getElem?_eq_getElem this
    exact (List.getElem?_eq_some_iff.1 e3).1
  ·rcases split o' p' x' e1 e2 with ⟨rfl, rfl, rfl⟩ | ⟨_, g1, g2⟩
   ·exact hx
   ·exact (hp.hr.ob o' p' x' g1 g2).mono kp fun b hb => ⟨(hp.hr.own g1 g2 hb).1, kown o' p' x' b g1 g2 hb⟩
  ·have new : ∀ b, vy x p b → ∀ o' p' x', ρ1 o' = some p' → H1[o']? = some x' → vy x' p' b → False := by
    intro b hb1 o' p' x' k1 k2 k3
    rcases hb b hb1 with h | h
    ·have := (hp.hr.own k1 k2 k3).2; omega
    ·exact hMo o' p' x' b k1 k2 k3 h
   rcases split a p1 x1 e1 e3 with ⟨rfl, rfl, rfl⟩ | ⟨h1, g1, g2⟩
   ·rcases split c p2 x2 e2 e4 with ⟨rfl, rfl, rfl⟩ | ⟨h2, k1, k2⟩
    ·rfl
    ·exact (new b b1 c p2 x2 k1 k2 b2).elim
   ·rcases split c p2 x2 e2 e4 with ⟨rfl, rfl, rfl⟩ | ⟨h2, k1, k2⟩
    ·exact (new b b2 a p1 x1 g1 g2 b1).elim
    ·exact hp.hr.dj a c p1 p2 x1 x2 b g1 k1 g2 k2 b1 b2
end
end Go.Proofs.YtkdidadegedmiaaGreat
namespace Go.Proofs.YtkdidadegedmiaaGreat
open Go.RowKit
section
variable {P : Program} {ρ ρ' : yH} {Z Z' : Zs} {w w' : World} {H H' H1 : List Ob} {o : Oper} {ev : Operand → V}
theorem zf1 {fz : List Nat} : ∀ {H : List Ob} {o0 : Nat} {p0 : Pl} {x0 : Ob} {b : Nat}, (freezeL H fz)[o0]? = some x0 → vy x0 p0 b → H[o0]? = some x0 := by
 induction fz with
 | nil => intro H o0 p0 x0 b h _; exact h
 | cons o fz ih => intro H o0 p0 x0 b h hb; exact zNS (ih h hb) hb
theorem zgs {fz : List Nat} : ∀ {H : List Ob} {o0 : Nat} {s : OT} {l : List (El s.ty)}, (freezeL H fz)[o0]? = some (.arr s l) → H[o0]? = some (.arr s l) := by
 induction fz with
 | nil => intro H o0 s l h; exact h
 | cons o fz ih =>
  intro H o0 s l h
  have h := ih h
  unfold freeze1 at h
  split at h
  ·rename_i s' l' e
   by_cases ho : o = o0
   ·subst ho
    rw [List.getElem?_set_self (List.getElem?_eq_some_iff.1 e).1] at h
    cases h
   ·rwa [List.getElem?_set_ne ho] at h
  ·exact h
theorem zd5 {c : Cx} (hr : HR ρ Z c.h w) (hv : Vw ρ Z w c Z) : ∀ (s : OT) (vs : List V) (ys : List Value) (x : El s.ty), ys.length = vs.length → (∀ (i : Nat) (u : V) (y : Value), vs[i]? = some u → ys[i]? = some y → Cn ρ Z w u y) → rdO c s vs = some x →
  (xm (zJ0 s vs)).Nodup → ∃ fp, TrO Z w s x ys fp ∧ ∀ b, fp b → zID ρ c.h (xm (zJ0 s vs)) b
 | .d t, vs, ys, x, hl, hc, hd, _ => by
  simp only [rdO] at hd
  have hlen := zLs hd
  rw [List.length_map] at hlen
  obtain ⟨g1, g2⟩ := zS1 (HR.none hv.hl) (xs := ys) (by simpa using hl) (zeK fun i u y hu hy => zSb hr hv (hc i u y hu hy)) hd
  exact ⟨vm, ⟨fun b h => h, by omega, fun j u y hu hy => g2 j u y hu hy⟩, fun b h => h.elim⟩
 | .o s, vs, ys, x, hl, hc, hd, _ => by
  simp only [rdO] at hd
  obtain ⟨g0, p, rfl, g2⟩ := zla hr hl hc hd
  refine ⟨p.fp, ⟨p.x, p.b, rfl, g2.obr⟩, fun b hb => ?_⟩
  have := g2.pl
  simp only [zJ0]
  cases e : id1 vs with
  | none => rw [e] at this; exact absurd hb (this b)
  | some o => rw [e] at this; exact ⟨o, p, _, by simp [xm], this.1, this.2, hb⟩
 | .pr a b, vs, ys, x, hl, hc, hd, hn => by
  simp only [rdO] at hd
  split at hd
  ·rename_i p q e1 e2
   cases hd
   simp only [zJ0, zH5] at hn ⊢
   have hn' := List.nodup_append.1 hn
   obtain ⟨f, t1, o1⟩ := zd5 hr hv a (vs.take (zO a.ty)) (ys.take (zO a.ty)) p (by simp [hl]) (fun i u y hu hy => by
    rw [List.getElem?_take] at hu hy
    split at hu
    ·rename_i hi; rw [if_pos hi] at hy; exact hc i u y hu hy
    ·cases hu) e1 hn'.1
   obtain ⟨g, t2, o2⟩ := zd5 hr hv b (vs.drop (zO a.ty)) (ys.drop (zO a.ty)) q (by simp [hl]) (fun i u y hu hy => by
    rw [List.getElem?_drop] at hu hy
    exact hc _ u y hu hy) e2 hn'.2.1
   refine ⟨fun b => f b ∨ g b, ⟨f, g, t1, t2, fun b => Iff.rfl, fun b h1 h2 => ?_⟩, fun b hb => ?_⟩
   ·obtain ⟨i, p1, x1, i1, i2, i3, i4⟩ := o1 b h1
    obtain ⟨j, p2, x2, j1, j2, j3, j4⟩ := o2 b h2
    have := hr.dj i j p1 p2 x1 x2 b i2 j2 i3 j3 i4 j4
    subst this
    exact hn'.2.2 i i1 i j1 rfl
   ·rcases hb with hb | hb
    ·obtain ⟨i, p1, x1, i1, i2⟩ := o1 b hb
     exact ⟨i, p1, x1, List.mem_append_left _ i1, i2⟩
    ·obtain ⟨i, p1, x1, i1, i2⟩ := o2 b hb
     exact ⟨i, p1, x1, List.mem_append_right _ i1, i2⟩
  ·cases hd
theorem zcZ (s : OT) : ∀ (n : Nat) (a : xC (List.replicate n (.val true s))), (zTd s n a).length = n
 | 0, _ => rfl
 | n + 1, a => by simp only [zTd, List.length_cons, zcZ s n]
theorem zqu {c : Cx} (hr : HR ρ Z c.h w) (hv : Vw ρ Z w c Z) (s : OT) : ∀ (n : Nat) (cs : List V) (ys : List Value) (a : xC (List.replicate n (.val true s))), ys.length = cs.length → n * zO s.ty ≤ cs.length → (∀ (i : Nat) (u : V) (y : Value), cs[i]? = some u → ys[i]? = some y → Cn ρ Z w u y) →
  rdA c (List.replicate n (.val true s)) (zDk (zO s.ty) n cs) = some a → (xm (zBh c.h (List.replicate n (.val true s)) (zDk (zO s.ty) n cs))).Nodup →
  ∃ fs : Nat → Nat → Prop, (∀ i x, (zTd s n a)[i]? = some x → TrO Z w s x ((ys.drop (i * zO s.ty)).take (zO s.ty)) (fs i)) ∧
   (∀ i b, i < n → fs i b → zID ρ c.h (xm (zBh c.h (List.replicate n (.val true s)) (zDk (zO s.ty) n cs))) b) ∧ (∀ i j b, i < n → j < n → fs i b → fs j b → i = j)
 | 0, cs, ys, a, _, _, _, _, _ => ⟨fun _ _ => False, fun i x h => by simp [zTd] at h, fun i b h => by omega, fun i j b h => by omega⟩
 | n + 1, cs, ys, a, hl, hlen, hc, hd, hn => by
  have hk := zAs s.ty
  rw [Nat.succ_mul] at hlen
  simp only [List.replicate, zDk, rdA] at hd
  split at hd
  ·rename_i p q e1 e2
   cases hd
   simp only [AD.rd, cellsOf, if_true, Option.bind_some] at e1
   simp only [List.replicate, zDk, zBh, zH5, AD.ids, cellsOf, if_true, Option.getD_some] at hn ⊢
   have hn' := List.nodup_append.1 hn
   obtain ⟨f, t1, o1⟩ := zd5 hr hv s (cs.take (zO s.ty)) (ys.take (zO s.ty)) p (by simp [hl]) (fun i u y hu hy => by
    rw [List.getElem?_take] at hu hy
    split at hu
    ·rename_i hi; rw [if_pos hi] at hy; exact hc i u y hu hy
    ·cases hu) e1 hn'.1
   obtain ⟨fs, t2, o2, d2⟩ := zqu hr hv s n (cs.drop (zO s.ty)) (ys.drop (zO s.ty)) q (by simp [hl]) (by simp; omega) (fun i u y hu hy => by
    rw [List.getElem?_drop] at hu hy
    exact hc _ u y hu hy) e2 hn'.2.1
   have zA5 : ∀ b, f b → ∀ i, i < n → ¬ fs i b := by
    intro b h1 i hi h2
    obtain ⟨i, p1, x1, i1, i2, i3, i4⟩ := o1 b h1
    obtain ⟨j, p2, x2, j1, j2, j3, j4⟩ := o2 _ b hi h2
    have := hr.dj i j p1 p2 x1 x2 b i2 j2 i3 j3 i4 j4
    subst this
    exact hn'.2.2 i i1 i j1 rfl
   refine ⟨fun i b => match i with | 0 => f b | i + 1 => fs i b, fun i x hx => ?_, fun i b hi hb => ?_, fun i j b hi hj h1 h2 => ?_⟩
   ·cases i with
    | zero => simp [zTd] at hx; subst hx; simpa using t1
    | succ i =>
     have := t2 i x (by simpa [zTd] using hx)
     rw [List.drop_drop] at this
     rw [show (i + 1) * zO s.ty = zO s.ty + i * zO s.ty by rw [Nat.succ_mul]; omega]
     exact this
   ·cases i with
    | zero => obtain ⟨j, p1, x1, i1, i2⟩ := o1 b hb; exact ⟨j, p1, x1, List.mem_append_left _ i1, i2⟩
    | succ i => obtain ⟨j, p1, x1, i1, i2⟩ := o2 i b (by omega) hb; exact ⟨j, p1, x1, List.mem_append_right _ i1, i2⟩
   ·cases i with
    | zero =>
     cases j with
     | zero => rfl
     | succ j => exact absurd h2 (zA5 b h1 j (by omega))
    | succ i =>
     cases j with
     | zero => exact absurd h1 (zA5 b h2 i (by omega))
     | succ j => rw [d2 i j b (by omega) (by omega) h1 h2]
  ·cases hd
theorem zfo (s : OT) : ∀ (n k : Nat) (cs : List V), zAH (List.replicate n (.val true s)) (zDk k n cs) = []
 | 0, _, _ => rfl
 | n + 1, k, cs => by simp only [List.replicate, zDk, zAH, AD.bxs, List.nil_append, zfo s n]
theorem zo7 {hem : Bool} {os : List Nat} : (os = [] → zCe hem os [] < 3) ∧ (zCe hem os [] < 2 → hem = true ∧ os = []) := by
 unfold zCe
 cases os with
 | cons a l => exact ⟨fun h => (by cases h), fun h => by simp only [ye] at h; omega⟩
 | nil => cases hem <;> exact ⟨fun _ => by decide, fun h => by simp_all⟩
theorem zXr {s : OT} {n : Nat} {cs : List V} {xs : List (El s.ty)} {os : List Nat} {q : Nat} (h : zTn s n cs H = some (xs, H1, os, q)) (hr : HR ρ Z H w) {ys : List Value} (hl : ys.length = cs.length) (hlen : n * zO s.ty ≤ cs.length)
  (hc : ∀ (i : Nat) (u : V) (y : Value), cs[i]? = some u → ys[i]? = some y → Cn ρ Z w u y) :
  H1.length = H.length ∧ xs.length = n ∧ ∃ (Z1 : Zs) (fs : Nat → Nat → Prop), (∀ k b, Z k b → Z1 k b) ∧ HR ρ Z1 H1 w ∧ Post q ρ Z H w (ρ.del os) Z1 (zy H1 os q) w ∧ (∀ i x, xs[i]? = some x → TrO Z1 w s x ((ys.drop (i * zO s.ty)).take (zO s.ty)) (fs i)) ∧
   (∀ i j b, i < n → j < n → fs i b → fs j b → i = j) ∧ (∀ i b, i < n → fs i b → zID ρ H1 os b) ∧ (∀ o, o ∈ os → ∃ s l, H1[o]? = some (.arr s l) ∧ H[o]? = some (.arr s l)) ∧ (∀ o, vp q o = os.contains o ∧ zBf q o = os.contains o) ∧ (q < 2 → os = []) := by
 unfold zTn at h
 cases hp : zPZ false false H (List.replicate n (.val true s)) (zDk (zO s.ty) n cs) with
 | none => rw [hp] at h; cases h
 | some r =>
  obtain ⟨a, H1', os', bs⟩ := r
  rw [hp] at h
  simp only [Option.some.injEq, Prod.mk.injEq] at h
  obtain ⟨rfl, rfl, rfl, rfl⟩ := h
  unfold zPZ at hp
  simp only at hp
  generalize zEt false H (List.replicate n (.val true s)) (zDk (zO s.ty) n cs) = fz at hp ⊢
  split at hp
  rotate_left
  ·cases hp
  rename_i hnd
  have hnd := zFT hnd
  split at hp
  rotate_left
  ·cases hp
  rename_i a' hrd
  simp only [Option.some.injEq, Prod.mk.injEq] at hp
  obtain ⟨rfl, rfl, rfl, rfl⟩ := hp
  rw [zfo, List.append_nil] at hnd hrd
  have harr : ∀ o, o ∈ xm (zBh (freezeL H fz) (List.replicate n (.val true s)) (zDk (zO s.ty) n cs)) → ∃ s l, (freezeL H fz)[o]? = some (.arr s l) ∧ H[o]? = some (.arr s l) := by
   intro o ho
   obtain ⟨s, l, e⟩ := zWP hrd ho
   exact ⟨s, l, e, zgs e⟩
  have kq := zo7 (hem := fz.isEmpty) (os := xm (zBh (freezeL H fz) (List.replicate n (.val true s)) (zDk (zO s.ty) n cs)))
  obtain ⟨Z1, a1, a2, a3, a4⟩ := hr.move fz _ (fun o => zKM (hem := fz.isEmpty) (bs := []) o) kq.1 (fun h => ⟨by simpa using (kq.2 h).1, (kq.2 h).2⟩) (fun o cs e hm => by
   obtain ⟨s, l, _, e'⟩ := harr o hm
   rw [e] at e'; cases e')
  have hgm : ∀ (o0 : Nat) (x : Ob), (zJi (freezeL H fz) (xm (zBh (freezeL H fz) (List.replicate n (.val true s)) (zDk (zO s.ty) n cs))))[o0]? = some x → x = .gone ∨ (freezeL H fz)[o0]? = some x := by
   intro o0 x e
   rw [zH2, Option.map_eq_some_iff] at e
   obtain ⟨y, e1, e2⟩ := e
   cases hm : (xm (zBh (freezeL H fz) (List.replicate n (.val true s)) (zDk (zO s.ty) n cs))).contains o0 with
   | true => rw [hm] at e2; exact .inl e2.symm
   | false => rw [hm] at e2; exact .inr (by rw [e1]; exact congrArg some e2)
  obtain ⟨fs, t1, t2, t3⟩ := zqu (c := ⟨false, false, freezeL H fz, _⟩) a2 ⟨fun _ _ h => h, a2.zl, hgm, fun h => (by cases h), fun h => (by cases h)⟩ s n cs ys a' hl hlen (fun i u y hu hy => (hc i u y hu hy).mono (Kp.rz a1)) hrd hnd
  exact ⟨zEZ _ _, zcZ s n a', Z1, fs, a1, a2, a3, t1, t3, t2, harr, fun o => zKM o, fun h => (kq.2 h).2⟩
theorem zID.facts {Z1 : Zs} {os : List Nat} {q b : Nat} (a2 : HR ρ Z1 H1 w) (h : zID ρ H1 os b) : (∀ k, ¬ Z1 k b) ∧ b < w.heap.size ∧ ∀ o' p' x', (ρ.del os) o' = some p' → (zy H1 os q)[o']? = some x' → ¬ vy x' p' b := by
 obtain ⟨o0, p0, x0, g0, g1, g2, g3⟩ := h
 refine ⟨(a2.own g1 g2 g3).1, (a2.own g1 g2 g3).2, fun o' p' x' e1 e2 e3 => ?_⟩
 obtain ⟨k1, k2⟩ := yH.del_some e1
 rcases zML e2 with ⟨k3, _⟩ | ⟨_, z, k3, k4⟩
 ·exact k1 k3
 ·have : vy z p' b := by
   rcases k4 with ⟨_, rfl⟩ | ⟨_, rfl⟩
   ·exact e3
   ·exact x3.1 e3
  have := a2.dj o0 o' p0 p' x0 z b g1 k2 g2 k3 g3 this
  exact k1 (this ▸ g0)
theorem zQO {x : Value} (h : zop x = true) : okL x := by
 cases x <;> simp_all [zop, okL]
theorem zQo {x : Value} (h : zt3 x = true) : okC x := by
 unfold zt3 at h
 split at h
 ·intro c hc
  exact zQO (List.all_eq_true.1 h c hc)
 ·exact zgu (zQO h)
theorem zA7 {t : TypeId} {zs : List V} (h : zP5 P t = some zs) : ∃ i z, P.info? t = some i ∧ i.zero = some z ∧ (∀ w, (zeroValue t).run P w = .ok z w) ∧ zs = z.cells.toList.map .c ∧ ∀ c ∈ z.cells.toList, okL c := by
 unfold zP5 at h
 split at h
 ·rename_i i e
  split at h
  ·rename_i z e'
   split at h
   ·rename_i hk
    cases h
    refine ⟨i, z, e, e', fun w => ?_, rfl, fun c hc => zQO (List.all_eq_true.1 hk c hc)⟩
    simp only [zeroValue, typeInfo, program, Sem.run_bind, Sem.run, Result.andThen_ok, e, Sem.run_pure, e']
   ·cases h
  ·cases h
 ·cases h
theorem zR1 {z : Array Value} (hz : ∀ c ∈ z.toList, okL c) {i : Nat} {u : V} {y : Value} (hu : (z.toList.map V.c)[i]? = some u) (hy : z[i]? = some y) : Cn ρ Z w u y := by
 simp only [List.getElem?_map, Array.getElem?_toList, Option.map_eq_some_iff] at hu
 obtain ⟨z', h1, rfl⟩ := hu
 rw [h1] at hy; cases hy
 exact .c _ (zgu (hz _ (Array.mem_toList_iff.2 (Array.mem_of_getElem? h1))))
theorem HR.postBox (h : HR ρ Z H w) {vs : List V} {xs : Array Value} (t : TypeId) (hl : xs.size = vs.length) (hc : ∀ (i : Nat) (u : V) (y : Value), vs[i]? = some u → xs[i]? = some y → Cn ρ Z w u y) (q : Nat) :
  Post q ρ Z H w (ρ.upd H.length ⟨w.heap.size, undef, 0, vm⟩) Z (H ++ [.box vs]) (w.alloc (.cells xs t)) := by
 have hs : ∀ b, b < w.heap.size → (w.alloc (.cells xs t)).heap[b]? = w.heap[b]? := fun b hb => Below.heap_alloc w _ b hb
 refine h.postNew (Gr.alloc w _) hs ?_ (fun b hb => by cases hb; exact Nat.le_refl _) q
 refine ⟨fun b h => h, fun k hk => ?_, xs, t, heap_alloc_new w _, by simp [hl], fun i u y hu hy => (hc i u y hu (by simpa using hy)).mono (h.kpUp hs _)⟩
 have := h.zl k _ hk
 exact Nat.lt_irrefl _ this
theorem zrE {t : TypeId} (ho : o.op = .alloc t) {zs : List V} (h : zP5 P t = some zs) : OpS P o ev H (.mk 1 none (.ptr H.length 0) (H ++ [.box zs])) := by
 obtain ⟨i, z, _, _, hz, rfl, hz0⟩ := zA7 h
 intro ρ Z w a hr hx _ K Q hK
 have hrun : (execOp a.eval o).run P w = .ok (.value (.pointer (some ⟨w.heap.size, 0, none⟩))) (w.alloc (.cells z.cells t)) := by
  simp only [execOp, ho, Instr.alloc, Sem.run_bind, hz, Result.andThen_ok, newVar, newRow, newObj, Sem.run, Sem.run_pure]
  rfl
 unfold Oper.wp
 rw [hrun]
 exact hK _ Z _ _ (hr.postBox t (by simp) (fun i u y hu hy => zR1 hz0 hu hy) 1) (.ptr (p := ⟨w.heap.size, undef, 0, vm⟩) (yH.upd_self _ _ _))
theorem zuH {t : TypeId} {x : Operand} (ho : o.op = .box t x) {vs : List V} (h : zKD (ev x) = some vs) : OpS P o ev H (.mk 1 none (.ptr H.length 0) (H ++ [.box vs])) := by
 intro ρ Z w a hr hx _ K Q hK
 have hrun : (execOp a.eval o).run P w = .ok (.value (.pointer (some ⟨w.heap.size, 0, none⟩))) (w.alloc (.cells (a.eval x).cells t)) := by
  simp only [execOp, ho, Instr.box, Sem.run_bind, Result.andThen_ok, newVar, newRow, newObj, Sem.run, Sem.run_pure]
  rfl
 unfold Oper.wp
 rw [hrun]
 obtain ⟨h1, h2⟩ := zHl (hx x (by simp [ho, Op.operands])) h
 exact hK _ Z _ _ (hr.postBox t h1 h2 1) (.ptr (p := ⟨w.heap.size, undef, 0, vm⟩) (yH.upd_self _ _ _))
theorem zbK {parts : Array (Nat × Operand)} {a : Act} (hx : ∀ p ∈ parts.toList, Cn ρ Z w (ev p.2) (a.eval p.2)) :
  (parts.map fun p => (p.1, a.eval p.2)).toList.length = (parts.toList.map fun p => (p.1, ev p.2)).length ∧
  ∀ (i : Nat) (p : Nat × V) (x : Nat × Value), (parts.toList.map fun p => (p.1, ev p.2))[i]? = some p → (parts.map fun p => (p.1, a.eval p.2)).toList[i]? = some x → x.1 = p.1 ∧ Cn ρ Z w p.2 x.2 := by
 refine ⟨by simp, fun i p x h1 h2 => ?_⟩
 rw [Array.toList_map] at h2
 simp only [List.getElem?_map, Option.map_eq_some_iff] at h1 h2
 obtain ⟨q, h3, rfl⟩ := h1
 obtain ⟨q', h4, rfl⟩ := h2
 rw [h3] at h4; cases h4
 exact ⟨rfl, hx q (List.mem_of_getElem? h3)⟩
theorem zrf {t : TypeId} {parts : Array (Nat × Operand)} (ho : o.op = .build t parts) {q : Nat} {ok : Option Prop} {v : V} (h : zOL P t (parts.toList.map fun p => (p.1, ev p.2)) H = .mk q ok v H') : OpS P o ev H (.mk q ok v H') := by
 unfold zOL at h
 split at h
 ·rename_i fs e2
  split at h
  ·rename_i zs places e3 e4
   obtain ⟨it, z, e1, e6, _, rfl, hz0⟩ := zA7 e3
   split at h
   ·rename_i cs e5
    cases h
    refine yL fun ρ Z w a hr hx _ => ?_
    obtain ⟨h1, h2⟩ := zbK (ρ := ρ) (Z := Z) (w := w) (ev := ev) (parts := parts) (a := a) (fun p hp => hx p.2 (by simp only [ho, Op.operands]; simp; exact ⟨p.1, by simpa using hp⟩))
    obtain ⟨rs, g1, g2, g3⟩ := zYV _ _ _ _ z.cells cs h1 h2 (by simp) (fun i u y hu hy => zR1 hz0 hu hy) e5
    have hb : P.built t (parts.map fun p => (p.1, a.eval p.2)).toList = some rs := by
     unfold Program.built
     rw [e1, e2]
     simp only [e6, e4]
     exact g1
    refine ⟨.agg rs, ?_, ?_⟩
    ·have := run_build (P := P) w t (parts.map fun p => (p.1, a.eval p.2)) rs hb
     simp only [execOp, ho, Sem.run_bind, Sem.run_pure]
     rw [this]
     rfl
    ·have := Cn.agg (ρ := ρ) (Z := Z) (w := w) (vs := cs) (xs := rs.toList) (by simpa using g2) (fun i u y hu hy => g3 i u y hu (by simpa using hy))
     simpa using this
   ·cases h
  ·cases h
 ·cases h
end
end Go.Proofs.YtkdidadegedmiaaGreat
