/- A slice that is the caller's own, or new, appended to again and again. -/
import Derived.Test.YthnilnggpbploaaGreatHarn
namespace Go.Proofs.YthnilnggpbploaaGreat
open Go.RowKit
open Cel (rd own rd_len rd_one own_rd own_lt rd_below rd_mono own_keep)

theorem Chg.grown {fp : List Nat} {w0 w w' : World} {row : Option Nat} (h : Chg fp w0 w) (hg : w.grownBy w' row) (hr : ∀ k, row = some k → k ∈ fp ∨ w0.heap.size ≤ k) : Chg fp w0 w' := by
  refine ⟨hg.os.trans h.os, hg.tape.trans h.tape, hg.output.trans h.output, Nat.le_trans h.size hg.size, fun b hb hn => ?_⟩
  rw [hg.block b (Nat.lt_of_lt_of_le hb h.size) (fun e => ?_), h.block b hb hn]
  rcases hr b e.symm with h1 | h1
  · exact hn h1
  · omega

/-- What has become of an own row with blocks fp at w0. -/
def Ext {α : Type} [Cel α] (fp : List Nat) (w0 : World) (l : List α) (v : Value) (w : World) : Prop :=
  ∃ fp', OwnS w l v fp' ∧ fp'.Nodup ∧ (∀ b ∈ fp', b ∈ fp ∨ w0.heap.size ≤ b) ∧ Chg fp w0 w

section
variable {α : Type} {P : Program} {w w0 : World} {fp : List Nat} {l l2 : List α} {v : Value}

theorem Ext.start [Cel α] (h : OwnS w l v fp) (hn : fp.Nodup) : Ext fp w l v w := ⟨fp, h, hn, fun _ hb => .inl hb, Chg.refl _ _⟩
theorem Ext.fresh [Cel α] {w1 : World} {f : List Nat} (hb : Below w.heap.size w w1) (h : OwnS w1 l v f) (hf : Fr w.heap.size f) : Ext [] w l v w1 :=
  ⟨f, h, hf.1, fun b hm => .inr (hf.2 b hm), Chg.of_below hb⟩
theorem Ext.new [Cel α] (w : World) (cur : Array Value) (e : TypeId) (g c : Nat) (hg : w.heap.size = g) (hc : c ≤ maxLen) (hs : c * Cel.k α ≤ cur.size) :
    Ext (α := α) [] w [] (.slice (some ⟨g, 0, none⟩) 0 c) (w.alloc (.cells cur e)) :=
  ⟨[g], OwnS.madeAt w cur e g c hg hc hs, by simp, fun b hb => .inr (by simp at hb; omega), (Chg.refl _ _).alloc _⟩
theorem Ext.alloc [Cel α] (h : Ext fp w0 l v w) (o : Obj) : Ext fp w0 l v (w.alloc o) := by
  obtain ⟨f, h1, h2, h3, h4⟩ := h; exact ⟨f, h1.alloc o, h2, h3, h4.alloc o⟩
theorem Ext.open [Cel α] (h : Ext fp w0 l v w) : ∃ a c, v = .slice a l.length c ∧ (l.length : Int) ≤ 9223372036854775807 := by
  obtain ⟨f, h1, _⟩ := h
  obtain ⟨a, c, e, h2, _⟩ := h1.read.open; exact ⟨a, c, e, h2⟩
theorem Ext.chg [Cel α] (h : Ext fp w0 l v w) : Chg fp w0 w := by obtain ⟨_, _, _, _, h⟩ := h; exact h
theorem Ext.sl [Cel α] (h : Ext fp w0 l v w) : Sl w l v := by obtain ⟨_, h, _⟩ := h; exact h.sl
/-- What reads only, or makes new memory, leaves it. -/
theorem Ext.via [Cel α] {w1 : World} (h : Ext fp w0 l v w) (hb : Below w.heap.size w w1) : Ext fp w0 l v w1 := by
  obtain ⟨f, h1, h2, h3, h4⟩ := h; exact ⟨f, h1.below hb, h2, h3, h4.trans (Chg.of_below hb)⟩
theorem Ext.trans [Cel α] {w1 : World} {f : List Nat} {v1 : Value} {l1 : List α} (_h : OwnS w l v f) (hm : ∀ b ∈ f, b ∈ fp ∨ w0.heap.size ≤ b) (hc : Chg fp w0 w) (h2 : Ext f w l1 v1 w1) : Ext fp w0 l1 v1 w1 := by
  obtain ⟨f', k1, k2, k3, k4⟩ := h2
  refine ⟨f', k1, k2, fun b hb => ?_, ?_⟩
  · rcases k3 b hb with h5 | h5
    · exact hm b h5
    · exact .inr (Nat.le_trans hc.size h5)
  · refine ⟨k4.os.trans hc.os, k4.tape.trans hc.tape, k4.output.trans hc.output, Nat.le_trans hc.size k4.size, fun b hb hn => ?_⟩
    rw [k4.block b (Nat.lt_of_lt_of_le hb hc.size) (fun hf => by rcases hm b hf with h5 | h5; exact hn h5; omega), hc.block b hb hn]

theorem wpList_ext1 [Flat α] {ops : Array Oper} {rest : List Oper} {o : Oper} {a : Act} {Q : Exit → Act → World → Prop} (hgd : o.guard = none) (s x : Operand) (t : TypeId) {bytes : Nat}
    (ho : o.op = .call { callee := .builtin .append, args := #[s, x], argTypes := #[t, t] }) (hT : SlT P t (Cel.k α) bytes) (hs : a.eval s = v) (h : Ext fp w0 l v w)
    {c g : Nat} {vs : List Value} {e : TypeId} (hx : a.eval x = .slice (some ⟨g, 0, none⟩) 1 c) (hg : w.heap.size = g) {y : α} (hy : own w vs y [])
    (hbytes : (l.length + 1) * bytes ≤ 140737488355328) (h63 : l.length + 1 ≤ maxLen)
    (K : ∀ a' c' w', Ext fp w0 (l ++ [y]) (.slice a' (l.length + 1) c') w' → wpList P ops Q rest (a.put o.dst (.slice a' (l.length + 1) c')) w') : wpList P ops Q (o :: rest) a (w.alloc (.cells vs.toArray e)) := by
  subst hg
  obtain ⟨f, h1, h2, h3, h4⟩ := h
  refine wpList_append1 (B := 0) (f := []) hgd s x t ho hT hs (h1.alloc _) hx (news_alloc w vs e) (own_keep hy (by simp)) (by simpa [Fr] using h2) (Nat.zero_le _) hbytes h63 ?_
  intro a' c' w' fp' g1 g2 g3 g4 g5
  refine K a' c' w' ⟨fp', g1, g2.1, fun b hb => ?_, (h4.alloc _).grown g3 fun k hk => h3 k (h1.block_mem hk)⟩
  rcases g5 b hb with h5 | h5 | h5
  · exact h3 b h5
  · cases h5
  · right; subst h5; have := h4.size; simp; omega

theorem wpList_extF [Flat α] {ops : Array Oper} {rest : List Oper} {o : Oper} {a : Act} {Q : Exit → Act → World → Prop} (hgd : o.guard = none) (s x : Operand) (t : TypeId) {bytes : Nat}
    (ho : o.op = .call { callee := .builtin .append, args := #[s, x], argTypes := #[t, t] }) (hT : SlT P t (Cel.k α) bytes) (hs : a.eval s = v) (h : Ext fp w0 l v w)
    {v2 : Value} (hx : a.eval x = v2) (h2 : Sl w l2 v2)
    (hbytes : (l.length + l2.length) * bytes ≤ 140737488355328) (h63 : l.length + l2.length ≤ maxLen)
    (K : ∀ a' c' w', Ext fp w0 (l ++ l2) (.slice a' (l.length + l2.length) c') w' → wpList P ops Q rest (a.put o.dst (.slice a' (l.length + l2.length) c')) w') : wpList P ops Q (o :: rest) a w := by
  obtain ⟨f, h1, hn, h3, h4⟩ := h
  refine wpList_appendF (B := 0) hgd s x t ho hT hs h1 hx h2 (by simpa [Fr] using hn) (Nat.zero_le _) hbytes h63 ?_
  intro a' c' w' fp' g1 g2 g3 g4 g5
  refine K a' c' w' ⟨fp', g1, g2.1, fun b hb => ?_, h4.grown g3 fun k hk => h3 k (h1.block_mem hk)⟩
  rcases g5 b hb with h5 | h5
  · exact h3 b h5
  · right; subst h5; exact h4.size

/-- What a call hands back that appends to its argument. -/
def RetE [Cel α] (fp : List Nat) (l : List α) (w : World) (e : Ending) (w' : World) : Prop :=
  ∃ a c, e = .returned (.slice a l.length c) ∧ Ext fp w l (.slice a l.length c) w'
theorem RetE.retS [Cel α] {e : Ending} {w' : World} (h : RetE [] l w e w') : RetS l w e w' := by
  obtain ⟨a, c, he, f, h1, h2, h3, h4⟩ := h
  exact ⟨a, c, f, he, h1, ⟨h2, fun b hb => by rcases h3 b hb with h | h; cases h; exact h⟩, ⟨h4.os, h4.tape, h4.output, h4.size, fun b hb => h4.block b hb (by simp)⟩⟩
end
end Go.Proofs.YthnilnggpbploaaGreat
