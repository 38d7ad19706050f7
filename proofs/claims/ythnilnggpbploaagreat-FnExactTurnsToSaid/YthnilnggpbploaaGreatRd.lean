/- Loops that read: their rounds; the elements of a slice. Printed by a program. -/
import Derived.Test.YthnilnggpbploaaGreatTy
import Derived.Test.YthnilnggpbploaaGreatOwn2
import Derived.Test.YthnilnggpbploaaGreatHarn
namespace Go.Proofs.YthnilnggpbploaaGreat
open Go.RowKit
open Cel (rd own rd_len rd_one own_rd own_lt rd_below rd_mono own_keep)

/-- What one round of a loop does: the function returns, the loop ends, or it goes on. -/
inductive St (R σ : Type) where
  | ret (r : R)
  | brk (s : σ)
  | go (s : σ)
def rounds {R σ : Type} (b : Nat → σ → St R σ) : Nat → σ → St R σ
  | 0, s => .go s
  | k + 1, s => match rounds b k s with
    | .go t => b k t
    | .ret r => .ret r
    | .brk t => .brk t
section
variable {R σ : Type} {b : Nat → σ → St R σ} {k n : Nat} {s t u : σ} {r : R}
theorem rounds_next (h : rounds b k s = .go t) (hb : b k t = .go u) : rounds b (k + 1) s = .go u := by rw [rounds, h]; exact hb
theorem rounds_stay (hk : k ≤ n) (h : rounds b k s = .ret r) : rounds b n s = .ret r := by
  obtain ⟨d, rfl⟩ := Nat.exists_eq_add_of_le hk
  induction d with
  | zero => exact h
  | succ d ih => rw [show k + (d + 1) = (k + d) + 1 from rfl, rounds, ih (by omega)]
theorem rounds_ret (hk : k < n) (h : rounds b k s = .go t) (hb : b k t = .ret r) : rounds b n s = .ret r :=
  rounds_stay hk (by rw [rounds, h]; exact hb)
theorem rounds_stayb (hk : k ≤ n) (h : rounds b k s = .brk t) : rounds b n s = .brk t := by
  obtain ⟨d, rfl⟩ := Nat.exists_eq_add_of_le hk
  induction d with
  | zero => exact h
  | succ d ih => rw [show k + (d + 1) = (k + d) + 1 from rfl, rounds, ih (by omega)]
theorem rounds_brk (hk : k < n) (h : rounds b k s = .go t) (hb : b k t = .brk u) : rounds b n s = .brk u :=
  rounds_stayb hk (by rw [rounds, h]; exact hb)
end
/-- The k-th element. -/
def gt {α : Type} [Inhabited α] (l : List α) (k : Nat) : α := l.getD k default
theorem gt_get {α : Type} [Inhabited α] {l : List α} {k : Nat} (h : k < l.length) : l[k] = gt l k := by unfold gt; rw [List.getD_eq_getElem?_getD, List.getElem?_eq_getElem h]; rfl
instance : Inhabited ByteArray := ⟨⟨#[]⟩⟩
/-- The k-th byte of a string. -/
def bt (s : ByteArray) (k : Nat) : UInt8 := s.data.getD k 0
@[go_sem] theorem get_bt (s : ByteArray) (k : Nat) (h : k < s.size) : s[k]'h = bt s k := by
  unfold bt; rw [Array.getD_eq_getD_getElem?, Array.getElem?_eq_getElem (by simpa using h)]; rfl
theorem w64_in (n : Int) (h : -9223372036854775808 ≤ n ∧ n ≤ 9223372036854775807) : wrap64 n = n := by unfold wrap64; omega
theorem iw_in (n : Int) (h : -9223372036854775808 ≤ n ∧ n ≤ 9223372036854775807) : IntKind.i64.wrap n = n := by
  simp [IntKind.wrap, IntKind.bits, IntKind.signed]; omega
/-- One operation of a region that draws is taken first. -/
theorem tk {P : Program} {ops : Array Oper} {Q : Exit → Act → World → Prop} {md : Region.Mode} {S : World → Prop} (i : Nat) {oi : Oper} {v : Value} {fuel : Nat} {listed : Array Bool} {a : Act} {w : World} (hi : ops[i]? = some oi) (hy : YieldsIf P ops S oi v a)
    (h : wpAnyH P md ops Q S fuel (listed.setIfInBounds i true) (a.put oi.dst v) w)
    (hs : Region.noSelect ops = true := by kernel_rfl) (hf : Region.free md ops listed i = true := by kernel_rfl) (hr : (Region.ready md ops listed).contains i = true := by kernel_rfl)
    (hQ : ∀ c a w, Q (.panic c) (a.put oi.dst v) w → Q (.panic c) a w := by exact fun _ _ _ h => (h : False).elim) (hS : S w := by assumption) : wpAnyH P md ops Q S (fuel + 1) listed a w :=
  wpAnyH_take hi hs hf hr hQ hy hS h
theorem ga {α : Type} {xs : List α} {i : Nat} : xs.toArray[i]? = xs[i]? := List.getElem?_toArray
theorem gs {α : Type} {x : α} {xs : List α} {i : Nat} : (x :: xs)[i + 1]? = xs[i]? := List.getElem?_cons_succ
theorem gz {α : Type} {x : α} {xs : List α} : (x :: xs)[0]? = some x := List.getElem?_cons_zero
theorem sa {α : Type} {l : List α} {i : Nat} {a : α} : l.toArray.setIfInBounds i a = (l.set i a).toArray := List.setIfInBounds_toArray ..
theorem s0 {α : Type} {x a : α} {xs : List α} : (x :: xs).set 0 a = a :: xs := List.set_cons_zero ..
theorem ss {α : Type} {x a : α} {xs : List α} {n : Nat} : (x :: xs).set (n + 1) a = x :: xs.set n a := List.set_cons_succ ..
theorem tt {P : Program} {ops : Array Oper} {Q : Exit → Act → World → Prop} {md : Region.Mode} {S : World → Prop} (i : Nat) {oi : Oper} {v : Value} {fuel : Nat} {listed : Array Bool} {a : Act} {w : World}
    (h : wpAnyH P md ops Q S fuel (listed.setIfInBounds i true) (a.put oi.dst v) w) (hi : ops[i]? = some oi := by simp only [ga, gs, gz]; rfl)
    (hy : YieldsIf P ops S oi v a := by refine .inl ⟨by rfl, fun w hS => ?_⟩; (try dsimp only at hS); go_simp; (try with_reducible rfl))
    (hs : Region.noSelect ops = true := by kernel_rfl) (hf : Region.free md ops listed i = true := by kernel_rfl) (hr : (Region.ready md ops listed).contains i = true := by kernel_rfl)
    (hQ : ∀ c a w, Q (.panic c) (a.put oi.dst v) w → Q (.panic c) a w := by exact fun _ _ _ h => (h : False).elim) (hS : S w := by assumption) : wpAnyH P md ops Q S (fuel + 1) listed a w :=
  wpAnyH_take hi hs hf hr hQ hy hS h
theorem tu {P : Program} {ops : Array Oper} {Q : Exit → Act → World → Prop} {md : Region.Mode} {S : World → Prop} (i : Nat) {oi : Oper} {fuel : Nat} {listed : Array Bool} {a : Act} {w : World}
    (h : wpAnyH P md ops Q S fuel (listed.setIfInBounds i true) (a.put oi.dst undef) w) (hi : ops[i]? = some oi := by simp only [ga, gs, gz]; rfl)
    (hy : Region.wanted oi (yielded ops a.tmps) = false := by rfl)
    (hs : Region.noSelect ops = true := by kernel_rfl) (hf : Region.free md ops listed i = true := by kernel_rfl) (hr : (Region.ready md ops listed).contains i = true := by kernel_rfl)
    (hQ : ∀ c a w, Q (.panic c) (a.put oi.dst undef) w → Q (.panic c) a w := by exact fun _ _ _ h => (h : False).elim) (hS : S w := by assumption) : wpAnyH P md ops Q S (fuel + 1) listed a w :=
  wpAnyH_take hi hs hf hr hQ (.inr ⟨hy, rfl⟩) hS h
theorem rbk {a b : Bool} {w w' : World} (hB : Below w.heap.size w w') (h : a = b := by first | rfl | (simp; done) | (simp; omega) | simp_all) : RetB b w (.returned (.bool a)) w' := ⟨by rw [h], hB⟩
theorem bx1 {w : World} {b : Nat} {v0 : Value} (h : Bx w b [v0]) : w.cell? ⟨b, 0, none⟩ = some v0 := h.c 0 _ rfl
theorem cb1 {w w1 : World} {b o0 : Nat} {v0 : Value} (h : Below w.heap.size w w1) (g : b < w.heap.size) (e : w.cell? ⟨b, o0, none⟩ = some v0) : w1.cell? ⟨b, o0, none⟩ = some v0 := cell_below h g e
theorem bx2 {w : World} {b : Nat} {v0 v1 : Value} (h : Bx w b [v0, v1]) : w.cell? ⟨b, 0, none⟩ = some v0 ∧ w.cell? ⟨b, 1, none⟩ = some v1 := ⟨h.c 0 _ rfl, h.c 1 _ rfl⟩
theorem cb2 {w w1 : World} {b o0 o1 : Nat} {v0 v1 : Value} (h : Below w.heap.size w w1) (g : b < w.heap.size) (e : w.cell? ⟨b, o0, none⟩ = some v0 ∧ w.cell? ⟨b, o1, none⟩ = some v1) : w1.cell? ⟨b, o0, none⟩ = some v0 ∧ w1.cell? ⟨b, o1, none⟩ = some v1 := by obtain ⟨e0, e1⟩ := e; exact ⟨cell_below h g e0, cell_below h g e1⟩
theorem bx3 {w : World} {b : Nat} {v0 v1 v2 : Value} (h : Bx w b [v0, v1, v2]) : w.cell? ⟨b, 0, none⟩ = some v0 ∧ w.cell? ⟨b, 1, none⟩ = some v1 ∧ w.cell? ⟨b, 2, none⟩ = some v2 := ⟨h.c 0 _ rfl, h.c 1 _ rfl, h.c 2 _ rfl⟩
theorem cb3 {w w1 : World} {b o0 o1 o2 : Nat} {v0 v1 v2 : Value} (h : Below w.heap.size w w1) (g : b < w.heap.size) (e : w.cell? ⟨b, o0, none⟩ = some v0 ∧ w.cell? ⟨b, o1, none⟩ = some v1 ∧ w.cell? ⟨b, o2, none⟩ = some v2) : w1.cell? ⟨b, o0, none⟩ = some v0 ∧ w1.cell? ⟨b, o1, none⟩ = some v1 ∧ w1.cell? ⟨b, o2, none⟩ = some v2 := by obtain ⟨e0, e1, e2⟩ := e; exact ⟨cell_below h g e0, cell_below h g e1, cell_below h g e2⟩
theorem bx4 {w : World} {b : Nat} {v0 v1 v2 v3 : Value} (h : Bx w b [v0, v1, v2, v3]) : w.cell? ⟨b, 0, none⟩ = some v0 ∧ w.cell? ⟨b, 1, none⟩ = some v1 ∧ w.cell? ⟨b, 2, none⟩ = some v2 ∧ w.cell? ⟨b, 3, none⟩ = some v3 := ⟨h.c 0 _ rfl, h.c 1 _ rfl, h.c 2 _ rfl, h.c 3 _ rfl⟩
theorem cb4 {w w1 : World} {b o0 o1 o2 o3 : Nat} {v0 v1 v2 v3 : Value} (h : Below w.heap.size w w1) (g : b < w.heap.size) (e : w.cell? ⟨b, o0, none⟩ = some v0 ∧ w.cell? ⟨b, o1, none⟩ = some v1 ∧ w.cell? ⟨b, o2, none⟩ = some v2 ∧ w.cell? ⟨b, o3, none⟩ = some v3) : w1.cell? ⟨b, o0, none⟩ = some v0 ∧ w1.cell? ⟨b, o1, none⟩ = some v1 ∧ w1.cell? ⟨b, o2, none⟩ = some v2 ∧ w1.cell? ⟨b, o3, none⟩ = some v3 := by obtain ⟨e0, e1, e2, e3⟩ := e; exact ⟨cell_below h g e0, cell_below h g e1, cell_below h g e2, cell_below h g e3⟩
theorem bx5 {w : World} {b : Nat} {v0 v1 v2 v3 v4 : Value} (h : Bx w b [v0, v1, v2, v3, v4]) : w.cell? ⟨b, 0, none⟩ = some v0 ∧ w.cell? ⟨b, 1, none⟩ = some v1 ∧ w.cell? ⟨b, 2, none⟩ = some v2 ∧ w.cell? ⟨b, 3, none⟩ = some v3 ∧ w.cell? ⟨b, 4, none⟩ = some v4 := ⟨h.c 0 _ rfl, h.c 1 _ rfl, h.c 2 _ rfl, h.c 3 _ rfl, h.c 4 _ rfl⟩
theorem cb5 {w w1 : World} {b o0 o1 o2 o3 o4 : Nat} {v0 v1 v2 v3 v4 : Value} (h : Below w.heap.size w w1) (g : b < w.heap.size) (e : w.cell? ⟨b, o0, none⟩ = some v0 ∧ w.cell? ⟨b, o1, none⟩ = some v1 ∧ w.cell? ⟨b, o2, none⟩ = some v2 ∧ w.cell? ⟨b, o3, none⟩ = some v3 ∧ w.cell? ⟨b, o4, none⟩ = some v4) : w1.cell? ⟨b, o0, none⟩ = some v0 ∧ w1.cell? ⟨b, o1, none⟩ = some v1 ∧ w1.cell? ⟨b, o2, none⟩ = some v2 ∧ w1.cell? ⟨b, o3, none⟩ = some v3 ∧ w1.cell? ⟨b, o4, none⟩ = some v4 := by obtain ⟨e0, e1, e2, e3, e4⟩ := e; exact ⟨cell_below h g e0, cell_below h g e1, cell_below h g e2, cell_below h g e3, cell_below h g e4⟩
theorem bx6 {w : World} {b : Nat} {v0 v1 v2 v3 v4 v5 : Value} (h : Bx w b [v0, v1, v2, v3, v4, v5]) : w.cell? ⟨b, 0, none⟩ = some v0 ∧ w.cell? ⟨b, 1, none⟩ = some v1 ∧ w.cell? ⟨b, 2, none⟩ = some v2 ∧ w.cell? ⟨b, 3, none⟩ = some v3 ∧ w.cell? ⟨b, 4, none⟩ = some v4 ∧ w.cell? ⟨b, 5, none⟩ = some v5 := ⟨h.c 0 _ rfl, h.c 1 _ rfl, h.c 2 _ rfl, h.c 3 _ rfl, h.c 4 _ rfl, h.c 5 _ rfl⟩
theorem cb6 {w w1 : World} {b o0 o1 o2 o3 o4 o5 : Nat} {v0 v1 v2 v3 v4 v5 : Value} (h : Below w.heap.size w w1) (g : b < w.heap.size) (e : w.cell? ⟨b, o0, none⟩ = some v0 ∧ w.cell? ⟨b, o1, none⟩ = some v1 ∧ w.cell? ⟨b, o2, none⟩ = some v2 ∧ w.cell? ⟨b, o3, none⟩ = some v3 ∧ w.cell? ⟨b, o4, none⟩ = some v4 ∧ w.cell? ⟨b, o5, none⟩ = some v5) : w1.cell? ⟨b, o0, none⟩ = some v0 ∧ w1.cell? ⟨b, o1, none⟩ = some v1 ∧ w1.cell? ⟨b, o2, none⟩ = some v2 ∧ w1.cell? ⟨b, o3, none⟩ = some v3 ∧ w1.cell? ⟨b, o4, none⟩ = some v4 ∧ w1.cell? ⟨b, o5, none⟩ = some v5 := by obtain ⟨e0, e1, e2, e3, e4, e5⟩ := e; exact ⟨cell_below h g e0, cell_below h g e1, cell_below h g e2, cell_below h g e3, cell_below h g e4, cell_below h g e5⟩
theorem bx7 {w : World} {b : Nat} {v0 v1 v2 v3 v4 v5 v6 : Value} (h : Bx w b [v0, v1, v2, v3, v4, v5, v6]) : w.cell? ⟨b, 0, none⟩ = some v0 ∧ w.cell? ⟨b, 1, none⟩ = some v1 ∧ w.cell? ⟨b, 2, none⟩ = some v2 ∧ w.cell? ⟨b, 3, none⟩ = some v3 ∧ w.cell? ⟨b, 4, none⟩ = some v4 ∧ w.cell? ⟨b, 5, none⟩ = some v5 ∧ w.cell? ⟨b, 6, none⟩ = some v6 := ⟨h.c 0 _ rfl, h.c 1 _ rfl, h.c 2 _ rfl, h.c 3 _ rfl, h.c 4 _ rfl, h.c 5 _ rfl, h.c 6 _ rfl⟩
theorem cb7 {w w1 : World} {b o0 o1 o2 o3 o4 o5 o6 : Nat} {v0 v1 v2 v3 v4 v5 v6 : Value} (h : Below w.heap.size w w1) (g : b < w.heap.size) (e : w.cell? ⟨b, o0, none⟩ = some v0 ∧ w.cell? ⟨b, o1, none⟩ = some v1 ∧ w.cell? ⟨b, o2, none⟩ = some v2 ∧ w.cell? ⟨b, o3, none⟩ = some v3 ∧ w.cell? ⟨b, o4, none⟩ = some v4 ∧ w.cell? ⟨b, o5, none⟩ = some v5 ∧ w.cell? ⟨b, o6, none⟩ = some v6) : w1.cell? ⟨b, o0, none⟩ = some v0 ∧ w1.cell? ⟨b, o1, none⟩ = some v1 ∧ w1.cell? ⟨b, o2, none⟩ = some v2 ∧ w1.cell? ⟨b, o3, none⟩ = some v3 ∧ w1.cell? ⟨b, o4, none⟩ = some v4 ∧ w1.cell? ⟨b, o5, none⟩ = some v5 ∧ w1.cell? ⟨b, o6, none⟩ = some v6 := by obtain ⟨e0, e1, e2, e3, e4, e5, e6⟩ := e; exact ⟨cell_below h g e0, cell_below h g e1, cell_below h g e2, cell_below h g e3, cell_below h g e4, cell_below h g e5, cell_below h g e6⟩
theorem bx8 {w : World} {b : Nat} {v0 v1 v2 v3 v4 v5 v6 v7 : Value} (h : Bx w b [v0, v1, v2, v3, v4, v5, v6, v7]) : w.cell? ⟨b, 0, none⟩ = some v0 ∧ w.cell? ⟨b, 1, none⟩ = some v1 ∧ w.cell? ⟨b, 2, none⟩ = some v2 ∧ w.cell? ⟨b, 3, none⟩ = some v3 ∧ w.cell? ⟨b, 4, none⟩ = some v4 ∧ w.cell? ⟨b, 5, none⟩ = some v5 ∧ w.cell? ⟨b, 6, none⟩ = some v6 ∧ w.cell? ⟨b, 7, none⟩ = some v7 := ⟨h.c 0 _ rfl, h.c 1 _ rfl, h.c 2 _ rfl, h.c 3 _ rfl, h.c 4 _ rfl, h.c 5 _ rfl, h.c 6 _ rfl, h.c 7 _ rfl⟩
theorem cb8 {w w1 : World} {b o0 o1 o2 o3 o4 o5 o6 o7 : Nat} {v0 v1 v2 v3 v4 v5 v6 v7 : Value} (h : Below w.heap.size w w1) (g : b < w.heap.size) (e : w.cell? ⟨b, o0, none⟩ = some v0 ∧ w.cell? ⟨b, o1, none⟩ = some v1 ∧ w.cell? ⟨b, o2, none⟩ = some v2 ∧ w.cell? ⟨b, o3, none⟩ = some v3 ∧ w.cell? ⟨b, o4, none⟩ = some v4 ∧ w.cell? ⟨b, o5, none⟩ = some v5 ∧ w.cell? ⟨b, o6, none⟩ = some v6 ∧ w.cell? ⟨b, o7, none⟩ = some v7) : w1.cell? ⟨b, o0, none⟩ = some v0 ∧ w1.cell? ⟨b, o1, none⟩ = some v1 ∧ w1.cell? ⟨b, o2, none⟩ = some v2 ∧ w1.cell? ⟨b, o3, none⟩ = some v3 ∧ w1.cell? ⟨b, o4, none⟩ = some v4 ∧ w1.cell? ⟨b, o5, none⟩ = some v5 ∧ w1.cell? ⟨b, o6, none⟩ = some v6 ∧ w1.cell? ⟨b, o7, none⟩ = some v7 := by obtain ⟨e0, e1, e2, e3, e4, e5, e6, e7⟩ := e; exact ⟨cell_below h g e0, cell_below h g e1, cell_below h g e2, cell_below h g e3, cell_below h g e4, cell_below h g e5, cell_below h g e6, cell_below h g e7⟩
theorem bx9 {w : World} {b : Nat} {v0 v1 v2 v3 v4 v5 v6 v7 v8 : Value} (h : Bx w b [v0, v1, v2, v3, v4, v5, v6, v7, v8]) : w.cell? ⟨b, 0, none⟩ = some v0 ∧ w.cell? ⟨b, 1, none⟩ = some v1 ∧ w.cell? ⟨b, 2, none⟩ = some v2 ∧ w.cell? ⟨b, 3, none⟩ = some v3 ∧ w.cell? ⟨b, 4, none⟩ = some v4 ∧ w.cell? ⟨b, 5, none⟩ = some v5 ∧ w.cell? ⟨b, 6, none⟩ = some v6 ∧ w.cell? ⟨b, 7, none⟩ = some v7 ∧ w.cell? ⟨b, 8, none⟩ = some v8 := ⟨h.c 0 _ rfl, h.c 1 _ rfl, h.c 2 _ rfl, h.c 3 _ rfl, h.c 4 _ rfl, h.c 5 _ rfl, h.c 6 _ rfl, h.c 7 _ rfl, h.c 8 _ rfl⟩
theorem cb9 {w w1 : World} {b o0 o1 o2 o3 o4 o5 o6 o7 o8 : Nat} {v0 v1 v2 v3 v4 v5 v6 v7 v8 : Value} (h : Below w.heap.size w w1) (g : b < w.heap.size) (e : w.cell? ⟨b, o0, none⟩ = some v0 ∧ w.cell? ⟨b, o1, none⟩ = some v1 ∧ w.cell? ⟨b, o2, none⟩ = some v2 ∧ w.cell? ⟨b, o3, none⟩ = some v3 ∧ w.cell? ⟨b, o4, none⟩ = some v4 ∧ w.cell? ⟨b, o5, none⟩ = some v5 ∧ w.cell? ⟨b, o6, none⟩ = some v6 ∧ w.cell? ⟨b, o7, none⟩ = some v7 ∧ w.cell? ⟨b, o8, none⟩ = some v8) : w1.cell? ⟨b, o0, none⟩ = some v0 ∧ w1.cell? ⟨b, o1, none⟩ = some v1 ∧ w1.cell? ⟨b, o2, none⟩ = some v2 ∧ w1.cell? ⟨b, o3, none⟩ = some v3 ∧ w1.cell? ⟨b, o4, none⟩ = some v4 ∧ w1.cell? ⟨b, o5, none⟩ = some v5 ∧ w1.cell? ⟨b, o6, none⟩ = some v6 ∧ w1.cell? ⟨b, o7, none⟩ = some v7 ∧ w1.cell? ⟨b, o8, none⟩ = some v8 := by obtain ⟨e0, e1, e2, e3, e4, e5, e6, e7, e8⟩ := e; exact ⟨cell_below h g e0, cell_below h g e1, cell_below h g e2, cell_below h g e3, cell_below h g e4, cell_below h g e5, cell_below h g e6, cell_below h g e7, cell_below h g e8⟩
theorem bx10 {w : World} {b : Nat} {v0 v1 v2 v3 v4 v5 v6 v7 v8 v9 : Value} (h : Bx w b [v0, v1, v2, v3, v4, v5, v6, v7, v8, v9]) : w.cell? ⟨b, 0, none⟩ = some v0 ∧ w.cell? ⟨b, 1, none⟩ = some v1 ∧ w.cell? ⟨b, 2, none⟩ = some v2 ∧ w.cell? ⟨b, 3, none⟩ = some v3 ∧ w.cell? ⟨b, 4, none⟩ = some v4 ∧ w.cell? ⟨b, 5, none⟩ = some v5 ∧ w.cell? ⟨b, 6, none⟩ = some v6 ∧ w.cell? ⟨b, 7, none⟩ = some v7 ∧ w.cell? ⟨b, 8, none⟩ = some v8 ∧ w.cell? ⟨b, 9, none⟩ = some v9 := ⟨h.c 0 _ rfl, h.c 1 _ rfl, h.c 2 _ rfl, h.c 3 _ rfl, h.c 4 _ rfl, h.c 5 _ rfl, h.c 6 _ rfl, h.c 7 _ rfl, h.c 8 _ rfl, h.c 9 _ rfl⟩
theorem cb10 {w w1 : World} {b o0 o1 o2 o3 o4 o5 o6 o7 o8 o9 : Nat} {v0 v1 v2 v3 v4 v5 v6 v7 v8 v9 : Value} (h : Below w.heap.size w w1) (g : b < w.heap.size) (e : w.cell? ⟨b, o0, none⟩ = some v0 ∧ w.cell? ⟨b, o1, none⟩ = some v1 ∧ w.cell? ⟨b, o2, none⟩ = some v2 ∧ w.cell? ⟨b, o3, none⟩ = some v3 ∧ w.cell? ⟨b, o4, none⟩ = some v4 ∧ w.cell? ⟨b, o5, none⟩ = some v5 ∧ w.cell? ⟨b, o6, none⟩ = some v6 ∧ w.cell? ⟨b, o7, none⟩ = some v7 ∧ w.cell? ⟨b, o8, none⟩ = some v8 ∧ w.cell? ⟨b, o9, none⟩ = some v9) : w1.cell? ⟨b, o0, none⟩ = some v0 ∧ w1.cell? ⟨b, o1, none⟩ = some v1 ∧ w1.cell? ⟨b, o2, none⟩ = some v2 ∧ w1.cell? ⟨b, o3, none⟩ = some v3 ∧ w1.cell? ⟨b, o4, none⟩ = some v4 ∧ w1.cell? ⟨b, o5, none⟩ = some v5 ∧ w1.cell? ⟨b, o6, none⟩ = some v6 ∧ w1.cell? ⟨b, o7, none⟩ = some v7 ∧ w1.cell? ⟨b, o8, none⟩ = some v8 ∧ w1.cell? ⟨b, o9, none⟩ = some v9 := by obtain ⟨e0, e1, e2, e3, e4, e5, e6, e7, e8, e9⟩ := e; exact ⟨cell_below h g e0, cell_below h g e1, cell_below h g e2, cell_below h g e3, cell_below h g e4, cell_below h g e5, cell_below h g e6, cell_below h g e7, cell_below h g e8, cell_below h g e9⟩
theorem bx11 {w : World} {b : Nat} {v0 v1 v2 v3 v4 v5 v6 v7 v8 v9 v10 : Value} (h : Bx w b [v0, v1, v2, v3, v4, v5, v6, v7, v8, v9, v10]) : w.cell? ⟨b, 0, none⟩ = some v0 ∧ w.cell? ⟨b, 1, none⟩ = some v1 ∧ w.cell? ⟨b, 2, none⟩ = some v2 ∧ w.cell? ⟨b, 3, none⟩ = some v3 ∧ w.cell? ⟨b, 4, none⟩ = some v4 ∧ w.cell? ⟨b, 5, none⟩ = some v5 ∧ w.cell? ⟨b, 6, none⟩ = some v6 ∧ w.cell? ⟨b, 7, none⟩ = some v7 ∧ w.cell? ⟨b, 8, none⟩ = some v8 ∧ w.cell? ⟨b, 9, none⟩ = some v9 ∧ w.cell? ⟨b, 10, none⟩ = some v10 := ⟨h.c 0 _ rfl, h.c 1 _ rfl, h.c 2 _ rfl, h.c 3 _ rfl, h.c 4 _ rfl, h.c 5 _ rfl, h.c 6 _ rfl, h.c 7 _ rfl, h.c 8 _ rfl, h.c 9 _ rfl, h.c 10 _ rfl⟩
theorem cb11 {w w1 : World} {b o0 o1 o2 o3 o4 o5 o6 o7 o8 o9 o10 : Nat} {v0 v1 v2 v3 v4 v5 v6 v7 v8 v9 v10 : Value} (h : Below w.heap.size w w1) (g : b < w.heap.size) (e : w.cell? ⟨b, o0, none⟩ = some v0 ∧ w.cell? ⟨b, o1, none⟩ = some v1 ∧ w.cell? ⟨b, o2, none⟩ = some v2 ∧ w.cell? ⟨b, o3, none⟩ = some v3 ∧ w.cell? ⟨b, o4, none⟩ = some v4 ∧ w.cell? ⟨b, o5, none⟩ = some v5 ∧ w.cell? ⟨b, o6, none⟩ = some v6 ∧ w.cell? ⟨b, o7, none⟩ = some v7 ∧ w.cell? ⟨b, o8, none⟩ = some v8 ∧ w.cell? ⟨b, o9, none⟩ = some v9 ∧ w.cell? ⟨b, o10, none⟩ = some v10) : w1.cell? ⟨b, o0, none⟩ = some v0 ∧ w1.cell? ⟨b, o1, none⟩ = some v1 ∧ w1.cell? ⟨b, o2, none⟩ = some v2 ∧ w1.cell? ⟨b, o3, none⟩ = some v3 ∧ w1.cell? ⟨b, o4, none⟩ = some v4 ∧ w1.cell? ⟨b, o5, none⟩ = some v5 ∧ w1.cell? ⟨b, o6, none⟩ = some v6 ∧ w1.cell? ⟨b, o7, none⟩ = some v7 ∧ w1.cell? ⟨b, o8, none⟩ = some v8 ∧ w1.cell? ⟨b, o9, none⟩ = some v9 ∧ w1.cell? ⟨b, o10, none⟩ = some v10 := by obtain ⟨e0, e1, e2, e3, e4, e5, e6, e7, e8, e9, e10⟩ := e; exact ⟨cell_below h g e0, cell_below h g e1, cell_below h g e2, cell_below h g e3, cell_below h g e4, cell_below h g e5, cell_below h g e6, cell_below h g e7, cell_below h g e8, cell_below h g e9, cell_below h g e10⟩
theorem bx12 {w : World} {b : Nat} {v0 v1 v2 v3 v4 v5 v6 v7 v8 v9 v10 v11 : Value} (h : Bx w b [v0, v1, v2, v3, v4, v5, v6, v7, v8, v9, v10, v11]) : w.cell? ⟨b, 0, none⟩ = some v0 ∧ w.cell? ⟨b, 1, none⟩ = some v1 ∧ w.cell? ⟨b, 2, none⟩ = some v2 ∧ w.cell? ⟨b, 3, none⟩ = some v3 ∧ w.cell? ⟨b, 4, none⟩ = some v4 ∧ w.cell? ⟨b, 5, none⟩ = some v5 ∧ w.cell? ⟨b, 6, none⟩ = some v6 ∧ w.cell? ⟨b, 7, none⟩ = some v7 ∧ w.cell? ⟨b, 8, none⟩ = some v8 ∧ w.cell? ⟨b, 9, none⟩ = some v9 ∧ w.cell? ⟨b, 10, none⟩ = some v10 ∧ w.cell? ⟨b, 11, none⟩ = some v11 := ⟨h.c 0 _ rfl, h.c 1 _ rfl, h.c 2 _ rfl, h.c 3 _ rfl, h.c 4 _ rfl, h.c 5 _ rfl, h.c 6 _ rfl, h.c 7 _ rfl, h.c 8 _ rfl, h.c 9 _ rfl, h.c 10 _ rfl, h.c 11 _ rfl⟩
theorem cb12 {w w1 : World} {b o0 o1 o2 o3 o4 o5 o6 o7 o8 o9 o10 o11 : Nat} {v0 v1 v2 v3 v4 v5 v6 v7 v8 v9 v10 v11 : Value} (h : Below w.heap.size w w1) (g : b < w.heap.size) (e : w.cell? ⟨b, o0, none⟩ = some v0 ∧ w.cell? ⟨b, o1, none⟩ = some v1 ∧ w.cell? ⟨b, o2, none⟩ = some v2 ∧ w.cell? ⟨b, o3, none⟩ = some v3 ∧ w.cell? ⟨b, o4, none⟩ = some v4 ∧ w.cell? ⟨b, o5, none⟩ = some v5 ∧ w.cell? ⟨b, o6, none⟩ = some v6 ∧ w.cell? ⟨b, o7, none⟩ = some v7 ∧ w.cell? ⟨b, o8, none⟩ = some v8 ∧ w.cell? ⟨b, o9, none⟩ = some v9 ∧ w.cell? ⟨b, o10, none⟩ = some v10 ∧ w.cell? ⟨b, o11, none⟩ = some v11) : w1.cell? ⟨b, o0, none⟩ = some v0 ∧ w1.cell? ⟨b, o1, none⟩ = some v1 ∧ w1.cell? ⟨b, o2, none⟩ = some v2 ∧ w1.cell? ⟨b, o3, none⟩ = some v3 ∧ w1.cell? ⟨b, o4, none⟩ = some v4 ∧ w1.cell? ⟨b, o5, none⟩ = some v5 ∧ w1.cell? ⟨b, o6, none⟩ = some v6 ∧ w1.cell? ⟨b, o7, none⟩ = some v7 ∧ w1.cell? ⟨b, o8, none⟩ = some v8 ∧ w1.cell? ⟨b, o9, none⟩ = some v9 ∧ w1.cell? ⟨b, o10, none⟩ = some v10 ∧ w1.cell? ⟨b, o11, none⟩ = some v11 := by obtain ⟨e0, e1, e2, e3, e4, e5, e6, e7, e8, e9, e10, e11⟩ := e; exact ⟨cell_below h g e0, cell_below h g e1, cell_below h g e2, cell_below h g e3, cell_below h g e4, cell_below h g e5, cell_below h g e6, cell_below h g e7, cell_below h g e8, cell_below h g e9, cell_below h g e10, cell_below h g e11⟩
theorem args_eq {P : Program} {f : Nat} {a b : Array Value} {w : World} {R : Ending → World → Prop} (e : a = b) (h : Calls P f b w R) : Calls P f a w R := e ▸ h
@[go_sem] theorem wrap64_byte (c : UInt8) : wrap64 (c.toNat : Int) = (c.toNat : Int) := by have h := c.toNat_lt; unfold wrap64; omega
theorem ret_b {a b : Bool} (h : a = b) : Ending.returned (.bool a) = .returned (.bool b) := by rw [h]
def inR (n a b : Int) : Bool := decide (a ≤ n) && decide (n ≤ b)
theorem inR_true {n a b : Int} (h : inR n a b = true) : a ≤ n ∧ n ≤ b := by unfold inR at h; simpa using h
theorem Sl.takeTo {α : Type} [Cel α] {w : World} {l : List α} {a : Option Addr} {n c : Nat} (h : Sl w l (.slice a n c)) {k : Nat} (hk : k ≤ l.length) : Sl w (l.take k) (.slice a k c) := by
  obtain ⟨a1, c1, e, h3, h4, h5, h6⟩ := h
  cases e
  refine ⟨a, c, by rw [List.length_take, Nat.min_eq_left hk], by rw [List.length_take]; omega, h4, h5, ?_⟩
  rcases h6 with h6 | ⟨b, o, ha, hb, hl⟩
  · exact .inl (by simp [h6])
  · refine .inr ⟨b, o, ha, hb, fun i x hx => hl i x ?_⟩
    rw [List.getElem?_take] at hx; split at hx
    · exact hx
    · cases hx
theorem Sl.gtString {w : World} {l : List ByteArray} {a : Option Addr} {n c : Nat} (h : Sl w l (.slice a n c)) (i : Nat) (hi : i < l.length) :
    ∃ b o, a = some ⟨b, o, none⟩ ∧ b < w.heap.size ∧ (gt l i).size ≤ maxLen ∧ w.cell? ⟨b, o + i, none⟩ = some (.string (gt l i)) := by
  rw [← gt_get hi]
  obtain ⟨b, o, vs, h1, h2, ⟨rfl, h4⟩, h3⟩ := h.at i hi
  exact ⟨b, o, h1, h2, h4, by simpa [Cel.k] using h3 0 (by decide)⟩
theorem Sl.gtInt {w : World} {l : List Int} {a : Option Addr} {n c : Nat} (h : Sl w l (.slice a n c)) (i : Nat) (hi : i < l.length) :
    ∃ b o, a = some ⟨b, o, none⟩ ∧ b < w.heap.size ∧ In64 (gt l i) ∧ w.cell? ⟨b, o + i, none⟩ = some (.int .i64 (gt l i)) := by
  rw [← gt_get hi]
  obtain ⟨b, o, vs, h1, h2, ⟨rfl, h4⟩, h3⟩ := h.at i hi
  exact ⟨b, o, h1, h2, h4, by simpa [Cel.k] using h3 0 (by decide)⟩
theorem Sl.guString {w : World} {l : List ByteArray} {b o n c : Nat} (h : Sl w l (.slice (some ⟨b, o, none⟩) n c)) (i : Nat) (hi : i < l.length) :
    b < w.heap.size ∧ (gt l i).size ≤ maxLen ∧ w.cell? ⟨b, o + i, none⟩ = some (.string (gt l i)) := by
  obtain ⟨b2, o2, e, r⟩ := h.gtString i hi
  cases e
  exact r
theorem Sl.guInt {w : World} {l : List Int} {b o n c : Nat} (h : Sl w l (.slice (some ⟨b, o, none⟩) n c)) (i : Nat) (hi : i < l.length) :
    b < w.heap.size ∧ In64 (gt l i) ∧ w.cell? ⟨b, o + i, none⟩ = some (.int .i64 (gt l i)) := by
  obtain ⟨b2, o2, e, r⟩ := h.gtInt i hi
  cases e
  exact r
theorem le_sum_get {α : Type} (f : α → Nat) : ∀ (l : List α) (k : Nat) (h : k < l.length), f l[k] ≤ (l.map f).sum := by
  intro l
  induction l with
  | nil => intro k h; cases h
  | cons x xs ih =>
    intro k h
    cases k with
    | zero => simp
    | succ k => have := ih k (by simpa using h); simp at this ⊢; omega
theorem sl_none {α : Type} [Cel α] (w : World) : Sl w ([] : List α) (.slice none 0 0) := ⟨Option.none, 0, rfl, Nat.le_refl _, by decide, fun _ => rfl, .inl rfl⟩
instance : Inhabited ValD := ⟨⟨0, 0, ⟨#[]⟩⟩⟩
theorem szn_gtVal (l : List ValD) (k : Nat) (h : k < l.length) : sznVal (gt l k) ≤ sznSVal l := by rw [← gt_get h]; have := le_sum_get sznVal l k h; unfold sznSVal; omega
theorem Sl.gtVal {w : World} {l : List ValD} {a : Option Addr} {n c : Nat} (h : Sl w l (.slice a n c)) (i : Nat) (hi : i < l.length) :
    ∃ b o , a = some ⟨b, o, none⟩ ∧ b < w.heap.size ∧ okVal (gt l i) ∧ (w.cell? ⟨b, o + i * 3, none⟩ = some (.int .i64 (gt l i).K) ∧ w.cell? ⟨b, o + i * 3 + 1, none⟩ = some (.int .i64 (gt l i).N) ∧ w.cell? ⟨b, o + i * 3 + 2, none⟩ = some (.string (gt l i).S)) := by
  rw [← gt_get hi]
  exact h.atVal i hi
theorem Sl.guVal {w : World} {l : List ValD} {b o : Nat} {n c : Nat} (h : Sl w l (.slice (some ⟨b, o, none⟩) n c)) (i : Nat) (hi : i < l.length) :
     b < w.heap.size ∧ okVal (gt l i) ∧ (w.cell? ⟨b, o + i * 3, none⟩ = some (.int .i64 (gt l i).K) ∧ w.cell? ⟨b, o + i * 3 + 1, none⟩ = some (.int .i64 (gt l i).N) ∧ w.cell? ⟨b, o + i * 3 + 2, none⟩ = some (.string (gt l i).S)) := by
  obtain ⟨b2, o2, e, r⟩ := h.gtVal i hi
  cases e
  exact r
instance : Inhabited FactD := ⟨⟨⟨#[]⟩, []⟩⟩
theorem szn_Fact_Fields (x : FactD) : sznSVal x.Fields ≤ sznFact x := by show _ ≤ _; unfold sznFact; omega
theorem szn_gtFact (l : List FactD) (k : Nat) (h : k < l.length) : sznFact (gt l k) ≤ sznSFact l := by rw [← gt_get h]; have := le_sum_get sznFact l k h; unfold sznSFact; omega
theorem Sl.gtFact {w : World} {l : List FactD} {a : Option Addr} {n c : Nat} (h : Sl w l (.slice a n c)) (i : Nat) (hi : i < l.length) :
    ∃ b o v0, a = some ⟨b, o, none⟩ ∧ b < w.heap.size ∧ okFact (gt l i) ∧ (w.cell? ⟨b, o + i * 2, none⟩ = some (.string (gt l i).Kind) ∧ w.cell? ⟨b, o + i * 2 + 1, none⟩ = some (v0)) ∧ Sl w (gt l i).Fields v0 := by
  rw [← gt_get hi]
  exact h.atFact i hi
theorem Sl.guFact {w : World} {l : List FactD} {b o : Nat} {n c : Nat} (h : Sl w l (.slice (some ⟨b, o, none⟩) n c)) (i : Nat) (hi : i < l.length) :
    ∃ v0, b < w.heap.size ∧ okFact (gt l i) ∧ (w.cell? ⟨b, o + i * 2, none⟩ = some (.string (gt l i).Kind) ∧ w.cell? ⟨b, o + i * 2 + 1, none⟩ = some (v0)) ∧ Sl w (gt l i).Fields v0 := by
  obtain ⟨b2, o2, v0, e, r⟩ := h.gtFact i hi
  cases e
  exact ⟨v0, r⟩
instance : Inhabited ItemD := ⟨⟨0, default⟩⟩
theorem szn_Item_F (x : ItemD) : sznFact x.F ≤ sznItem x := by show _ ≤ _; unfold sznItem; omega
theorem szn_gtItem (l : List ItemD) (k : Nat) (h : k < l.length) : sznItem (gt l k) ≤ sznSItem l := by rw [← gt_get h]; have := le_sum_get sznItem l k h; unfold sznSItem; omega
theorem Sl.gtItem {w : World} {l : List ItemD} {a : Option Addr} {n c : Nat} (h : Sl w l (.slice a n c)) (i : Nat) (hi : i < l.length) :
    ∃ b o v0, a = some ⟨b, o, none⟩ ∧ b < w.heap.size ∧ okItem (gt l i) ∧ (w.cell? ⟨b, o + i * 3, none⟩ = some (.int .i64 (gt l i).Id) ∧ w.cell? ⟨b, o + i * 3 + 1, none⟩ = some (.string (gt l i).F.Kind) ∧ w.cell? ⟨b, o + i * 3 + 2, none⟩ = some (v0)) ∧ Sl w (gt l i).F.Fields v0 := by
  rw [← gt_get hi]
  exact h.atItem i hi
theorem Sl.guItem {w : World} {l : List ItemD} {b o : Nat} {n c : Nat} (h : Sl w l (.slice (some ⟨b, o, none⟩) n c)) (i : Nat) (hi : i < l.length) :
    ∃ v0, b < w.heap.size ∧ okItem (gt l i) ∧ (w.cell? ⟨b, o + i * 3, none⟩ = some (.int .i64 (gt l i).Id) ∧ w.cell? ⟨b, o + i * 3 + 1, none⟩ = some (.string (gt l i).F.Kind) ∧ w.cell? ⟨b, o + i * 3 + 2, none⟩ = some (v0)) ∧ Sl w (gt l i).F.Fields v0 := by
  obtain ⟨b2, o2, v0, e, r⟩ := h.gtItem i hi
  cases e
  exact ⟨v0, r⟩
instance : Inhabited StoreD := ⟨⟨[], 0⟩⟩
theorem szn_Store_Items (x : StoreD) : sznSItem x.Items ≤ sznStore x := by show _ ≤ _; unfold sznStore; omega
theorem szn_gtStore (l : List StoreD) (k : Nat) (h : k < l.length) : sznStore (gt l k) ≤ sznSStore l := by rw [← gt_get h]; have := le_sum_get sznStore l k h; unfold sznSStore; omega
theorem Sl.gtStore {w : World} {l : List StoreD} {a : Option Addr} {n c : Nat} (h : Sl w l (.slice a n c)) (i : Nat) (hi : i < l.length) :
    ∃ b o v0, a = some ⟨b, o, none⟩ ∧ b < w.heap.size ∧ okStore (gt l i) ∧ (w.cell? ⟨b, o + i * 2, none⟩ = some (v0) ∧ w.cell? ⟨b, o + i * 2 + 1, none⟩ = some (.int .i64 (gt l i).Next)) ∧ Sl w (gt l i).Items v0 := by
  rw [← gt_get hi]
  exact h.atStore i hi
theorem Sl.guStore {w : World} {l : List StoreD} {b o : Nat} {n c : Nat} (h : Sl w l (.slice (some ⟨b, o, none⟩) n c)) (i : Nat) (hi : i < l.length) :
    ∃ v0, b < w.heap.size ∧ okStore (gt l i) ∧ (w.cell? ⟨b, o + i * 2, none⟩ = some (v0) ∧ w.cell? ⟨b, o + i * 2 + 1, none⟩ = some (.int .i64 (gt l i).Next)) ∧ Sl w (gt l i).Items v0 := by
  obtain ⟨b2, o2, v0, e, r⟩ := h.gtStore i hi
  cases e
  exact ⟨v0, r⟩
instance : Inhabited ArgD := ⟨⟨0, ⟨#[]⟩, default⟩⟩
theorem szn_Arg_V (x : ArgD) : sznVal x.V ≤ sznArg x := by show _ ≤ _; unfold sznArg; omega
theorem szn_gtArg (l : List ArgD) (k : Nat) (h : k < l.length) : sznArg (gt l k) ≤ sznSArg l := by rw [← gt_get h]; have := le_sum_get sznArg l k h; unfold sznSArg; omega
theorem Sl.gtArg {w : World} {l : List ArgD} {a : Option Addr} {n c : Nat} (h : Sl w l (.slice a n c)) (i : Nat) (hi : i < l.length) :
    ∃ b o , a = some ⟨b, o, none⟩ ∧ b < w.heap.size ∧ okArg (gt l i) ∧ (w.cell? ⟨b, o + i * 5, none⟩ = some (.int .i64 (gt l i).K) ∧ w.cell? ⟨b, o + i * 5 + 1, none⟩ = some (.string (gt l i).S) ∧ w.cell? ⟨b, o + i * 5 + 2, none⟩ = some (.int .i64 (gt l i).V.K) ∧ w.cell? ⟨b, o + i * 5 + 3, none⟩ = some (.int .i64 (gt l i).V.N) ∧ w.cell? ⟨b, o + i * 5 + 4, none⟩ = some (.string (gt l i).V.S)) := by
  rw [← gt_get hi]
  exact h.atArg i hi
theorem Sl.guArg {w : World} {l : List ArgD} {b o : Nat} {n c : Nat} (h : Sl w l (.slice (some ⟨b, o, none⟩) n c)) (i : Nat) (hi : i < l.length) :
     b < w.heap.size ∧ okArg (gt l i) ∧ (w.cell? ⟨b, o + i * 5, none⟩ = some (.int .i64 (gt l i).K) ∧ w.cell? ⟨b, o + i * 5 + 1, none⟩ = some (.string (gt l i).S) ∧ w.cell? ⟨b, o + i * 5 + 2, none⟩ = some (.int .i64 (gt l i).V.K) ∧ w.cell? ⟨b, o + i * 5 + 3, none⟩ = some (.int .i64 (gt l i).V.N) ∧ w.cell? ⟨b, o + i * 5 + 4, none⟩ = some (.string (gt l i).V.S)) := by
  obtain ⟨b2, o2, e, r⟩ := h.gtArg i hi
  cases e
  exact r
instance : Inhabited PatD := ⟨⟨⟨#[]⟩, [], false⟩⟩
theorem szn_Pat_Args (x : PatD) : sznSArg x.Args ≤ sznPat x := by show _ ≤ _; unfold sznPat; omega
theorem szn_gtPat (l : List PatD) (k : Nat) (h : k < l.length) : sznPat (gt l k) ≤ sznSPat l := by rw [← gt_get h]; have := le_sum_get sznPat l k h; unfold sznSPat; omega
theorem Sl.gtPat {w : World} {l : List PatD} {a : Option Addr} {n c : Nat} (h : Sl w l (.slice a n c)) (i : Nat) (hi : i < l.length) :
    ∃ b o v0, a = some ⟨b, o, none⟩ ∧ b < w.heap.size ∧ okPat (gt l i) ∧ (w.cell? ⟨b, o + i * 3, none⟩ = some (.string (gt l i).Kind) ∧ w.cell? ⟨b, o + i * 3 + 1, none⟩ = some (v0) ∧ w.cell? ⟨b, o + i * 3 + 2, none⟩ = some (.bool (gt l i).Not)) ∧ Sl w (gt l i).Args v0 := by
  rw [← gt_get hi]
  exact h.atPat i hi
theorem Sl.guPat {w : World} {l : List PatD} {b o : Nat} {n c : Nat} (h : Sl w l (.slice (some ⟨b, o, none⟩) n c)) (i : Nat) (hi : i < l.length) :
    ∃ v0, b < w.heap.size ∧ okPat (gt l i) ∧ (w.cell? ⟨b, o + i * 3, none⟩ = some (.string (gt l i).Kind) ∧ w.cell? ⟨b, o + i * 3 + 1, none⟩ = some (v0) ∧ w.cell? ⟨b, o + i * 3 + 2, none⟩ = some (.bool (gt l i).Not)) ∧ Sl w (gt l i).Args v0 := by
  obtain ⟨b2, o2, v0, e, r⟩ := h.gtPat i hi
  cases e
  exact ⟨v0, r⟩
instance : Inhabited BindD := ⟨⟨⟨#[]⟩, default⟩⟩
theorem szn_Bind_V (x : BindD) : sznVal x.V ≤ sznBind x := by show _ ≤ _; unfold sznBind; omega
theorem szn_gtBind (l : List BindD) (k : Nat) (h : k < l.length) : sznBind (gt l k) ≤ sznSBind l := by rw [← gt_get h]; have := le_sum_get sznBind l k h; unfold sznSBind; omega
theorem Sl.gtBind {w : World} {l : List BindD} {a : Option Addr} {n c : Nat} (h : Sl w l (.slice a n c)) (i : Nat) (hi : i < l.length) :
    ∃ b o , a = some ⟨b, o, none⟩ ∧ b < w.heap.size ∧ okBind (gt l i) ∧ (w.cell? ⟨b, o + i * 4, none⟩ = some (.string (gt l i).Name) ∧ w.cell? ⟨b, o + i * 4 + 1, none⟩ = some (.int .i64 (gt l i).V.K) ∧ w.cell? ⟨b, o + i * 4 + 2, none⟩ = some (.int .i64 (gt l i).V.N) ∧ w.cell? ⟨b, o + i * 4 + 3, none⟩ = some (.string (gt l i).V.S)) := by
  rw [← gt_get hi]
  exact h.atBind i hi
theorem Sl.guBind {w : World} {l : List BindD} {b o : Nat} {n c : Nat} (h : Sl w l (.slice (some ⟨b, o, none⟩) n c)) (i : Nat) (hi : i < l.length) :
     b < w.heap.size ∧ okBind (gt l i) ∧ (w.cell? ⟨b, o + i * 4, none⟩ = some (.string (gt l i).Name) ∧ w.cell? ⟨b, o + i * 4 + 1, none⟩ = some (.int .i64 (gt l i).V.K) ∧ w.cell? ⟨b, o + i * 4 + 2, none⟩ = some (.int .i64 (gt l i).V.N) ∧ w.cell? ⟨b, o + i * 4 + 3, none⟩ = some (.string (gt l i).V.S)) := by
  obtain ⟨b2, o2, e, r⟩ := h.gtBind i hi
  cases e
  exact r
instance : Inhabited CondD := ⟨⟨0, default, default⟩⟩
theorem szn_Cond_L (x : CondD) : sznArg x.L ≤ sznCond x := by show _ ≤ _; unfold sznCond; omega
theorem szn_Cond_R (x : CondD) : sznArg x.R ≤ sznCond x := by show _ ≤ _; unfold sznCond; omega
theorem szn_gtCond (l : List CondD) (k : Nat) (h : k < l.length) : sznCond (gt l k) ≤ sznSCond l := by rw [← gt_get h]; have := le_sum_get sznCond l k h; unfold sznSCond; omega
theorem Sl.gtCond {w : World} {l : List CondD} {a : Option Addr} {n c : Nat} (h : Sl w l (.slice a n c)) (i : Nat) (hi : i < l.length) :
    ∃ b o , a = some ⟨b, o, none⟩ ∧ b < w.heap.size ∧ okCond (gt l i) ∧ (w.cell? ⟨b, o + i * 11, none⟩ = some (.int .i64 (gt l i).Op) ∧ w.cell? ⟨b, o + i * 11 + 1, none⟩ = some (.int .i64 (gt l i).L.K) ∧ w.cell? ⟨b, o + i * 11 + 2, none⟩ = some (.string (gt l i).L.S) ∧ w.cell? ⟨b, o + i * 11 + 3, none⟩ = some (.int .i64 (gt l i).L.V.K) ∧ w.cell? ⟨b, o + i * 11 + 4, none⟩ = some (.int .i64 (gt l i).L.V.N) ∧ w.cell? ⟨b, o + i * 11 + 5, none⟩ = some (.string (gt l i).L.V.S) ∧ w.cell? ⟨b, o + i * 11 + 6, none⟩ = some (.int .i64 (gt l i).R.K) ∧ w.cell? ⟨b, o + i * 11 + 7, none⟩ = some (.string (gt l i).R.S) ∧ w.cell? ⟨b, o + i * 11 + 8, none⟩ = some (.int .i64 (gt l i).R.V.K) ∧ w.cell? ⟨b, o + i * 11 + 9, none⟩ = some (.int .i64 (gt l i).R.V.N) ∧ w.cell? ⟨b, o + i * 11 + 10, none⟩ = some (.string (gt l i).R.V.S)) := by
  rw [← gt_get hi]
  exact h.atCond i hi
theorem Sl.guCond {w : World} {l : List CondD} {b o : Nat} {n c : Nat} (h : Sl w l (.slice (some ⟨b, o, none⟩) n c)) (i : Nat) (hi : i < l.length) :
     b < w.heap.size ∧ okCond (gt l i) ∧ (w.cell? ⟨b, o + i * 11, none⟩ = some (.int .i64 (gt l i).Op) ∧ w.cell? ⟨b, o + i * 11 + 1, none⟩ = some (.int .i64 (gt l i).L.K) ∧ w.cell? ⟨b, o + i * 11 + 2, none⟩ = some (.string (gt l i).L.S) ∧ w.cell? ⟨b, o + i * 11 + 3, none⟩ = some (.int .i64 (gt l i).L.V.K) ∧ w.cell? ⟨b, o + i * 11 + 4, none⟩ = some (.int .i64 (gt l i).L.V.N) ∧ w.cell? ⟨b, o + i * 11 + 5, none⟩ = some (.string (gt l i).L.V.S) ∧ w.cell? ⟨b, o + i * 11 + 6, none⟩ = some (.int .i64 (gt l i).R.K) ∧ w.cell? ⟨b, o + i * 11 + 7, none⟩ = some (.string (gt l i).R.S) ∧ w.cell? ⟨b, o + i * 11 + 8, none⟩ = some (.int .i64 (gt l i).R.V.K) ∧ w.cell? ⟨b, o + i * 11 + 9, none⟩ = some (.int .i64 (gt l i).R.V.N) ∧ w.cell? ⟨b, o + i * 11 + 10, none⟩ = some (.string (gt l i).R.V.S)) := by
  obtain ⟨b2, o2, e, r⟩ := h.gtCond i hi
  cases e
  exact r
instance : Inhabited ExprD := ⟨⟨⟨#[]⟩, default, default⟩⟩
theorem szn_Expr_L (x : ExprD) : sznArg x.L ≤ sznExpr x := by show _ ≤ _; unfold sznExpr; omega
theorem szn_Expr_R (x : ExprD) : sznArg x.R ≤ sznExpr x := by show _ ≤ _; unfold sznExpr; omega
theorem szn_gtExpr (l : List ExprD) (k : Nat) (h : k < l.length) : sznExpr (gt l k) ≤ sznSExpr l := by rw [← gt_get h]; have := le_sum_get sznExpr l k h; unfold sznSExpr; omega
theorem Sl.gtExpr {w : World} {l : List ExprD} {a : Option Addr} {n c : Nat} (h : Sl w l (.slice a n c)) (i : Nat) (hi : i < l.length) :
    ∃ b o , a = some ⟨b, o, none⟩ ∧ b < w.heap.size ∧ okExpr (gt l i) ∧ (w.cell? ⟨b, o + i * 11, none⟩ = some (.string (gt l i).Op) ∧ w.cell? ⟨b, o + i * 11 + 1, none⟩ = some (.int .i64 (gt l i).L.K) ∧ w.cell? ⟨b, o + i * 11 + 2, none⟩ = some (.string (gt l i).L.S) ∧ w.cell? ⟨b, o + i * 11 + 3, none⟩ = some (.int .i64 (gt l i).L.V.K) ∧ w.cell? ⟨b, o + i * 11 + 4, none⟩ = some (.int .i64 (gt l i).L.V.N) ∧ w.cell? ⟨b, o + i * 11 + 5, none⟩ = some (.string (gt l i).L.V.S) ∧ w.cell? ⟨b, o + i * 11 + 6, none⟩ = some (.int .i64 (gt l i).R.K) ∧ w.cell? ⟨b, o + i * 11 + 7, none⟩ = some (.string (gt l i).R.S) ∧ w.cell? ⟨b, o + i * 11 + 8, none⟩ = some (.int .i64 (gt l i).R.V.K) ∧ w.cell? ⟨b, o + i * 11 + 9, none⟩ = some (.int .i64 (gt l i).R.V.N) ∧ w.cell? ⟨b, o + i * 11 + 10, none⟩ = some (.string (gt l i).R.V.S)) := by
  rw [← gt_get hi]
  exact h.atExpr i hi
theorem Sl.guExpr {w : World} {l : List ExprD} {b o : Nat} {n c : Nat} (h : Sl w l (.slice (some ⟨b, o, none⟩) n c)) (i : Nat) (hi : i < l.length) :
     b < w.heap.size ∧ okExpr (gt l i) ∧ (w.cell? ⟨b, o + i * 11, none⟩ = some (.string (gt l i).Op) ∧ w.cell? ⟨b, o + i * 11 + 1, none⟩ = some (.int .i64 (gt l i).L.K) ∧ w.cell? ⟨b, o + i * 11 + 2, none⟩ = some (.string (gt l i).L.S) ∧ w.cell? ⟨b, o + i * 11 + 3, none⟩ = some (.int .i64 (gt l i).L.V.K) ∧ w.cell? ⟨b, o + i * 11 + 4, none⟩ = some (.int .i64 (gt l i).L.V.N) ∧ w.cell? ⟨b, o + i * 11 + 5, none⟩ = some (.string (gt l i).L.V.S) ∧ w.cell? ⟨b, o + i * 11 + 6, none⟩ = some (.int .i64 (gt l i).R.K) ∧ w.cell? ⟨b, o + i * 11 + 7, none⟩ = some (.string (gt l i).R.S) ∧ w.cell? ⟨b, o + i * 11 + 8, none⟩ = some (.int .i64 (gt l i).R.V.K) ∧ w.cell? ⟨b, o + i * 11 + 9, none⟩ = some (.int .i64 (gt l i).R.V.N) ∧ w.cell? ⟨b, o + i * 11 + 10, none⟩ = some (.string (gt l i).R.V.S)) := by
  obtain ⟨b2, o2, e, r⟩ := h.gtExpr i hi
  cases e
  exact r
instance : Inhabited ActD := ⟨⟨0, ⟨#[]⟩, [], 0, ⟨#[]⟩⟩⟩
theorem szn_Act_Args (x : ActD) : sznSExpr x.Args ≤ sznAct x := by show _ ≤ _; unfold sznAct; omega
theorem szn_gtAct (l : List ActD) (k : Nat) (h : k < l.length) : sznAct (gt l k) ≤ sznSAct l := by rw [← gt_get h]; have := le_sum_get sznAct l k h; unfold sznSAct; omega
theorem Sl.gtAct {w : World} {l : List ActD} {a : Option Addr} {n c : Nat} (h : Sl w l (.slice a n c)) (i : Nat) (hi : i < l.length) :
    ∃ b o v0, a = some ⟨b, o, none⟩ ∧ b < w.heap.size ∧ okAct (gt l i) ∧ (w.cell? ⟨b, o + i * 5, none⟩ = some (.int .i64 (gt l i).Kind) ∧ w.cell? ⟨b, o + i * 5 + 1, none⟩ = some (.string (gt l i).Name) ∧ w.cell? ⟨b, o + i * 5 + 2, none⟩ = some (v0) ∧ w.cell? ⟨b, o + i * 5 + 3, none⟩ = some (.int .i64 (gt l i).N) ∧ w.cell? ⟨b, o + i * 5 + 4, none⟩ = some (.string (gt l i).Undo)) ∧ Sl w (gt l i).Args v0 := by
  rw [← gt_get hi]
  exact h.atAct i hi
theorem Sl.guAct {w : World} {l : List ActD} {b o : Nat} {n c : Nat} (h : Sl w l (.slice (some ⟨b, o, none⟩) n c)) (i : Nat) (hi : i < l.length) :
    ∃ v0, b < w.heap.size ∧ okAct (gt l i) ∧ (w.cell? ⟨b, o + i * 5, none⟩ = some (.int .i64 (gt l i).Kind) ∧ w.cell? ⟨b, o + i * 5 + 1, none⟩ = some (.string (gt l i).Name) ∧ w.cell? ⟨b, o + i * 5 + 2, none⟩ = some (v0) ∧ w.cell? ⟨b, o + i * 5 + 3, none⟩ = some (.int .i64 (gt l i).N) ∧ w.cell? ⟨b, o + i * 5 + 4, none⟩ = some (.string (gt l i).Undo)) ∧ Sl w (gt l i).Args v0 := by
  obtain ⟨b2, o2, v0, e, r⟩ := h.gtAct i hi
  cases e
  exact ⟨v0, r⟩
instance : Inhabited RuleD := ⟨⟨⟨#[]⟩, 0, [], [], []⟩⟩
theorem szn_Rule_Pats (x : RuleD) : sznSPat x.Pats ≤ sznRule x := by show _ ≤ _; unfold sznRule; omega
theorem szn_Rule_Conds (x : RuleD) : sznSCond x.Conds ≤ sznRule x := by show _ ≤ _; unfold sznRule; omega
theorem szn_Rule_Acts (x : RuleD) : sznSAct x.Acts ≤ sznRule x := by show _ ≤ _; unfold sznRule; omega
theorem szn_gtRule (l : List RuleD) (k : Nat) (h : k < l.length) : sznRule (gt l k) ≤ sznSRule l := by rw [← gt_get h]; have := le_sum_get sznRule l k h; unfold sznSRule; omega
theorem Sl.gtRule {w : World} {l : List RuleD} {a : Option Addr} {n c : Nat} (h : Sl w l (.slice a n c)) (i : Nat) (hi : i < l.length) :
    ∃ b o v0 v1 v2, a = some ⟨b, o, none⟩ ∧ b < w.heap.size ∧ okRule (gt l i) ∧ (w.cell? ⟨b, o + i * 5, none⟩ = some (.string (gt l i).Name) ∧ w.cell? ⟨b, o + i * 5 + 1, none⟩ = some (.int .i64 (gt l i).Sal) ∧ w.cell? ⟨b, o + i * 5 + 2, none⟩ = some (v0) ∧ w.cell? ⟨b, o + i * 5 + 3, none⟩ = some (v1) ∧ w.cell? ⟨b, o + i * 5 + 4, none⟩ = some (v2)) ∧ Sl w (gt l i).Pats v0 ∧ Sl w (gt l i).Conds v1 ∧ Sl w (gt l i).Acts v2 := by
  rw [← gt_get hi]
  exact h.atRule i hi
theorem Sl.guRule {w : World} {l : List RuleD} {b o : Nat} {n c : Nat} (h : Sl w l (.slice (some ⟨b, o, none⟩) n c)) (i : Nat) (hi : i < l.length) :
    ∃ v0 v1 v2, b < w.heap.size ∧ okRule (gt l i) ∧ (w.cell? ⟨b, o + i * 5, none⟩ = some (.string (gt l i).Name) ∧ w.cell? ⟨b, o + i * 5 + 1, none⟩ = some (.int .i64 (gt l i).Sal) ∧ w.cell? ⟨b, o + i * 5 + 2, none⟩ = some (v0) ∧ w.cell? ⟨b, o + i * 5 + 3, none⟩ = some (v1) ∧ w.cell? ⟨b, o + i * 5 + 4, none⟩ = some (v2)) ∧ Sl w (gt l i).Pats v0 ∧ Sl w (gt l i).Conds v1 ∧ Sl w (gt l i).Acts v2 := by
  obtain ⟨b2, o2, v0, v1, v2, e, r⟩ := h.gtRule i hi
  cases e
  exact ⟨v0, v1, v2, r⟩
instance : Inhabited DefD := ⟨⟨⟨#[]⟩, []⟩⟩
theorem szn_Def_Rules (x : DefD) : sznSRule x.Rules ≤ sznDef x := by show _ ≤ _; unfold sznDef; omega
theorem szn_gtDef (l : List DefD) (k : Nat) (h : k < l.length) : sznDef (gt l k) ≤ sznSDef l := by rw [← gt_get h]; have := le_sum_get sznDef l k h; unfold sznSDef; omega
theorem Sl.gtDef {w : World} {l : List DefD} {a : Option Addr} {n c : Nat} (h : Sl w l (.slice a n c)) (i : Nat) (hi : i < l.length) :
    ∃ b o v0, a = some ⟨b, o, none⟩ ∧ b < w.heap.size ∧ okDef (gt l i) ∧ (w.cell? ⟨b, o + i * 2, none⟩ = some (.string (gt l i).Name) ∧ w.cell? ⟨b, o + i * 2 + 1, none⟩ = some (v0)) ∧ Sl w (gt l i).Rules v0 := by
  rw [← gt_get hi]
  exact h.atDef i hi
theorem Sl.guDef {w : World} {l : List DefD} {b o : Nat} {n c : Nat} (h : Sl w l (.slice (some ⟨b, o, none⟩) n c)) (i : Nat) (hi : i < l.length) :
    ∃ v0, b < w.heap.size ∧ okDef (gt l i) ∧ (w.cell? ⟨b, o + i * 2, none⟩ = some (.string (gt l i).Name) ∧ w.cell? ⟨b, o + i * 2 + 1, none⟩ = some (v0)) ∧ Sl w (gt l i).Rules v0 := by
  obtain ⟨b2, o2, v0, e, r⟩ := h.gtDef i hi
  cases e
  exact ⟨v0, r⟩
instance : Inhabited MatchD := ⟨⟨0, [], []⟩⟩
theorem szn_Match_Binds (x : MatchD) : sznSBind x.Binds ≤ sznMatch x := by show _ ≤ _; unfold sznMatch; omega
theorem szn_gtMatch (l : List MatchD) (k : Nat) (h : k < l.length) : sznMatch (gt l k) ≤ sznSMatch l := by rw [← gt_get h]; have := le_sum_get sznMatch l k h; unfold sznSMatch; omega
theorem Sl.gtMatch {w : World} {l : List MatchD} {a : Option Addr} {n c : Nat} (h : Sl w l (.slice a n c)) (i : Nat) (hi : i < l.length) :
    ∃ b o v0 v1, a = some ⟨b, o, none⟩ ∧ b < w.heap.size ∧ okMatch (gt l i) ∧ (w.cell? ⟨b, o + i * 3, none⟩ = some (.int .i64 (gt l i).Rule) ∧ w.cell? ⟨b, o + i * 3 + 1, none⟩ = some (v0) ∧ w.cell? ⟨b, o + i * 3 + 2, none⟩ = some (v1)) ∧ Sl w (gt l i).Ids v0 ∧ Sl w (gt l i).Binds v1 := by
  rw [← gt_get hi]
  exact h.atMatch i hi
theorem Sl.guMatch {w : World} {l : List MatchD} {b o : Nat} {n c : Nat} (h : Sl w l (.slice (some ⟨b, o, none⟩) n c)) (i : Nat) (hi : i < l.length) :
    ∃ v0 v1, b < w.heap.size ∧ okMatch (gt l i) ∧ (w.cell? ⟨b, o + i * 3, none⟩ = some (.int .i64 (gt l i).Rule) ∧ w.cell? ⟨b, o + i * 3 + 1, none⟩ = some (v0) ∧ w.cell? ⟨b, o + i * 3 + 2, none⟩ = some (v1)) ∧ Sl w (gt l i).Ids v0 ∧ Sl w (gt l i).Binds v1 := by
  obtain ⟨b2, o2, v0, v1, e, r⟩ := h.gtMatch i hi
  cases e
  exact ⟨v0, v1, r⟩
instance : Inhabited TimerD := ⟨⟨0, default⟩⟩
theorem szn_Timer_F (x : TimerD) : sznFact x.F ≤ sznTimer x := by show _ ≤ _; unfold sznTimer; omega
theorem szn_gtTimer (l : List TimerD) (k : Nat) (h : k < l.length) : sznTimer (gt l k) ≤ sznSTimer l := by rw [← gt_get h]; have := le_sum_get sznTimer l k h; unfold sznSTimer; omega
theorem Sl.gtTimer {w : World} {l : List TimerD} {a : Option Addr} {n c : Nat} (h : Sl w l (.slice a n c)) (i : Nat) (hi : i < l.length) :
    ∃ b o v0, a = some ⟨b, o, none⟩ ∧ b < w.heap.size ∧ okTimer (gt l i) ∧ (w.cell? ⟨b, o + i * 3, none⟩ = some (.int .i64 (gt l i).At) ∧ w.cell? ⟨b, o + i * 3 + 1, none⟩ = some (.string (gt l i).F.Kind) ∧ w.cell? ⟨b, o + i * 3 + 2, none⟩ = some (v0)) ∧ Sl w (gt l i).F.Fields v0 := by
  rw [← gt_get hi]
  exact h.atTimer i hi
theorem Sl.guTimer {w : World} {l : List TimerD} {b o : Nat} {n c : Nat} (h : Sl w l (.slice (some ⟨b, o, none⟩) n c)) (i : Nat) (hi : i < l.length) :
    ∃ v0, b < w.heap.size ∧ okTimer (gt l i) ∧ (w.cell? ⟨b, o + i * 3, none⟩ = some (.int .i64 (gt l i).At) ∧ w.cell? ⟨b, o + i * 3 + 1, none⟩ = some (.string (gt l i).F.Kind) ∧ w.cell? ⟨b, o + i * 3 + 2, none⟩ = some (v0)) ∧ Sl w (gt l i).F.Fields v0 := by
  obtain ⟨b2, o2, v0, e, r⟩ := h.gtTimer i hi
  cases e
  exact ⟨v0, r⟩
instance : Inhabited TaskD := ⟨⟨default, ⟨#[]⟩, 0, 0, 0, default⟩⟩
theorem szn_Task_F (x : TaskD) : sznFact x.F ≤ sznTask x := by show _ ≤ _; unfold sznTask; omega
theorem szn_Task_V (x : TaskD) : sznVal x.V ≤ sznTask x := by show _ ≤ _; unfold sznTask; omega
theorem szn_gtTask (l : List TaskD) (k : Nat) (h : k < l.length) : sznTask (gt l k) ≤ sznSTask l := by rw [← gt_get h]; have := le_sum_get sznTask l k h; unfold sznSTask; omega
theorem Sl.gtTask {w : World} {l : List TaskD} {a : Option Addr} {n c : Nat} (h : Sl w l (.slice a n c)) (i : Nat) (hi : i < l.length) :
    ∃ b o v0, a = some ⟨b, o, none⟩ ∧ b < w.heap.size ∧ okTask (gt l i) ∧ (w.cell? ⟨b, o + i * 9, none⟩ = some (.string (gt l i).F.Kind) ∧ w.cell? ⟨b, o + i * 9 + 1, none⟩ = some (v0) ∧ w.cell? ⟨b, o + i * 9 + 2, none⟩ = some (.string (gt l i).Undo) ∧ w.cell? ⟨b, o + i * 9 + 3, none⟩ = some (.int .i64 (gt l i).State) ∧ w.cell? ⟨b, o + i * 9 + 4, none⟩ = some (.int .i64 (gt l i).Tries) ∧ w.cell? ⟨b, o + i * 9 + 5, none⟩ = some (.int .i64 (gt l i).Due) ∧ w.cell? ⟨b, o + i * 9 + 6, none⟩ = some (.int .i64 (gt l i).V.K) ∧ w.cell? ⟨b, o + i * 9 + 7, none⟩ = some (.int .i64 (gt l i).V.N) ∧ w.cell? ⟨b, o + i * 9 + 8, none⟩ = some (.string (gt l i).V.S)) ∧ Sl w (gt l i).F.Fields v0 := by
  rw [← gt_get hi]
  exact h.atTask i hi
theorem Sl.guTask {w : World} {l : List TaskD} {b o : Nat} {n c : Nat} (h : Sl w l (.slice (some ⟨b, o, none⟩) n c)) (i : Nat) (hi : i < l.length) :
    ∃ v0, b < w.heap.size ∧ okTask (gt l i) ∧ (w.cell? ⟨b, o + i * 9, none⟩ = some (.string (gt l i).F.Kind) ∧ w.cell? ⟨b, o + i * 9 + 1, none⟩ = some (v0) ∧ w.cell? ⟨b, o + i * 9 + 2, none⟩ = some (.string (gt l i).Undo) ∧ w.cell? ⟨b, o + i * 9 + 3, none⟩ = some (.int .i64 (gt l i).State) ∧ w.cell? ⟨b, o + i * 9 + 4, none⟩ = some (.int .i64 (gt l i).Tries) ∧ w.cell? ⟨b, o + i * 9 + 5, none⟩ = some (.int .i64 (gt l i).Due) ∧ w.cell? ⟨b, o + i * 9 + 6, none⟩ = some (.int .i64 (gt l i).V.K) ∧ w.cell? ⟨b, o + i * 9 + 7, none⟩ = some (.int .i64 (gt l i).V.N) ∧ w.cell? ⟨b, o + i * 9 + 8, none⟩ = some (.string (gt l i).V.S)) ∧ Sl w (gt l i).F.Fields v0 := by
  obtain ⟨b2, o2, v0, e, r⟩ := h.gtTask i hi
  cases e
  exact ⟨v0, r⟩
instance : Inhabited UndoD := ⟨⟨⟨#[]⟩, default⟩⟩
theorem szn_Undo_F (x : UndoD) : sznFact x.F ≤ sznUndo x := by show _ ≤ _; unfold sznUndo; omega
theorem szn_gtUndo (l : List UndoD) (k : Nat) (h : k < l.length) : sznUndo (gt l k) ≤ sznSUndo l := by rw [← gt_get h]; have := le_sum_get sznUndo l k h; unfold sznSUndo; omega
theorem Sl.gtUndo {w : World} {l : List UndoD} {a : Option Addr} {n c : Nat} (h : Sl w l (.slice a n c)) (i : Nat) (hi : i < l.length) :
    ∃ b o v0, a = some ⟨b, o, none⟩ ∧ b < w.heap.size ∧ okUndo (gt l i) ∧ (w.cell? ⟨b, o + i * 3, none⟩ = some (.string (gt l i).Key) ∧ w.cell? ⟨b, o + i * 3 + 1, none⟩ = some (.string (gt l i).F.Kind) ∧ w.cell? ⟨b, o + i * 3 + 2, none⟩ = some (v0)) ∧ Sl w (gt l i).F.Fields v0 := by
  rw [← gt_get hi]
  exact h.atUndo i hi
theorem Sl.guUndo {w : World} {l : List UndoD} {b o : Nat} {n c : Nat} (h : Sl w l (.slice (some ⟨b, o, none⟩) n c)) (i : Nat) (hi : i < l.length) :
    ∃ v0, b < w.heap.size ∧ okUndo (gt l i) ∧ (w.cell? ⟨b, o + i * 3, none⟩ = some (.string (gt l i).Key) ∧ w.cell? ⟨b, o + i * 3 + 1, none⟩ = some (.string (gt l i).F.Kind) ∧ w.cell? ⟨b, o + i * 3 + 2, none⟩ = some (v0)) ∧ Sl w (gt l i).F.Fields v0 := by
  obtain ⟨b2, o2, v0, e, r⟩ := h.gtUndo i hi
  cases e
  exact ⟨v0, r⟩
instance : Inhabited InstD := ⟨⟨default, [], [], [], [], 0, 0⟩⟩
theorem szn_Inst_S (x : InstD) : sznStore x.S ≤ sznInst x := by show _ ≤ _; unfold sznInst; omega
theorem szn_Inst_Fired (x : InstD) : sznSMatch x.Fired ≤ sznInst x := by show _ ≤ _; unfold sznInst; omega
theorem szn_Inst_Tasks (x : InstD) : sznSTask x.Tasks ≤ sznInst x := by show _ ≤ _; unfold sznInst; omega
theorem szn_Inst_Timers (x : InstD) : sznSTimer x.Timers ≤ sznInst x := by show _ ≤ _; unfold sznInst; omega
theorem szn_Inst_Undos (x : InstD) : sznSUndo x.Undos ≤ sznInst x := by show _ ≤ _; unfold sznInst; omega
theorem szn_gtInst (l : List InstD) (k : Nat) (h : k < l.length) : sznInst (gt l k) ≤ sznSInst l := by rw [← gt_get h]; have := le_sum_get sznInst l k h; unfold sznSInst; omega
theorem Sl.gtInst {w : World} {l : List InstD} {a : Option Addr} {n c : Nat} (h : Sl w l (.slice a n c)) (i : Nat) (hi : i < l.length) :
    ∃ b o v0 v1 v2 v3 v4, a = some ⟨b, o, none⟩ ∧ b < w.heap.size ∧ okInst (gt l i) ∧ (w.cell? ⟨b, o + i * 8, none⟩ = some (v0) ∧ w.cell? ⟨b, o + i * 8 + 1, none⟩ = some (.int .i64 (gt l i).S.Next) ∧ w.cell? ⟨b, o + i * 8 + 2, none⟩ = some (v1) ∧ w.cell? ⟨b, o + i * 8 + 3, none⟩ = some (v2) ∧ w.cell? ⟨b, o + i * 8 + 4, none⟩ = some (v3) ∧ w.cell? ⟨b, o + i * 8 + 5, none⟩ = some (v4) ∧ w.cell? ⟨b, o + i * 8 + 6, none⟩ = some (.int .i64 (gt l i).State) ∧ w.cell? ⟨b, o + i * 8 + 7, none⟩ = some (.int .i64 (gt l i).Now)) ∧ Sl w (gt l i).S.Items v0 ∧ Sl w (gt l i).Fired v1 ∧ Sl w (gt l i).Tasks v2 ∧ Sl w (gt l i).Timers v3 ∧ Sl w (gt l i).Undos v4 := by
  rw [← gt_get hi]
  exact h.atInst i hi
theorem Sl.guInst {w : World} {l : List InstD} {b o : Nat} {n c : Nat} (h : Sl w l (.slice (some ⟨b, o, none⟩) n c)) (i : Nat) (hi : i < l.length) :
    ∃ v0 v1 v2 v3 v4, b < w.heap.size ∧ okInst (gt l i) ∧ (w.cell? ⟨b, o + i * 8, none⟩ = some (v0) ∧ w.cell? ⟨b, o + i * 8 + 1, none⟩ = some (.int .i64 (gt l i).S.Next) ∧ w.cell? ⟨b, o + i * 8 + 2, none⟩ = some (v1) ∧ w.cell? ⟨b, o + i * 8 + 3, none⟩ = some (v2) ∧ w.cell? ⟨b, o + i * 8 + 4, none⟩ = some (v3) ∧ w.cell? ⟨b, o + i * 8 + 5, none⟩ = some (v4) ∧ w.cell? ⟨b, o + i * 8 + 6, none⟩ = some (.int .i64 (gt l i).State) ∧ w.cell? ⟨b, o + i * 8 + 7, none⟩ = some (.int .i64 (gt l i).Now)) ∧ Sl w (gt l i).S.Items v0 ∧ Sl w (gt l i).Fired v1 ∧ Sl w (gt l i).Tasks v2 ∧ Sl w (gt l i).Timers v3 ∧ Sl w (gt l i).Undos v4 := by
  obtain ⟨b2, o2, v0, v1, v2, v3, v4, e, r⟩ := h.gtInst i hi
  cases e
  exact ⟨v0, v1, v2, v3, v4, r⟩
instance : Inhabited WorkD := ⟨⟨⟨#[]⟩, ⟨#[]⟩, default⟩⟩
theorem szn_Work_X (x : WorkD) : sznInst x.X ≤ sznWork x := by show _ ≤ _; unfold sznWork; omega
theorem szn_gtWork (l : List WorkD) (k : Nat) (h : k < l.length) : sznWork (gt l k) ≤ sznSWork l := by rw [← gt_get h]; have := le_sum_get sznWork l k h; unfold sznSWork; omega
theorem Sl.gtWork {w : World} {l : List WorkD} {a : Option Addr} {n c : Nat} (h : Sl w l (.slice a n c)) (i : Nat) (hi : i < l.length) :
    ∃ b o v0 v1 v2 v3 v4, a = some ⟨b, o, none⟩ ∧ b < w.heap.size ∧ okWork (gt l i) ∧ (w.cell? ⟨b, o + i * 10, none⟩ = some (.string (gt l i).Name) ∧ w.cell? ⟨b, o + i * 10 + 1, none⟩ = some (.string (gt l i).Def) ∧ w.cell? ⟨b, o + i * 10 + 2, none⟩ = some (v0) ∧ w.cell? ⟨b, o + i * 10 + 3, none⟩ = some (.int .i64 (gt l i).X.S.Next) ∧ w.cell? ⟨b, o + i * 10 + 4, none⟩ = some (v1) ∧ w.cell? ⟨b, o + i * 10 + 5, none⟩ = some (v2) ∧ w.cell? ⟨b, o + i * 10 + 6, none⟩ = some (v3) ∧ w.cell? ⟨b, o + i * 10 + 7, none⟩ = some (v4) ∧ w.cell? ⟨b, o + i * 10 + 8, none⟩ = some (.int .i64 (gt l i).X.State) ∧ w.cell? ⟨b, o + i * 10 + 9, none⟩ = some (.int .i64 (gt l i).X.Now)) ∧ Sl w (gt l i).X.S.Items v0 ∧ Sl w (gt l i).X.Fired v1 ∧ Sl w (gt l i).X.Tasks v2 ∧ Sl w (gt l i).X.Timers v3 ∧ Sl w (gt l i).X.Undos v4 := by
  rw [← gt_get hi]
  exact h.atWork i hi
theorem Sl.guWork {w : World} {l : List WorkD} {b o : Nat} {n c : Nat} (h : Sl w l (.slice (some ⟨b, o, none⟩) n c)) (i : Nat) (hi : i < l.length) :
    ∃ v0 v1 v2 v3 v4, b < w.heap.size ∧ okWork (gt l i) ∧ (w.cell? ⟨b, o + i * 10, none⟩ = some (.string (gt l i).Name) ∧ w.cell? ⟨b, o + i * 10 + 1, none⟩ = some (.string (gt l i).Def) ∧ w.cell? ⟨b, o + i * 10 + 2, none⟩ = some (v0) ∧ w.cell? ⟨b, o + i * 10 + 3, none⟩ = some (.int .i64 (gt l i).X.S.Next) ∧ w.cell? ⟨b, o + i * 10 + 4, none⟩ = some (v1) ∧ w.cell? ⟨b, o + i * 10 + 5, none⟩ = some (v2) ∧ w.cell? ⟨b, o + i * 10 + 6, none⟩ = some (v3) ∧ w.cell? ⟨b, o + i * 10 + 7, none⟩ = some (v4) ∧ w.cell? ⟨b, o + i * 10 + 8, none⟩ = some (.int .i64 (gt l i).X.State) ∧ w.cell? ⟨b, o + i * 10 + 9, none⟩ = some (.int .i64 (gt l i).X.Now)) ∧ Sl w (gt l i).X.S.Items v0 ∧ Sl w (gt l i).X.Fired v1 ∧ Sl w (gt l i).X.Tasks v2 ∧ Sl w (gt l i).X.Timers v3 ∧ Sl w (gt l i).X.Undos v4 := by
  obtain ⟨b2, o2, v0, v1, v2, v3, v4, e, r⟩ := h.gtWork i hi
  cases e
  exact ⟨v0, v1, v2, v3, v4, r⟩
instance : Inhabited BookD := ⟨⟨[], [], 0, 0⟩⟩
theorem szn_Book_Defs (x : BookD) : sznSDef x.Defs ≤ sznBook x := by show _ ≤ _; unfold sznBook; omega
theorem szn_Book_Works (x : BookD) : sznSWork x.Works ≤ sznBook x := by show _ ≤ _; unfold sznBook; omega
theorem szn_gtBook (l : List BookD) (k : Nat) (h : k < l.length) : sznBook (gt l k) ≤ sznSBook l := by rw [← gt_get h]; have := le_sum_get sznBook l k h; unfold sznSBook; omega
theorem Sl.gtBook {w : World} {l : List BookD} {a : Option Addr} {n c : Nat} (h : Sl w l (.slice a n c)) (i : Nat) (hi : i < l.length) :
    ∃ b o v0 v1, a = some ⟨b, o, none⟩ ∧ b < w.heap.size ∧ okBook (gt l i) ∧ (w.cell? ⟨b, o + i * 4, none⟩ = some (v0) ∧ w.cell? ⟨b, o + i * 4 + 1, none⟩ = some (v1) ∧ w.cell? ⟨b, o + i * 4 + 2, none⟩ = some (.int .i64 (gt l i).Now) ∧ w.cell? ⟨b, o + i * 4 + 3, none⟩ = some (.int .i64 (gt l i).Ring)) ∧ Sl w (gt l i).Defs v0 ∧ Sl w (gt l i).Works v1 := by
  rw [← gt_get hi]
  exact h.atBook i hi
theorem Sl.guBook {w : World} {l : List BookD} {b o : Nat} {n c : Nat} (h : Sl w l (.slice (some ⟨b, o, none⟩) n c)) (i : Nat) (hi : i < l.length) :
    ∃ v0 v1, b < w.heap.size ∧ okBook (gt l i) ∧ (w.cell? ⟨b, o + i * 4, none⟩ = some (v0) ∧ w.cell? ⟨b, o + i * 4 + 1, none⟩ = some (v1) ∧ w.cell? ⟨b, o + i * 4 + 2, none⟩ = some (.int .i64 (gt l i).Now) ∧ w.cell? ⟨b, o + i * 4 + 3, none⟩ = some (.int .i64 (gt l i).Ring)) ∧ Sl w (gt l i).Defs v0 ∧ Sl w (gt l i).Works v1 := by
  obtain ⟨b2, o2, v0, v1, e, r⟩ := h.gtBook i hi
  cases e
  exact ⟨v0, v1, r⟩
set_option maxRecDepth 20000 in
theorem iinRange_w (a0 a1 a2 : Int) (w : World) : Calls Tryz.prog 77 #[.int .i64 a0, .int .i64 a1, .int .i64 a2] w (RetB (inR a0 a1 a2) w) := by
  unfold inR
  by_cases h1 : a1 ≤ a0
  · by_cases h2 : a0 ≤ a2
    · rw [decide_eq_true h1, decide_eq_true h2]
      go_enter Tryz.func77, Tryz.ntmps77
      go_wp2
      go_ret
      exact ⟨rfl, by simp⟩
    · rw [decide_eq_true h1, decide_eq_false h2]
      go_enter Tryz.func77, Tryz.ntmps77
      go_wp2
      go_ret
      exact ⟨rfl, by simp⟩
  · rw [decide_eq_false h1]
    go_enter Tryz.func77, Tryz.ntmps77
    go_wp2
    go_ret
    exact ⟨rfl, by simp⟩
set_option maxRecDepth 20000 in
theorem sl1In_w (a0 a1 a2 : Int) (w : World) : Calls Tryz.prog 88 #[.int .i64 a0, .int .i64 a1, .int .i64 a2] w (RetB (inR a0 a1 a2) w) := by
  unfold inR
  by_cases h1 : a1 ≤ a0
  · by_cases h2 : a0 ≤ a2
    · rw [decide_eq_true h1, decide_eq_true h2]
      go_enter Tryz.func88, Tryz.ntmps88
      go_wp2
      go_ret
      exact ⟨rfl, by simp⟩
    · rw [decide_eq_true h1, decide_eq_false h2]
      go_enter Tryz.func88, Tryz.ntmps88
      go_wp2
      go_ret
      exact ⟨rfl, by simp⟩
  · rw [decide_eq_false h1]
    go_enter Tryz.func88, Tryz.ntmps88
    go_wp2
    go_ret
    exact ⟨rfl, by simp⟩
end Go.Proofs.YthnilnggpbploaaGreat
