/- What data a slice of Go's holds: a class of types whose values lie in cells; reading, owning; no program in sight. -/
import Derived.WalkKit
import Derived.Lib.Hide
namespace Go.Proofs.YthnilnggpbploaaGreat
open Go.RowKit

/-- In the range of Go's int. -/
def In64 (n : Int) : Prop := -9223372036854775808 ≤ n ∧ n ≤ 9223372036854775807

class Cel (α : Type) where
  k : Nat
  kpos : 0 < k
  rd : Nat → World → List Value → α → Prop
  own : World → List Value → α → List Nat → Prop
  rd_len : ∀ {B w vs x}, rd B w vs x → vs.length = k
  rd_one : ∀ {B w vs x}, rd B w vs x → ∀ v ∈ vs, v.oneCell' = true
  own_rd : ∀ {B w vs x fp}, own w vs x fp → (∀ b ∈ fp, b < B) → rd B w vs x
  own_lt : ∀ {w vs x fp}, own w vs x fp → ∀ b ∈ fp, b < w.heap.size
  rd_below : ∀ {B w w' vs x}, rd B w vs x → Below B w w' → rd B w' vs x
  rd_mono : ∀ {B B' w vs x}, rd B w vs x → B ≤ B' → rd B' w vs x
  own_keep : ∀ {w w' vs x fp}, own w vs x fp → (∀ b ∈ fp, w'.heap[b]? = w.heap[b]?) → own w' vs x fp

open Cel (rd own rd_len rd_one own_rd own_lt rd_below rd_mono own_keep)

/-- A type whose values hold no reference. -/
class Flat (α : Type) extends Cel α where
  flat : ∀ {B w vs x}, rd B w vs x → own w vs x []
  flat_fp : ∀ {w vs x fp}, own w vs x fp → fp = []

instance : Flat Int where
  k := 1
  kpos := by decide
  rd _ _ vs n := vs = [.int .i64 n] ∧ In64 n
  own _ vs n fp := vs = [.int .i64 n] ∧ In64 n ∧ fp = []
  rd_len h := by rw [h.1]; rfl
  rd_one h := by rw [h.1]; intro v hv; simp at hv; subst hv; rfl
  own_rd h _ := ⟨h.1, h.2.1⟩
  own_lt h b hb := by rw [h.2.2] at hb; cases hb
  rd_below h _ := h
  rd_mono h _ := h
  own_keep h _ := h
  flat h := ⟨h.1, h.2, rfl⟩
  flat_fp h := h.2.2

instance : Flat UInt8 where
  k := 1
  kpos := by decide
  rd _ _ vs n := vs = [.int .u8 (n.toNat : Int)]
  own _ vs n fp := vs = [.int .u8 (n.toNat : Int)] ∧ fp = []
  rd_len h := by rw [h]; rfl
  rd_one h := by rw [h]; intro v hv; simp at hv; subst hv; rfl
  own_rd h _ := h.1
  own_lt h b hb := by rw [h.2] at hb; cases hb
  rd_below h _ := h
  rd_mono h _ := h
  own_keep h _ := h
  flat h := ⟨h, rfl⟩
  flat_fp h := h.2

instance : Flat Bool where
  k := 1
  kpos := by decide
  rd _ _ vs b := vs = [.bool b]
  own _ vs b fp := vs = [.bool b] ∧ fp = []
  rd_len h := by rw [h]; rfl
  rd_one h := by rw [h]; intro v hv; simp at hv; subst hv; rfl
  own_rd h _ := h.1
  own_lt h b hb := by rw [h.2] at hb; cases hb
  rd_below h _ := h
  rd_mono h _ := h
  own_keep h _ := h
  flat h := ⟨h, rfl⟩
  flat_fp h := h.2

instance : Flat ByteArray where
  k := 1
  kpos := by decide
  rd _ _ vs s := vs = [.string s] ∧ s.size ≤ maxLen
  own _ vs s fp := vs = [.string s] ∧ s.size ≤ maxLen ∧ fp = []
  rd_len h := by rw [h.1]; rfl
  rd_one h := by rw [h.1]; intro v hv; simp at hv; subst hv; rfl
  own_rd h _ := ⟨h.1, h.2.1⟩
  own_lt h b hb := by rw [h.2.2] at hb; cases hb
  rd_below h _ := h
  rd_mono h _ := h
  own_keep h _ := h
  flat h := ⟨h.1, h.2, rfl⟩
  flat_fp h := h.2.2

instance Cel.prod {α β : Type} [Cel α] [Cel β] : Cel (α × β) where
  k := Cel.k α + Cel.k β
  kpos := by have := Cel.kpos (α := α); omega
  rd B w vs x := ∃ v1 v2, vs = v1 ++ v2 ∧ rd B w v1 x.1 ∧ rd B w v2 x.2
  own w vs x fp := ∃ v1 v2 f1 f2, vs = v1 ++ v2 ∧ fp = f1 ++ f2 ∧ own w v1 x.1 f1 ∧ own w v2 x.2 f2
  rd_len := by rintro B w vs x ⟨v1, v2, rfl, h1, h2⟩; rw [List.length_append, rd_len h1, rd_len h2]
  rd_one := by
    rintro B w vs x ⟨v1, v2, rfl, h1, h2⟩ v hv
    rcases List.mem_append.1 hv with h | h
    · exact rd_one h1 v h
    · exact rd_one h2 v h
  own_rd := by
    rintro B w vs x fp ⟨v1, v2, f1, f2, rfl, rfl, h1, h2⟩ hb
    exact ⟨v1, v2, rfl, own_rd h1 fun b h => hb b (by simp [h]), own_rd h2 fun b h => hb b (by simp [h])⟩
  own_lt := by
    rintro w vs x fp ⟨v1, v2, f1, f2, rfl, rfl, h1, h2⟩ b hb
    rcases List.mem_append.1 hb with h | h
    · exact own_lt h1 b h
    · exact own_lt h2 b h
  rd_below := by rintro B w w' vs x ⟨v1, v2, rfl, h1, h2⟩ hb; exact ⟨v1, v2, rfl, rd_below h1 hb, rd_below h2 hb⟩
  rd_mono := by rintro B B' w vs x ⟨v1, v2, rfl, h1, h2⟩ hb; exact ⟨v1, v2, rfl, rd_mono h1 hb, rd_mono h2 hb⟩
  own_keep := by
    rintro w w' vs x fp ⟨v1, v2, f1, f2, rfl, rfl, h1, h2⟩ hk
    exact ⟨v1, v2, f1, f2, rfl, rfl, own_keep h1 fun b h => hk b (by simp [h]), own_keep h2 fun b h => hk b (by simp [h])⟩

instance Flat.prod {α β : Type} [Flat α] [Flat β] : Flat (α × β) where
  toCel := Cel.prod
  flat := by rintro B w vs x ⟨v1, v2, rfl, h1, h2⟩; exact ⟨v1, v2, [], [], rfl, rfl, Flat.flat h1, Flat.flat h2⟩
  flat_fp := by rintro w vs x fp ⟨v1, v2, f1, f2, rfl, rfl, h1, h2⟩; rw [Flat.flat_fp h1, Flat.flat_fp h2]; rfl

/-- A structure that is as a tuple is. -/
@[reducible] def Cel.iso {α β : Type} [Cel α] (f : β → α) : Cel β where
  k := Cel.k α
  kpos := Cel.kpos
  rd B w vs x := rd B w vs (f x)
  own w vs x fp := own w vs (f x) fp
  rd_len h := rd_len h
  rd_one h := rd_one h
  own_rd h := own_rd h
  own_lt h := own_lt h
  rd_below h := rd_below h
  rd_mono h := rd_mono h
  own_keep h := own_keep h

@[reducible] def Flat.iso {α β : Type} [Flat α] (f : β → α) : Flat β where
  toCel := Cel.iso f
  flat h := Flat.flat (α := α) h
  flat_fp h := Flat.flat_fp (α := α) h

/-- The elements of a row, element by element: cells, values. -/
def RdL {α : Type} [Cel α] (B : Nat) (w : World) (b o : Nat) (l : List α) : Prop :=
  ∀ i x, l[i]? = some x → ∃ vs, rd B w vs x ∧ ∀ j, j < Cel.k α → w.cell? ⟨b, o + i * Cel.k α + j, none⟩ = vs[j]?

/-- A slice that reads as a list; what it is reached by lies below B. -/
def RdS {α : Type} [Cel α] (B : Nat) (w : World) (l : List α) (v : Value) : Prop :=
  ∃ a c, v = .slice a l.length c ∧ l.length ≤ c ∧ c ≤ maxLen ∧ (a = none → c = 0) ∧
    (l = [] ∨ ∃ b o, a = some ⟨b, o, none⟩ ∧ b < B ∧ RdL B w b o l)

/-- The elements of an owned row. -/
def OwnL {α : Type} [Cel α] (w : World) : List (List Value) → List α → List (List Nat) → Prop
  | [], [], [] => True
  | vs :: vss, x :: xs, f :: fs => own w vs x f ∧ OwnL w vss xs fs
  | _, _, _ => False

/-- A slice of its own block: nobody else has it. -/
def OwnS {α : Type} [Cel α] (w : World) (l : List α) (v : Value) (fp : List Nat) : Prop :=
  (v = .slice none 0 0 ∧ l = [] ∧ fp = []) ∨
  ∃ g c cur e vss fps, v = .slice (some ⟨g, 0, none⟩) l.length c ∧ w.heap[g]? = some (.cells cur e (0, 0)) ∧ l.length ≤ c ∧ c ≤ maxLen ∧
    c * Cel.k α ≤ cur.size ∧ fp = g :: fps.flatten ∧ OwnL w vss l fps ∧ cur.toList.take (l.length * Cel.k α) = vss.flatten

/-- Blocks that are new since B, each once. -/
def Fr (B : Nat) (fp : List Nat) : Prop := fp.Nodup ∧ ∀ b ∈ fp, B ≤ b

section
variable {α : Type} [Cel α] {w w' : World} {B B' : Nat} {l : List α} {v : Value}

theorem Fr.nil (B : Nat) : Fr B [] := ⟨List.nodup_nil, by simp⟩
theorem Fr.mono {fp : List Nat} (h : Fr B fp) (hb : B' ≤ B) : Fr B' fp := ⟨h.1, fun b hf => Nat.le_trans hb (h.2 b hf)⟩
theorem Fr.app {f1 f2 : List Nat} (h1 : Fr B f1) (h2 : Fr B' f2) (hlt : ∀ b ∈ f1, b < B') (hb : B ≤ B') : Fr B (f1 ++ f2) := by
  refine ⟨List.nodup_append.2 ⟨h1.1, h2.1, ?_⟩, ?_⟩
  · intro a ha b hb' e; subst e; have := hlt a ha; have := h2.2 a hb'; omega
  · intro b hm
    rcases List.mem_append.1 hm with h | h
    · exact h1.2 b h
    · exact Nat.le_trans hb (h2.2 b h)

theorem RdL.below {b o : Nat} (h : RdL B w b o l) (hlt : b < B) (hb : Below B w w') : RdL B w' b o l := by
  intro i x hx
  obtain ⟨vs, h1, h2⟩ := h i x hx
  exact ⟨vs, rd_below h1 hb, fun j hj => by rw [← h2 j hj]; exact hb.cell (p := ⟨b, _, none⟩) hlt⟩

theorem RdL.mono {b o : Nat} (h : RdL B w b o l) (hB : B ≤ B') : RdL B' w b o l := by
  intro i x hx
  obtain ⟨vs, h1, h2⟩ := h i x hx
  exact ⟨vs, rd_mono h1 hB, h2⟩

theorem RdS.below (h : RdS B w l v) (hb : Below B w w') : RdS B w' l v := by
  obtain ⟨a, c, rfl, h1, h2, h0, h3⟩ := h
  refine ⟨a, c, rfl, h1, h2, h0, ?_⟩
  rcases h3 with h3 | ⟨b, o, ha, hlt, h4⟩
  · exact .inl h3
  · exact .inr ⟨b, o, ha, hlt, h4.below hlt hb⟩

theorem RdS.mono (h : RdS B w l v) (hB : B ≤ B') : RdS B' w l v := by
  obtain ⟨a, c, rfl, h1, h2, h0, h3⟩ := h
  refine ⟨a, c, rfl, h1, h2, h0, ?_⟩
  rcases h3 with h3 | ⟨b, o, ha, hlt, h4⟩
  · exact .inl h3
  · exact .inr ⟨b, o, ha, by omega, h4.mono hB⟩

/-- For the walk: what a slice looks like, and the bounds of its length. -/
theorem RdS.open (h : RdS B w l v) : ∃ a c, v = .slice a l.length c ∧ (l.length : Int) ≤ 9223372036854775807 ∧ (c : Int) ≤ 9223372036854775807 ∧ l.length ≤ c ∧ (a = none → c = 0) := by
  obtain ⟨a, c, rfl, h1, h2, h0, _⟩ := h
  unfold maxLen at h2
  exact ⟨a, c, rfl, by omega, by omega, h1, h0⟩

theorem RdS.len (h : RdS B w l v) : (l.length : Int) ≤ 9223372036854775807 := by
  obtain ⟨a, c, _, h1, _⟩ := h.open; exact h1

/-- The i-th element, where there is one. -/
theorem RdS.at {a : Option Addr} {n c : Nat} (h : RdS B w l (.slice a n c)) (i : Nat) (hi : i < l.length) :
    ∃ b o vs, a = some ⟨b, o, none⟩ ∧ b < B ∧ rd B w vs l[i] ∧ ∀ j, j < Cel.k α → w.cell? ⟨b, o + i * Cel.k α + j, none⟩ = vs[j]? := by
  obtain ⟨a', c', e, _, _, _, h3⟩ := h
  cases e
  rcases h3 with rfl | ⟨b, o, ha, hlt, h4⟩
  · simp at hi
  · obtain ⟨vs, h5, h6⟩ := h4 i l[i] (List.getElem?_eq_getElem hi)
    exact ⟨b, o, vs, ha, hlt, h5, h6⟩

theorem RdS.nil (B : Nat) (w : World) : RdS (α := α) B w [] (.slice none 0 0) :=
  ⟨none, 0, rfl, Nat.le_refl _, by simp [maxLen], fun _ => rfl, .inl rfl⟩

theorem OwnL.len {vss : List (List Value)} {fps : List (List Nat)} : ∀ {l : List α}, OwnL w vss l fps → vss.length = l.length ∧ fps.length = l.length := by
  induction vss generalizing fps with
  | nil => intro l h; cases l <;> cases fps <;> simp_all [OwnL]
  | cons a vss ih =>
    intro l h
    cases l with
    | nil => cases fps <;> simp_all [OwnL]
    | cons x xs =>
      cases fps with
      | nil => simp_all [OwnL]
      | cons f fs => have := ih h.2; simp [this]

theorem OwnL.keep {vss : List (List Value)} {fps : List (List Nat)} : ∀ {l : List α}, OwnL w vss l fps → (∀ b ∈ fps.flatten, w'.heap[b]? = w.heap[b]?) → OwnL w' vss l fps := by
  induction vss generalizing fps with
  | nil => intro l h _; cases l <;> cases fps <;> simp_all [OwnL]
  | cons a vss ih =>
    intro l h hk
    cases l with
    | nil => cases fps <;> simp_all [OwnL]
    | cons x xs =>
      cases fps with
      | nil => simp_all [OwnL]
      | cons f fs => exact ⟨own_keep h.1 fun b hb => hk b (by simp [hb]), ih h.2 fun b hb => hk b (by rw [List.flatten_cons]; exact List.mem_append_right _ hb)⟩

theorem OwnL.lt {vss : List (List Value)} {fps : List (List Nat)} : ∀ {l : List α}, OwnL w vss l fps → ∀ b ∈ fps.flatten, b < w.heap.size := by
  induction vss generalizing fps with
  | nil => intro l h; cases l <;> cases fps <;> simp_all [OwnL]
  | cons a vss ih =>
    intro l h b hb
    cases l with
    | nil => cases fps <;> simp_all [OwnL]
    | cons x xs =>
      cases fps with
      | nil => simp_all
      | cons f fs =>
        rw [List.flatten_cons] at hb
        rcases List.mem_append.1 hb with hb | hb
        · exact own_lt h.1 b hb
        · exact ih h.2 b hb

theorem OwnL.app {v1 v2 : List (List Value)} {f1 f2 : List (List Nat)} {l2 : List α} : ∀ {l1 : List α}, OwnL w v1 l1 f1 → OwnL w v2 l2 f2 → OwnL w (v1 ++ v2) (l1 ++ l2) (f1 ++ f2) := by
  induction v1 generalizing f1 with
  | nil => intro l h h2; cases l <;> cases f1 <;> simp_all [OwnL]
  | cons a vss ih =>
    intro l h h2
    cases l with
    | nil => cases f1 <;> simp_all [OwnL]
    | cons x xs =>
      cases f1 with
      | nil => simp_all [OwnL]
      | cons f fs => exact ⟨h.1, ih h.2 h2⟩

theorem OwnL.at {vss : List (List Value)} {fps : List (List Nat)} : ∀ {l : List α} (_ : OwnL w vss l fps) (i : Nat) (x : α), l[i]? = some x →
    ∃ vs f, vss[i]? = some vs ∧ fps[i]? = some f ∧ own w vs x f := by
  induction vss generalizing fps with
  | nil => intro l h; cases l <;> cases fps <;> simp_all [OwnL]
  | cons a vss ih =>
    intro l h i y hy
    cases l with
    | nil => cases fps <;> simp_all
    | cons x xs =>
      cases fps with
      | nil => simp_all [OwnL]
      | cons f fs =>
        cases i with
        | zero => simp at hy; subst hy; exact ⟨a, f, rfl, rfl, h.1⟩
        | succ i => simpa using ih h.2 i y (by simpa using hy)

theorem OwnL.set {vss : List (List Value)} {fps : List (List Nat)} {vs : List Value} {x : α} {f : List Nat} (hx : own w vs x f) : ∀ {l : List α} (_ : OwnL w vss l fps) (i : Nat),
    OwnL w (vss.set i vs) (l.set i x) (fps.set i f) := by
  induction vss generalizing fps with
  | nil => intro l h i; cases l <;> cases fps <;> simp_all [OwnL]
  | cons a vss ih =>
    intro l h i
    cases l with
    | nil => cases fps <;> simp_all [OwnL]
    | cons y xs =>
      cases fps with
      | nil => simp_all [OwnL]
      | cons g fs =>
        cases i with
        | zero => exact ⟨hx, h.2⟩
        | succ i => exact ⟨h.1, ih h.2 i⟩

theorem OwnL.flat_len {vss : List (List Value)} {fps : List (List Nat)} : ∀ {l : List α}, OwnL w vss l fps → ∀ vs ∈ vss, vs.length = Cel.k α := by
  induction vss generalizing fps with
  | nil => simp
  | cons a vss ih =>
    intro l h vs hvs
    cases l with
    | nil => cases fps <;> simp_all [OwnL]
    | cons y xs =>
      cases fps with
      | nil => simp_all [OwnL]
      | cons g fs =>
        rcases List.mem_cons.1 hvs with rfl | hm
        · exact rd_len (own_rd (B := w.heap.size) h.1 (own_lt h.1))
        · exact ih h.2 vs hm

/-- In a row of equal pieces the i-th piece's j-th cell. -/
theorem flatten_at {β : Type} {k : Nat} : ∀ (vss : List (List β)) (_ : ∀ vs ∈ vss, vs.length = k) (i j : Nat) (vs : List β), vss[i]? = some vs → j < k → vss.flatten[i * k + j]? = vs[j]? := by
  intro vss
  induction vss with
  | nil => intro _ i j vs h; simp at h
  | cons a vss ih =>
    intro hl i j vs h hj
    have ha : a.length = k := hl a (by simp)
    cases i with
    | zero => simp at h; subst h; rw [List.flatten_cons, Nat.zero_mul, Nat.zero_add, List.getElem?_append_left (by omega)]
    | succ i =>
      rw [List.flatten_cons, List.getElem?_append_right (by rw [ha, Nat.succ_mul]; omega), ha]
      have := ih (fun vs hv => hl vs (by simp [hv])) i j vs (by simpa using h) hj
      rw [← this]; congr 1; rw [Nat.succ_mul]; omega

theorem OwnS.rd {fp : List Nat} (h : OwnS w l v fp) (hB : ∀ b ∈ fp, b < B) : RdS B w l v := by
  rcases h with ⟨rfl, rfl, _⟩ | ⟨g, c, cur, e, vss, fps, rfl, hg, hlc, hcm, hsz, rfl, hl, ht⟩
  · exact RdS.nil B w
  · refine ⟨_, c, rfl, hlc, hcm, by simp, .inr ⟨g, 0, rfl, hB g (by simp), ?_⟩⟩
    intro i x hx
    obtain ⟨vs, f, h1, h2, h3⟩ := hl.at i x hx
    refine ⟨vs, own_rd h3 (fun b hb => hB b (List.mem_cons_of_mem _ (List.mem_flatten.2 ⟨f, List.mem_of_getElem? h2, hb⟩))), ?_⟩
    intro j hj
    have hi : i < l.length := (List.getElem?_eq_some_iff.1 hx).1
    have hij : i * Cel.k α + j < l.length * Cel.k α := by
      have : (i + 1) * Cel.k α ≤ l.length * Cel.k α := Nat.mul_le_mul_right _ hi
      rw [Nat.succ_mul] at this; omega
    have h4 := flatten_at vss hl.flat_len i j vs h1 hj
    rw [← ht, List.getElem?_take, if_pos hij] at h4
    rw [← h4, Nat.zero_add]
    simp [World.cell?, hg]

theorem OwnS.lt {fp : List Nat} (h : OwnS w l v fp) : ∀ b ∈ fp, b < w.heap.size := by
  rcases h with ⟨_, _, rfl⟩ | ⟨g, c, cur, e, vss, fps, _, hg, _, _, _, rfl, hl, _⟩
  · simp
  · intro b hb
    rcases List.mem_cons.1 hb with rfl | hb
    · exact (Array.getElem?_eq_some_iff.1 hg).1
    · exact hl.lt b hb

theorem OwnS.read {fp : List Nat} (h : OwnS w l v fp) : RdS w.heap.size w l v := h.rd h.lt

theorem OwnS.keep {fp : List Nat} (h : OwnS w l v fp) (hk : ∀ b ∈ fp, w'.heap[b]? = w.heap[b]?) : OwnS w' l v fp := by
  rcases h with h | ⟨g, c, cur, e, vss, fps, h1, hg, h2, h3, h4, rfl, hl, h5⟩
  · exact .inl h
  · exact .inr ⟨g, c, cur, e, vss, fps, h1, by rw [hk g (by simp)]; exact hg, h2, h3, h4, rfl, hl.keep fun b hb => hk b (List.mem_cons_of_mem _ hb), h5⟩

theorem OwnS.below {fp : List Nat} (h : OwnS w l v fp) (hb : Below w.heap.size w w') : OwnS w' l v fp :=
  h.keep fun b hf => hb.block b (h.lt b hf)

theorem OwnS.nil (w : World) : OwnS (α := α) w [] (.slice none 0 0) [] := .inl ⟨rfl, rfl, rfl⟩

theorem OwnS.open {fp : List Nat} (h : OwnS w l v fp) : ∃ a c, v = .slice a l.length c := by
  obtain ⟨a, c, e, _⟩ := h.read.open; exact ⟨a, c, e⟩

/-- A new block: what is owned stays so. -/
theorem OwnS.alloc {fp : List Nat} (h : OwnS w l v fp) (o : Obj) : OwnS (w.alloc o) l v fp := h.keep fun b hb => Below.heap_alloc w o b (h.lt b hb)
theorem OwnS.drew {fp : List Nat} (h : OwnS w l v fp) : OwnS w.drew l v fp := h.keep fun _ _ => rfl
theorem OwnS.setCell {fp : List Nat} (h : OwnS w l v fp) {p : Addr} (hp : p.block ∉ fp) (u : Value) : OwnS (w.setCell p u) l v fp :=
  h.keep fun b hb => Below.heap_setCell w p u b (fun e => hp (e ▸ hb))

end

instance Cel.list {α : Type} [Cel α] : Cel (List α) where
  k := 1
  kpos := by decide
  rd B w vs l := ∃ v, vs = [v] ∧ RdS B w l v
  own w vs l fp := ∃ v, vs = [v] ∧ OwnS w l v fp
  rd_len := by rintro B w vs l ⟨v, rfl, _⟩; rfl
  rd_one := by rintro B w vs l ⟨v, rfl, h⟩ u hu; simp at hu; subst hu; obtain ⟨a, c, rfl, _⟩ := h; rfl
  own_rd := by rintro B w vs l fp ⟨v, rfl, h⟩ hb; exact ⟨v, rfl, h.rd hb⟩
  own_lt := by rintro w vs l fp ⟨v, rfl, h⟩; exact h.lt
  rd_below := by rintro B w w' vs l ⟨v, rfl, h⟩ hb; exact ⟨v, rfl, h.below hb⟩
  rd_mono := by rintro B B' w vs l ⟨v, rfl, h⟩ hb; exact ⟨v, rfl, h.mono hb⟩
  own_keep := by rintro w w' vs l fp ⟨v, rfl, h⟩ hk; exact ⟨v, rfl, h.keep hk⟩

end Go.Proofs.YthnilnggpbploaaGreat
