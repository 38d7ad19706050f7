/- The draws' small functions: a number below a bound, one of a list, some bytes, a new cursor. -/
import Derived.Test.YtojlnmenfikhbaaDraw
import Derived.Test.YtojlnmenfikhbaaExt
namespace Go.Proofs.Ytojlnmenfikhbaa
open Go.RowKit
open Cel (rd own rd_len rd_one own_rd own_lt rd_below rd_mono own_keep)

theorem Drew.trans {g : Nat} {l : List UInt8} {w w1 w2 : World} (h : Drew g l w w1) (k : Drew g l w1 w2) : Drew g l w w2 := ⟨k.1, h.2.trans k.2⟩
theorem Drew.via {g : Nat} {l : List UInt8} {w w1 w2 : World} (h : Drew g l w w1) (k : Below w1.heap.size w1 w2) : Drew g l w w2 := ⟨h.1.via k, h.2.trans (Chg.of_below k)⟩
theorem Drew.refl {g : Nat} {l : List UInt8} {w : World} (h : Cur w g l) : Drew g l w w := ⟨h, Chg.refl _ _⟩

theorem and30 (y : Int) : ∃ x : Nat, bits .and .i64 y 1073741823 = (x : Int) ∧ x < 1073741824 := by
  refine ⟨(BitVec.ofInt 64 y).toNat % 1073741824, ?_, Nat.mod_lt _ (by decide)⟩
  show IntKind.i64.wrap ((BitVec.ofInt 64 y &&& BitVec.ofInt 64 ((1073741823 : Nat) : Int)).toNat : Int) = _
  have o2 : (BitVec.ofInt 64 ((1073741823 : Nat) : Int)).toNat = 2 ^ 30 - 1 := by rw [BitVec.ofInt_natCast, BitVec.toNat_ofNat]
  rw [BitVec.toNat_and, o2, Nat.and_two_pow_sub_one_eq_mod, IntKind.wrap_i64]
  omega

theorem l1Below_w (l : List UInt8) (g : Nat) (n : Int) (w : World) (hc : Cur w g l) (hn : In64 n) :
    Calls Try.prog 73 #[.pointer (some ⟨g, 0, none⟩), .int .i64 n] w fun e w' => ∃ x : Nat, e = .returned (.int .i64 x) ∧ ((x : Int) < n ∨ n ≤ 0 ∧ x = 0) ∧ Drew g l w w' := by
  by_cases h0 : n ≤ 0
  · go_enter Try.func73, Try.ntmps73
    go_wp2
    go_ret
    exact ⟨0, rfl, .inr ⟨h0, rfl⟩, Drew.refl hc⟩
  · obtain ⟨m, rfl⟩ : ∃ m : Nat, n = m := ⟨n.toNat, by omega⟩
    have hm : 0 < m := by omega
    by_cases h1 : m ≤ 256
    · go_enter Try.func73, Try.ntmps73
      go_wp2_with fail
      refine (l1Byte_w l g _ hc).mono ?_
      rintro e w1 ⟨x, rfl, hx, hd⟩
      go_wp2
      go_ret
      exact ⟨x % m, by simp, .inl (by have := Nat.mod_lt x hm; omega), hd⟩
    · go_enter Try.func73, Try.ntmps73
      go_wp2_with fail
      refine (l1Byte_w l g _ hc).mono ?_
      rintro e w1 ⟨x, rfl, hx, hd⟩
      go_wp2_with fail
      refine (l1Byte_w l g _ hd.1).mono ?_
      rintro e w2 ⟨y, rfl, hy, hd2⟩
      go_wp2_with fail
      refine (l1Byte_w l g _ hd2.1).mono ?_
      rintro e w3 ⟨z, rfl, hz, hd3⟩
      go_wp2
      go_ret
      exact ⟨(x * 65536 + y * 256 + z) % m, by simp, .inl (by have := Nat.mod_lt (x * 65536 + y * 256 + z) hm; omega), (hd.trans hd2).trans hd3⟩

theorem l1Once_w (l : List UInt8) (g : Nat) (n : Int) (w : World) (hc : Cur w g l) (hn : In64 n) :
    Calls Try.prog 80 #[.pointer (some ⟨g, 0, none⟩), .int .i64 n] w fun e w' => ∃ b, e = .returned (.bool b) ∧ Drew g l w w' := by
  go_enter Try.func80, Try.ntmps80
  go_wp2_with fail
  refine (l1Below_w l g n _ hc hn).mono ?_
  rintro e w1 ⟨x, rfl, -, hd⟩
  go_wp2
  go_ret
  exact ⟨_, rfl, hd⟩

theorem l1Int_w (l : List UInt8) (g : Nat) (L : List Int) (v : Value) (fp : List Nat) (w : World) (hc : Cur w g l) (h : OwnS w L v fp) (hg : g ∉ fp) (hne : 0 < L.length) :
    Calls Try.prog 68 #[.pointer (some ⟨g, 0, none⟩), v] w fun e w' => ∃ x, e = .returned (.int .i64 x) ∧ x ∈ L ∧ Drew g l w w' := by
  obtain ⟨a, c, rfl, hl, -⟩ := h.sl.open
  go_enter Try.func68, Try.ntmps68
  go_wp2_with fail
  refine (l1Below_w l g _ _ hc ⟨by omega, by omega⟩).mono ?_
  rintro e w1 ⟨x, rfl, hx, hd⟩
  have hx2 : x < L.length := by omega
  obtain ⟨b, o, vs, rfl, hb, ⟨rfl, hin⟩, hcl⟩ := (h.chg hd.2 (fun b hb e => hg (by simpa [List.mem_singleton.1 e] using hb))).sl.at x hx2
  have hc0 : w1.cell? ⟨b, o + x, none⟩ = some (.int .i64 L[x]) := by simpa [Cel.k] using hcl 0 (by decide)
  have hmem : L[x] ∈ L := List.getElem_mem hx2
  generalize L[x] = y at *
  clear hcl hx
  go_wp2
  go_ret
  exact ⟨y, rfl, hmem, hd⟩

/-- An own row that is being filled with what is drawn. -/
def Grow {α : Type} [Cel α] (g : Nat) (l : List UInt8) (w0 : World) (x : List α) (v : Value) (w : World) : Prop := ∃ fp, OwnS w x v fp ∧ Fr w0.heap.size fp ∧ g < w0.heap.size ∧ Drew g l w0 w
section
variable {α : Type} [Cel α] {g : Nat} {l : List UInt8} {w0 w w1 : World} {x : List α} {v : Value}
theorem Grow.drew (h : Grow g l w0 x v w) : Drew g l w0 w := by obtain ⟨_, _, _, _, h⟩ := h; exact h
theorem Grow.call (h : Grow g l w0 x v w) (hd : Drew g l w w1) : Grow g l w0 x v w1 := by
  obtain ⟨fp, h1, h2, h3, h4⟩ := h
  exact ⟨fp, h1.chg hd.2 (fun b hb e => by obtain rfl := List.mem_singleton.1 e; have := h2.2 _ hb; omega), h2, h3, h4.trans hd⟩
theorem Grow.via (h : Grow g l w0 x v w) (hd : Below w.heap.size w w1) : Grow g l w0 x v w1 := h.call ⟨h.drew.1.via hd, Chg.of_below hd⟩
theorem Grow.ext (h : Grow g l w0 x v w) : ∃ fp, Ext fp w x v w ∧ ∀ (y : List α) (v2 : Value) (w1 : World), Ext fp w y v2 w1 → Grow g l w0 y v2 w1 := by
  obtain ⟨fp, h1, h2, h3, h4⟩ := h
  refine ⟨fp, Ext.start h1 h2.1, fun y v2 w1 hE => ?_⟩
  obtain ⟨f, k1, k2, k3, k4⟩ := hE
  refine ⟨f, k1, ⟨k2, fun b hb => ?_⟩, h3, h4.1.chg k4 fun b hb => Nat.lt_of_lt_of_le h3 (h2.2 b hb), ?_⟩
  · rcases k3 b hb with h5 | h5
    · exact h2.2 b h5
    · exact Nat.le_trans h4.2.size h5
  · exact ⟨k4.os.trans h4.2.os, k4.tape.trans h4.2.tape, k4.output.trans h4.2.output, Nat.le_trans h4.2.size k4.size, fun b hb hn => (k4.block b (Nat.lt_of_lt_of_le hb h4.2.size) (fun hm => by have := h2.2 b hm; omega)).trans (h4.2.block b hb hn)⟩
theorem Grow.back (h : Grow g l w x v w1) (hd : Drew g l w0 w) (hg : g < w0.heap.size) : Grow g l w0 x v w1 := by
  obtain ⟨fp, h1, h2, h3, h4⟩ := h
  exact ⟨fp, h1, ⟨h2.1, fun b hb => Nat.le_trans hd.2.size (h2.2 b hb)⟩, hg, hd.trans h4⟩
theorem Grow.new (hc : Cur w g l) (cur : Array Value) (e : TypeId) (b c : Nat) (hg : w.heap.size = b) (hm : c ≤ maxLen) (hs : c * Cel.k α ≤ cur.size) :
    Grow (α := α) g l w [] (.slice (some ⟨b, 0, none⟩) 0 c) (w.alloc (.cells cur e)) :=
  ⟨[b], OwnS.madeAt w cur e b c hg hm hs, ⟨by simp, by simp; omega⟩, hc.lt, (Drew.refl hc).via ((Below.refl _ _).alloc (Nat.le_refl _) _)⟩
end
/-- What a draw of a row hands back. -/
def RetD {α : Type} [Cel α] (ok : List α → Prop) (g : Nat) (l : List UInt8) (w : World) (e : Ending) (w' : World) : Prop :=
  ∃ x a c, e = .returned (.slice a x.length c) ∧ ok x ∧ Grow g l w x (.slice a x.length c) w'

theorem l1Bytes_w (l : List UInt8) (g : Nat) (n : Int) (w : World) (hc : Cur w g l) (hn : 0 ≤ n) (hn2 : n ≤ 1048576) :
    Calls Try.prog 83 #[.pointer (some ⟨g, 0, none⟩), .int .i64 n] w (RetD (α := UInt8) (fun x => (x.length : Int) = n) g l w) := by
  go_enter Try.func83, Try.ntmps83
  go_wp2
  have hG : Grow (α := UInt8) g l w [] (.slice (some ⟨w.heap.size, 0, none⟩) 0 0) (w.alloc (.cells #[] 5)) := Grow.new hc _ _ _ _ rfl (by simp [maxLen]) (by simp)
  go_loopw [5, 6] (fun out i wr => ∃ (x : List UInt8) (a : Option Addr) (c : Nat), out = .slice a x.length c ∧ i = .int .i64 x.length ∧ (x.length : Int) ≤ n ∧ Grow g l w x (.slice a x.length c) wr) (fun _ i _ => n.toNat - (intOf i).toNat)
  case atStart => exact ⟨[], _, 0, rfl, rfl, hn, hG⟩
  case round =>
    obtain ⟨x, a, c, rfl, rfl, hx, hG⟩ := hrel
    by_cases hlt : (x.length : Int) < n
    · go_wp2_with fail
      refine (l1Byte_w l g _ hG.drew.1).mono ?_
      rintro e w1 ⟨y, rfl, hy, hd⟩
      obtain ⟨fp, hE, hK⟩ := (hG.call hd).ext
      have hv : own w1 [.int .u8 (y : Int)] (UInt8.ofNat y) [] := ⟨by rw [UInt8.toNat_ofNat']; congr 2; omega, rfl⟩
      have hb1 : (x.length + 1) * 1 ≤ 140737488355328 := by omega
      have hb2 : x.length + 1 ≤ maxLen := by simp [maxLen]; omega
      go_wp2_with (at_builtin; go_loud (refine wpList_ext1 rfl _ _ _ rfl sl22 rfl hE rfl rfl hv hb1 hb2 ?_); intro a2 c2 w2 hE2)
      go_roundw
      case rel => exact ⟨x ++ [UInt8.ofNat y], a2, c2, by simp, by simp, by simp; omega, by simpa using hK _ _ _ hE2⟩
      case measure => simp [intOf]; omega
    · go_wp2
      go_ret
      exact ⟨x, a, c, rfl, by omega, hG⟩

theorem Cur.made {l : List UInt8} {w wr : World} {v : Value} (h : Sl w l v) (hl : l.length ≤ 1099511627776) (hB : Below w.heap.size w wr) (z : Nat) (hz : z ≤ 1099511982130) (t : TypeId) :
    Cur (wr.alloc (.cells #[v, .int .i64 0, .int .i64 z] t)) wr.heap.size l ∧ w.heap.size ≤ wr.heap.size ∧ Below w.heap.size w (wr.alloc (.cells #[v, .int .i64 0, .int .i64 z] t)) :=
  ⟨⟨v, 0, z, bx_new wr [v, .int .i64 0, .int .i64 z] t rfl, Nat.zero_le _, ⟨by omega, by omega⟩, (RdS.below h (hB.alloc hB.size _)).mono hB.size, hl⟩, hB.size, hB.alloc hB.size _⟩
set_option maxRecDepth 20000 in
theorem l1New_w (l : List UInt8) (v : Value) (w : World) (h : Sl w l v) (hl : l.length ≤ 1099511627776) :
    Calls Try.prog 66 #[v] w fun e w' => ∃ g, e = .returned (.pointer (some ⟨g, 0, none⟩)) ∧ Cur w' g l ∧ w.heap.size ≤ g ∧ Below w.heap.size w w' := by
  obtain ⟨a, c, rfl, hl2, -⟩ := h.open
  go_enter Try.func66, Try.ntmps66
  go_wp2
  go_loopw [3, 4] (fun h i wr => ∃ (z k : Nat), h = .int .i64 z ∧ i = .int .i64 k ∧ k ≤ l.length ∧ k ≤ 4000 ∧ z ≤ 1099511982130 ∧ Below w.heap.size w wr) (fun _ i _ => 4000 - (intOf i).toNat)
  case atStart => exact ⟨354354 + l.length, 0, by simp, rfl, by omega, by omega, by omega, Below.refl _ _⟩
  case round =>
    obtain ⟨z, k, rfl, rfl, hk, hk2, hz, hB⟩ := hrel
    by_cases hlt : k < l.length
    · by_cases hlt2 : k < 4000
      · obtain ⟨b, o, rfl, eb⟩ := (h.to hB).byte k hlt
        have hy := (l[k]).toNat_lt
        generalize (l[k]).toNat = y at *
        go_wp2
        obtain ⟨x1, hx1, hx12⟩ := and30 ((z : Int) * 137 + y + 11)
        rw [hx1]
        go_roundw
        case rel => exact ⟨x1, k + 1, rfl, by go_num, by omega, by omega, by omega, hB⟩
        case measure => simp [intOf]; omega
      · go_wp2
        go_ret
        exact ⟨_, rfl, Cur.made h hl hB z hz _⟩
    · go_wp2
      go_ret
      exact ⟨_, rfl, Cur.made h hl hB z hz _⟩

theorem OwnS.ints (w : World) (L : List Int) (cs : Array Value) (e : TypeId) (g n : Nat) (hg : w.heap.size = g) (hn : L.length = n) (hm : n ≤ maxLen) (h : cs = (L.map fun x => Value.int .i64 x).toArray) (hb : ∀ x ∈ L, In64 x) :
    OwnS (α := Int) (w.alloc (.cells cs e)) L (.slice (some ⟨g, 0, none⟩) n n) [g] := by
  subst hg hn h
  refine .inr ⟨w.heap.size, L.length, _, e, L.map fun x => [Value.int .i64 x], L.map fun _ => [], rfl, heap_alloc_new w _, Nat.le_refl _, hm, ?_, by simp, ?_, ?_⟩
  · simp [Cel.k]
  · suffices ∀ w (l : List Int), (∀ x ∈ l, In64 x) → OwnL w (l.map fun x => [Value.int .i64 x]) l (l.map fun _ => []) from this _ L hb
    intro w l hb
    clear hm
    induction l with
    | nil => trivial
    | cons x xs ih => exact ⟨⟨rfl, hb x (by simp), rfl⟩, ih fun y hy => hb y (by simp [hy])⟩
  · simp [Cel.k]
    clear hm hb
    induction L with
    | nil => rfl
    | cons x xs ih => simp [ih]

theorem l1Some_w (l : List UInt8) (g : Nat) (w : World) (hc : Cur w g l) :
    Calls Try.prog 69 #[.pointer (some ⟨g, 0, none⟩)] w (RetD (α := UInt8) (fun x => x.length ≤ 9) g l w) := by
  go_enter Try.func69, Try.ntmps69
  go_wp2_with fail
  have hcl := hc.lt
  have c1 : Cur (w.alloc (.cells #[.int .i64 0, .int .i64 1, .int .i64 2, .int .i64 5, .int .i64 9] 3)) g l := hc.via (by simp)
  refine (l1Int_w l g [0, 1, 2, 5, 9] _ _ _ c1 (OwnS.ints _ _ _ _ _ _ rfl rfl (by simp [maxLen]) rfl (by simp [In64])) (by simp; omega) (by simp)).mono ?_
  rintro e w1 ⟨x, rfl, hx, hd⟩
  have hx2 : 0 ≤ x ∧ x ≤ 9 := by simp at hx; omega
  have d0 : Drew g l w w1 := ((Drew.refl hc).via (by simp)).trans hd
  go_wp2_with fail
  refine (l1Bytes_w l g x _ d0.1 hx2.1 (by omega)).mono ?_
  rintro e w2 ⟨y, a, c, rfl, hy, hG⟩
  go_wp2
  go_ret
  exact ⟨y, a, c, rfl, by omega, hG.back d0 hcl⟩
end Go.Proofs.Ytojlnmenfikhbaa
