/- DrawBodies, laws.at. -/
import Derived.Test.YtojlnmenfikhbaaDraw2
import Derived.Test.YtojlnmenfikhbaaReadF
namespace Go.Proofs.Ytojlnmenfikhbaa
open Go.RowKit
open Cel (rd own rd_len rd_one own_rd own_lt rd_below rd_mono own_keep)

/-- A row in new memory. -/
def RetX {α : Type} [Cel α] (ok : List α → Prop) (w : World) (e : Ending) (w' : World) : Prop :=
  ∃ x a c fp, e = .returned (.slice a x.length c) ∧ ok x ∧ OwnS w' x (.slice a x.length c) fp ∧ Fr w.heap.size fp ∧ Below w.heap.size w w'
section
variable {α : Type} [Cel α] {g : Nat} {l : List UInt8} {w0 w w1 w2 : World} {x : List α} {v : Value}
/-- From a cursor that has just been made on. -/
theorem Grow.retX {ok : List α → Prop} {e : Ending} {a : Option Addr} {c : Nat} (h : Grow g l w x (.slice a x.length c) w1) (he : e = .returned (.slice a x.length c)) (hb : Below w0.heap.size w0 w) (hg : w0.heap.size ≤ g) (hx : ok x) : RetX ok w0 e w1 := by
  obtain ⟨fp, h1, h2, h3, h4⟩ := h
  exact ⟨x, a, c, fp, he, hx, h1, ⟨h2.1, fun b hb' => Nat.le_trans hb.size (h2.2 b hb')⟩, h4.2.below hb (by simpa using hg) hb.size⟩
/-- An element that owns memory made by the last call. -/
theorem Grow.elem {vs : List Value} {y : α} {f : List Nat} (h : Grow g l w0 x v w1) (hd : Drew g l w1 w2) (_hy : own w2 vs y f) (hf : Fr w1.heap.size f) :
    ∃ r, OwnS w2 x v r ∧ (r ++ f).Nodup ∧ ∀ x' v' w', Ext (r ++ f) w2 x' v' w' → Grow (α := α) g l w0 x' v' w' := by
  obtain ⟨r, h1, h2, h3, h4⟩ := h
  have hg : g < w1.heap.size := Nat.lt_of_lt_of_le h3 h4.2.size
  have k1 : OwnS w2 x v r := h1.chg hd.2 fun b hb e => by obtain rfl := List.mem_singleton.1 e; have := h2.2 _ hb; omega
  refine ⟨r, k1, List.nodup_append.2 ⟨h2.1, hf.1, fun a ha b hb e => by have := h1.lt a ha; have := hf.2 b hb; omega⟩, fun x' v' w' hE => ?_⟩
  obtain ⟨f', k2, k3, k4, k5⟩ := hE
  have hs : ∀ b ∈ r ++ f, w0.heap.size ≤ b := by
    intro b hb
    rcases List.mem_append.1 hb with hb | hb
    · exact h2.2 b hb
    · exact Nat.le_trans h4.2.size (hf.2 b hb)
  have h6 := h4.trans hd
  refine ⟨f', k2, ⟨k3, fun b hb => ?_⟩, h3, h6.1.chg k5 fun b hb => Nat.lt_of_lt_of_le h3 (hs b hb), ?_⟩
  · rcases k4 b hb with h | h
    · exact hs b h
    · exact Nat.le_trans h6.2.size h
  · exact ⟨k5.os.trans h6.2.os, k5.tape.trans h6.2.tape, k5.output.trans h6.2.output, Nat.le_trans h6.2.size k5.size, fun b hb hn => (k5.block b (Nat.lt_of_lt_of_le hb h6.2.size) (fun hm => by have := hs b hm; omega)).trans (h6.2.block b hb hn)⟩
end

theorem wpList_extD {α : Type} [Cel α] {P : Program} {w : World} {r : List Nat} {l : List α} {v : Value} {ops : Array Oper} {rest : List Oper} {o : Oper} {a : Act} {Q : Exit → Act → World → Prop} (hgd : o.guard = none) (s x : Operand) (t : TypeId) {bytes : Nat}
    (ho : o.op = .call { callee := .builtin .append, args := #[s, x], argTypes := #[t, t] }) (hT : SlT P t (Cel.k α) bytes) (hs : a.eval s = v) (h : OwnS w l v r)
    {c g : Nat} {vs : List Value} {e : TypeId} (hx : a.eval x = .slice (some ⟨g, 0, none⟩) 1 c) (hg : w.heap.size = g) {y : α} {f : List Nat} (hy : own w vs y f) (hn : (r ++ f).Nodup)
    (hbytes : (l.length + 1) * bytes ≤ 140737488355328) (h63 : l.length + 1 ≤ maxLen)
    (K : ∀ a' c' w', Ext (r ++ f) w (l ++ [y]) (.slice a' (l.length + 1) c') w' → wpList P ops Q rest (a.put o.dst (.slice a' (l.length + 1) c')) w') : wpList P ops Q (o :: rest) a (w.alloc (.cells vs.toArray e)) := by
  subst hg
  have hd : Fr 0 (r ++ f) := ⟨hn, fun _ _ => Nat.zero_le _⟩
  refine wpList_append1 (B := 0) (f := f) hgd s x t ho hT hs (h.alloc _) hx (news_alloc w vs e) (own_keep hy fun b hm => Below.heap_alloc w _ b (own_lt hy b hm)) hd (Nat.zero_le _) hbytes h63 ?_
  intro a' c' w' fp' g1 g2 g3 g4 g5
  refine K a' c' w' ⟨fp', g1, g2.1, fun b hb' => ?_, ((Chg.refl (r ++ f) w).alloc _).grown g3 fun k hk => .inl (List.mem_append_left _ (h.block_mem hk))⟩
  rcases g5 b hb' with h5 | h5 | h5
  · exact .inl (List.mem_append_left _ h5)
  · exact .inl (List.mem_append_right _ h5)
  · right; subst h5; simp

def okBodies (L : List FrameD) : Prop := L.length ≤ 5 ∧ ∀ f ∈ L, f.B.length ≤ 9

theorem drawBodies_w (l : List UInt8) (v : Value) (w : World) (h : Sl w l v) (hl : l.length ≤ 1099511627776) :
    Calls Try.prog 40 #[v] w (RetX okBodies w) := by
  obtain ⟨a, c, rfl, hl2, -⟩ := h.open
  go_enter Try.func40, Try.ntmps40
  go_wp2_with fail
  refine (l1New_w l _ _ h hl).mono ?_
  rintro e w1 ⟨g, rfl, hc, hg, hb1⟩
  go_wp2_with fail
  have hG : Grow (α := FrameD) g l w1 [] (.slice (some ⟨w1.heap.size, 0, none⟩) 0 0) (w1.alloc (.cells #[] 54)) := Grow.new hc _ _ _ _ rfl (by simp [maxLen]) (by simp)
  refine (l1Below_w l g _ _ hG.drew.1 ⟨by omega, by omega⟩).mono ?_
  rintro e w2 ⟨n, rfl, hn, hd⟩
  have hn6 : n < 6 := by omega
  replace hG := hG.call hd
  go_wp2
  go_loopw [4, 5] (fun out i wr => ∃ (L : List FrameD) (n : Nat) (a : Option Addr) (c : Nat), out = .slice a L.length c ∧ i = .int .i64 n ∧ L.length + n ≤ 5 ∧ (∀ f ∈ L, f.B.length ≤ 9) ∧ Grow g l w1 L (.slice a L.length c) wr) (fun _ i _ => (intOf i).toNat)
  case atStart => exact ⟨[], n, _, 0, rfl, rfl, by simp; omega, by simp, hG⟩
  case round =>
    obtain ⟨L, n, a, c, rfl, rfl, hn, hL, hG⟩ := hrel
    by_cases hlt : 0 < n
    · go_wp2_with fail
      refine (l1Some_w l g _ hG.drew.1).mono ?_
      rintro e w3 ⟨x, a2, c2, rfl, hx, fp, ho, hfr, -, hd⟩
      have hy : own w3 [Value.slice a2 x.length c2] (⟨x⟩ : FrameD) fp := ⟨_, rfl, ho⟩
      obtain ⟨r, k1, k2, k3⟩ := hG.elem hd hy hfr
      have hby : (L.length + 1) * 24 ≤ 140737488355328 := by omega
      have hml : L.length + 1 ≤ maxLen := by simp [maxLen]; omega
      go_wp2_with (at_builtin; go_loud (refine wpList_extD rfl _ _ _ rfl sl50 rfl k1 rfl rfl hy k2 hby hml ?_); intro a4 c4 w4 hE4)
      go_roundw
      case rel => exact ⟨L ++ [⟨x⟩], n - 1, a4, c4, by simp, by go_num, by simp; omega, by intro f hf; rcases List.mem_append.1 hf with hf | hf; exact hL f hf; obtain rfl := List.mem_singleton.1 hf; exact hx, by simpa using k3 _ _ _ hE4⟩
      case measure => simp [intOf]; omega
    · obtain rfl : n = 0 := by omega
      go_wp2
      go_ret
      exact hG.retX rfl hb1 hg ⟨by omega, hL⟩
theorem at_w (l : List UInt8) (v : Value) (k : Nat) (w : World) (h : Sl w l v) (hl : l.length ≤ 1099511627776) (hk : k ≤ 1000) :
    Calls Try.prog 42 #[v, .int .i64 k] w fun e w' => ∃ x : Nat, e = .returned (.int .i64 x) ∧ x < 256 ∧ Below w.heap.size w w' := by
  obtain ⟨a, c, rfl, hl2, -⟩ := h.open
  by_cases hlt : k < l.length
  · obtain ⟨b, o, rfl, eb⟩ := h.byte k hlt
    have hy := (l[k]).toNat_lt
    generalize (l[k]).toNat = y at *
    go_enter Try.func42, Try.ntmps42
    go_wp2
    go_ret
    exact ⟨y, rfl, hy, by simp⟩
  · go_enter Try.func42, Try.ntmps42
    go_wp2
    go_ret
    exact ⟨(k * 31 + l.length * 7) % 256, by simp, by omega, by simp⟩
end Go.Proofs.Ytojlnmenfikhbaa
