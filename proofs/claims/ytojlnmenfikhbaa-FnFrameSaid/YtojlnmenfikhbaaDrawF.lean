/- Drawn files. -/
import Derived.Test.YtojlnmenfikhbaaBodies
import Derived.Test.YtojlnmenfikhbaaLFrames
import Derived.Deep.OwnRows
import Derived.Laws.OwnMore
namespace Go.Proofs.Ytojlnmenfikhbaa
open Go.RowKit
open Cel (rd own rd_len rd_one own_rd own_lt rd_below rd_mono own_keep)

/-- A drawn file. -/
def RetA (g : Nat) (l : List UInt8) (w : World) (e : Ending) (w' : World) : Prop :=
  ∃ x n a c, e = .returned (.agg #[.slice a x.length c, .int .i64 n]) ∧ x.length ≤ 20001 ∧ In64 n ∧ Grow (α := UInt8) g l w x (.slice a x.length c) w'

/-- A file that is being drawn: the result's block, the variable's block. -/
def FSt (g : Nat) (l : List UInt8) (w0 : World) (R F : Nat) (x : List UInt8) (v : Value) (n : Int) (w : World) : Prop :=
  ∃ fp, OwnS w x v fp ∧ Fr w0.heap.size fp ∧ Drew g l w0 w ∧ R ∉ fp ∧ F ∉ fp ∧ w0.heap.size ≤ R ∧ w0.heap.size ≤ F ∧ R ≠ F ∧ g < w0.heap.size ∧ Bx w R [.slice none 0 0, .int .i64 0] ∧ Bx w F [v, .int .i64 n]
section
variable {g : Nat} {l : List UInt8} {w0 w w' : World} {R F : Nat} {x : List UInt8} {v : Value} {n : Int}
theorem FSt.call (h : FSt g l w0 R F x v n w) (hd : Drew g l w w') : FSt g l w0 R F x v n w' := by
  obtain ⟨fp, h1, h2, h3, h4, h5, h6, h7, h8, h9, h10, h11⟩ := h
  exact ⟨fp, h1.chg hd.2 (fun b hb e => by obtain rfl := List.mem_singleton.1 e; have := h2.2 _ hb; omega), h2, h3.trans hd, h4, h5, h6, h7, h8, h9,
    h10.chg hd.2 (by simp; omega), h11.chg hd.2 (by simp; omega)⟩
theorem FSt.via (h : FSt g l w0 R F x v n w) (hd : Below w.heap.size w w') : FSt g l w0 R F x v n w' := by
  refine h.call ⟨?_, Chg.of_below hd⟩
  obtain ⟨_, _, _, h, _⟩ := h
  exact h.1.via hd
theorem FSt.cur (h : FSt g l w0 R F x v n w) : Cur w g l := by obtain ⟨_, _, _, h, _⟩ := h; exact h.1
theorem FSt.z (h : FSt g l w0 R F x v n w) : ∀ o, w.frozen? ⟨F, o, none⟩ = false := by obtain ⟨fp, h1, h2, h3, h4, h5, h6, h7, h8, h9, h10, h11⟩ := h; exact h11.z
theorem FSt.zr (h : FSt g l w0 R F x v n w) : ∀ o, w.frozen? ⟨R, o, none⟩ = false := by obtain ⟨fp, h1, h2, h3, h4, h5, h6, h7, h8, h9, h10, h11⟩ := h; exact h10.z
theorem FSt.c0 (h : FSt g l w0 R F x v n w) : w.cell? ⟨F, 0, none⟩ = some v := by obtain ⟨fp, h1, h2, h3, h4, h5, h6, h7, h8, h9, h10, h11⟩ := h; exact h11.c 0 _ rfl
theorem FSt.c1 (h : FSt g l w0 R F x v n w) : w.cell? ⟨F, 1, none⟩ = some (.int .i64 n) := by obtain ⟨fp, h1, h2, h3, h4, h5, h6, h7, h8, h9, h10, h11⟩ := h; exact h11.c 1 _ rfl
theorem FSt.r0 (h : FSt g l w0 R F x v n w) : w.cell? ⟨R, 0, none⟩ = some (.slice none 0 0) := by obtain ⟨fp, h1, h2, h3, h4, h5, h6, h7, h8, h9, h10, h11⟩ := h; exact h10.c 0 _ rfl
theorem FSt.r1 (h : FSt g l w0 R F x v n w) : w.cell? ⟨R, 1, none⟩ = some (.int .i64 0) := by obtain ⟨fp, h1, h2, h3, h4, h5, h6, h7, h8, h9, h10, h11⟩ := h; exact h10.c 1 _ rfl
theorem FSt.setN (h : FSt g l w0 R F x v n w) (m : Int) : FSt g l w0 R F x v m (w.setCell ⟨F, 1, none⟩ (.int .i64 m)) := by
  obtain ⟨fp, h1, h2, h3, h4, h5, h6, h7, h8, h9, h10, h11⟩ := h
  have k : Chg [F] w (w.setCell ⟨F, 1, none⟩ (.int .i64 m)) := (Chg.refl [F] w).setCells (by simp) 1 [.int .i64 m]
  refine ⟨fp, h1.chg k (by simp; intro b hb e; exact h5 (e ▸ hb)), h2, ⟨h3.1.chg k (by simp; omega), ?_⟩, h4, h5, h6, h7, h8, h9, h10.chg k (by simp; exact h8), h11.set 1 _⟩
  exact ⟨k.os.trans h3.2.os, k.tape.trans h3.2.tape, k.output.trans h3.2.output, Nat.le_trans h3.2.size k.size, fun b hb hn => (k.block b (Nat.lt_of_lt_of_le hb h3.2.size) (by simp; omega)).trans (h3.2.block b hb hn)⟩
/-- Another row in its place. -/
theorem FSt.setB (h : FSt g l w0 R F x v n w) (hb : Below w.heap.size w w') {y : List UInt8} {u : Value} {f : List Nat} (ho : OwnS w' y u f) (hf : Fr w.heap.size f) : FSt g l w0 R F y u n (w'.setCell ⟨F, 0, none⟩ u) := by
  obtain ⟨fp, h1, h2, h3, h4, h5, h6, h7, h8, h9, h10, h11⟩ := h
  have l10 := h10.lt
  have l11 := h11.lt
  have k : Chg [F] w' (w'.setCell ⟨F, 0, none⟩ u) := (Chg.refl [F] w').setCells (by simp) 0 [u]
  have h3' := h3.via hb
  have hF : F ∉ f := fun hm => by have := hf.2 _ hm; omega
  refine ⟨f, ho.chg k (by simp; intro b hb e; exact hF (e ▸ hb)), ⟨hf.1, fun b hb => Nat.le_trans h3.2.size (hf.2 b hb)⟩, ⟨h3'.1.chg k (by simp; omega), ?_⟩, fun hm => by have := hf.2 _ hm; omega, hF, h6, h7, h8, h9, (h10.via hb).chg k (by simp; exact h8), (h11.via hb).set 0 _⟩
  exact ⟨k.os.trans h3'.2.os, k.tape.trans h3'.2.tape, k.output.trans h3'.2.output, Nat.le_trans h3'.2.size k.size, fun b hb hn => (k.block b (Nat.lt_of_lt_of_le hb h3'.2.size) (by simp; omega)).trans (h3'.2.block b hb hn)⟩
theorem FSt.done (h : FSt g l w0 R F x v n w) (u1 u2 : Value) : Grow g l w0 x v ((w.setCell ⟨R, 0, none⟩ u1).setCell ⟨R, 1, none⟩ u2) := by
  obtain ⟨fp, h1, h2, h3, h4, h5, h6, h7, h8, h9, h10, h11⟩ := h
  have k : Chg [R] w ((w.setCell ⟨R, 0, none⟩ u1).setCell ⟨R, 1, none⟩ u2) := (Chg.refl [R] w).setCells (by simp) 0 [u1, u2]
  refine ⟨fp, h1.chg k (by simp; intro b hb e; exact h4 (e ▸ hb)), h2, h9, h3.1.chg k (by simp; omega), ?_⟩
  exact ⟨k.os.trans h3.2.os, k.tape.trans h3.2.tape, k.output.trans h3.2.output, Nat.le_trans h3.2.size k.size, fun b hb hn => (k.block b (Nat.lt_of_lt_of_le hb h3.2.size) (by simp; omega)).trans (h3.2.block b hb hn)⟩
end

theorem OwnS.zeros (w : World) (t : TypeId) (n : Nat) (hm : n ≤ maxLen) : OwnS (α := UInt8) (w.alloc (.cells (madeCells #[.int .u8 0] n) t)) (List.replicate n 0) (.slice (some ⟨w.heap.size, 0, none⟩) n n) [w.heap.size] :=
  OwnS.bytes w (List.replicate n 0) _ t _ n rfl (by simp) hm (by rw [toList_madeCells_one]; simp)
theorem make_bytes (m : Int) (n : Nat) (h : m = n) (hn : n ≤ 1099511627776) (w : World) :
    (Instr.makeSlice 22 (.int .i64 m) (.int .i64 m)).run Try.prog w = .ok (.slice (some ⟨w.heap.size, 0, none⟩) n n) (w.alloc (.cells (madeCells #[.int .u8 0] n) 5)) := by
  subst h
  exact run_make_row' 22 5 (.int .u8 0) 1 Try.underlying22 (by kernel_rfl) rfl .i64 .i64 n (by omega) (by omega) w

set_option maxRecDepth 20000 in
theorem l25Any_w (l : List UInt8) (g : Nat) (w : World) (hc : Cur w g l) :
    Calls Try.prog 67 #[.pointer (some ⟨g, 0, none⟩)] w (RetA g l w) := by
  have hg := hc.lt
  go_enter Try.func67, Try.ntmps67
  go_wp2_with fail
  have c0 : Cur (w.alloc (.cells #[.slice none 0 0, .int .i64 0] 27)) g l := hc.via (by simp)
  refine (l1Below_w l g 12 _ c0 ⟨by omega, by omega⟩).mono ?_
  rintro e w1 ⟨n, rfl, hn, hd⟩
  go_wp2_with fail
  refine (l1Bytes_w l g n _ hd.1 (by omega) (by omega)).mono ?_
  rintro e w2 ⟨x, a, c, rfl, hx, hG⟩
  have hxl : x.length < 12 := by omega
  have hS : FSt g l w w.heap.size w2.heap.size x (.slice a x.length c) 0 (w2.alloc (.cells #[.slice a x.length c, .int .i64 0] 27)) := by
    obtain ⟨fp, h1, h2, h3, h4⟩ := hG
    have hs1 := hd.2.size
    have hs2 := h4.2.size
    simp at hs1
    have b1 : Bx w1 w.heap.size [.slice none 0 0, .int .i64 0] := (bx_new w [.slice none 0 0, .int .i64 0] 27 rfl).chg hd.2 (by simp; omega)
    refine ⟨fp, h1.alloc _, ⟨h2.1, fun b hb => by have := h2.2 b hb; omega⟩, (((Drew.refl hc).via (by simp)).trans (hd.trans h4)).via (by simp), fun hm => ?_, fun hm => ?_, Nat.le_refl _, by omega, by omega, hg, ?_, bx_new _ _ _ rfl⟩
    · have := h2.2 _ hm; omega
    · have := h1.lt _ hm; omega
    · exact bx_alloc (b1.chg h4.2 (by simp; omega)) _
  clear hG hd c0 hc hn hx
  go_wp2_with fail
  refine (l1Below_w l g _ _ hS.cur ⟨by omega, by omega⟩).mono ?_
  rintro e w3 ⟨m, rfl, hm, hd⟩
  replace hS := hS.call hd
  have z := hS.z
  have q0 := hS.c0
  have q1 := hS.c1
  go_wp2_with fail
  replace hS := hS.setN m
  refine (l1Below_w l g 12 _ hS.cur ⟨by omega, by omega⟩).mono ?_
  rintro e w4 ⟨k, rfl, hk, hd⟩
  replace hS := hS.call hd
  clear z hd q0 q1
  have z := hS.z
  have zr := hS.zr
  have q0 := hS.c0
  have q1 := hS.c1
  have r0 := hS.r0
  have r1 := hS.r1
  by_cases hk0 : k = 0
  · subst hk0
    go_wp2_with fail
    have hS5 := hS.via (w' := w4.alloc (.cells #[.int .i64 (-1), .int .i64 x.length, .int .i64 ((x.length : Int) + 1)] 3)) (by simp)
    refine (l1Int_w l g [-1, (x.length : Int), (x.length : Int) + 1] _ _ _ hS5.cur (OwnS.ints _ _ _ _ _ _ rfl rfl (by simp [maxLen]) rfl (by simp [In64]; omega)) (by have := hS.cur.lt; simp; omega) (by simp)).mono ?_
    rintro e w5 ⟨s, rfl, hs, hd5⟩
    have hs2 : In64 s := by simp at hs; unfold In64; omega
    replace hS := hS5.call hd5
    clear hS5 hd5 z zr q0 q1 r0 r1 hs hd
    have z := hS.z
    have zr := hS.zr
    have q0 := hS.c0
    have q1 := hS.c1
    have r0 := hS.r0
    have r1 := hS.r1
    have hD := Lib.hid ((hS.setN s).done (.slice a x.length c) (.int .i64 s))
    have hne : w2.heap.size ≠ w.heap.size := by obtain ⟨fp, h1, h2, h3, h4, h5, h6, h7, h8, h9⟩ := hS; exact fun e => h8 e.symm
    go_wp2
    refine ret_mk (.agg #[.slice a x.length c, .int .i64 s]) (by simp [results, Try.results67, go_sem, *]) rfl ⟨x, s, a, c, rfl, by omega, hs2, hD.out⟩
  by_cases hk1 : k = 1
  · subst hk1
    go_wp2_with fail
    refine (l1Below_w l g 4 _ hS.cur ⟨by omega, by omega⟩).mono ?_
    rintro e w5 ⟨s, rfl, hs, hd5⟩
    replace hS := hS.call hd5
    clear hd5 z zr q0 q1 r0 r1 hd
    have z := hS.z
    have zr := hS.zr
    have q0 := hS.c0
    have q1 := hS.c1
    have r0 := hS.r0
    have r1 := hS.r1
    have hmk := make_bytes (19998 + s) (19998 + s) (by simp) (by omega)
    have hD := Lib.hid ((hS.setB (w' := w5.alloc (.cells (madeCells #[.int .u8 0] (19998 + s)) 5)) (by simp) (OwnS.zeros w5 5 (19998 + s) (by simp [maxLen]; omega)) (by simp [Fr])).done (.slice (some ⟨w5.heap.size, 0, none⟩) (19998 + s) (19998 + s)) (.int .i64 m))
    have hne : w2.heap.size ≠ w.heap.size := by obtain ⟨fp, h1, h2, h3, h4, h5, h6, h7, h8, h9⟩ := hS; exact fun e => h8 e.symm
    obtain ⟨b1, b2⟩ : w.heap.size < w5.heap.size ∧ w2.heap.size < w5.heap.size := by obtain ⟨fp, h1, h2, h3, h4, h5, h6, h7, h8, h9, h10, h11⟩ := hS; exact ⟨h10.lt, h11.lt⟩
    go_wp2
    refine ret_mk (.agg #[.slice (some ⟨w5.heap.size, 0, none⟩) (19998 + s) (19998 + s), .int .i64 m]) (by simp [results, Try.results67, go_sem, *]) rfl ⟨List.replicate (19998 + s) 0, m, some ⟨w5.heap.size, 0, none⟩, 19998 + s, by simp, by simp; omega, ⟨by omega, by omega⟩, by simpa [go_sem, b1, b2] using hD.out⟩
  have hD := Lib.hid (hS.done (.slice a x.length c) (.int .i64 m))
  go_wp2
  refine ret_mk (.agg #[.slice a x.length c, .int .i64 m]) (by simp [results, Try.results67, go_sem, *]) rfl ⟨x, m, a, c, rfl, by omega, ⟨by omega, by omega⟩, hD.out⟩

def RetFall (w : World) (e : Ending) (w' : World) : Prop :=
  ∃ x n k a c, e = .returned (.tuple #[.agg #[.slice a x.length c, .int .i64 n], .int .i64 k]) ∧ x.length ≤ 20001 ∧ In64 n ∧ In64 k ∧ Hid (a = none ∨ ∃ g, a = some ⟨g, 0, none⟩) ∧ Sl (α := UInt8) w' x (.slice a x.length c) ∧ Below w.heap.size w w'
def RetApp (w : World) (e : Ending) (w' : World) : Prop :=
  ∃ x n y a c b d, e = .returned (.tuple #[.agg #[.slice a x.length c, .int .i64 n], .slice b y.length d]) ∧ x.length ≤ 20001 ∧ y.length ≤ 9 ∧ In64 n ∧ Sl (α := UInt8) w' x (.slice a x.length c) ∧ Sl (α := UInt8) w' y (.slice b y.length d) ∧ Below w.heap.size w w'

theorem Grow.slSet {α : Type} [Cel α] {g : Nat} {l : List UInt8} {w1 w : World} {x : List α} {v : Value} (h : Grow g l w1 x v w) {R : Nat} (hR : R < w1.heap.size) (u1 u2 : Value) : Sl ((w.setCell ⟨R, 0, none⟩ u1).setCell ⟨R, 1, none⟩ u2) x v := by
  obtain ⟨fp, h1, h2, h3, h4⟩ := h
  have k : Chg [R] w ((w.setCell ⟨R, 0, none⟩ u1).setCell ⟨R, 1, none⟩ u2) := (Chg.refl [R] w).setCells (by simp) 0 [u1, u2]
  exact (h1.chg k fun b hb e => by obtain rfl := List.mem_singleton.1 e; have := h2.2 _ hb; omega).sl
set_option maxRecDepth 20000 in
theorem drawFall_w (l : List UInt8) (v : Value) (w : World) (h : Sl w l v) (hl : l.length ≤ 1099511627776) :
    Calls Try.prog 35 #[v] w (RetFall w) := by
  obtain ⟨a, c, rfl, hl2, -⟩ := h.open
  go_enter Try.func35, Try.ntmps35
  go_wp2_with fail
  refine (l1New_w l _ _ (h.to (by simp)) hl).mono ?_
  rintro e w1 ⟨g, rfl, hc, hg, hb1⟩
  simp at hg
  have r1 : Bx w1 w.heap.size [.slice none 0 0, .int .i64 0] := (bx_new w [.slice none 0 0, .int .i64 0] 27 rfl).via hb1
  have B1 : Below w.heap.size w w1 := via (by simp) hb1
  go_wp2_with fail
  refine (l25Any_w l g _ hc).mono ?_
  rintro e w2 ⟨x, n, a2, c2, rfl, hx, hn, hG⟩
  have r2 := r1.chg hG.drew.2 (by simp; omega)
  have B2 : Below w.heap.size w w2 := hG.drew.2.below B1 (by simp; omega) B1.size
  go_wp2_with fail
  have hG2 := hG.via (w1 := w2.alloc (.cells #[.int .i64 0, .int .i64 1, .int .i64 3, .int .i64 100, .int .i64 (-1), .int .i64 9223372036854775807] 3)) (by simp)
  refine (l1Int_w l g [0, 1, 3, 100, -1, 9223372036854775807] _ _ _ hG2.drew.1 (OwnS.ints _ _ _ _ _ _ rfl rfl (by simp [maxLen]) rfl (by simp [In64])) (by have := hG.drew.1.lt; simp; omega) (by simp)).mono ?_
  rintro e w3 ⟨k, rfl, hk, hd⟩
  have hk2 : In64 k := by simp at hk; unfold In64; omega
  have r3 := (bx_alloc r2 (.cells #[.int .i64 0, .int .i64 1, .int .i64 3, .int .i64 100, .int .i64 (-1), .int .i64 9223372036854775807] 3)).chg hd.2 (by simp; omega)
  have hG3 := hG2.call hd
  have B3 : Below w.heap.size w w3 := hG3.drew.2.below B1 (by simp; omega) B1.size
  clear hk hd hG2 hG r2
  have z := r3.z
  have q0 := r3.c 0 _ rfl
  have q1 := r3.c 1 _ rfl
  have hw1 := r1.lt
  have hD := Lib.hid (hG3.slSet hw1 (.slice a2 x.length c2) (.int .i64 n))
  have hadr : Hid (a2 = none ∨ ∃ g, a2 = some ⟨g, 0, none⟩) := by obtain ⟨fp, h1, _⟩ := hG3; exact h1.addr
  go_wp2
  refine ret_mk (.tuple #[.agg #[.slice a2 x.length c2, .int .i64 n], .int .i64 k]) (by simp [results, Try.results35, go_sem, *]) rfl ⟨x, n, k, a2, c2, rfl, hx, hn, hk2, hadr, hD.out, by simp (maxDischargeDepth := 9) [B3]⟩

set_option maxRecDepth 20000 in
theorem drawApp_w (l : List UInt8) (v : Value) (w : World) (h : Sl w l v) (hl : l.length ≤ 1099511627776) :
    Calls Try.prog 36 #[v] w (RetApp w) := by
  obtain ⟨a, c, rfl, hl2, -⟩ := h.open
  go_enter Try.func36, Try.ntmps36
  go_wp2_with fail
  refine (l1New_w l _ _ (h.to (by simp)) hl).mono ?_
  rintro e w1 ⟨g, rfl, hc, hg, hb1⟩
  simp at hg
  have r1 : Bx w1 w.heap.size [.slice none 0 0, .int .i64 0] := (bx_new w [.slice none 0 0, .int .i64 0] 27 rfl).via hb1
  have B1 : Below w.heap.size w w1 := via (by simp) hb1
  go_wp2_with fail
  refine (l25Any_w l g _ hc).mono ?_
  rintro e w2 ⟨x, n, a2, c2, rfl, hx, hn, hG⟩
  have r2 := r1.chg hG.drew.2 (by simp; omega)
  have B2 : Below w.heap.size w w2 := hG.drew.2.below B1 (by simp; omega) B1.size
  go_wp2_with fail
  refine (l1Some_w l g _ hG.drew.1).mono ?_
  rintro e w3 ⟨y, a3, c3, rfl, hy, hG4⟩
  have r3 := r2.chg hG4.drew.2 (by simp; omega)
  have hG3 := hG.call hG4.drew
  have B3 : Below w.heap.size w w3 := hG3.drew.2.below B1 (by simp; omega) B1.size
  have hw2 := r2.lt
  clear hG r2
  have z := r3.z
  have q0 := r3.c 0 _ rfl
  have q1 := r3.c 1 _ rfl
  have hw1 := r1.lt
  have hD := Lib.hid (hG3.slSet hw1 (.slice a2 x.length c2) (.int .i64 n))
  have hD2 := Lib.hid (hG4.slSet hw2 (.slice a2 x.length c2) (.int .i64 n))
  go_wp2
  refine ret_mk (.tuple #[.agg #[.slice a2 x.length c2, .int .i64 n], .slice a3 y.length c3]) (by simp [results, Try.results36, go_sem, *]) rfl ⟨x, n, y, a2, c2, a3, c3, rfl, hx, hy, hn, hD.out, hD2.out, by simp (maxDischargeDepth := 9) [B3]⟩
end Go.Proofs.Ytojlnmenfikhbaa
