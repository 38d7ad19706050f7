/- Drawn frames. -/
import Derived.Test.YtojlnmenfikhbaaDrawF
namespace Go.Proofs.Ytojlnmenfikhbaa
open Go.RowKit
open Cel (rd own rd_len rd_one own_rd own_lt rd_below rd_mono own_keep)

theorem Grow.sl {α : Type} [Cel α] {g : Nat} {l : List UInt8} {w0 w : World} {x : List α} {v : Value} (h : Grow g l w0 x v w) : Sl w x v := by obtain ⟨_, h, _⟩ := h; exact h.sl

theorem l1At_w (l : List UInt8) (g : Nat) (b : List UInt8) (v : Value) (w : World) (hc : Cur w g l) (h : Sl w b v) (hb : b.length ≤ 1099511627776) :
    Calls Try.prog 81 #[.pointer (some ⟨g, 0, none⟩), v] w fun e w' => ∃ x : Int, e = .returned (.int .i64 x) ∧ In64 x ∧ Drew g l w w' := by
  obtain ⟨a, c, rfl, hl, -⟩ := h.open
  have hg := hc.lt
  go_enter Try.func81, Try.ntmps81
  go_wp2_with fail
  refine (l1Below_w l g _ _ hc ⟨by omega, by omega⟩).mono ?_
  rintro e w1 ⟨x, rfl, hx, hd⟩
  go_wp2_with fail
  have d1 := hd.via (w2 := w1.alloc (.cells #[.int .i64 0, .int .i64 0, .int .i64 0, .int .i64 b.length, .int .i64 x, .int .i64 (-1), .int .i64 9223372036854775807] 3)) (by simp)
  refine (l1Int_w l g [0, 0, 0, (b.length : Int), (x : Int), -1, 9223372036854775807] _ _ _ d1.1 (OwnS.ints _ _ _ _ _ _ rfl rfl (by simp [maxLen]) rfl (by simp [In64]; omega)) (by have := hd.2.size; simp; omega) (by simp)).mono ?_
  rintro e w2 ⟨y, rfl, hy, hd2⟩
  go_wp2
  go_ret
  exact ⟨y, rfl, by simp at hy; unfold In64; omega, d1.trans hd2⟩

def RetPF (w : World) (e : Ending) (w' : World) : Prop :=
  ∃ b f a c a2 c2, e = .returned (.tuple #[.slice a b.length c, .slice a2 f.length c2]) ∧ b.length ≤ 9 ∧ f.length ≤ 4001 ∧ Sl (α := UInt8) w' b (.slice a b.length c) ∧ Sl (α := UInt8) w' f (.slice a2 f.length c2) ∧ Below w.heap.size w w'

theorem drawPut_w (l : List UInt8) (v : Value) (w : World) (h : Sl w l v) (hl : l.length ≤ 1099511627776) :
    Calls Try.prog 54 #[v] w (RetPF w) := by
  obtain ⟨a, c, rfl, hl2, -⟩ := h.open
  go_enter Try.func54, Try.ntmps54
  go_wp2_with fail
  refine (l1New_w l _ _ h hl).mono ?_
  rintro e w1 ⟨g, rfl, hc, hg, hb1⟩
  go_wp2_with fail
  refine (l1Some_w l g _ hc).mono ?_
  rintro e w2 ⟨f, a2, c2, rfl, hf, hG⟩
  go_wp2_with fail
  refine (l1Once_w l g 30 _ hG.drew.1 ⟨by omega, by omega⟩).mono ?_
  rintro e w3 ⟨b, rfl, hd⟩
  replace hG := hG.call hd
  cases b with
  | false =>
    go_wp2_with fail
    refine (l1Some_w l g _ hG.drew.1).mono ?_
    rintro e w4 ⟨y, a4, c4, rfl, hy, hG4⟩
    have hG5 := hG.call hG4.drew
    have s1 := hG4.sl
    have s2 := hG5.sl
    go_wp2
    refine ret_mk (.tuple #[.slice a4 y.length c4, .slice a2 f.length c2]) (by simp [results, Try.results54, go_sem, *]) rfl ⟨y, f, a4, c4, a2, c2, rfl, hy, by omega, s1, s2, hG5.drew.2.below hb1 (by simp; omega) hb1.size⟩
  | true =>
    go_wp2_with fail
    refine (l1Below_w l g 2 _ hG.drew.1 ⟨by omega, by omega⟩).mono ?_
    rintro e w4 ⟨s, rfl, hs, hd4⟩
    replace hG := hG.call hd4
    have hmk := make_bytes (4000 + s) (4000 + s) (by simp) (by omega)
    have hG2 : Grow (α := UInt8) g l w1 (List.replicate (4000 + s) 0) (.slice (some ⟨w4.heap.size, 0, none⟩) (4000 + s) (4000 + s)) (w4.alloc (.cells (madeCells #[.int .u8 0] (4000 + s)) 5)) :=
      ⟨_, OwnS.zeros w4 _ _ (by simp [maxLen]; omega), ⟨by simp, by simpa using hG.drew.2.size⟩, hc.lt, hG.drew.via (by simp)⟩
    clear hG
    go_wp2_with fail
    refine (l1Some_w l g _ hG2.drew.1).mono ?_
    rintro e w5 ⟨y, a5, c5, rfl, hy, hG5⟩
    have hG6 := hG2.call hG5.drew
    have s1 := hG5.sl
    have s2 := hG6.sl
    go_wp2
    refine ret_mk (.tuple #[.slice a5 y.length c5, .slice (some ⟨w4.heap.size, 0, none⟩) (4000 + s) (4000 + s)]) (by simp [results, Try.results54, go_sem, *]) rfl ⟨y, List.replicate (4000 + s) 0, a5, c5, some ⟨w4.heap.size, 0, none⟩, 4000 + s, by simp, hy, by simp; omega, s1, by simpa using s2, hG6.drew.2.below hb1 (by simp; omega) hb1.size⟩

/-- What an own row of bytes holds at a place; a byte of it turned. -/
theorem Grow.cell {g : Nat} {l : List UInt8} {w0 w : World} {b : List UInt8} {r n c : Nat} (h : Grow g l w0 b (.slice (some ⟨r, 0, none⟩) n c) w) (x : Nat) (hx : x < b.length) :
    w.cell? ⟨r, x, none⟩ = some (.int .u8 (b[x]).toNat) ∧ ∀ o, w.frozen? ⟨r, o, none⟩ = false := by
  obtain ⟨fp, h1, h2, _⟩ := h
  obtain ⟨_, hlt, hz, _⟩ := h1.spare
  obtain ⟨vs, f, k1, k2, _⟩ := h1.upd h2.1 x hx
  obtain ⟨rfl, rfl⟩ := k1
  exact ⟨by simpa [Cel.k] using k2 0 (by decide), hz⟩
theorem OwnS.turn {w : World} {b : List UInt8} {r n c : Nat} {fp : List Nat} (h : OwnS w b (.slice (some ⟨r, 0, none⟩) n c) fp) (hn : fp.Nodup) (x : Nat) (hx : x < b.length) (u : UInt8) :
    OwnS (w.setCell ⟨r, x, none⟩ (.int .u8 u.toNat)) (b.set x u) (.slice (some ⟨r, 0, none⟩) n c) fp := by
  obtain ⟨vs, f, k1, k2, k3, k4, k5, k6, k7⟩ := h.upd hn x hx
  obtain ⟨rfl, rfl⟩ := k1
  refine k7 _ [.int .u8 u.toNat] u ⟨rfl, rfl⟩ (by simp [setCells, Cel.k]) fun b' hb hne _ => Below.heap_setCell _ _ _ _ hne
theorem Grow.turn {g : Nat} {l : List UInt8} {w0 w : World} {b : List UInt8} {r n c : Nat} (h : Grow g l w0 b (.slice (some ⟨r, 0, none⟩) n c) w) (x : Nat) (hx : x < b.length) (u : UInt8) :
    Grow g l w0 (b.set x u) (.slice (some ⟨r, 0, none⟩) n c) (w.setCell ⟨r, x, none⟩ (.int .u8 u.toNat)) := by
  obtain ⟨fp, h1, h2, h3, h4⟩ := h
  obtain ⟨vs, f, k1, k2, k3, k4, k5, k6, k7⟩ := h1.upd h2.1 x hx
  have hr := h2.2 _ k6
  have k : Chg [r] w (w.setCell ⟨r, x, none⟩ (.int .u8 u.toNat)) := (Chg.refl [r] w).setCells (by simp) x [.int .u8 u.toNat]
  refine ⟨fp, h1.turn h2.1 x hx u, h2, h3, h4.1.chg k (by simp; omega), ?_⟩
  exact ⟨k.os.trans h4.2.os, k.tape.trans h4.2.tape, k.output.trans h4.2.output, Nat.le_trans h4.2.size k.size, fun b' hb hn' => (k.block b' (Nat.lt_of_lt_of_le hb h4.2.size) (by simp; omega)).trans (h4.2.block b' hb hn')⟩
theorem Grow.takeF {g : Nat} {l : List UInt8} {w0 w : World} {b : List UInt8} {a : Option Addr} {n c : Nat} (h : Grow g l w0 b (.slice a n c) w) (m : Nat) (hm : m ≤ b.length) : Grow g l w0 (b.take m) (.slice a m c) w := by
  obtain ⟨fp, h1, h2, h3, h4⟩ := h
  obtain ⟨_, _, e, _, _, h5, _⟩ := h1.sl.open
  cases e
  exact ⟨fp, h1.takeF m c hm (by omega) (Nat.le_refl _), h2, h3, h4⟩
theorem Grow.addr {α : Type} [Cel α] {g : Nat} {l : List UInt8} {w0 w : World} {x : List α} {a : Option Addr} {n c : Nat} (h : Grow g l w0 x (.slice a n c) w) : Hid (a = none ∨ ∃ g, a = some ⟨g, 0, none⟩) := by obtain ⟨_, h, _⟩ := h; exact h.addr

theorem xorU8 (a b : Int) : ∃ u : UInt8, bits .xor .u8 a b = (u.toNat : Int) := by
  suffices h : 0 ≤ bits .xor .u8 a b ∧ bits .xor .u8 a b < 256 by
    refine ⟨UInt8.ofNat (bits .xor .u8 a b).toNat, ?_⟩
    rw [UInt8.toNat_ofNat']; omega
  show 0 ≤ IntKind.u8.wrap _ ∧ IntKind.u8.wrap _ < 256
  rw [IntKind.wrap_u8]; omega

def RetGF (w : World) (e : Ending) (w' : World) : Prop :=
  ∃ b i a c, e = .returned (.tuple #[.slice a b.length c, .int .i64 i]) ∧ b.length ≤ 20 ∧ In64 i ∧ Hid (a = none ∨ ∃ g, a = some ⟨g, 0, none⟩) ∧ Sl (α := UInt8) w' b (.slice a b.length c) ∧ Below w.heap.size w w'

set_option maxHeartbeats 4000000 in
set_option maxRecDepth 20000 in
theorem drawGet_w (l : List UInt8) (v : Value) (w : World) (h : Sl w l v) (hl : l.length ≤ 1099511627776) :
    Calls Try.prog 55 #[v] w (RetGF w) := by
  obtain ⟨a, c, rfl, hl2, -⟩ := h.open
  go_enter Try.func55, Try.ntmps55
  go_wp2_with fail
  refine (l1New_w l _ _ h hl).mono ?_
  rintro e w1 ⟨g, rfl, hc, hg, hb1⟩
  go_wp2_with fail
  have c1 : Cur (w1.alloc (.cells #[] 5)) g l := hc.via (by simp)
  refine (l1Some_w l g _ c1).mono ?_
  rintro e w2 ⟨f, a2, c2, rfl, hf, hG⟩
  have d2 : Drew g l w1 w2 := ((Drew.refl hc).via (by simp)).trans hG.drew
  have sn : Sl w2 ([] : List UInt8) (.slice (some ⟨w1.heap.size, 0, none⟩) 0 0) := by
    have h0 : OwnS (α := UInt8) (w1.alloc (.cells #[] 5)) [] (.slice (some ⟨w1.heap.size, 0, none⟩) 0 0) [w1.heap.size] := OwnS.made w1 _ _ 0 (by simp [maxLen]) (by simp)
    exact (h0.chg hG.drew.2 (by have := hc.lt; simp; omega)).sl
  have sf := hG.sl
  go_wp2_with fail
  refine (specPutFrame_w [] f _ _ _ sn sf (by simp) (by omega)).mono ?_
  rintro e w3 ⟨a3, c3, f3, rfl, o3, hf3, hb3⟩
  have hl3 : (frameB [] f).length ≤ 20 := by have := numB_len f.length; rw [frameB_one _ _ (by omega)]; simp [frB1, crc4]; omega
  have hl4 : 0 < (frameB [] f).length := by rw [frameB_one _ _ (by omega)]; have := frB1_len f; simp; omega
  have hG3 : Grow (α := UInt8) g l w1 (frameB [] f) (.slice a3 (frameB [] f).length c3) w3 := ⟨f3, o3, ⟨hf3.1, fun b hb => Nat.le_trans d2.2.size (hf3.2 b hb)⟩, hc.lt, d2.via hb3⟩
  generalize frameB [] f = B at *
  clear hG sn sf o3 hf3 hb3 c1
  go_wp2_with fail
  refine (l1Below_w l g 4 _ hG3.drew.1 ⟨by omega, by omega⟩).mono ?_
  rintro e w4 ⟨k, rfl, hk, hd⟩
  replace hG3 := hG3.call hd
  clear hd
  by_cases hk0 : k = 0
  · subst hk0
    obtain ⟨r, rfl⟩ : ∃ r, a3 = some ⟨r, 0, none⟩ := by
      rcases hG3.addr.out with rfl | h
      · obtain ⟨_, _, e, _, _, h, h'⟩ := hG3.sl.open; cases e; have := h' rfl; omega
      · exact h
    have hGd : Grow (α := UInt8) g l w1 B (.slice (some ⟨r, 0, none⟩) B.length c3) w4.drew := hG3.via (by simp)
    go_wp2
    --BEGIN5
    refine wp_region_noPanic ?_
    refine wp_region_held_drew (S := (fun _ => True)) (by kernel_rfl) ?_ (fun hHeld0 => ?_)
    · trivial
    refine' wpAnyH_take (i := 0) (oi := _) (v := _) ?hi41_0 (by kernel_rfl) (by kernel_rfl) (by kernel_rfl) (fun _ _ _ h => (h : False).elim) ?hy41_0 (by assumption) ?rest41_0
    case hi41_0 => simp only [List.getElem?_toArray, List.getElem?_cons_zero]; exact rfl
    case hy41_0 =>
      refine Or.inl ⟨by rfl, ?_⟩
      intro w hSw
      (try dsimp only at hSw)
      go_simp
      (try with_reducible rfl)
    simp only [Act.put, List.setIfInBounds_toArray, List.set_cons_zero, List.set_cons_succ]
    refine' wpAnyH_take (i := 1) (oi := _) (v := _) ?hi41_1 (by kernel_rfl) (by kernel_rfl) (by kernel_rfl) (fun _ _ _ h => (h : False).elim) ?hy41_1 (by assumption) ?rest41_1
    case hi41_1 => simp only [List.getElem?_toArray, List.getElem?_cons_succ, List.getElem?_cons_zero]; exact rfl
    case hy41_1 =>
      refine Or.inl ⟨by rfl, ?_⟩
      intro w hSw
      (try dsimp only at hSw)
      go_simp
      (try with_reducible rfl)
    simp only [Act.put, List.setIfInBounds_toArray, List.set_cons_zero, List.set_cons_succ]
    refine' wpAnyH_take (i := 2) (oi := _) (v := _) ?hi41_2 (by kernel_rfl) (by kernel_rfl) (by kernel_rfl) (fun _ _ _ h => (h : False).elim) ?hy41_2 (by assumption) ?rest41_2
    case hi41_2 => simp only [List.getElem?_toArray, List.getElem?_cons_succ, List.getElem?_cons_zero]; exact rfl
    case hy41_2 =>
      refine Or.inl ⟨by rfl, ?_⟩
      intro w hSw
      (try dsimp only at hSw)
      go_simp
      (try with_reducible rfl)
    simp only [Act.put, List.setIfInBounds_toArray, List.set_cons_zero, List.set_cons_succ]
    refine' wpAnyH_take (i := 3) (oi := _) (v := _) ?hi41_3 (by kernel_rfl) (by kernel_rfl) (by kernel_rfl) (fun _ _ _ h => (h : False).elim) ?hy41_3 (by assumption) ?rest41_3
    case hi41_3 => simp only [List.getElem?_toArray, List.getElem?_cons_succ, List.getElem?_cons_zero]; exact rfl
    case hy41_3 =>
      refine Or.inl ⟨by rfl, ?_⟩
      intro w hSw
      (try dsimp only at hSw)
      go_simp
      (try with_reducible rfl)
    simp only [Act.put, List.setIfInBounds_toArray, List.set_cons_zero, List.set_cons_succ]
    refine' wpAnyH_take (i := 7) (oi := _) (v := _) ?hi41_7 (by kernel_rfl) (by kernel_rfl) (by kernel_rfl) (fun _ _ _ h => (h : False).elim) ?hy41_7 (by assumption) ?rest41_7
    case hi41_7 => simp only [List.getElem?_toArray, List.getElem?_cons_succ, List.getElem?_cons_zero]; exact rfl
    case hy41_7 =>
      refine Or.inl ⟨by rfl, ?_⟩
      intro w hSw
      (try dsimp only at hSw)
      go_simp
      (try with_reducible rfl)
    simp only [Act.put, List.setIfInBounds_toArray, List.set_cons_zero, List.set_cons_succ]
    refine wpAnyH_ready (rs := [4]) (by kernel_rfl) (by simp) ?_
    refine' AllReadyH.cons (o := _) ?hi41_4 (fun K hK => ?_) AllReadyH.nil
    case hi41_4 => simp only [List.getElem?_toArray, List.getElem?_cons_succ, List.getElem?_cons_zero]; exact rfl
    go_simp
    go_at_call 73
    refine (l1Below_w l g B.length _ hGd.drew.1 ⟨by omega, by omega⟩).mono ?_
    rintro e u1 ⟨x, rfl, hx, hdx⟩
    have hx2 : x < B.length := by omega
    replace hGd := hGd.call hdx
    obtain ⟨q1, q2⟩ := hGd.cell x hx2
    clear hx
    go_wp2_with fail
    refine hK.out _ _ ?_ (fun hHeld4 => ?_)
    · trivial
    clear hK K hHeld0
    refine' wpAnyH_take (i := 5) (oi := _) (v := _) ?hi41_5 (by kernel_rfl) (by kernel_rfl) (by kernel_rfl) (fun _ _ _ h => (h : False).elim) ?hy41_5 (by assumption) ?rest41_5
    case hi41_5 => simp only [List.getElem?_toArray, List.getElem?_cons_succ, List.getElem?_cons_zero]; exact rfl
    case hy41_5 =>
      refine Or.inl ⟨by rfl, ?_⟩
      intro w hSw
      (try dsimp only at hSw)
      go_simp
      (try with_reducible rfl)
    simp only [Act.put, List.setIfInBounds_toArray, List.set_cons_zero, List.set_cons_succ]
    refine wpAnyH_ready (rs := [6, 8]) (by kernel_rfl) (by simp) ?_
    refine' AllReadyH.cons (o := _) ?hi41_6 (fun K hK => ?st41_6) (AllReadyH.cons (o := _) ?hi41_8 (fun K hK => ?st41_8) AllReadyH.nil)
    case hi41_6 => simp only [List.getElem?_toArray, List.getElem?_cons_succ, List.getElem?_cons_zero]; exact rfl
    case hi41_8 => simp only [List.getElem?_toArray, List.getElem?_cons_succ, List.getElem?_cons_zero]; exact rfl
    case st41_6 =>
      go_simp
      refine hK.out _ _ ?_ (fun hHeld6 => ?_)
      · trivial
      clear hK K hHeld4
      refine wpAnyH_ready (rs := [8]) (by kernel_rfl) (by simp) ?_
      refine' AllReadyH.cons (o := _) ?hi41_8 (fun K hK => ?_) AllReadyH.nil
      case hi41_8 => simp only [List.getElem?_toArray, List.getElem?_cons_succ, List.getElem?_cons_zero]; exact rfl
      go_simp
      go_at_call 73
      refine (l1Below_w l g 8 _ hGd.drew.1 ⟨by omega, by omega⟩).mono ?_
      rintro e u2 ⟨z, rfl, hz, hdz⟩
      have hz2 : z < 8 := by omega
      replace hGd := hGd.call hdz
      replace q1 := (hGd.cell x hx2).1
      replace q2 := (hGd.cell x hx2).2
      clear hz
      go_wp2_with fail
      refine hK.out _ _ ?_ (fun hHeld8 => ?_)
      · trivial
      clear hK K hHeld6
      refine' wpAnyH_take (i := 9) (oi := _) (v := _) ?hi41_9 (by kernel_rfl) (by kernel_rfl) (by kernel_rfl) (fun _ _ _ h => (h : False).elim) ?hy41_9 (by assumption) ?rest41_9
      case hi41_9 => simp only [List.getElem?_toArray, List.getElem?_cons_succ, List.getElem?_cons_zero]; exact rfl
      case hy41_9 =>
        refine Or.inl ⟨by rfl, ?_⟩
        intro w hSw
        (try dsimp only at hSw)
        go_simp
        (try with_reducible rfl)
      simp only [Act.put, List.setIfInBounds_toArray, List.set_cons_zero, List.set_cons_succ]
      refine' wpAnyH_take (i := 10) (oi := _) (v := _) ?hi41_10 (by kernel_rfl) (by kernel_rfl) (by kernel_rfl) (fun _ _ _ h => (h : False).elim) ?hy41_10 (by assumption) ?rest41_10
      case hi41_10 => simp only [List.getElem?_toArray, List.getElem?_cons_succ, List.getElem?_cons_zero]; exact rfl
      case hy41_10 =>
        refine Or.inl ⟨by rfl, ?_⟩
        intro w hSw
        (try dsimp only at hSw)
        go_simp
        (try with_reducible rfl)
      simp only [Act.put, List.setIfInBounds_toArray, List.set_cons_zero, List.set_cons_succ]
      refine' wpAnyH_take (i := 11) (oi := _) (v := _) ?hi41_11 (by kernel_rfl) (by kernel_rfl) (by kernel_rfl) (fun _ _ _ h => (h : False).elim) ?hy41_11 (by assumption) ?rest41_11
      case hi41_11 => simp only [List.getElem?_toArray, List.getElem?_cons_succ, List.getElem?_cons_zero]; exact rfl
      case hy41_11 =>
        refine Or.inl ⟨by rfl, ?_⟩
        intro w hSw
        (try dsimp only at hSw)
        go_simp
        (try with_reducible rfl)
      simp only [Act.put, List.setIfInBounds_toArray, List.set_cons_zero, List.set_cons_succ]
      refine' wpAnyH_take (i := 12) (oi := _) (v := _) ?hi41_12 (by kernel_rfl) (by kernel_rfl) (by kernel_rfl) (fun _ _ _ h => (h : False).elim) ?hy41_12 (by assumption) ?rest41_12
      case hi41_12 => simp only [List.getElem?_toArray, List.getElem?_cons_succ, List.getElem?_cons_zero]; exact rfl
      case hy41_12 =>
        refine Or.inl ⟨by rfl, ?_⟩
        intro w hSw
        (try dsimp only at hSw)
        go_simp
        (try with_reducible rfl)
      simp only [Act.put, List.setIfInBounds_toArray, List.set_cons_zero, List.set_cons_succ]
      refine wpAnyH_ready (rs := [13]) (by kernel_rfl) (by simp) ?_
      refine' AllReadyH.cons (o := _) ?hi41_13 (fun K hK => ?_) AllReadyH.nil
      case hi41_13 => simp only [List.getElem?_toArray, List.getElem?_cons_succ, List.getElem?_cons_zero]; exact rfl
      go_simp
      refine hK.out _ _ ?_ (fun hHeld13 => ?_)
      · trivial
      clear hK K hHeld8
      refine wpAnyH_done (by kernel_rfl) ?_ _
      clear hHeld13
      refine NoPanic.normal ?_
      obtain ⟨u, hu⟩ := xorU8 ((B[x]).toNat : Int) (IntKind.u8.wrap (2 ^ min (IntKind.u64.wrap (z : Int)).toNat 8))
      rw [hu]
      replace hGd := hGd.turn x hx2 u
      clear q1 q2
      generalize u2.setCell ⟨r, x, none⟩ (.int .u8 (u.toNat : Int)) = u3 at *
      have hlB : (B.set x u).length = B.length := by simp
      go_wp2_with fail
      refine (l1At_w l g (B.set x u) (.slice (some ⟨r, 0, none⟩) B.length c3) _ hGd.drew.1 hGd.sl (by omega)).mono ?_
      rintro e u4 ⟨i, rfl, hi, hd4⟩
      replace hGd := hGd.call hd4
      go_wp2
      refine ret_mk (.tuple #[.slice (some ⟨r, 0, none⟩) B.length c3, .int .i64 i]) (by simp [results, Try.results55, go_sem, *]) rfl ⟨B.set x u, i, _, c3, by rw [hlB], by omega, hi, hGd.addr, by rw [hlB]; exact hGd.sl, hGd.drew.2.below hb1 (by simp; omega) hb1.size⟩
    case st41_8 =>
      go_simp
      go_at_call 73
      refine (l1Below_w l g 8 _ hGd.drew.1 ⟨by omega, by omega⟩).mono ?_
      rintro e u2 ⟨z, rfl, hz, hdz⟩
      have hz2 : z < 8 := by omega
      replace hGd := hGd.call hdz
      replace q1 := (hGd.cell x hx2).1
      replace q2 := (hGd.cell x hx2).2
      clear hz
      go_wp2_with fail
      refine hK.out _ _ ?_ (fun hHeld8 => ?_)
      · trivial
      clear hK K hHeld4
      refine' wpAnyH_take (i := 9) (oi := _) (v := _) ?hi41B_9 (by kernel_rfl) (by kernel_rfl) (by kernel_rfl) (fun _ _ _ h => (h : False).elim) ?hy41B_9 (by assumption) ?rest41B_9
      case hi41B_9 => simp only [List.getElem?_toArray, List.getElem?_cons_succ, List.getElem?_cons_zero]; exact rfl
      case hy41B_9 =>
        refine Or.inl ⟨by rfl, ?_⟩
        intro w hSw
        (try dsimp only at hSw)
        go_simp
        (try with_reducible rfl)
      simp only [Act.put, List.setIfInBounds_toArray, List.set_cons_zero, List.set_cons_succ]
      refine' wpAnyH_take (i := 10) (oi := _) (v := _) ?hi41B_10 (by kernel_rfl) (by kernel_rfl) (by kernel_rfl) (fun _ _ _ h => (h : False).elim) ?hy41B_10 (by assumption) ?rest41B_10
      case hi41B_10 => simp only [List.getElem?_toArray, List.getElem?_cons_succ, List.getElem?_cons_zero]; exact rfl
      case hy41B_10 =>
        refine Or.inl ⟨by rfl, ?_⟩
        intro w hSw
        (try dsimp only at hSw)
        go_simp
        (try with_reducible rfl)
      simp only [Act.put, List.setIfInBounds_toArray, List.set_cons_zero, List.set_cons_succ]
      refine wpAnyH_ready (rs := [6]) (by kernel_rfl) (by simp) ?_
      refine' AllReadyH.cons (o := _) ?hi41B_6 (fun K hK => ?_) AllReadyH.nil
      case hi41B_6 => simp only [List.getElem?_toArray, List.getElem?_cons_succ, List.getElem?_cons_zero]; exact rfl
      go_simp
      refine hK.out _ _ ?_ (fun hHeld6 => ?_)
      · trivial
      clear hK K hHeld8
      refine' wpAnyH_take (i := 11) (oi := _) (v := _) ?hi41B_11 (by kernel_rfl) (by kernel_rfl) (by kernel_rfl) (fun _ _ _ h => (h : False).elim) ?hy41B_11 (by assumption) ?rest41B_11
      case hi41B_11 => simp only [List.getElem?_toArray, List.getElem?_cons_succ, List.getElem?_cons_zero]; exact rfl
      case hy41B_11 =>
        refine Or.inl ⟨by rfl, ?_⟩
        intro w hSw
        (try dsimp only at hSw)
        go_simp
        (try with_reducible rfl)
      simp only [Act.put, List.setIfInBounds_toArray, List.set_cons_zero, List.set_cons_succ]
      refine' wpAnyH_take (i := 12) (oi := _) (v := _) ?hi41B_12 (by kernel_rfl) (by kernel_rfl) (by kernel_rfl) (fun _ _ _ h => (h : False).elim) ?hy41B_12 (by assumption) ?rest41B_12
      case hi41B_12 => simp only [List.getElem?_toArray, List.getElem?_cons_succ, List.getElem?_cons_zero]; exact rfl
      case hy41B_12 =>
        refine Or.inl ⟨by rfl, ?_⟩
        intro w hSw
        (try dsimp only at hSw)
        go_simp
        (try with_reducible rfl)
      simp only [Act.put, List.setIfInBounds_toArray, List.set_cons_zero, List.set_cons_succ]
      refine wpAnyH_ready (rs := [13]) (by kernel_rfl) (by simp) ?_
      refine' AllReadyH.cons (o := _) ?hi41B_13 (fun K hK => ?_) AllReadyH.nil
      case hi41B_13 => simp only [List.getElem?_toArray, List.getElem?_cons_succ, List.getElem?_cons_zero]; exact rfl
      go_simp
      refine hK.out _ _ ?_ (fun hHeld13 => ?_)
      · trivial
      clear hK K hHeld6
      refine wpAnyH_done (by kernel_rfl) ?_ _
      clear hHeld13
      refine NoPanic.normal ?_
      obtain ⟨u, hu⟩ := xorU8 ((B[x]).toNat : Int) (IntKind.u8.wrap (2 ^ min (IntKind.u64.wrap (z : Int)).toNat 8))
      rw [hu]
      replace hGd := hGd.turn x hx2 u
      clear q1 q2
      generalize u2.setCell ⟨r, x, none⟩ (.int .u8 (u.toNat : Int)) = u3 at *
      have hlB : (B.set x u).length = B.length := by simp
      go_wp2_with fail
      refine (l1At_w l g (B.set x u) (.slice (some ⟨r, 0, none⟩) B.length c3) _ hGd.drew.1 hGd.sl (by omega)).mono ?_
      rintro e u4 ⟨i, rfl, hi, hd4⟩
      replace hGd := hGd.call hd4
      go_wp2
      refine ret_mk (.tuple #[.slice (some ⟨r, 0, none⟩) B.length c3, .int .i64 i]) (by simp [results, Try.results55, go_sem, *]) rfl ⟨B.set x u, i, _, c3, by rw [hlB], by omega, hi, hGd.addr, by rw [hlB]; exact hGd.sl, hGd.drew.2.below hb1 (by simp; omega) hb1.size⟩
  by_cases hk1 : k = 1
  · subst hk1
    go_wp2_with fail
    refine (l1Below_w l g _ _ hG3.drew.1 ⟨by omega, by omega⟩).mono ?_
    rintro e w5 ⟨q, rfl, hq, hd5⟩
    replace hG3 := hG3.call hd5
    have hq2 : q ≤ B.length := by omega
    have hcap : B.length ≤ c3 := by obtain ⟨_, _, e, _, _, h, _⟩ := hG3.sl.open; cases e; exact h
    obtain ⟨r, rfl⟩ : ∃ r, a3 = some ⟨r, 0, none⟩ := by
      rcases hG3.addr.out with rfl | h
      · obtain ⟨_, _, e, _, _, h, h'⟩ := hG3.sl.open; cases e; have := h' rfl; omega
      · exact h
    replace hG3 := hG3.takeF q hq2
    have hlB : (B.take q).length = q := by simp; omega
    go_wp2_with fail
    refine (l1At_w l g (B.take q) (.slice (some ⟨r, 0, none⟩) q c3) _ hG3.drew.1 hG3.sl (by omega)).mono ?_
    rintro e w6 ⟨i, rfl, hi, hd6⟩
    replace hG3 := hG3.call hd6
    go_wp2
    refine ret_mk (.tuple #[.slice (some ⟨r, 0, none⟩) q c3, .int .i64 i]) (by simp [results, Try.results55, go_sem, *]) rfl ⟨B.take q, i, _, c3, by rw [hlB], by omega, hi, hG3.addr, by rw [hlB]; exact hG3.sl, hG3.drew.2.below hb1 (by simp; omega) hb1.size⟩
  go_wp2_with fail
  refine (l1At_w l g B _ _ hG3.drew.1 hG3.sl (by omega)).mono ?_
  rintro e w6 ⟨i, rfl, hi, hd6⟩
  replace hG3 := hG3.call hd6
  go_wp2
  refine ret_mk (.tuple #[.slice a3 B.length c3, .int .i64 i]) (by simp [results, Try.results55, go_sem, *]) rfl ⟨B, i, _, c3, rfl, by omega, hi, hG3.addr, hG3.sl, hG3.drew.2.below hb1 (by simp; omega) hb1.size⟩
end Go.Proofs.Ytojlnmenfikhbaa
