/- The laws' helpers on []string. -/
import Derived.Test.YthnilnggpbploaaMark
namespace Go.Proofs.Ythnilnggpbploaa
open Go.RowKit
open Cel (rd own rd_len rd_one own_rd own_lt rd_below rd_mono own_keep)

theorem Sl.str {w : World} {l : List ByteArray} {a : Option Addr} {n c : Nat} (h : Sl w l (.slice a n c)) (i : Nat) (hi : i < l.length) :
    ∃ b o, a = some ⟨b, o, none⟩ ∧ b < w.heap.size ∧ w.cell? ⟨b, o + i, none⟩ = some (.string l[i]) := by
  obtain ⟨b, o, vs, h1, h2, ⟨rfl, h4⟩, h3⟩ := h.at i hi
  exact ⟨b, o, h1, h2, by simpa [Cel.k] using h3 0 (by decide)⟩
theorem OwnS.isRow {α : Type} [Cel α] {w : World} {l : List α} {a : Option Addr} {n c : Nat} {fp : List Nat} (h : OwnS w l (.slice a n c) fp) (hi : 0 < l.length) : ∃ g, a = some ⟨g, 0, none⟩ := by
  rcases h with ⟨h, rfl, _⟩ | ⟨g, c', cur, e, vss, fps, h, _⟩
  · simp at hi
  · cases h; exact ⟨g, rfl⟩
/-- The i-th element of a row of a flat type is stored anew. -/
theorem OwnS.updF {α : Type} [Flat α] {w : World} {l : List α} {g n c : Nat} {fp : List Nat} (h : OwnS w l (.slice (some ⟨g, 0, none⟩) n c) fp) (hn : fp.Nodup) (i : Nat) (hi : i < l.length) {vs : List Value} {x : α} (hx : ∀ w, own w vs x []) :
    OwnS (setCells w g (i * Cel.k α) vs) (l.set i x) (.slice (some ⟨g, 0, none⟩) n c) fp ∧ g ∈ fp := by
  obtain ⟨vo, f, k1, k2, k3, k4, k5, k6, k7⟩ := h.upd hn i hi
  obtain rfl := Flat.flat_fp k1
  exact ⟨k7 _ vs x (hx _) rfl fun b hb hne _ => setCells_other g _ b hne vs w 0, k6⟩

theorem eqSString_w (l : List ByteArray) (v1 v2 : Value) (w : World) (h1 : Sl w l v1) (h2 : Sl w l v2) :
    Calls Try.prog 8 #[v1, v2] w (RetB true w) := by
  obtain ⟨a1, c1, rfl, hl, -⟩ := h1.open
  obtain ⟨a2, c2, rfl, -⟩ := h2.open
  go_enter Try.func8, Try.ntmps8
  go_wp2
  go_loopw [5] (fun i wr => Below w.heap.size w wr ∧ ∃ k : Nat, i = .int .i64 k ∧ k ≤ l.length) (fun i _ => l.length - (intOf i).toNat)
  case atStart => exact ⟨Below.refl _ _, 0, rfl, by omega⟩
  case round =>
    obtain ⟨hB, k, rfl, hk⟩ := hrel
    by_cases hlt : k < l.length
    · obtain ⟨b, o, rfl, -, e1⟩ := (h1.to hB).str k hlt
      obtain ⟨b', o', rfl, -, e2⟩ := (h2.to hB).str k hlt
      generalize l[k] = x at *
      clear h1 h2
      go_wp2
      go_quiet (fail)
      go_wp2
      all_goals go_roundw
      case rel => exact ⟨below_drewN hB _, k + 1, by go_num, by omega⟩
      case measure => simp [intOf]; omega
    · go_wp2
      go_ret
      exact ⟨rfl, hB⟩

def markStrs (n K : Nat) : List ByteArray := (List.range n).map fun i => markT (K + i)
theorem markStrs_len (n K : Nat) : (markStrs n K).length = n := by simp [markStrs]
theorem markStrs_at (n K i : Nat) (h : i < (markStrs n K).length) : (markStrs n K)[i] = markT (K + i) := by simp [markStrs]
theorem digs_len : ∀ f k L, (digs f k L).length ≤ L.length + f := by
  intro f
  induction f with
  | zero => intro k L; simp [digs]
  | succ f ih => intro k L; unfold digs; split
                 · have := ih (k / 10) (dig k :: L); simp at this; omega
                 · omega
theorem markT_size (k : Nat) (hk : k ≤ 1099511627776) : (markT k).size ≤ maxLen := by
  unfold markT
  split
  · decide
  · have := digs_len k k []
    show (109 :: digs k k []).toArray.size ≤ _
    simp [maxLen] at this ⊢; omega
theorem mark_set (l : List ByteArray) (K j : Nat) (h : j < l.length) : (markStrs j K ++ l.drop j).set j (markT (K + j)) = markStrs (j + 1) K ++ l.drop (j + 1) := by
  have e : markStrs (j + 1) K = markStrs j K ++ [markT (K + j)] := by simp [markStrs, List.range_succ]
  rw [List.set_append_right _ _ (by rw [markStrs_len]; omega), markStrs_len, Nat.sub_self, List.drop_eq_getElem_cons h, List.set_cons_zero, e, List.append_assoc]; rfl

set_option maxRecDepth 20000 in
theorem markSString_w (l : List ByteArray) (v : Value) (fp : List Nat) (K : Nat) (w : World) (h : OwnS w l v fp) (hn : fp.Nodup) (hk : K + l.length ≤ 1099511627776) :
    Calls Try.prog 11 #[v, .int .i64 K] w (fun e w' => e = .returned (.int .i64 ((K + l.length : Nat) : Int)) ∧ OwnS w' (markStrs l.length K) v fp ∧ Chg fp w w') := by
  obtain ⟨a, c, rfl⟩ := h.open
  go_enter Try.func11, Try.ntmps11
  go_wp2
  go_loopw [1, 5] (fun kv i wr => ∃ j : Nat, i = .int .i64 j ∧ kv = .int .i64 ((K + j : Nat) : Int) ∧ j ≤ l.length ∧ OwnS wr (markStrs j K ++ l.drop j) (.slice a l.length c) fp ∧ Chg fp w wr) (fun _ i _ => l.length - (intOf i).toNat)
  case atStart => exact ⟨0, rfl, rfl, by omega, by simpa [markStrs] using h, Chg.refl _ _⟩
  case round =>
    obtain ⟨j, rfl, rfl, hj, ho, hc⟩ := hrel
    have hll : (markStrs j K ++ l.drop j).length = l.length := by rw [List.length_append, markStrs_len, List.length_drop]; omega
    by_cases hlt : j < l.length
    · obtain ⟨g, rfl⟩ := ho.isRow (by omega)
      go_wp2_with fail
      refine (markText_w (K + j) (by omega) _).mono ?_
      rintro e w1 ⟨rfl, hb1⟩
      have ho1 := ho.below hb1
      obtain ⟨-, hg, hz, hsp⟩ := ho1.spare
      have hcap : l.length ≤ c := by obtain ⟨a', c', e, _, _, h', _⟩ := ho1.sl.open; simp at e; omega
      obtain ⟨z0, e0⟩ := hsp j (by omega) 0 (by decide)
      replace e0 : w1.cell? ⟨g, j, none⟩ = some z0 := by simpa [Cel.k] using e0
      obtain ⟨p1, p2⟩ := ho1.updF hn j (by omega) (vs := [.string (markT (K + j))]) (x := markT (K + j)) (fun _ => ⟨rfl, markT_size _ (by omega), rfl⟩)
      have hk1 : j * Cel.k ByteArray = j := by simp [Cel.k]
      rw [hk1, mark_set l K j hlt] at p1
      have hc1 : Chg fp w (w1.setCell ⟨g, j, none⟩ (.string (markT (K + j)))) := (hc.trans (Chg.of_below hb1)).setCells p2 j [.string (markT (K + j))]
      clear hsp
      generalize markT (K + j) = s at *
      go_wp2
      go_roundw
      case rel => exact ⟨j + 1, by go_num, by go_num, by omega, p1, hc1⟩
      case measure => simp [intOf]; omega
    · obtain rfl : j = l.length := by omega
      rw [List.drop_length, List.append_nil] at ho
      go_wp2
      go_ret
      exact ⟨rfl, ho, hc⟩

set_option maxRecDepth 20000 in
theorem heldSString_w (n M : Nat) (v : Value) (w : World) (h : Sl w (markStrs n M) v) (hk : M + n ≤ 1099511627776) :
    Calls Try.prog 12 #[v, .int .i64 M] w (RetI ((M + n : Nat) : Int) w) := by
  obtain ⟨a, c, rfl, hl, -⟩ := h.open
  rw [markStrs_len] at *
  go_enter Try.func12, Try.ntmps12
  go_wp2
  go_loopw [1, 5] (fun kv i wr => Below w.heap.size w wr ∧ ∃ j : Nat, i = .int .i64 j ∧ kv = .int .i64 ((M + j : Nat) : Int) ∧ j ≤ n) (fun _ i _ => n - (intOf i).toNat)
  case atStart => exact ⟨by simp, 0, rfl, rfl, by omega⟩
  case round =>
    obtain ⟨hB, j, rfl, rfl, hj⟩ := hrel
    by_cases hlt : j < n
    · obtain ⟨b, o, rfl, hbl, e1⟩ := (h.to hB).str j (by rw [markStrs_len]; exact hlt)
      rw [markStrs_at] at e1
      obtain ⟨s, hs⟩ : ∃ s, markT (M + j) = s := ⟨_, rfl⟩
      rw [hs] at e1
      replace hs := Lib.hid hs
      go_wp2
      refine wp_region_noPanic ?_
      refine wp_region_held_drew (S := (fun w' => w'.cell? ⟨b, o + j, none⟩ = some (.string s))) (by kernel_rfl) ?_ (fun hHeld0 => ?_)
      · go_keep
      refine' wpAnyH_take (i := 0) (oi := _) (v := _) ?hi161_0 (by kernel_rfl) (by kernel_rfl) (by kernel_rfl) (fun _ _ _ h => (h : False).elim) ?hy161_0 (by assumption) ?rest161_0
      case hi161_0 => simp only [List.getElem?_toArray, List.getElem?_cons_zero]; exact rfl
      case hy161_0 =>
        refine Or.inl ⟨by rfl, ?_⟩
        intro w hSw
        (try dsimp only at hSw)
        go_simp
        (try with_reducible rfl)
      simp only [Act.put, List.setIfInBounds_toArray, List.set_cons_zero, List.set_cons_succ]
      refine' wpAnyH_take (i := 1) (oi := _) (v := _) ?hi161_1 (by kernel_rfl) (by kernel_rfl) (by kernel_rfl) (fun _ _ _ h => (h : False).elim) ?hy161_1 (by assumption) ?rest161_1
      case hi161_1 => simp only [List.getElem?_toArray, List.getElem?_cons_succ, List.getElem?_cons_zero]; exact rfl
      case hy161_1 =>
        refine Or.inl ⟨by rfl, ?_⟩
        intro w hSw
        (try dsimp only at hSw)
        go_simp
        (try with_reducible rfl)
      simp only [Act.put, List.setIfInBounds_toArray, List.set_cons_zero, List.set_cons_succ]
      refine' wpAnyH_take (i := 2) (oi := _) (v := _) ?hi161_2 (by kernel_rfl) (by kernel_rfl) (by kernel_rfl) (fun _ _ _ h => (h : False).elim) ?hy161_2 (by assumption) ?rest161_2
      case hi161_2 => simp only [List.getElem?_toArray, List.getElem?_cons_succ, List.getElem?_cons_zero]; exact rfl
      case hy161_2 =>
        refine Or.inl ⟨by rfl, ?_⟩
        intro w hSw
        (try dsimp only at hSw)
        go_simp
        (try with_reducible rfl)
      simp only [Act.put, List.setIfInBounds_toArray, List.set_cons_zero, List.set_cons_succ]
      refine' wpAnyH_take (i := 3) (oi := _) (v := _) ?hi161_3 (by kernel_rfl) (by kernel_rfl) (by kernel_rfl) (fun _ _ _ h => (h : False).elim) ?hy161_3 (by assumption) ?rest161_3
      case hi161_3 => simp only [List.getElem?_toArray, List.getElem?_cons_succ, List.getElem?_cons_zero]; exact rfl
      case hy161_3 =>
        refine Or.inl ⟨by rfl, ?_⟩
        intro w hSw
        (try dsimp only at hSw)
        go_simp
        (try with_reducible rfl)
      simp only [Act.put, List.setIfInBounds_toArray, List.set_cons_zero, List.set_cons_succ]
      refine' wpAnyH_take (i := 4) (oi := _) (v := _) ?hi161_4 (by kernel_rfl) (by kernel_rfl) (by kernel_rfl) (fun _ _ _ h => (h : False).elim) ?hy161_4 (by assumption) ?rest161_4
      case hi161_4 => simp only [List.getElem?_toArray, List.getElem?_cons_succ, List.getElem?_cons_zero]; exact rfl
      case hy161_4 =>
        refine Or.inl ⟨by rfl, ?_⟩
        intro w hSw
        (try dsimp only at hSw)
        go_simp
        (try with_reducible rfl)
      simp only [Act.put, List.setIfInBounds_toArray, List.set_cons_zero, List.set_cons_succ]
      refine wpAnyH_ready (rs := [5]) (by kernel_rfl) (by simp) ?_
      refine' AllReadyH.cons (o := _) ?hi161_5 (fun K hK => ?_) AllReadyH.nil
      case hi161_5 => simp only [List.getElem?_toArray, List.getElem?_cons_succ, List.getElem?_cons_zero]; exact rfl
      go_simp
      go_at_call 16
      refine (markText_w (M + j) (by omega) _).mono ?_
      rintro e w1 ⟨rfl, hb1⟩
      have U1 : Below wr.heap.size wr w1 := via (by simp) hb1
      have B1 := via hB U1
      have r1 := cell_below U1 hbl e1
      rw [hs.out]
      go_wp2_with fail
      refine hK.out _ _ ?_ (fun hHeld5 => ?_)
      · go_keep
      clear hK K hHeld0
      refine' wpAnyH_take (i := 6) (oi := _) (v := _) ?hi161_6 (by kernel_rfl) (by kernel_rfl) (by kernel_rfl) (fun _ _ _ h => (h : False).elim) ?hy161_6 (by assumption) ?rest161_6
      case hi161_6 => simp only [List.getElem?_toArray, List.getElem?_cons_succ, List.getElem?_cons_zero]; exact rfl
      case hy161_6 =>
        refine Or.inl ⟨by rfl, ?_⟩
        intro w hSw
        (try dsimp only at hSw)
        go_simp
        (try with_reducible rfl)
      simp only [Act.put, List.setIfInBounds_toArray, List.set_cons_zero, List.set_cons_succ]
      refine wpAnyH_done (by kernel_rfl) ?_ _
      clear hHeld5
      refine NoPanic.normal ?_
      go_wp2
      go_roundw
      case rel => exact ⟨B1, j + 1, by go_num, by go_num, by omega⟩
      case measure => simp [intOf]; omega
    · obtain rfl : j = n := by omega
      go_wp2
      go_ret
      exact ⟨rfl, hB⟩
end Go.Proofs.Ythnilnggpbploaa
