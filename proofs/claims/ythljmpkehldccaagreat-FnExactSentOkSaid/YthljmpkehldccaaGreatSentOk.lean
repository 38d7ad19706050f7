/- SentOk, the program's and the reference's. Printed by a program. -/
import Derived.Test.YthljmpkehldccaaGreatWorkAt
namespace Go.Proofs.YthljmpkehldccaaGreat
open Go.RowKit
open Cel (rd own rd_len rd_one own_rd own_lt rd_below rd_mono own_keep)

def known (ws : List WorkD) (x : SentD) : Bool := decide (0 ≤ idxOf (named x.Name) ws)
def sentOkB (ws : List WorkD) (l : List SentD) : Bool := l.all (known ws)
theorem all_next {α : Type} (f : α → Bool) (l : List α) (k : Nat) (h : k < l.length) : (l.take (k + 1)).all f = ((l.take k).all f && f l[k]) := by
  rw [List.take_succ_eq_append_getElem h, List.all_append]; simp
theorem all_fail {α : Type} (f : α → Bool) (l : List α) (k : Nat) (h : k < l.length) (hf : f l[k] = false) : l.all f = false := by
  cases e : l.all f with
  | false => rfl
  | true => have := List.all_eq_true.1 e _ (List.getElem_mem h); rw [hf] at this; cases this
set_option maxRecDepth 20000 in
theorem specSentOk_w (b : BookD) (l : List SentD) (v0 v1 v2 : Value) (w : World) (s0 : Sl w b.Defs v0) (s1 : Sl w b.Works v1) (s2 : Sl w l v2) :
    Calls Tryz.prog 14 #[.agg #[v0, v1, .int .i64 b.Now, .int .i64 b.Ring], v2] w (RetB (sentOkB b.Works l) w) := by
  obtain ⟨a0, c0, rfl, hl0, -⟩ := s0.open
  obtain ⟨a1, c1, rfl, hl1, -⟩ := s1.open
  obtain ⟨a2, c2, rfl, hl2, -⟩ := s2.open
  obtain ⟨r, hr⟩ : ∃ r, sentOkB b.Works l = r := ⟨_, rfl⟩
  rw [hr]
  replace hr := Lib.hid hr
  go_enter Tryz.func14, Tryz.ntmps14
  go_wp2
  have hX0 : Bx (w.alloc (.cells #[.slice a0 b.Defs.length c0, .slice a1 b.Works.length c1, .int .i64 b.Now, .int .i64 b.Ring] 31)) w.heap.size [.slice a0 b.Defs.length c0, .slice a1 b.Works.length c1, .int .i64 b.Now, .int .i64 b.Ring] := bx_new _ _ _ rfl
  go_loopw [5] (fun i wr => Below w.heap.size w wr ∧ Bx wr w.heap.size [.slice a0 b.Defs.length c0, .slice a1 b.Works.length c1, .int .i64 b.Now, .int .i64 b.Ring] ∧ ∃ k : Nat, i = .int .i64 k ∧ k ≤ l.length ∧ Hid ((l.take k).all (known b.Works) = true)) (fun i _ => l.length - (intOf i).toNat)
  case atStart => exact ⟨by simp, hX0, 0, rfl, by omega, rfl⟩
  case round =>
    clear hX0
    obtain ⟨hB, hX, k, rfl, hk, hy⟩ := hrel
    have x0 := hX.c 0 _ rfl
    have x1 := hX.c 1 _ rfl
    have x2 := hX.c 2 _ rfl
    have x3 := hX.c 3 _ rfl
    by_cases hlt : k < l.length
    · obtain ⟨p, o, u0, rfl, hbl, hok, ⟨d0, d1, d2, d3, d4⟩, t0⟩ := (s2.to hB).atSent k hlt
      obtain ⟨e0, q0, rfl, -⟩ := t0.open
      have hst := Lib.hid (all_next (known b.Works) l k hlt)
      have hmiss := Lib.hid (all_fail (known b.Works) l k hlt)
      generalize l[k] = x at *
      clear t0 hok
      go_wp2
      refine wp_region_noPanic ?_
      refine wp_region_held_drew (S := (fun w' => w'.cell? ⟨w.heap.size, 0, none⟩ = some (.slice a0 b.Defs.length c0) ∧ w'.cell? ⟨w.heap.size, 1, none⟩ = some (.slice a1 b.Works.length c1) ∧ w'.cell? ⟨w.heap.size, 2, none⟩ = some (.int .i64 b.Now) ∧ w'.cell? ⟨w.heap.size, 3, none⟩ = some (.int .i64 b.Ring) ∧ w'.cell? ⟨p, o + k * 5, none⟩ = some (.string x.Name))) (by kernel_rfl) ?_ (fun hHeld0 => ?_)
      · go_keep
      refine' wpAnyH_take (i := 0) (oi := _) (v := _) ?hi121_0 (by kernel_rfl) (by kernel_rfl) (by kernel_rfl) (fun _ _ _ h => (h : False).elim) ?hy121_0 (by assumption) ?rest121_0
      case hi121_0 => simp only [List.getElem?_toArray, List.getElem?_cons_zero]; exact rfl
      case hy121_0 =>
        refine Or.inl ⟨by rfl, ?_⟩
        intro w hSw
        (try dsimp only at hSw)
        go_simp
        (try with_reducible rfl)
      simp only [Act.put, List.setIfInBounds_toArray, List.set_cons_zero, List.set_cons_succ]
      refine' wpAnyH_take (i := 1) (oi := _) (v := _) ?hi121_1 (by kernel_rfl) (by kernel_rfl) (by kernel_rfl) (fun _ _ _ h => (h : False).elim) ?hy121_1 (by assumption) ?rest121_1
      case hi121_1 => simp only [List.getElem?_toArray, List.getElem?_cons_succ, List.getElem?_cons_zero]; exact rfl
      case hy121_1 =>
        refine Or.inl ⟨by rfl, ?_⟩
        intro w hSw
        (try dsimp only at hSw)
        go_simp
        (try with_reducible rfl)
      simp only [Act.put, List.setIfInBounds_toArray, List.set_cons_zero, List.set_cons_succ]
      refine' wpAnyH_take (i := 2) (oi := _) (v := _) ?hi121_2 (by kernel_rfl) (by kernel_rfl) (by kernel_rfl) (fun _ _ _ h => (h : False).elim) ?hy121_2 (by assumption) ?rest121_2
      case hi121_2 => simp only [List.getElem?_toArray, List.getElem?_cons_succ, List.getElem?_cons_zero]; exact rfl
      case hy121_2 =>
        refine Or.inl ⟨by rfl, ?_⟩
        intro w hSw
        (try dsimp only at hSw)
        go_simp
        (try with_reducible rfl)
      simp only [Act.put, List.setIfInBounds_toArray, List.set_cons_zero, List.set_cons_succ]
      refine' wpAnyH_take (i := 3) (oi := _) (v := _) ?hi121_3 (by kernel_rfl) (by kernel_rfl) (by kernel_rfl) (fun _ _ _ h => (h : False).elim) ?hy121_3 (by assumption) ?rest121_3
      case hi121_3 => simp only [List.getElem?_toArray, List.getElem?_cons_succ, List.getElem?_cons_zero]; exact rfl
      case hy121_3 =>
        refine Or.inl ⟨by rfl, ?_⟩
        intro w hSw
        (try dsimp only at hSw)
        go_simp
        (try with_reducible rfl)
      simp only [Act.put, List.setIfInBounds_toArray, List.set_cons_zero, List.set_cons_succ]
      refine' wpAnyH_take (i := 4) (oi := _) (v := _) ?hi121_4 (by kernel_rfl) (by kernel_rfl) (by kernel_rfl) (fun _ _ _ h => (h : False).elim) ?hy121_4 (by assumption) ?rest121_4
      case hi121_4 => simp only [List.getElem?_toArray, List.getElem?_cons_succ, List.getElem?_cons_zero]; exact rfl
      case hy121_4 =>
        refine Or.inl ⟨by rfl, ?_⟩
        intro w hSw
        (try dsimp only at hSw)
        go_simp
        (try with_reducible rfl)
      simp only [Act.put, List.setIfInBounds_toArray, List.set_cons_zero, List.set_cons_succ]
      refine' wpAnyH_take (i := 5) (oi := _) (v := _) ?hi121_5 (by kernel_rfl) (by kernel_rfl) (by kernel_rfl) (fun _ _ _ h => (h : False).elim) ?hy121_5 (by assumption) ?rest121_5
      case hi121_5 => simp only [List.getElem?_toArray, List.getElem?_cons_succ, List.getElem?_cons_zero]; exact rfl
      case hy121_5 =>
        refine Or.inl ⟨by rfl, ?_⟩
        intro w hSw
        (try dsimp only at hSw)
        go_simp
        (try with_reducible rfl)
      simp only [Act.put, List.setIfInBounds_toArray, List.set_cons_zero, List.set_cons_succ]
      refine wpAnyH_ready (rs := [6]) (by kernel_rfl) (by simp) ?_
      refine' AllReadyH.cons (o := _) ?hi121_6 (fun K hK => ?_) AllReadyH.nil
      case hi121_6 => simp only [List.getElem?_toArray, List.getElem?_cons_succ, List.getElem?_cons_zero]; exact rfl
      go_simp
      go_at_call 30
      refine (specWorkAt_w b _ _ x.Name _ (s0.to (by simp [hB])) (s1.to (by simp [hB]))).mono ?_
      rintro e w1 ⟨rfl, hb1⟩
      have B1 := via (w0 := w) (by simp [hB]) hb1
      have U1 : Below wr.heap.size wr w1 := via (by simp) hb1
      have X1 := hX.via U1
      have m0 := X1.c 0 _ rfl
      have m1 := X1.c 1 _ rfl
      have m2 := X1.c 2 _ rfl
      have m3 := X1.c 3 _ rfl
      have m5 := cell_below U1 hbl d0
      go_wp2_with fail
      refine hK.out _ _ ?_ (fun hHeld6 => ?_)
      · go_keep
      clear hK K hHeld0
      refine' wpAnyH_take (i := 7) (oi := _) (v := _) ?hi121_7 (by kernel_rfl) (by kernel_rfl) (by kernel_rfl) (fun _ _ _ h => (h : False).elim) ?hy121_7 (by assumption) ?rest121_7
      case hi121_7 => simp only [List.getElem?_toArray, List.getElem?_cons_succ, List.getElem?_cons_zero]; exact rfl
      case hy121_7 =>
        refine Or.inl ⟨by rfl, ?_⟩
        intro w hSw
        (try dsimp only at hSw)
        go_simp
        (try with_reducible rfl)
      simp only [Act.put, List.setIfInBounds_toArray, List.set_cons_zero, List.set_cons_succ]
      refine wpAnyH_done (by kernel_rfl) ?_ _
      clear hHeld6
      refine NoPanic.normal ?_
      have hkn : known b.Works x = decide (0 ≤ idxOf (named x.Name) b.Works) := rfl
      replace hkn := Lib.hid hkn
      generalize idxOf (named x.Name) b.Works = n at *
      clear m0 m1 m2 m3 m5 x0 x1 x2 x3
      by_cases hn : n < 0
      · obtain rfl : r = false := by rw [← hr.out]; exact hmiss.out (by rw [hkn.out]; simpa using hn)
        go_wp2
        go_ret
        exact ⟨rfl, B1⟩
      · have hg : (l.take (k + 1)).all (known b.Works) = true := by rw [hst.out, hy.out, hkn.out]; simpa using hn
        replace hg := Lib.hid hg
        go_wp2
        go_roundw
        case rel => exact ⟨B1, X1, k + 1, by go_num, by omega, hg⟩
        case measure => simp [intOf]; omega
    · obtain rfl : k = l.length := by omega
      rw [List.take_length] at hy
      obtain rfl : r = true := by rw [← hr.out]; exact hy.out
      go_wp2
      go_ret
      exact ⟨rfl, hB⟩
set_option maxRecDepth 20000 in
theorem implSentOk_w (b : BookD) (l : List SentD) (v0 v1 v2 : Value) (w : World) (s0 : Sl w b.Defs v0) (s1 : Sl w b.Works v1) (s2 : Sl w l v2) :
    Calls Tryz.prog 16 #[.agg #[v0, v1, .int .i64 b.Now, .int .i64 b.Ring], v2] w (RetB (sentOkB b.Works l) w) := by
  obtain ⟨a0, c0, rfl, hl0, -⟩ := s0.open
  obtain ⟨a1, c1, rfl, hl1, -⟩ := s1.open
  obtain ⟨a2, c2, rfl, hl2, -⟩ := s2.open
  obtain ⟨r, hr⟩ : ∃ r, sentOkB b.Works l = r := ⟨_, rfl⟩
  rw [hr]
  replace hr := Lib.hid hr
  go_enter Tryz.func16, Tryz.ntmps16
  go_wp2
  have hX0 : Bx (w.alloc (.cells #[.slice a0 b.Defs.length c0, .slice a1 b.Works.length c1, .int .i64 b.Now, .int .i64 b.Ring] 31)) w.heap.size [.slice a0 b.Defs.length c0, .slice a1 b.Works.length c1, .int .i64 b.Now, .int .i64 b.Ring] := bx_new _ _ _ rfl
  go_loopw [9] (fun i wr => Below w.heap.size w wr ∧ Bx wr w.heap.size [.slice a0 b.Defs.length c0, .slice a1 b.Works.length c1, .int .i64 b.Now, .int .i64 b.Ring] ∧ ∃ k : Nat, i = .int .i64 k ∧ k ≤ l.length ∧ Hid ((l.take k).all (known b.Works) = true)) (fun i _ => l.length - (intOf i).toNat)
  case atStart => exact ⟨by simp, hX0, 0, rfl, by omega, rfl⟩
  case round =>
    clear hX0
    obtain ⟨hB, hX, k, rfl, hk, hy⟩ := hrel
    have x0 := hX.c 0 _ rfl
    have x1 := hX.c 1 _ rfl
    have x2 := hX.c 2 _ rfl
    have x3 := hX.c 3 _ rfl
    by_cases hlt : k < l.length
    · obtain ⟨p, o, u0, rfl, hbl, hok, ⟨d0, d1, d2, d3, d4⟩, t0⟩ := (s2.to hB).atSent k hlt
      obtain ⟨e0, q0, rfl, -⟩ := t0.open
      have hst := Lib.hid (all_next (known b.Works) l k hlt)
      have hmiss := Lib.hid (all_fail (known b.Works) l k hlt)
      generalize l[k] = x at *
      clear t0 hok
      go_wp2_with fail
      refine (implWorkAt_w b _ _ x.Name _ (s0.to (by simp [hB])) (s1.to (by simp [hB]))).mono ?_
      rintro e w1 ⟨rfl, hb1⟩
      have B1 := via (w0 := w) (by simp [hB]) hb1
      have U1 : Below wr.heap.size wr w1 := via (by simp) hb1
      have X1 := hX.via U1
      have hkn : known b.Works x = decide (0 ≤ idxOf (named x.Name) b.Works) := rfl
      replace hkn := Lib.hid hkn
      generalize idxOf (named x.Name) b.Works = n at *
      clear x0 x1 x2 x3
      by_cases hn : n < 0
      · obtain rfl : r = false := by rw [← hr.out]; exact hmiss.out (by rw [hkn.out]; simpa using hn)
        go_wp2
        go_ret
        exact ⟨rfl, B1⟩
      · have hg : (l.take (k + 1)).all (known b.Works) = true := by rw [hst.out, hy.out, hkn.out]; simpa using hn
        replace hg := Lib.hid hg
        go_wp2
        go_roundw
        case rel => exact ⟨B1, X1, k + 1, by go_num, by omega, hg⟩
        case measure => simp [intOf]; omega
    · obtain rfl : k = l.length := by omega
      rw [List.take_length] at hy
      obtain rfl : r = true := by rw [← hr.out]; exact hy.out
      go_wp2
      go_ret
      exact ⟨rfl, hB⟩
end Go.Proofs.YthljmpkehldccaaGreat
