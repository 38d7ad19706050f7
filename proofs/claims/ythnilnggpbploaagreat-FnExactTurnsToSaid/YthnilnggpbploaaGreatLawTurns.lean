/- FnExactTurnsTo, walked. Printed by a program. -/
import Derived.Test.YthnilnggpbploaaGreatOk6
import Derived.Test.YthnilnggpbploaaGreatTyTo
import Derived.Test.YthnilnggpbploaaGreatTyEq
namespace Go.Proofs.YthnilnggpbploaaGreat
open Go.RowKit
open Cel (rd own rd_len rd_one own_rd own_lt rd_below rd_mono own_keep)

set_option maxHeartbeats 1000000 in
set_option maxRecDepth 20000 in
theorem exactTurns_walk (b : BookD) (i : Int) (v0 v1 : Value) (w : World) (s0 : Sl w b.Defs v0) (s1 : Sl w b.Works v1) (hx : okBook b) (hi0 : In64 i) :
    Calls Tryz.prog 3 #[.agg #[v0, v1, .int .i64 b.Now, .int .i64 b.Ring], .int .i64 i] w (RetB true w) := by
  obtain ⟨a0, c0, rfl, hl0, -⟩ := s0.open
  obtain ⟨a1, c1, rfl, hl1, -⟩ := s1.open
  go_enter Tryz.func3, Tryz.ntmps3
  go_wp2_with fail
  refine (szBook_w b _ _ 1048576 _ hx (s0.to (by simp)) (s1.to (by simp)) (by omega) (by omega)).mono ?_
  rintro e w1 ⟨rfl, hb1⟩
  have B1 := via (w0 := w) (by simp) hb1
  have X1 : Bx w1 w.heap.size [.slice a0 b.Defs.length c0, .slice a1 b.Works.length c1, .int .i64 b.Now, .int .i64 b.Ring] := Bx.via (by simp) hb1
  by_cases hs : ((sznBook b : Nat) : Int) ≤ 1048576
  rotate_left
  · rw [szR_neg hs]
    go_wp2
    go_ret
    exact ⟨rfl, B1⟩
  rw [szR_pos hs]
  have hs2 : sznBook b ≤ 1048576 := by omega
  have k0 := X1.c 0 _ rfl
  have k1 := X1.c 1 _ rfl
  have k2 := X1.c 2 _ rfl
  have k3 := X1.c 3 _ rfl
  go_wp2_with fail
  refine (toBook_w b _ _ _ (s0.to B1) (s1.to B1) hs2).mono ?_
  rintro e w2 ⟨A0, A1, C0, C1, f0, f1, rfl, o0, o1, -, hb2⟩
  have B2 := via B1 hb2
  have X2 := X1.via hb2
  clear k0 k1 k2 k3 X1 B1 hb1
  go_wp2_with fail
  refine (sTurnsTo_w b i _ _ _ o0.sl o1.sl hs2).mono ?_
  rintro e w3 ⟨rfl, hb3⟩
  have B3 := via B2 hb3
  have X3 := X2.via hb3
  clear X2 B2 hb2 o0 o1
  have k0 := X3.c 0 _ rfl
  have k1 := X3.c 1 _ rfl
  have k2 := X3.c 2 _ rfl
  have k3 := X3.c 3 _ rfl
  go_wp2_with fail
  refine (toBook_w b _ _ _ (s0.to B3) (s1.to B3) hs2).mono ?_
  rintro e w4 ⟨D0, D1, E0, E1, g0, g1, rfl, p0, p1, -, hb4⟩
  have B4 := via B3 hb4
  have X4 := X3.via hb4
  have r0 := p0.sl
  have r1 := p1.sl
  clear k0 k1 k2 k3 X3 B3 hb3 p0 p1
  have Y4 : Bx (w4.alloc (.cells #[.slice D0 b.Defs.length E0, .slice D1 b.Works.length E1, .int .i64 b.Now, .int .i64 b.Ring] 31)) w4.heap.size [.slice D0 b.Defs.length E0, .slice D1 b.Works.length E1, .int .i64 b.Now, .int .i64 b.Ring] := bx_new _ _ _ rfl
  have X4' := bx_alloc X4 (.cells #[.slice D0 b.Defs.length E0, .slice D1 b.Works.length E1, .int .i64 b.Now, .int .i64 b.Ring] 31)
  go_wp2_with fail
  refine (iTurnsTo_w b i _ _ _ (r0.to (by simp)) (r1.to (by simp)) hs2).mono ?_
  rintro e w5 ⟨rfl, hb5⟩
  have B5 := via (w0 := w) (by simp [B4]) hb5
  have X5 := X4'.via hb5
  have Y5 := Y4.via hb5
  replace r0 := (r0.to (by simp)).to hb5
  replace r1 := (r1.to (by simp)).to hb5
  clear X4 X4' Y4 hb4 hb5 B4
  generalize w4.heap.size = g at *
  rw [e_turns]
  generalize sTurnsTo_p b i = N at *
  have x0 := X5.c 0 _ rfl
  have x1 := X5.c 1 _ rfl
  have x2 := X5.c 2 _ rfl
  have x3 := X5.c 3 _ rfl
  have y0 := Y5.c 0 _ rfl
  have y1 := Y5.c 1 _ rfl
  have y2 := Y5.c 2 _ rfl
  have y3 := Y5.c 3 _ rfl
  go_wp2
  refine wp_region_noPanic ?_
  refine wp_region_held_drew (S := (fun w' => w'.cell? ⟨w.heap.size, 0, none⟩ = some (.slice a0 b.Defs.length c0) ∧ w'.cell? ⟨w.heap.size, 1, none⟩ = some (.slice a1 b.Works.length c1) ∧ w'.cell? ⟨w.heap.size, 2, none⟩ = some (.int .i64 b.Now) ∧ w'.cell? ⟨w.heap.size, 3, none⟩ = some (.int .i64 b.Ring) ∧ w'.cell? ⟨g, 0, none⟩ = some (.slice D0 b.Defs.length E0) ∧ w'.cell? ⟨g, 1, none⟩ = some (.slice D1 b.Works.length E1) ∧ w'.cell? ⟨g, 2, none⟩ = some (.int .i64 b.Now) ∧ w'.cell? ⟨g, 3, none⟩ = some (.int .i64 b.Ring))) (by kernel_rfl) ?_ (fun hHeld0 => ?_)
  · go_keep
  refine' wpAnyH_take (i := 0) (oi := _) (v := _) ?hi201_0 (by kernel_rfl) (by kernel_rfl) (by kernel_rfl) (fun _ _ _ h => (h : False).elim) ?hy201_0 (by assumption) ?rest201_0
  case hi201_0 => simp only [List.getElem?_toArray, List.getElem?_cons_zero]; exact rfl
  case hy201_0 =>
    refine Or.inl ⟨by rfl, ?_⟩
    intro w hSw
    (try dsimp only at hSw)
    go_simp
    (try with_reducible rfl)
  simp only [Act.put, List.setIfInBounds_toArray, List.set_cons_zero, List.set_cons_succ]
  refine' wpAnyH_take (i := 1) (oi := _) (v := _) ?hi201_1 (by kernel_rfl) (by kernel_rfl) (by kernel_rfl) (fun _ _ _ h => (h : False).elim) ?hy201_1 (by assumption) ?rest201_1
  case hi201_1 => simp only [List.getElem?_toArray, List.getElem?_cons_succ, List.getElem?_cons_zero]; exact rfl
  case hy201_1 =>
    refine Or.inl ⟨by rfl, ?_⟩
    intro w hSw
    (try dsimp only at hSw)
    go_simp
    (try with_reducible rfl)
  simp only [Act.put, List.setIfInBounds_toArray, List.set_cons_zero, List.set_cons_succ]
  refine wpAnyH_ready (rs := [2]) (by kernel_rfl) (by simp) ?_
  refine' AllReadyH.cons (o := _) ?hi201_2 (fun K hK => ?_) AllReadyH.nil
  case hi201_2 => simp only [List.getElem?_toArray, List.getElem?_cons_succ, List.getElem?_cons_zero]; exact rfl
  go_simp
  go_at_call 12
  refine (toBook_w b _ _ _ (s0.to (by simp [B5])) (s1.to (by simp [B5])) hs2).mono ?_
  rintro e w6 ⟨F0, F1, G0, G1, h0, h1, rfl, q0, q1, -, hb6⟩
  have B6 := via (w0 := w) (by simp [B5]) hb6
  have U6 : Below w5.heap.size w5 w6 := via (by simp) hb6
  have X6 := X5.via U6
  have Y6 := Y5.via U6
  have m0 := X6.c 0 _ rfl
  have m1 := X6.c 1 _ rfl
  have m2 := X6.c 2 _ rfl
  have m3 := X6.c 3 _ rfl
  have n0 := Y6.c 0 _ rfl
  have n1 := Y6.c 1 _ rfl
  have n2 := Y6.c 2 _ rfl
  have n3 := Y6.c 3 _ rfl
  go_wp2_with fail
  refine hK.out _ _ ?_ (fun hHeld2 => ?_)
  · go_keep
  clear hK K hHeld0
  refine wpAnyH_ready (rs := [3]) (by kernel_rfl) (by simp) ?_
  refine' AllReadyH.cons (o := _) ?hi201_3 (fun K hK => ?_) AllReadyH.nil
  case hi201_3 => simp only [List.getElem?_toArray, List.getElem?_cons_succ, List.getElem?_cons_zero]; exact rfl
  go_simp
  go_at_call 14
  refine (eqBook_w b _ _ _ _ _ ((r0.to U6).to (by simp)) ((r1.to U6).to (by simp)) (q0.sl.to (by simp)) (q1.sl.to (by simp))).mono ?_
  rintro e w7 ⟨rfl, hb7⟩
  have B7 := via (w0 := w) (by simp [B6]) hb7
  have U7 : Below w6.heap.size w6 w7 := via (by simp) hb7
  have X7 := X6.via U7
  have Y7 := Y6.via U7
  have o0 := X7.c 0 _ rfl
  have o1 := X7.c 1 _ rfl
  have o2 := X7.c 2 _ rfl
  have o3 := X7.c 3 _ rfl
  have p0 := Y7.c 0 _ rfl
  have p1 := Y7.c 1 _ rfl
  have p2 := Y7.c 2 _ rfl
  have p3 := Y7.c 3 _ rfl
  go_wp2_with fail
  refine hK.out _ _ ?_ (fun hHeld3 => ?_)
  · go_keep
  clear hK K hHeld2
  refine' wpAnyH_take (i := 4) (oi := _) (v := _) ?hi201_4 (by kernel_rfl) (by kernel_rfl) (by kernel_rfl) (fun _ _ _ h => (h : False).elim) ?hy201_4 (by assumption) ?rest201_4
  case hi201_4 => simp only [List.getElem?_toArray, List.getElem?_cons_succ, List.getElem?_cons_zero]; exact rfl
  case hy201_4 =>
    refine Or.inl ⟨by rfl, ?_⟩
    intro w hSw
    (try dsimp only at hSw)
    go_simp
    (try with_reducible rfl)
  simp only [Act.put, List.setIfInBounds_toArray, List.set_cons_zero, List.set_cons_succ]
  refine wpAnyH_done (by kernel_rfl) ?_ _
  clear hHeld3
  refine NoPanic.normal ?_
  go_wp2
  go_ret
  exact ⟨rfl, B7⟩
theorem exactTurns_top (vs : List Value) (b : BookD) (i : Int) (w : World) (hr : rd w.heap.size w vs b) (hi0 : In64 i) :
    Calls Tryz.prog 3 #[.agg vs.toArray, .int .i64 i] w (RetB true w) := by
  obtain ⟨v0, v1, rfl, hx, s0, s1⟩ := rd_Book hr
  exact exactTurns_walk b i v0 v1 w s0 s1 hx hi0
end Go.Proofs.YthnilnggpbploaaGreat
