/- FnExactSentOk, walked. Printed by a program. -/
import Derived.Test.YthljmpkehldccaaGreatSentOk
namespace Go.Proofs.YthljmpkehldccaaGreat
open Go.RowKit
open Cel (rd own rd_len rd_one own_rd own_lt rd_below rd_mono own_keep)

set_option maxHeartbeats 1000000 in
set_option maxRecDepth 20000 in
theorem exactSentOk_walk (b : BookD) (l : List SentD) (v0 v1 v2 : Value) (w : World) (s0 : Sl w b.Defs v0) (s1 : Sl w b.Works v1) (s2 : Sl w l v2) (hx : okBook b) :
    Calls Tryz.prog 5 #[.agg #[v0, v1, .int .i64 b.Now, .int .i64 b.Ring], v2] w (RetB true w) := by
  obtain ⟨a0, c0, rfl, hl0, -⟩ := s0.open
  obtain ⟨a1, c1, rfl, hl1, -⟩ := s1.open
  obtain ⟨a2, c2, rfl, hl2, -⟩ := s2.open
  go_enter Tryz.func5, Tryz.ntmps5
  go_wp2_with fail
  refine (szBook_w b _ _ 1048576 _ hx (s0.to (by simp)) (s1.to (by simp)) (by omega) (by omega)).mono ?_
  rintro e w1 ⟨rfl, hb1⟩
  have B1 := via (w0 := w) (by simp) hb1
  have X1 : Bx w1 w.heap.size [.slice a0 b.Defs.length c0, .slice a1 b.Works.length c1, .int .i64 b.Now, .int .i64 b.Ring] := Bx.via (by simp) hb1
  by_cases hs : ((sznBook b : Nat) : Int) ≤ 1048576
  rotate_left
  · rw [szR_neg hs]
    go_wp2
    go_ret
    exact ⟨rfl, B1⟩
  rw [szR_pos hs]
  have hs2 : sznBook b ≤ 1048576 := by omega
  go_wp2_with fail
  refine (szSSent_w l _ (1048576 - (sznBook b : Nat)) _ (s2.to B1) (by omega) (by omega)).mono ?_
  rintro e w2 ⟨rfl, hb2⟩
  have B2 := via B1 hb2
  have X2 := X1.via hb2
  by_cases hs3 : ((sznSSent l : Nat) : Int) ≤ 1048576 - (sznBook b : Nat)
  rotate_left
  · rw [szR_neg hs3]
    go_wp2
    go_ret
    exact ⟨rfl, B2⟩
  rw [szR_pos hs3]
  have hs4 : sznSSent l ≤ 1048576 := by omega
  clear X1 B1 hb1 hb2
  have k0 := X2.c 0 _ rfl
  have k1 := X2.c 1 _ rfl
  have k2 := X2.c 2 _ rfl
  have k3 := X2.c 3 _ rfl
  go_wp2_with fail
  refine (toBook_w b _ _ _ (s0.to B2) (s1.to B2) hs2).mono ?_
  rintro e w3 ⟨A0, A1, C0, C1, f0, f1, rfl, o0, o1, -, hb3⟩
  have B3 := via B2 hb3
  have X3 := X2.via hb3
  have j0 := o0.sl
  have j1 := o1.sl
  clear k0 k1 k2 k3
  clear X2 B2 o0 o1
  go_wp2_with fail
  refine (toSSent_w l _ _ (s2.to B3) hs4).mono ?_
  rintro e w4 ⟨A2, C2, f2, rfl, o2, -, hb4⟩
  have B4 := via B3 hb4
  have X4 := X3.via hb4
  clear X3 B3
  go_wp2_with fail
  refine (specSentOk_w b l _ _ _ _ (j0.to hb4) (j1.to hb4) o2.sl).mono ?_
  rintro e w5 ⟨rfl, hb5⟩
  have B5 := via B4 hb5
  have X5 := X4.via hb5
  clear X4 B4 o2 j0 j1 hb3 hb4 hb5
  have k0 := X5.c 0 _ rfl
  have k1 := X5.c 1 _ rfl
  have k2 := X5.c 2 _ rfl
  have k3 := X5.c 3 _ rfl
  go_wp2_with fail
  refine (toBook_w b _ _ _ (s0.to B5) (s1.to B5) hs2).mono ?_
  rintro e w6 ⟨D0, D1, E0, E1, g0, g1, rfl, p0, p1, -, hb6⟩
  have B6 := via B5 hb6
  have X6 := X5.via hb6
  have r0 := p0.sl
  have r1 := p1.sl
  clear k0 k1 k2 k3
  clear X5 B5 p0 p1 hb6
  have Y6 : Bx (w6.alloc (.cells #[.slice D0 b.Defs.length E0, .slice D1 b.Works.length E1, .int .i64 b.Now, .int .i64 b.Ring] 31)) w6.heap.size [.slice D0 b.Defs.length E0, .slice D1 b.Works.length E1, .int .i64 b.Now, .int .i64 b.Ring] := bx_new _ _ _ rfl
  have X6' := bx_alloc X6 (.cells #[.slice D0 b.Defs.length E0, .slice D1 b.Works.length E1, .int .i64 b.Now, .int .i64 b.Ring] 31)
  go_wp2_with fail
  refine (toSSent_w l _ _ (s2.to (by simp [B6])) hs4).mono ?_
  rintro e w6b ⟨D2, E2, g2, rfl, p2, -, hb6b⟩
  have B6b := via (w0 := w) (by simp [B6]) hb6b
  have X6b := X6'.via hb6b
  have Y6b := Y6.via hb6b
  replace r0 := (r0.to (by simp)).to hb6b
  replace r1 := (r1.to (by simp)).to hb6b
  have r2 := p2.sl
  clear p2 hb6b X6 X6' Y6 B6
  generalize w6.heap.size = g at *
  have x0 := X6b.c 0 _ rfl
  have x1 := X6b.c 1 _ rfl
  have x2 := X6b.c 2 _ rfl
  have x3 := X6b.c 3 _ rfl
  have y0 := Y6b.c 0 _ rfl
  have y1 := Y6b.c 1 _ rfl
  have y2 := Y6b.c 2 _ rfl
  have y3 := Y6b.c 3 _ rfl
  go_wp2_with fail
  refine (implSentOk_w b l _ _ _ _ r0 r1 r2).mono ?_
  rintro e w7 ⟨rfl, hb7⟩
  have B7 := via B6b hb7
  have X7 := X6b.via hb7
  have Y7 := Y6b.via hb7
  replace r0 := r0.to hb7
  replace r1 := r1.to hb7
  replace r2 := r2.to hb7
  clear x0 x1 x2 x3
  clear y0 y1 y2 y3
  clear X6b Y6b B6b hb7
  generalize sentOkB b.Works l = N at *
  have x0 := X7.c 0 _ rfl
  have x1 := X7.c 1 _ rfl
  have x2 := X7.c 2 _ rfl
  have x3 := X7.c 3 _ rfl
  have y0 := Y7.c 0 _ rfl
  have y1 := Y7.c 1 _ rfl
  have y2 := Y7.c 2 _ rfl
  have y3 := Y7.c 3 _ rfl
  go_wp2
  refine wp_region_noPanic ?_
  refine wp_region_held_drew (S := (fun w' => w'.cell? ⟨w.heap.size, 0, none⟩ = some (.slice a0 b.Defs.length c0) ∧ w'.cell? ⟨w.heap.size, 1, none⟩ = some (.slice a1 b.Works.length c1) ∧ w'.cell? ⟨w.heap.size, 2, none⟩ = some (.int .i64 b.Now) ∧ w'.cell? ⟨w.heap.size, 3, none⟩ = some (.int .i64 b.Ring) ∧ w'.cell? ⟨g, 0, none⟩ = some (.slice D0 b.Defs.length E0) ∧ w'.cell? ⟨g, 1, none⟩ = some (.slice D1 b.Works.length E1) ∧ w'.cell? ⟨g, 2, none⟩ = some (.int .i64 b.Now) ∧ w'.cell? ⟨g, 3, none⟩ = some (.int .i64 b.Ring))) (by kernel_rfl) ?_ (fun hHeld0 => ?_)
  · go_keep
  refine' wpAnyH_take (i := 0) (oi := _) (v := _) ?hi141_0 (by kernel_rfl) (by kernel_rfl) (by kernel_rfl) (fun _ _ _ h => (h : False).elim) ?hy141_0 (by assumption) ?rest141_0
  case hi141_0 => simp only [List.getElem?_toArray, List.getElem?_cons_zero]; exact rfl
  case hy141_0 =>
    refine Or.inl ⟨by rfl, ?_⟩
    intro w hSw
    (try dsimp only at hSw)
    go_simp
    (try with_reducible rfl)
  simp only [Act.put, List.setIfInBounds_toArray, List.set_cons_zero, List.set_cons_succ]
  refine' wpAnyH_take (i := 1) (oi := _) (v := _) ?hi141_1 (by kernel_rfl) (by kernel_rfl) (by kernel_rfl) (fun _ _ _ h => (h : False).elim) ?hy141_1 (by assumption) ?rest141_1
  case hi141_1 => simp only [List.getElem?_toArray, List.getElem?_cons_succ, List.getElem?_cons_zero]; exact rfl
  case hy141_1 =>
    refine Or.inl ⟨by rfl, ?_⟩
    intro w hSw
    (try dsimp only at hSw)
    go_simp
    (try with_reducible rfl)
  simp only [Act.put, List.setIfInBounds_toArray, List.set_cons_zero, List.set_cons_succ]
  refine wpAnyH_ready (rs := [2]) (by kernel_rfl) (by simp) ?_
  refine' AllReadyH.cons (o := _) ?hi141_2 (fun K hK => ?_) AllReadyH.nil
  case hi141_2 => simp only [List.getElem?_toArray, List.getElem?_cons_succ, List.getElem?_cons_zero]; exact rfl
  go_simp
  go_at_call 8
  refine (toBook_w b _ _ _ (s0.to (by simp [B7])) (s1.to (by simp [B7])) hs2).mono ?_
  rintro e w8 ⟨F0, F1, G0, G1, h0, h1, rfl, q0, q1, -, hb8⟩
  have B8 := via (w0 := w) (by simp [B7]) hb8
  have U8 : Below w7.heap.size w7 w8 := via (by simp) hb8
  have X8 := X7.via U8
  have Y8 := Y7.via U8
  have m0 := X8.c 0 _ rfl
  have m1 := X8.c 1 _ rfl
  have m2 := X8.c 2 _ rfl
  have m3 := X8.c 3 _ rfl
  have n0 := Y8.c 0 _ rfl
  have n1 := Y8.c 1 _ rfl
  have n2 := Y8.c 2 _ rfl
  have n3 := Y8.c 3 _ rfl
  go_wp2_with fail
  refine hK.out _ _ ?_ (fun hHeld2 => ?_)
  · go_keep
  clear hK K hHeld0
  refine wpAnyH_ready (rs := [3]) (by kernel_rfl) (by simp) ?_
  refine' AllReadyH.cons (o := _) ?hi141_3 (fun K hK => ?_) AllReadyH.nil
  case hi141_3 => simp only [List.getElem?_toArray, List.getElem?_cons_succ, List.getElem?_cons_zero]; exact rfl
  go_simp
  go_at_call 10
  refine (eqBook_w b _ _ _ _ _ ((r0.to U8).to (by simp)) ((r1.to U8).to (by simp)) (q0.sl.to (by simp)) (q1.sl.to (by simp))).mono ?_
  rintro e w9 ⟨rfl, hb9⟩
  have B9 := via (w0 := w) (by simp [B8]) hb9
  have U9 : Below w8.heap.size w8 w9 := via (by simp) hb9
  have X9 := X8.via U9
  have Y9 := Y8.via U9
  have o0 := X9.c 0 _ rfl
  have o1 := X9.c 1 _ rfl
  have o2 := X9.c 2 _ rfl
  have o3 := X9.c 3 _ rfl
  have p0 := Y9.c 0 _ rfl
  have p1 := Y9.c 1 _ rfl
  have p2 := Y9.c 2 _ rfl
  have p3 := Y9.c 3 _ rfl
  go_wp2_with fail
  refine hK.out _ _ ?_ (fun hHeld3 => ?_)
  · go_keep
  clear hK K hHeld2
  refine' wpAnyH_take (i := 4) (oi := _) (v := _) ?hi141_4 (by kernel_rfl) (by kernel_rfl) (by kernel_rfl) (fun _ _ _ h => (h : False).elim) ?hy141_4 (by assumption) ?rest141_4
  case hi141_4 => simp only [List.getElem?_toArray, List.getElem?_cons_succ, List.getElem?_cons_zero]; exact rfl
  case hy141_4 =>
    refine Or.inl ⟨by rfl, ?_⟩
    intro w hSw
    (try dsimp only at hSw)
    go_simp
    (try with_reducible rfl)
  simp only [Act.put, List.setIfInBounds_toArray, List.set_cons_zero, List.set_cons_succ]
  refine wpAnyH_done (by kernel_rfl) ?_ _
  clear hHeld3
  refine NoPanic.normal ?_
  go_wp2_with fail
  refine (toSSent_w l _ _ (s2.to B9) hs4).mono ?_
  rintro e w10 ⟨H2, I2, i2, rfl, t2, -, hb10⟩
  have B10 := via B9 hb10
  go_wp2_with fail
  refine (eqSSent_w l _ _ _ (((r2.to U8).to U9).to hb10) t2.sl).mono ?_
  rintro e w11 ⟨rfl, hb11⟩
  have B11 := via B10 hb11
  go_wp2
  go_ret
  exact ⟨rfl, B11⟩
theorem exactSentOk_top (vs : List Value) (b : BookD) (l : List SentD) (v2 : Value) (w : World) (hr : rd w.heap.size w vs b) (s2 : Sl w l v2) :
    Calls Tryz.prog 5 #[.agg vs.toArray, v2] w (RetB true w) := by
  obtain ⟨v0, v1, rfl, hx, s0, s1⟩ := rd_Book hr
  exact exactSentOk_walk b l v0 v1 v2 w s0 s1 s2 hx
end Go.Proofs.YthljmpkehldccaaGreat
