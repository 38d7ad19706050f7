/- Ends, the program's and the reference's. Printed by a program. -/
import Derived.Test.YthljmpkehldccaaGreatTyTo
import Derived.Test.YthljmpkehldccaaGreatTyEq
namespace Go.Proofs.YthljmpkehldccaaGreat
open Go.RowKit
open Cel (rd own rd_len rd_one own_rd own_lt rd_below rd_mono own_keep)

def endedB (x : InstD) : Bool := decide (x.State = 2) || (decide (x.State = 4) || decide (x.State = 6))
set_option maxRecDepth 20000 in
theorem specEnded_w (x : InstD) (v0 v1 v2 v3 v4 : Value) (w : World) : Calls Tryz.prog 20 #[.agg #[v0, .int .i64 x.S.Next, v1, v2, v3, v4, .int .i64 x.State, .int .i64 x.Now]] w (RetB (endedB x) w) := by
  unfold endedB
  by_cases h2 : x.State = 2
  · rw [h2]
    go_enter Tryz.func20, Tryz.ntmps20
    go_wp2
    go_ret
    exact ⟨rfl, by simp⟩
  by_cases h4 : x.State = 4
  · rw [h4]
    go_enter Tryz.func20, Tryz.ntmps20
    go_wp2
    go_ret
    exact ⟨rfl, by simp⟩
  have b2 : (x.State == 2) = false := by simpa using h2
  have b4 : (x.State == 4) = false := by simpa using h4
  rw [decide_eq_false h2, decide_eq_false h4]
  by_cases h6 : x.State = 6
  · rw [h6]
    go_enter Tryz.func20, Tryz.ntmps20
    go_wp2
    go_ret
    exact ⟨rfl, by simp⟩
  have b6 : (x.State == 6) = false := by simpa using h6
  rw [decide_eq_false h6]
  go_enter Tryz.func20, Tryz.ntmps20
  go_wp2
  go_ret
  exact ⟨rfl, by simp⟩
set_option maxRecDepth 20000 in
theorem implEnded_w (x : InstD) (v0 v1 v2 v3 v4 : Value) (w : World) : Calls Tryz.prog 23 #[.agg #[v0, .int .i64 x.S.Next, v1, v2, v3, v4, .int .i64 x.State, .int .i64 x.Now]] w (RetB (endedB x) w) := by
  unfold endedB
  by_cases h2 : x.State = 2
  · rw [h2]
    go_enter Tryz.func23, Tryz.ntmps23
    go_wp2
    go_ret
    exact ⟨rfl, by simp⟩
  by_cases h4 : x.State = 4
  · rw [h4]
    go_enter Tryz.func23, Tryz.ntmps23
    go_wp2
    go_ret
    exact ⟨rfl, by simp⟩
  have b2 : (x.State == 2) = false := by simpa using h2
  have b4 : (x.State == 4) = false := by simpa using h4
  rw [decide_eq_false h2, decide_eq_false h4]
  by_cases h6 : x.State = 6
  · rw [h6]
    go_enter Tryz.func23, Tryz.ntmps23
    go_wp2
    go_ret
    exact ⟨rfl, by simp⟩
  have b6 : (x.State == 6) = false := by simpa using h6
  rw [decide_eq_false h6]
  go_enter Tryz.func23, Tryz.ntmps23
  go_wp2
  go_ret
  exact ⟨rfl, by simp⟩
def endsN (l : List WorkD) : Nat := (l.filter fun x => endedB x.X).length
theorem ends_step (l : List WorkD) (k : Nat) (h : k < l.length) : endsN (l.take (k + 1)) = endsN (l.take k) + if endedB l[k].X then 1 else 0 := by
  unfold endsN; rw [List.take_succ_eq_append_getElem h, List.filter_append, List.length_append]
  congr 1; rw [List.filter_cons]; split <;> simp_all
theorem ends_le (l : List WorkD) : endsN l ≤ l.length := List.length_filter_le _ _
set_option maxRecDepth 20000 in
theorem specEnds_w (b : BookD) (v0 v1 : Value) (w : World) (s0 : Sl w b.Defs v0) (s1 : Sl w b.Works v1) :
    Calls Tryz.prog 7 #[.agg #[v0, v1, .int .i64 b.Now, .int .i64 b.Ring]] w (RetI (endsN b.Works) w) := by
  obtain ⟨a0, c0, rfl, hl0, -⟩ := s0.open
  obtain ⟨a1, c1, rfl, hl1, -⟩ := s1.open
  generalize hbw : b.Works = l at *
  go_enter Tryz.func7, Tryz.ntmps7
  go_wp2
  have hX0 : Bx (w.alloc (.cells #[.slice a0 b.Defs.length c0, .slice a1 l.length c1, .int .i64 b.Now, .int .i64 b.Ring] 31)) w.heap.size [.slice a0 b.Defs.length c0, .slice a1 l.length c1, .int .i64 b.Now, .int .i64 b.Ring] := bx_new _ _ _ rfl
  go_loopw [3, 4] (fun n i wr => Below w.heap.size w wr ∧ Bx wr w.heap.size [.slice a0 b.Defs.length c0, .slice a1 l.length c1, .int .i64 b.Now, .int .i64 b.Ring] ∧ ∃ (k y : Nat), i = .int .i64 k ∧ n = .int .i64 y ∧ k ≤ l.length ∧ y ≤ k ∧ Hid (endsN (l.take k) = y)) (fun _ i _ => l.length - (intOf i).toNat)
  case atStart => exact ⟨by simp, hX0, 0, 0, rfl, rfl, by omega, by omega, rfl⟩
  case round =>
    clear hX0
    obtain ⟨hB, hX, k, y, rfl, rfl, hk, hyk, hy⟩ := hrel
    have x0 := hX.c 0 _ rfl
    have x1 := hX.c 1 _ rfl
    by_cases hlt : k < l.length
    · obtain ⟨p, o, u0, u1, u2, u3, u4, rfl, hbl, hok, ⟨d0, d1, d2, d3, d4, d5, d6, d7, d8, d9⟩, t0, t1, t2, t3, t4⟩ := (s1.to hB).atWork k hlt
      obtain ⟨e0, q0, rfl, -⟩ := t0.open
      obtain ⟨e1, q1, rfl, -⟩ := t1.open
      obtain ⟨e2, q2, rfl, -⟩ := t2.open
      obtain ⟨e3, q3, rfl, -⟩ := t3.open
      obtain ⟨e4, q4, rfl, -⟩ := t4.open
      have hst := Lib.hid (ends_step l k hlt)
      generalize l[k] = x at *
      clear t0 t1 t2 t3 t4 hok
      go_wp2_with fail
      refine (specEnded_w x.X _ _ _ _ _ _).mono ?_
      rintro e w1 ⟨rfl, hb1⟩
      have B1 := via (w0 := w) (by simp [hB]) hb1
      have X1 : Bx w1 w.heap.size [.slice a0 b.Defs.length c0, .slice (some ⟨p, o, none⟩) l.length c1, .int .i64 b.Now, .int .i64 b.Ring] := Bx.via (by simp [hX]) hb1
      cases hE : endedB x.X with
      | false =>
        replace hE := Lib.hid hE
        go_wp2
        go_roundw
        case rel => exact ⟨B1, X1, k + 1, y, by go_num, rfl, by omega, by omega, by show _ = _; rw [hst.out, hE.out, hy.out]; rfl⟩
        case measure => simp [intOf]; omega
      | true =>
        replace hE := Lib.hid hE
        go_wp2
        go_roundw
        case rel => exact ⟨B1, X1, k + 1, y + 1, by go_num, by go_num, by omega, by omega, by show _ = _; rw [hst.out, hE.out, hy.out]; rfl⟩
        case measure => simp [intOf]; omega
    · obtain rfl : k = l.length := by omega
      rw [List.take_length] at hy
      go_wp2
      go_ret
      exact ⟨ret_int (by rw [hy.out]), hB⟩
set_option maxRecDepth 20000 in
theorem implEnds_w (b : BookD) (v0 v1 : Value) (w : World) (s0 : Sl w b.Defs v0) (s1 : Sl w b.Works v1) :
    Calls Tryz.prog 9 #[.agg #[v0, v1, .int .i64 b.Now, .int .i64 b.Ring]] w (RetI (endsN b.Works) w) := by
  obtain ⟨a0, c0, rfl, hl0, -⟩ := s0.open
  obtain ⟨a1, c1, rfl, hl1, -⟩ := s1.open
  generalize hbw : b.Works = l at *
  go_enter Tryz.func9, Tryz.ntmps9
  go_wp2
  have hX0 : Bx (w.alloc (.cells #[.slice a0 b.Defs.length c0, .slice a1 l.length c1, .int .i64 b.Now, .int .i64 b.Ring] 31)) w.heap.size [.slice a0 b.Defs.length c0, .slice a1 l.length c1, .int .i64 b.Now, .int .i64 b.Ring] := bx_new _ _ _ rfl
  go_loopw [3, 9] (fun n i wr => Below w.heap.size w wr ∧ Bx wr w.heap.size [.slice a0 b.Defs.length c0, .slice a1 l.length c1, .int .i64 b.Now, .int .i64 b.Ring] ∧ ∃ (k y : Nat), i = .int .i64 k ∧ n = .int .i64 y ∧ k ≤ l.length ∧ y ≤ k ∧ Hid (endsN (l.take k) = y)) (fun _ i _ => l.length - (intOf i).toNat)
  case atStart => exact ⟨by simp, hX0, 0, 0, rfl, rfl, by omega, by omega, rfl⟩
  case round =>
    clear hX0
    obtain ⟨hB, hX, k, y, rfl, rfl, hk, hyk, hy⟩ := hrel
    have x0 := hX.c 0 _ rfl
    have x1 := hX.c 1 _ rfl
    by_cases hlt : k < l.length
    · obtain ⟨p, o, u0, u1, u2, u3, u4, rfl, hbl, hok, ⟨d0, d1, d2, d3, d4, d5, d6, d7, d8, d9⟩, t0, t1, t2, t3, t4⟩ := (s1.to hB).atWork k hlt
      obtain ⟨e0, q0, rfl, -⟩ := t0.open
      obtain ⟨e1, q1, rfl, -⟩ := t1.open
      obtain ⟨e2, q2, rfl, -⟩ := t2.open
      obtain ⟨e3, q3, rfl, -⟩ := t3.open
      obtain ⟨e4, q4, rfl, -⟩ := t4.open
      have hst := Lib.hid (ends_step l k hlt)
      generalize l[k] = x at *
      clear t0 t1 t2 t3 t4 hok
      go_wp2_with fail
      refine (implEnded_w x.X _ _ _ _ _ _).mono ?_
      rintro e w1 ⟨rfl, hb1⟩
      have B1 := via (w0 := w) (by simp [hB]) hb1
      have X1 : Bx w1 w.heap.size [.slice a0 b.Defs.length c0, .slice (some ⟨p, o, none⟩) l.length c1, .int .i64 b.Now, .int .i64 b.Ring] := Bx.via (by simp [hX]) hb1
      cases hE : endedB x.X with
      | false =>
        replace hE := Lib.hid hE
        go_wp2
        go_roundw
        case rel => exact ⟨B1, X1, k + 1, y, by go_num, rfl, by omega, by omega, by show _ = _; rw [hst.out, hE.out, hy.out]; rfl⟩
        case measure => simp [intOf]; omega
      | true =>
        replace hE := Lib.hid hE
        go_wp2
        go_roundw
        case rel => exact ⟨B1, X1, k + 1, y + 1, by go_num, by go_num, by omega, by omega, by show _ = _; rw [hst.out, hE.out, hy.out]; rfl⟩
        case measure => simp [intOf]; omega
    · obtain rfl : k = l.length := by omega
      rw [List.take_length] at hy
      go_wp2
      go_ret
      exact ⟨ret_int (by rw [hy.out]), hB⟩

set_option maxRecDepth 20000 in
theorem exactEnds_walk (b : BookD) (v0 v1 : Value) (w : World) (s0 : Sl w b.Defs v0) (s1 : Sl w b.Works v1) (hx : okBook b) :
    Calls Tryz.prog 3 #[.agg #[v0, v1, .int .i64 b.Now, .int .i64 b.Ring]] w (RetB true w) := by
  obtain ⟨a0, c0, rfl, hl0, -⟩ := s0.open
  obtain ⟨a1, c1, rfl, hl1, -⟩ := s1.open
  go_enter Tryz.func3, Tryz.ntmps3
  go_wp2_with fail
  refine (szBook_w b _ _ 1048576 _ hx (s0.to (by simp)) (s1.to (by simp)) (by omega) (by omega)).mono ?_
  rintro e w1 ⟨rfl, hb1⟩
  have B1 := via (w0 := w) (by simp) hb1
  have X1 : Bx w1 w.heap.size [.slice a0 b.Defs.length c0, .slice a1 b.Works.length c1, .int .i64 b.Now, .int .i64 b.Ring] := Bx.via (by simp) hb1
  by_cases hs : ((sznBook b : Nat) : Int) ≤ 1048576
  rotate_left
  · rw [szR_neg hs]
    go_wp2
    go_ret
    exact ⟨rfl, B1⟩
  rw [szR_pos hs]
  have hs2 : sznBook b ≤ 1048576 := by omega
  have hle := ends_le b.Works
  have k0 := X1.c 0 _ rfl
  have k1 := X1.c 1 _ rfl
  have k2 := X1.c 2 _ rfl
  have k3 := X1.c 3 _ rfl
  go_wp2_with fail
  refine (toBook_w b _ _ _ (s0.to B1) (s1.to B1) hs2).mono ?_
  rintro e w2 ⟨A0, A1, C0, C1, f0, f1, rfl, o0, o1, -, hb2⟩
  have B2 := via B1 hb2
  have X2 := X1.via hb2
  clear k0 k1 k2 k3 X1 B1 hb1
  go_wp2_with fail
  refine (specEnds_w b _ _ _ o0.sl o1.sl).mono ?_
  rintro e w3 ⟨rfl, hb3⟩
  have B3 := via B2 hb3
  have X3 := X2.via hb3
  clear X2 B2 hb2 o0 o1
  have k0 := X3.c 0 _ rfl
  have k1 := X3.c 1 _ rfl
  have k2 := X3.c 2 _ rfl
  have k3 := X3.c 3 _ rfl
  go_wp2_with fail
  refine (toBook_w b _ _ _ (s0.to B3) (s1.to B3) hs2).mono ?_
  rintro e w4 ⟨D0, D1, E0, E1, g0, g1, rfl, p0, p1, -, hb4⟩
  have B4 := via B3 hb4
  have X4 := X3.via hb4
  have r0 := p0.sl
  have r1 := p1.sl
  clear k0 k1 k2 k3 X3 B3 hb3 p0 p1
  have Y4 : Bx (w4.alloc (.cells #[.slice D0 b.Defs.length E0, .slice D1 b.Works.length E1, .int .i64 b.Now, .int .i64 b.Ring] 31)) w4.heap.size [.slice D0 b.Defs.length E0, .slice D1 b.Works.length E1, .int .i64 b.Now, .int .i64 b.Ring] := bx_new _ _ _ rfl
  have X4' := bx_alloc X4 (.cells #[.slice D0 b.Defs.length E0, .slice D1 b.Works.length E1, .int .i64 b.Now, .int .i64 b.Ring] 31)
  go_wp2_with fail
  refine (implEnds_w b _ _ _ (r0.to (by simp)) (r1.to (by simp))).mono ?_
  rintro e w5 ⟨rfl, hb5⟩
  have B5 := via (w0 := w) (by simp [B4]) hb5
  have X5 := X4'.via hb5
  have Y5 := Y4.via hb5
  replace r0 := (r0.to (by simp)).to hb5
  replace r1 := (r1.to (by simp)).to hb5
  clear X4 X4' Y4 hb4 hb5 B4
  generalize w4.heap.size = g at *
  generalize endsN b.Works = N at *
  have x0 := X5.c 0 _ rfl
  have x1 := X5.c 1 _ rfl
  have x2 := X5.c 2 _ rfl
  have x3 := X5.c 3 _ rfl
  have y0 := Y5.c 0 _ rfl
  have y1 := Y5.c 1 _ rfl
  have y2 := Y5.c 2 _ rfl
  have y3 := Y5.c 3 _ rfl
  go_wp2
  refine wp_region_noPanic ?_
  refine wp_region_held_drew (S := (fun w' => w'.cell? ⟨w.heap.size, 0, none⟩ = some (.slice a0 b.Defs.length c0) ∧ w'.cell? ⟨w.heap.size, 1, none⟩ = some (.slice a1 b.Works.length c1) ∧ w'.cell? ⟨w.heap.size, 2, none⟩ = some (.int .i64 b.Now) ∧ w'.cell? ⟨w.heap.size, 3, none⟩ = some (.int .i64 b.Ring) ∧ w'.cell? ⟨g, 0, none⟩ = some (.slice D0 b.Defs.length E0) ∧ w'.cell? ⟨g, 1, none⟩ = some (.slice D1 b.Works.length E1) ∧ w'.cell? ⟨g, 2, none⟩ = some (.int .i64 b.Now) ∧ w'.cell? ⟨g, 3, none⟩ = some (.int .i64 b.Ring))) (by kernel_rfl) ?_ (fun hHeld0 => ?_)
  · go_keep
  refine' wpAnyH_take (i := 0) (oi := _) (v := _) ?hi101_0 (by kernel_rfl) (by kernel_rfl) (by kernel_rfl) (fun _ _ _ h => (h : False).elim) ?hy101_0 (by assumption) ?rest101_0
  case hi101_0 => simp only [List.getElem?_toArray, List.getElem?_cons_zero]; exact rfl
  case hy101_0 =>
    refine Or.inl ⟨by rfl, ?_⟩
    intro w hSw
    (try dsimp only at hSw)
    go_simp
    (try with_reducible rfl)
  simp only [Act.put, List.setIfInBounds_toArray, List.set_cons_zero, List.set_cons_succ]
  refine' wpAnyH_take (i := 1) (oi := _) (v := _) ?hi101_1 (by kernel_rfl) (by kernel_rfl) (by kernel_rfl) (fun _ _ _ h => (h : False).elim) ?hy101_1 (by assumption) ?rest101_1
  case hi101_1 => simp only [List.getElem?_toArray, List.getElem?_cons_succ, List.getElem?_cons_zero]; exact rfl
  case hy101_1 =>
    refine Or.inl ⟨by rfl, ?_⟩
    intro w hSw
    (try dsimp only at hSw)
    go_simp
    (try with_reducible rfl)
  simp only [Act.put, List.setIfInBounds_toArray, List.set_cons_zero, List.set_cons_succ]
  refine wpAnyH_ready (rs := [2]) (by kernel_rfl) (by simp) ?_
  refine' AllReadyH.cons (o := _) ?hi101_2 (fun K hK => ?_) AllReadyH.nil
  case hi101_2 => simp only [List.getElem?_toArray, List.getElem?_cons_succ, List.getElem?_cons_zero]; exact rfl
  go_simp
  go_at_call 8
  refine (toBook_w b _ _ _ (s0.to (by simp [B5])) (s1.to (by simp [B5])) hs2).mono ?_
  rintro e w6 ⟨F0, F1, G0, G1, h0, h1, rfl, q0, q1, -, hb6⟩
  have B6 := via (w0 := w) (by simp [B5]) hb6
  have U6 : Below w5.heap.size w5 w6 := via (by simp) hb6
  have X6 := X5.via U6
  have Y6 := Y5.via U6
  have m0 := X6.c 0 _ rfl
  have m1 := X6.c 1 _ rfl
  have m2 := X6.c 2 _ rfl
  have m3 := X6.c 3 _ rfl
  have n0 := Y6.c 0 _ rfl
  have n1 := Y6.c 1 _ rfl
  have n2 := Y6.c 2 _ rfl
  have n3 := Y6.c 3 _ rfl
  go_wp2_with fail
  refine hK.out _ _ ?_ (fun hHeld2 => ?_)
  · go_keep
  clear hK K hHeld0
  refine wpAnyH_ready (rs := [3]) (by kernel_rfl) (by simp) ?_
  refine' AllReadyH.cons (o := _) ?hi101_3 (fun K hK => ?_) AllReadyH.nil
  case hi101_3 => simp only [List.getElem?_toArray, List.getElem?_cons_succ, List.getElem?_cons_zero]; exact rfl
  go_simp
  go_at_call 10
  refine (eqBook_w b _ _ _ _ _ ((r0.to U6).to (by simp)) ((r1.to U6).to (by simp)) (q0.sl.to (by simp)) (q1.sl.to (by simp))).mono ?_
  rintro e w7 ⟨rfl, hb7⟩
  have B7 := via (w0 := w) (by simp [B6]) hb7
  have U7 : Below w6.heap.size w6 w7 := via (by simp) hb7
  have X7 := X6.via U7
  have Y7 := Y6.via U7
  have o0 := X7.c 0 _ rfl
  have o1 := X7.c 1 _ rfl
  have o2 := X7.c 2 _ rfl
  have o3 := X7.c 3 _ rfl
  have p0 := Y7.c 0 _ rfl
  have p1 := Y7.c 1 _ rfl
  have p2 := Y7.c 2 _ rfl
  have p3 := Y7.c 3 _ rfl
  go_wp2_with fail
  refine hK.out _ _ ?_ (fun hHeld3 => ?_)
  · go_keep
  clear hK K hHeld2
  refine' wpAnyH_take (i := 4) (oi := _) (v := _) ?hi101_4 (by kernel_rfl) (by kernel_rfl) (by kernel_rfl) (fun _ _ _ h => (h : False).elim) ?hy101_4 (by assumption) ?rest101_4
  case hi101_4 => simp only [List.getElem?_toArray, List.getElem?_cons_succ, List.getElem?_cons_zero]; exact rfl
  case hy101_4 =>
    refine Or.inl ⟨by rfl, ?_⟩
    intro w hSw
    (try dsimp only at hSw)
    go_simp
    (try with_reducible rfl)
  simp only [Act.put, List.setIfInBounds_toArray, List.set_cons_zero, List.set_cons_succ]
  refine wpAnyH_done (by kernel_rfl) ?_ _
  clear hHeld3
  refine NoPanic.normal ?_
  go_wp2
  go_ret
  exact ⟨rfl, B7⟩
theorem exactEnds_top (vs : List Value) (b : BookD) (w : World) (hr : rd w.heap.size w vs b) :
    Calls Tryz.prog 3 #[.agg vs.toArray] w (RetB true w) := by
  obtain ⟨v0, v1, rfl, hx, s0, s1⟩ := rd_Book hr
  exact exactEnds_walk b v0 v1 w s0 s1 hx
end Go.Proofs.YthljmpkehldccaaGreat
