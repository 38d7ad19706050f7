/- Undone: the walks. Printed by a program. -/
import Derived.Test.YthljmpkehldccaaGreatUndone
namespace Go.Proofs.YthljmpkehldccaaGreat
open Go.RowKit
open Cel (rd own rd_len rd_one own_rd own_lt rd_below rd_mono own_keep)

set_option maxRecDepth 20000 in
theorem specUndone_w (b : BookD) (v0 v1 : Value) (w : World) (s0 : Sl w b.Defs v0) (s1 : Sl w b.Works v1) :
    Calls Tryz.prog 11 #[.agg #[v0, v1, .int .i64 b.Now, .int .i64 b.Ring]] w (RetB (undoneB b.Works) w) := by
  obtain ⟨a0, c0, rfl, hl0, -⟩ := s0.open
  obtain ⟨a1, c1, rfl, hl1, -⟩ := s1.open
  generalize hbw : b.Works = l at *
  obtain ⟨r, hr⟩ : ∃ r, undoneB l = r := ⟨_, rfl⟩
  rw [hr]
  replace hr := Lib.hid hr
  go_enter Tryz.func11, Tryz.ntmps11
  go_wp2
  have hX0 : Bx (w.alloc (.cells #[.slice a0 b.Defs.length c0, .slice a1 l.length c1, .int .i64 b.Now, .int .i64 b.Ring] 31)) w.heap.size [.slice a0 b.Defs.length c0, .slice a1 l.length c1, .int .i64 b.Now, .int .i64 b.Ring] := bx_new _ _ _ rfl
  go_loopw [3] (fun i wr => Below w.heap.size w wr ∧ Bx wr w.heap.size [.slice a0 b.Defs.length c0, .slice a1 l.length c1, .int .i64 b.Now, .int .i64 b.Ring] ∧ ∃ k : Nat, i = .int .i64 k ∧ k ≤ l.length ∧ Hid ((l.take k).all (fun x => !badB x.X) = true)) (fun i _ => l.length - (intOf i).toNat)
  case atStart => exact ⟨by simp, hX0, 0, rfl, by omega, rfl⟩
  case round =>
    clear hX0
    obtain ⟨hB, hX, k, rfl, hk, hy⟩ := hrel
    have x0 := hX.c 0 _ rfl
    have x1 := hX.c 1 _ rfl
    by_cases hlt : k < l.length
    · obtain ⟨p, o, u0, u1, u2, u3, u4, rfl, hbl, hok, ⟨d0, d1, d2, d3, d4, d5, d6, d7, d8, d9⟩, t0, t1, t2, t3, t4⟩ := (s1.to hB).atWork k hlt
      obtain ⟨e0, q0, rfl, -⟩ := t0.open
      obtain ⟨e1, q1, rfl, -⟩ := t1.open
      obtain ⟨e2, q2, rfl, -⟩ := t2.open
      obtain ⟨e3, q3, rfl, -⟩ := t3.open
      obtain ⟨e4, q4, rfl, hl4, -⟩ := t4.open
      have hst := Lib.hid (all_step (fun x => !badB x.X) l k hlt)
      have hmiss := Lib.hid (all_miss (fun x => !badB x.X) l k hlt)
      generalize l[k] = x at *
      clear t0 t1 t3 t4 hok
      have hgood : badB x.X = false → (l.take (k + 1)).all (fun x => !badB x.X) = true := fun h => by rw [hst.out, hy.out]; simp [h]
      have hbad : badB x.X = true → r = false := fun h => by rw [← hr.out]; exact hmiss.out (by simp [h])
      replace hgood := Lib.hid hgood
      replace hbad := Lib.hid hbad
      have hXa := bx_alloc hX (.cells #[.slice e0 x.X.S.Items.length q0, .int .i64 x.X.S.Next, .slice e1 x.X.Fired.length q1, .slice e2 x.X.Tasks.length q2, .slice e3 x.X.Timers.length q3, .slice e4 x.X.Undos.length q4, .int .i64 x.X.State, .int .i64 x.X.Now] 54)
      clear hst hmiss
      by_cases h4 : x.X.State = 4
      · rw [h4] at d8
        by_cases hu : 0 < x.X.Undos.length
        · obtain rfl : r = false := hbad.out (by unfold badB; rw [decide_eq_true h4, decide_eq_true hu]; rfl)
          go_wp2
          go_ret
          exact ⟨rfl, by simp [hB]⟩
        · have hg := Lib.hid (hgood.out (by unfold badB; rw [h4]; simp [hu]))
          go_wp2
          go_roundw
          case rel => exact ⟨by simp [hB], by simpa [h4] using hXa, k + 1, by go_num, by omega, hg⟩
          case measure => simp [intOf]; omega
      by_cases h6 : x.X.State = 6
      · rw [h6] at d8
        by_cases hu : 0 < x.X.Undos.length
        · obtain rfl : r = false := hbad.out (by unfold badB; rw [decide_eq_true h6, decide_eq_true hu, Bool.or_true]; rfl)
          go_wp2
          go_ret
          exact ⟨rfl, by simp [hB]⟩
        · have hg := Lib.hid (hgood.out (by unfold badB; rw [h6]; simp [hu]))
          go_wp2
          go_roundw
          case rel => exact ⟨by simp [hB], by simpa [h6] using hXa, k + 1, by go_num, by omega, hg⟩
          case measure => simp [intOf]; omega
      have b4 : (x.X.State == 4) = false := by simpa using h4
      have b6 : (x.X.State == 6) = false := by simpa using h6
      by_cases h2 : x.X.State = 2
      · rw [h2] at d8
        clear b4 b6 h4 h6
        go_wp2_with fail
        refine (live_w x.X.Tasks _ _ (t2.to (by simp))).mono ?_
        rintro e w1 ⟨rfl, hb1⟩
        have B1 := via (w0 := w) (by simp [hB]) hb1
        have X1 : Bx w1 w.heap.size [.slice a0 b.Defs.length c0, .slice (some ⟨p, o, none⟩) l.length c1, .int .i64 b.Now, .int .i64 b.Ring] := Bx.via (by simp [hX]) hb1
        cases hlive : liveB x.X.Tasks with
        | true =>
          obtain rfl : r = false := hbad.out (by unfold badB; rw [h2, hlive]; rfl)
          go_wp2
          go_ret
          exact ⟨rfl, B1⟩
        | false =>
          have hg := Lib.hid (hgood.out (by unfold badB; rw [h2, hlive]; rfl))
          clear hlive
          go_wp2
          go_roundw
          case rel => exact ⟨B1, X1, k + 1, by go_num, by omega, hg⟩
          case measure => simp [intOf]; omega
      have b2 : (x.X.State == 2) = false := by simpa using h2
      have hg := Lib.hid (hgood.out (by unfold badB; rw [decide_eq_false h4, decide_eq_false h6, decide_eq_false h2]; rfl))
      go_wp2
      go_roundw
      case rel => exact ⟨by simp [hB], hXa, k + 1, by go_num, by omega, hg⟩
      case measure => simp [intOf]; omega
    · obtain rfl : k = l.length := by omega
      rw [List.take_length] at hy
      obtain rfl : r = true := by rw [← hr.out]; exact hy.out
      go_wp2
      go_ret
      exact ⟨rfl, hB⟩
set_option maxRecDepth 20000 in
theorem implUndone_w (b : BookD) (v0 v1 : Value) (w : World) (s0 : Sl w b.Defs v0) (s1 : Sl w b.Works v1) :
    Calls Tryz.prog 12 #[.agg #[v0, v1, .int .i64 b.Now, .int .i64 b.Ring]] w (RetB (undoneB b.Works) w) := by
  obtain ⟨a0, c0, rfl, hl0, -⟩ := s0.open
  obtain ⟨a1, c1, rfl, hl1, -⟩ := s1.open
  generalize hbw : b.Works = l at *
  obtain ⟨r, hr⟩ : ∃ r, undoneB l = r := ⟨_, rfl⟩
  rw [hr]
  replace hr := Lib.hid hr
  go_enter Tryz.func12, Tryz.ntmps12
  go_wp2
  have hX0 : Bx (w.alloc (.cells #[.slice a0 b.Defs.length c0, .slice a1 l.length c1, .int .i64 b.Now, .int .i64 b.Ring] 31)) w.heap.size [.slice a0 b.Defs.length c0, .slice a1 l.length c1, .int .i64 b.Now, .int .i64 b.Ring] := bx_new _ _ _ rfl
  go_loopw [8] (fun i wr => Below w.heap.size w wr ∧ Bx wr w.heap.size [.slice a0 b.Defs.length c0, .slice a1 l.length c1, .int .i64 b.Now, .int .i64 b.Ring] ∧ ∃ k : Nat, i = .int .i64 k ∧ k ≤ l.length ∧ Hid ((l.take k).all (fun x => !badB x.X) = true)) (fun i _ => l.length - (intOf i).toNat)
  case atStart => exact ⟨by simp, hX0, 0, rfl, by omega, rfl⟩
  case round =>
    clear hX0
    obtain ⟨hB, hX, k, rfl, hk, hy⟩ := hrel
    have x0 := hX.c 0 _ rfl
    have x1 := hX.c 1 _ rfl
    by_cases hlt : k < l.length
    · obtain ⟨p, o, u0, u1, u2, u3, u4, rfl, hbl, hok, ⟨d0, d1, d2, d3, d4, d5, d6, d7, d8, d9⟩, t0, t1, t2, t3, t4⟩ := (s1.to hB).atWork k hlt
      obtain ⟨e0, q0, rfl, -⟩ := t0.open
      obtain ⟨e1, q1, rfl, -⟩ := t1.open
      obtain ⟨e2, q2, rfl, -⟩ := t2.open
      obtain ⟨e3, q3, rfl, -⟩ := t3.open
      obtain ⟨e4, q4, rfl, hl4, -⟩ := t4.open
      have hst := Lib.hid (all_step (fun x => !badB x.X) l k hlt)
      have hmiss := Lib.hid (all_miss (fun x => !badB x.X) l k hlt)
      generalize l[k] = x at *
      clear t0 t1 t3 t4 hok
      have hgood : badB x.X = false → (l.take (k + 1)).all (fun x => !badB x.X) = true := fun h => by rw [hst.out, hy.out]; simp [h]
      have hbad : badB x.X = true → r = false := fun h => by rw [← hr.out]; exact hmiss.out (by simp [h])
      replace hgood := Lib.hid hgood
      replace hbad := Lib.hid hbad
      have hXa := bx_alloc hX (.cells #[.string x.Name, .string x.Def, .slice e0 x.X.S.Items.length q0, .int .i64 x.X.S.Next, .slice e1 x.X.Fired.length q1, .slice e2 x.X.Tasks.length q2, .slice e3 x.X.Timers.length q3, .slice e4 x.X.Undos.length q4, .int .i64 x.X.State, .int .i64 x.X.Now] 56)
      clear hst hmiss
      by_cases h4 : x.X.State = 4
      · rw [h4] at d8
        by_cases hu : 0 < x.X.Undos.length
        · obtain rfl : r = false := hbad.out (by unfold badB; rw [decide_eq_true h4, decide_eq_true hu]; rfl)
          go_wp2
          go_ret
          exact ⟨rfl, by simp [hB]⟩
        · have hg := Lib.hid (hgood.out (by unfold badB; rw [h4]; simp [hu]))
          go_wp2
          go_roundw
          case rel => exact ⟨by simp [hB], by simpa [h4] using hXa, k + 1, by go_num, by omega, hg⟩
          case measure => simp [intOf]; omega
      by_cases h6 : x.X.State = 6
      · rw [h6] at d8
        by_cases hu : 0 < x.X.Undos.length
        · obtain rfl : r = false := hbad.out (by unfold badB; rw [decide_eq_true h6, decide_eq_true hu, Bool.or_true]; rfl)
          go_wp2
          go_ret
          exact ⟨rfl, by simp [hB]⟩
        · have hg := Lib.hid (hgood.out (by unfold badB; rw [h6]; simp [hu]))
          go_wp2
          go_roundw
          case rel => exact ⟨by simp [hB], by simpa [h6] using hXa, k + 1, by go_num, by omega, hg⟩
          case measure => simp [intOf]; omega
      have b4 : (x.X.State == 4) = false := by simpa using h4
      have b6 : (x.X.State == 6) = false := by simpa using h6
      by_cases h2 : x.X.State = 2
      · rw [h2] at d8
        clear b4 b6 h4 h6
        go_wp2_with fail
        refine (contOpen_w x.X.Tasks _ _ (t2.to (by simp))).mono ?_
        rintro e w1 ⟨rfl, hb1⟩
        have B1 := via (w0 := w) (by simp [hB]) hb1
        have X1 : Bx w1 w.heap.size [.slice a0 b.Defs.length c0, .slice (some ⟨p, o, none⟩) l.length c1, .int .i64 b.Now, .int .i64 b.Ring] := Bx.via (by simp [hX]) hb1
        cases hlive : liveB x.X.Tasks with
        | true =>
          obtain rfl : r = false := hbad.out (by unfold badB; rw [h2, hlive]; rfl)
          go_wp2
          go_ret
          exact ⟨rfl, B1⟩
        | false =>
          have hg := Lib.hid (hgood.out (by unfold badB; rw [h2, hlive]; rfl))
          clear hlive
          go_wp2
          go_roundw
          case rel => exact ⟨B1, X1, k + 1, by go_num, by omega, hg⟩
          case measure => simp [intOf]; omega
      have b2 : (x.X.State == 2) = false := by simpa using h2
      have hg := Lib.hid (hgood.out (by unfold badB; rw [decide_eq_false h4, decide_eq_false h6, decide_eq_false h2]; rfl))
      go_wp2
      go_roundw
      case rel => exact ⟨by simp [hB], hXa, k + 1, by go_num, by omega, hg⟩
      case measure => simp [intOf]; omega
    · obtain rfl : k = l.length := by omega
      rw [List.take_length] at hy
      obtain rfl : r = true := by rw [← hr.out]; exact hy.out
      go_wp2
      go_ret
      exact ⟨rfl, hB⟩
end Go.Proofs.YthljmpkehldccaaGreat
