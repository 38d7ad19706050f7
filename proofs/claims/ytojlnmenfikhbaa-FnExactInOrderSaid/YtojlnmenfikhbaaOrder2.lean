/- InOrder, the program's and the reference's: the walks. -/
import Derived.Test.YtojlnmenfikhbaaOrder
namespace Go.Proofs.Ytojlnmenfikhbaa
open Go.RowKit
open Cel (rd own rd_len rd_one own_rd own_lt rd_below rd_mono own_keep)

theorem Sl.cut {α : Type} [Cel α] {w : World} {l : List α} {b o n c : Nat} (h : Sl w l (.slice (some ⟨b, o, none⟩) n c)) (m : Nat) (hm : m ≤ l.length) :
    Sl w (l.take m) (.slice (some ⟨b, o, none⟩) m c) := by
  have hlen : (l.take m).length = m := by simp; omega
  obtain ⟨a, c', e, h1, h2, h3, h4⟩ := h
  cases e
  refine ⟨_, _, by rw [hlen], by rw [hlen]; omega, h2, by simp, ?_⟩
  rcases h4 with rfl | ⟨b', o', e, h5, h6⟩
  · left; simp
  · cases e
    refine .inr ⟨b, o, rfl, h5, fun i x hx => h6 i x ?_⟩
    rw [List.getElem?_take] at hx
    split at hx
    · exact hx
    · cases hx

set_option maxRecDepth 20000 in
theorem specOrder_w (l : List SentD) (r : Bool) (hr : r = true ↔ ∀ i, i < l.length → okAt l i) (v : Value) (w : World) (h : Sl w l v) :
    Calls Try.prog 48 #[v] w (RetB r w) := by
  obtain ⟨a, c, rfl, hl, -⟩ := h.open
  go_enter Try.func48, Try.ntmps48
  go_wp2
  go_loopw [3, 4] (fun i _ wr => Below w.heap.size w wr ∧ ∃ k : Nat, i = .int .i64 k ∧ k ≤ l.length ∧ Hid (∀ i, i < k → okAt l i)) (fun i _ _ => l.length - (intOf i).toNat)
  case atStart => exact ⟨Below.refl _ _, 0, rfl, by omega, fun i h => by omega⟩
  case round =>
    obtain ⟨hB, k, rfl, hk, hall⟩ := hrel
    by_cases hlt : k < l.length
    · go_wp2_with fail
      refine (specLast_w l k hlt _ _ (h.to hB)).mono ?_
      rintro e w1 ⟨rfl, hb1⟩
      have B1 := via hB hb1
      obtain ⟨b, o, v0, rfl, hbl, hok, ⟨c0, c1, c2, c3, c4⟩, s0⟩ := (h.to B1).atSent k hlt
      have hiff := Lib.hid (okAt_iff l k hlt)
      have hpos := Lib.hid (last_pos l l[k] k hall.out)
      have hi64 : In64 (l[k]).C.Try := hok.2.2.2
      clear c0 c1 c2 c3 s0 hok
      have hnext : okAt l k → ∀ i, i < k + 1 → okAt l i := fun h1 i h2 => by
        by_cases h3 : i < k
        · exact hall.out i h3
        · obtain rfl : i = k := by omega
          exact h1
      replace hnext := Lib.hid hnext
      have hbad : ¬ okAt l k → r = false := fun h1 => by
        cases r with
        | false => rfl
        | true => exact absurd (hr.1 rfl k hlt) h1
      replace hbad := Lib.hid hbad
      generalize l[k] = x at *
      by_cases h1 : x.C.Try = 1
      · have hgood := hnext.out (hiff.out.2 (.inl h1))
        replace hgood := Lib.hid hgood
        rw [h1] at c4
        clear h1 hi64
        go_wp2
        go_roundw
        case rel => exact ⟨B1, k + 1, by go_num, by omega, hgood⟩
        case measure => simp [intOf]; omega
      · cases ho : lastR l x k with
        | none =>
          have hb := hbad.out (fun h2 => by rcases hiff.out.1 h2 with h3 | ⟨t, h3, _⟩; exact h1 h3; rw [ho] at h3; cases h3)
          subst hb
          have h1b : (x.C.Try == 1) = false := by simpa using h1
          simp only [Option.getD]
          go_wp2
          go_ret
          exact ⟨rfl, B1⟩
        | some t =>
          have ht := hpos.out t ho
          have h1b : (x.C.Try == 1) = false := by simpa using h1
          have h2b : (t == 0) = false := by simp; omega
          simp only [Option.getD]
          by_cases h3 : x.C.Try ≤ t
          · have hb := hbad.out (fun h2 => by rcases hiff.out.1 h2 with h4 | ⟨t', h4, h5⟩; exact h1 h4; rw [ho] at h4; cases h4; omega)
            subst hb
            go_wp2
            go_ret
            exact ⟨rfl, B1⟩
          · have hgood := hnext.out (hiff.out.2 (.inr ⟨t, ho, by omega⟩))
            replace hgood := Lib.hid hgood
            go_wp2
            go_roundw
            case rel => exact ⟨B1, k + 1, by go_num, by omega, hgood⟩
            case measure => simp [intOf]; omega
    · obtain rfl : k = l.length := by omega
      obtain rfl : r = true := hr.2 hall.out
      go_wp2
      go_ret
      exact ⟨rfl, hB⟩

set_option maxRecDepth 20000 in
theorem implOrder_w (l : List SentD) (r : Bool) (hr : r = true ↔ ∀ i, i < l.length → okAt l i) (v : Value) (w : World) (h : Sl w l v) :
    Calls Try.prog 49 #[v] w (RetB r w) := by
  obtain ⟨a, c, rfl, hl, -, hcap, -⟩ := h.open
  go_enter Try.func49, Try.ntmps49
  go_wp2
  go_loopw [9] (fun i wr => Below w.heap.size w wr ∧ ∃ k : Nat, i = .int .i64 k ∧ k ≤ l.length ∧ Hid (∀ i, i < k → okAt l i)) (fun i _ => l.length - (intOf i).toNat)
  case atStart => exact ⟨Below.refl _ _, 0, rfl, by omega, fun i h => by omega⟩
  case round =>
    obtain ⟨hB, k, rfl, hk, hall⟩ := hrel
    by_cases hlt : k < l.length
    · obtain ⟨b, o, v0, rfl, hbl, hok, ⟨c0, c1, c2, c3, c4⟩, s0⟩ := (h.to hB).atSent k hlt
      obtain ⟨a0, q0, rfl, hl0, -⟩ := s0.open
      have hcut := (h.to hB).cut k hk
      have hiff := Lib.hid (okAt_iff l k hlt)
      have hlt2 := Lib.hid (lastR_take l l[k] k k (Nat.le_refl _))
      have hi64 : In64 (l[k]).C.Try := hok.2.2.2
      have htl : (l.take k).length = k := by simp; omega
      have hnext : okAt l k → ∀ i, i < k + 1 → okAt l i := fun h1 i h2 => by
        by_cases h3 : i < k
        · exact hall.out i h3
        · obtain rfl : i = k := by omega
          exact h1
      replace hnext := Lib.hid hnext
      have hbad : ¬ okAt l k → r = false := fun h1 => by
        cases r with
        | false => rfl
        | true => exact absurd (hr.1 rfl k hlt) h1
      replace hbad := Lib.hid hbad
      clear s0 hok
      generalize l[k] = x at *
      by_cases h1 : x.C.Try = 1
      · have hgood := hnext.out (hiff.out.2 (.inl h1))
        replace hgood := Lib.hid hgood
        rw [h1] at c4
        --IN1
        go_wp2
        go_roundw
        case rel => exact ⟨by simp [hB], k + 1, by go_num, by omega, hgood⟩
        case measure => simp [intOf]; omega
      · have h1b : (x.C.Try == 1) = false := by simpa using h1
        have hkc : k ≤ c := by omega
        go_wp2
        refine wp_region_noPanic ?_
        refine wp_region_held_drew (S := (fun w' => w'.cell? ⟨wr.heap.size, 0, none⟩ = some (.string x.Name) ∧ w'.cell? ⟨wr.heap.size, 1, none⟩ = some (.string x.C.Key))) (by kernel_rfl) ?_ (fun hHeld0 => ?_)
        · go_keep
        refine' wpAnyH_take (i := 0) (oi := _) (v := _) ?hi81_0 (by kernel_rfl) (by kernel_rfl) (by kernel_rfl) (fun _ _ _ h => (h : False).elim) ?hy81_0 (by assumption) ?rest81_0
        case hi81_0 => simp only [List.getElem?_toArray, List.getElem?_cons_zero]; exact rfl
        case hy81_0 =>
          refine Or.inl ⟨by rfl, ?_⟩
          intro w hSw
          (try dsimp only at hSw)
          go_simp
          (try with_reducible rfl)
        simp only [Act.put, List.setIfInBounds_toArray, List.set_cons_zero, List.set_cons_succ]
        refine' wpAnyH_take (i := 1) (oi := _) (v := _) ?hi81_1 (by kernel_rfl) (by kernel_rfl) (by kernel_rfl) (fun _ _ _ h => (h : False).elim) ?hy81_1 (by assumption) ?rest81_1
        case hi81_1 => simp only [List.getElem?_toArray, List.getElem?_cons_succ, List.getElem?_cons_zero]; exact rfl
        case hy81_1 =>
          refine Or.inl ⟨by rfl, ?_⟩
          intro w hSw
          (try dsimp only at hSw)
          go_simp
          (try with_reducible rfl)
        simp only [Act.put, List.setIfInBounds_toArray, List.set_cons_zero, List.set_cons_succ]
        refine' wpAnyH_take (i := 2) (oi := _) (v := _) ?hi81_2 (by kernel_rfl) (by kernel_rfl) (by kernel_rfl) (fun _ _ _ h => (h : False).elim) ?hy81_2 (by assumption) ?rest81_2
        case hi81_2 => simp only [List.getElem?_toArray, List.getElem?_cons_succ, List.getElem?_cons_zero]; exact rfl
        case hy81_2 =>
          refine Or.inl ⟨by rfl, ?_⟩
          intro w hSw
          (try dsimp only at hSw)
          go_simp
          (try with_reducible rfl)
        simp only [Act.put, List.setIfInBounds_toArray, List.set_cons_zero, List.set_cons_succ]
        refine' wpAnyH_take (i := 3) (oi := _) (v := _) ?hi81_3 (by kernel_rfl) (by kernel_rfl) (by kernel_rfl) (fun _ _ _ h => (h : False).elim) ?hy81_3 (by assumption) ?rest81_3
        case hi81_3 => simp only [List.getElem?_toArray, List.getElem?_cons_succ, List.getElem?_cons_zero]; exact rfl
        case hy81_3 =>
          refine Or.inl ⟨by rfl, ?_⟩
          intro w hSw
          (try dsimp only at hSw)
          go_simp
          (try with_reducible rfl)
        simp only [Act.put, List.setIfInBounds_toArray, List.set_cons_zero, List.set_cons_succ]
        refine' wpAnyH_take (i := 4) (oi := _) (v := _) ?hi81_4 (by kernel_rfl) (by kernel_rfl) (by kernel_rfl) (fun _ _ _ h => (h : False).elim) ?hy81_4 (by assumption) ?rest81_4
        case hi81_4 => simp only [List.getElem?_toArray, List.getElem?_cons_succ, List.getElem?_cons_zero]; exact rfl
        case hy81_4 =>
          refine Or.inl ⟨by rfl, ?_⟩
          intro w hSw
          (try dsimp only at hSw)
          go_simp
          (try with_reducible rfl)
        simp only [Act.put, List.setIfInBounds_toArray, List.set_cons_zero, List.set_cons_succ]
        refine' wpAnyH_take (i := 5) (oi := _) (v := _) ?hi81_5 (by kernel_rfl) (by kernel_rfl) (by kernel_rfl) (fun _ _ _ h => (h : False).elim) ?hy81_5 (by assumption) ?rest81_5
        case hi81_5 => simp only [List.getElem?_toArray, List.getElem?_cons_succ, List.getElem?_cons_zero]; exact rfl
        case hy81_5 =>
          refine Or.inl ⟨by rfl, ?_⟩
          intro w hSw
          (try dsimp only at hSw)
          go_simp
          (try with_reducible rfl)
        simp only [Act.put, List.setIfInBounds_toArray, List.set_cons_zero, List.set_cons_succ]
        refine' wpAnyH_take (i := 6) (oi := _) (v := _) ?hi81_6 (by kernel_rfl) (by kernel_rfl) (by kernel_rfl) (fun _ _ _ h => (h : False).elim) ?hy81_6 (by assumption) ?rest81_6
        case hi81_6 => simp only [List.getElem?_toArray, List.getElem?_cons_succ, List.getElem?_cons_zero]; exact rfl
        case hy81_6 =>
          refine Or.inl ⟨by rfl, ?_⟩
          intro w hSw
          (try dsimp only at hSw)
          go_simp
          (try with_reducible rfl)
        simp only [Act.put, List.setIfInBounds_toArray, List.set_cons_zero, List.set_cons_succ]
        refine' wpAnyH_take (i := 7) (oi := _) (v := _) ?hi81_7 (by kernel_rfl) (by kernel_rfl) (by kernel_rfl) (fun _ _ _ h => (h : False).elim) ?hy81_7 (by assumption) ?rest81_7
        case hi81_7 => simp only [List.getElem?_toArray, List.getElem?_cons_succ, List.getElem?_cons_zero]; exact rfl
        case hy81_7 =>
          refine Or.inl ⟨by rfl, ?_⟩
          intro w hSw
          (try dsimp only at hSw)
          go_simp
          (try with_reducible rfl)
        simp only [Act.put, List.setIfInBounds_toArray, List.set_cons_zero, List.set_cons_succ]
        refine wpAnyH_ready (rs := [8]) (by kernel_rfl) (by simp) ?_
        refine' AllReadyH.cons (o := _) ?hi81_8 (fun K hK => ?_) AllReadyH.nil
        case hi81_8 => simp only [List.getElem?_toArray, List.getElem?_cons_succ, List.getElem?_cons_zero]; exact rfl
        go_simp
        go_at_call 78
        refine (implLast_w (l.take k) x _ _ (hcut.to (by simp))).mono ?_
        rintro e w1 ⟨rfl, hb1⟩
        have B1 := via (w0 := w) (by simp [hB]) hb1
        have X1 : Bx w1 wr.heap.size [.string x.Name, .string x.C.Key, .string x.C.F.Kind, .slice a0 x.C.F.Fields.length q0, .int .i64 x.C.Try] := Bx.via (by simp) hb1
        have y0 := X1.c 0 _ rfl
        have y1 := X1.c 1 _ rfl
        have y4 := X1.c 4 _ rfl
        rw [htl, hlt2.out]
        go_wp2_with fail
        refine hK.out _ _ ?_ (fun hHeld8 => ?_)
        · go_keep
        clear hK K hHeld0
        refine' wpAnyH_take (i := 9) (oi := _) (v := _) ?hi81_9 (by kernel_rfl) (by kernel_rfl) (by kernel_rfl) (fun _ _ _ h => (h : False).elim) ?hy81_9 (by assumption) ?rest81_9
        case hi81_9 => simp only [List.getElem?_toArray, List.getElem?_cons_succ, List.getElem?_cons_zero]; exact rfl
        case hy81_9 =>
          refine Or.inl ⟨by rfl, ?_⟩
          intro w hSw
          (try dsimp only at hSw)
          go_simp
          (try with_reducible rfl)
        simp only [Act.put, List.setIfInBounds_toArray, List.set_cons_zero, List.set_cons_succ]
        refine' wpAnyH_take (i := 10) (oi := _) (v := _) ?hi81_10 (by kernel_rfl) (by kernel_rfl) (by kernel_rfl) (fun _ _ _ h => (h : False).elim) ?hy81_10 (by assumption) ?rest81_10
        case hi81_10 => simp only [List.getElem?_toArray, List.getElem?_cons_succ, List.getElem?_cons_zero]; exact rfl
        case hy81_10 =>
          refine Or.inl ⟨by rfl, ?_⟩
          intro w hSw
          (try dsimp only at hSw)
          go_simp
          (try with_reducible rfl)
        simp only [Act.put, List.setIfInBounds_toArray, List.set_cons_zero, List.set_cons_succ]
        refine' wpAnyH_take (i := 11) (oi := _) (v := _) ?hi81_11 (by kernel_rfl) (by kernel_rfl) (by kernel_rfl) (fun _ _ _ h => (h : False).elim) ?hy81_11 (by assumption) ?rest81_11
        case hi81_11 => simp only [List.getElem?_toArray, List.getElem?_cons_succ, List.getElem?_cons_zero]; exact rfl
        case hy81_11 =>
          refine Or.inl ⟨by rfl, ?_⟩
          intro w hSw
          (try dsimp only at hSw)
          go_simp
          (try with_reducible rfl)
        simp only [Act.put, List.setIfInBounds_toArray, List.set_cons_zero, List.set_cons_succ]
        refine' wpAnyH_take (i := 12) (oi := _) (v := _) ?hi81_12 (by kernel_rfl) (by kernel_rfl) (by kernel_rfl) (fun _ _ _ h => (h : False).elim) ?hy81_12 (by assumption) ?rest81_12
        case hi81_12 => simp only [List.getElem?_toArray, List.getElem?_cons_succ, List.getElem?_cons_zero]; exact rfl
        case hy81_12 =>
          refine Or.inl ⟨by rfl, ?_⟩
          intro w hSw
          (try dsimp only at hSw)
          go_simp
          (try with_reducible rfl)
        simp only [Act.put, List.setIfInBounds_toArray, List.set_cons_zero, List.set_cons_succ]
        refine' wpAnyH_take (i := 13) (oi := _) (v := _) ?hi81_13 (by kernel_rfl) (by kernel_rfl) (by kernel_rfl) (fun _ _ _ h => (h : False).elim) ?hy81_13 (by assumption) ?rest81_13
        case hi81_13 => simp only [List.getElem?_toArray, List.getElem?_cons_succ, List.getElem?_cons_zero]; exact rfl
        case hy81_13 =>
          refine Or.inl ⟨by rfl, ?_⟩
          intro w hSw
          (try dsimp only at hSw)
          go_simp
          (try with_reducible rfl)
        simp only [Act.put, List.setIfInBounds_toArray, List.set_cons_zero, List.set_cons_succ]
        refine wpAnyH_done (by kernel_rfl) ?_ _
        clear hHeld8
        refine NoPanic.normal ?_
        cases ho : lastR l x k with
        | none =>
          have hb := hbad.out (fun h2 => by rcases hiff.out.1 h2 with h3 | ⟨t, h3, _⟩; exact h1 h3; rw [ho] at h3; cases h3)
          subst hb
          simp only [Option.getD, Option.isSome]
          go_wp2
          go_ret
          exact ⟨rfl, B1⟩
        | some t =>
          simp only [Option.getD, Option.isSome]
          by_cases h3 : x.C.Try ≤ t
          · have hb := hbad.out (fun h2 => by rcases hiff.out.1 h2 with h4 | ⟨t', h4, h5⟩; exact h1 h4; rw [ho] at h4; cases h4; omega)
            subst hb
            go_wp2
            go_ret
            exact ⟨rfl, B1⟩
          · have hgood := hnext.out (hiff.out.2 (.inr ⟨t, ho, by omega⟩))
            replace hgood := Lib.hid hgood
            go_wp2
            go_roundw
            case rel => exact ⟨B1, k + 1, by go_num, by omega, hgood⟩
            case measure => simp [intOf]; omega
    · obtain rfl : k = l.length := by omega
      obtain rfl : r = true := hr.2 hall.out
      go_wp2
      go_ret
      exact ⟨rfl, hB⟩
end Go.Proofs.Ytojlnmenfikhbaa
