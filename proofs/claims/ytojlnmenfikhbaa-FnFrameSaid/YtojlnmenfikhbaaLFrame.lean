/- The law FnFrame. -/
import Derived.Test.YtojlnmenfikhbaaFrLaw2
namespace Go.Proofs.Ytojlnmenfikhbaa
open Go.RowKit
open Cel (rd own rd_len rd_one own_rd own_lt rd_below rd_mono own_keep)

theorem OwnS.byte {w : World} {b : List UInt8} {r n c : Nat} {fp : List Nat} (h : OwnS w b (.slice (some ⟨r, 0, none⟩) n c) fp) (hn : fp.Nodup) (x : Nat) (hx : x < b.length) :
    w.cell? ⟨r, x, none⟩ = some (.int .u8 (b[x]).toNat) ∧ ∀ o, w.frozen? ⟨r, o, none⟩ = false := by
  obtain ⟨_, hlt, hz, _⟩ := h.spare
  obtain ⟨vs, f, k1, k2, _⟩ := h.upd hn x hx
  obtain ⟨rfl, rfl⟩ := k1
  exact ⟨by simpa [Cel.k] using k2 0 (by decide), hz⟩

theorem frame_turned' (b f P : List UInt8) (hP : frameB b f = P) (hf : f.length ≤ 4000) (t : Nat) (ht : t < f.length) (u : UInt8) (J : Nat) (hJ : P.length - 5 - t = J) (hj : J < P.length) (hu : P[J] ≠ u) : getF (P.set J u) b.length = none := by
  subst hP hJ; exact frame_turned b f hf t ht u hj hu
set_option maxHeartbeats 4000000 in
set_option maxRecDepth 20000 in
theorem fnFrame_walk (l : List UInt8) (v : Value) (w : World) (h : Sl w l v) :
    Calls Try.prog 14 #[v] w (RetB true w) := by
  obtain ⟨a, c, rfl, hl2, -⟩ := h.open
  by_cases hbig : 1048576 < l.length
  · go_enter Try.func14, Try.ntmps14
    go_wp2_with fail
    refine (big_w l _ _ h).mono ?_
    rintro e w1 ⟨rfl, hb1⟩
    rw [decide_eq_true hbig]
    go_wp2
    go_ret
    exact ⟨rfl, hb1⟩
  · go_enter Try.func14, Try.ntmps14
    go_wp2_with fail
    refine (big_w l _ _ h).mono ?_
    rintro e w0 ⟨rfl, hb0⟩
    rw [decide_eq_false hbig]
    go_wp2_with fail
    refine (drawPut_w l _ _ (h.to hb0) (by omega)).mono ?_
    rintro e w1 ⟨b, f, a1, c1, a2, c2, rfl, hbl, hfl, sb, sf, hb1⟩
    have B1 : Below w.heap.size w w1 := via hb0 hb1
    have hw01 := B1.size
    clear hb0 hb1
    go_wp2_with fail
    refine (implPutFrame_w b f _ _ _ sb sf (by omega) (by omega)).mono ?_
    rintro e w2 ⟨a3, c3, fp, rfl, op, hfp, hb2⟩
    replace sb := sb.to hb2
    replace sf := sf.to hb2
    replace B1 := via B1 hb2
    clear hb2
    have hP := Lib.hid (Eq.refl (frameB b f))
    have hPl := frameB_len b f
    generalize hPe : frameB b f = P at *
    replace hPe := Lib.hid hPe
    go_wp2_with fail
    refine (implGetFrame_w P _ _ _ op.sl ⟨by omega, by omega⟩ (by omega)).mono ?_
    rintro e w3 ⟨a4, c4, f4, rfl, o4, -, hb3⟩
    have sx := o4.sl
    replace sb := sb.to hb3
    replace sf := sf.to hb3
    replace op := op.below hb3
    replace B1 := via B1 hb3
    clear o4 hb3
    generalize hX : frB P b.length = X at *
    generalize hN : frN P b.length = N at *
    generalize hO : (getF P b.length).isSome = ok at *
    replace hX := Lib.hid hX
    replace hN := Lib.hid hN
    replace hO := Lib.hid hO
    go_wp2_with fail
    refine (drawGet_w l _ _ (h.to B1) (by omega)).mono ?_
    rintro e w4 ⟨C, i, a5, c5, rfl, hCl, hi, had, sC, hb4⟩
    replace sb := sb.to hb4
    replace sf := sf.to hb4
    replace sx := sx.to hb4
    replace op := op.below hb4
    replace B1 := via B1 hb4
    clear hb4
    go_wp2_with fail
    refine (implGetFrame_w C _ _ _ sC hi (by omega)).mono ?_
    rintro e w5 ⟨a6, c6, f6, rfl, o6, -, hb5⟩
    have sy := o6.sl
    replace sb := sb.to hb5
    replace sf := sf.to hb5
    replace sx := sx.to hb5
    replace sC := sC.to hb5
    replace op := op.below hb5
    replace B1 := via B1 hb5
    clear hb5 o6
    go_wp2_with fail
    refine (specGetFrame_w C _ _ _ sC hi (by omega)).mono ?_
    rintro e w6 ⟨a7, c7, f7, rfl, -, -, hb6⟩
    replace sb := sb.to hb6
    replace sf := sf.to hb6
    replace sx := sx.to hb6
    replace sy := sy.to hb6
    replace sC := sC.to hb6
    replace op := op.below hb6
    replace B1 := via B1 hb6
    clear hb6
    cases hF : getF C i with
    | none =>
      obtain ⟨e1, e2, e3⟩ := getF_none hF
      rw [hF] at e3
      rw [e1] at sy
      rw [e1, e2]
      simp only [Option.isSome]
      clear hF e1 e2 e3
      go_wp2
      go_quiet (fail)
      have BV : Below w6.heap.size w6 (w6.drewN nq) := below_drewN (Below.refl _ _) _
      replace sb := sb.to BV
      replace sf := sf.to BV
      replace sx := sx.to BV
      replace op := op.below BV
      replace B1 := via B1 BV
      clear BV sy sC
      generalize w6.drewN nq = V at *
      by_cases hbigf : 4000 < f.length
      · have hPb : P = b := by rw [← hPe.out, frameB, if_pos hbigf]
        obtain rfl : b = P := hPb.symm
        go_wp2_with fail
        refine (sameT_w b _ _ _ op.sl sb).mono ?_
        rintro e V2 ⟨rfl, m2, rfl⟩
        go_wp2
        go_ret
        exact ⟨rfl, by simp [B1]⟩
      · have hg : getF P b.length = some (f, ((P.length : Nat) : Int)) := by
          have := getF_full b f [] (by omega)
          have e : b ++ (numB f.length ++ f ++ crc4 f) = P := by rw [← hPe.out, frameB_one _ _ (by omega)]; rfl
          rw [List.append_nil, e] at this; exact this
        obtain ⟨g1, g2, g3⟩ := getF_some hg
        obtain rfl : f = X := by rw [← hX.out, g1]
        obtain rfl : ((P.length : Nat) : Int) = N := by rw [← hN.out, g2]
        obtain rfl : true = ok := by rw [← hO.out, g3]
        clear hg g1 g2 g3 hX hN hO
        have h5 : 5 + f.length ≤ P.length := by rw [← hPe.out, frameB_one _ _ (by omega)]; have := varB_pos 5 (zig f.length); simp [frB1, numB, crc4]; omega
        replace h5 := Lib.hid h5
        by_cases h0 : f.length = 0
        · obtain rfl : f = [] := List.eq_nil_of_length_eq_zero h0
          go_wp2_with fail
          refine (sameT_w [] _ _ _ sx sf).mono ?_
          rintro e V2 ⟨rfl, m2, rfl⟩
          go_wp2
          go_ret
          exact ⟨rfl, by simp [B1]⟩
        · go_wp2_with fail
          refine (sameT_w f _ _ _ sx sf).mono ?_
          rintro e V2 ⟨rfl, m2, rfl⟩
          have BV2 : Below V.heap.size V (V.drewN m2) := below_drewN (Below.refl _ _) _
          replace sb := sb.to BV2
          replace op := op.below BV2
          replace B1 := via B1 BV2
          clear BV2 sx sf
          generalize V.drewN m2 = V at *
          obtain ⟨r3, rfl⟩ : ∃ r, a3 = some ⟨r, 0, none⟩ := by
            rcases op.addr.out with rfl | h
            · obtain ⟨_, _, e, _, _, h, h'⟩ := op.sl.open; cases e; have := h' rfl; have := h5.out; omega
            · exact h
          replace h5 := h5.out
          have hw1 : IntKind.i64.wrap ((P.length : Int) - 5) = (P.length : Int) - 5 := by rw [IntKind.wrap_i64]; omega
          go_wp2
          refine wp_region_noPanic ?_
          refine wp_region_held_drew (S := (fun _ => True)) (by kernel_rfl) ?_ (fun hHeld0 => ?_)
          · trivial
          refine' wpAnyH_take (i := 0) (oi := _) (v := _) ?hi61_0 (by kernel_rfl) (by kernel_rfl) (by kernel_rfl) (fun _ _ _ h => (h : False).elim) ?hy61_0 (by assumption) ?rest61_0
          case hi61_0 => simp only [List.getElem?_toArray, List.getElem?_cons_zero]; exact rfl
          case hy61_0 =>
            refine Or.inl ⟨by rfl, ?_⟩
            intro w hSw
            (try dsimp only at hSw)
            go_simp
            (try with_reducible rfl)
          simp only [Act.put, List.setIfInBounds_toArray, List.set_cons_zero, List.set_cons_succ]
          refine' wpAnyH_take (i := 1) (oi := _) (v := _) ?hi61_1 (by kernel_rfl) (by kernel_rfl) (by kernel_rfl) (fun _ _ _ h => (h : False).elim) ?hy61_1 (by assumption) ?rest61_1
          case hi61_1 => simp only [List.getElem?_toArray, List.getElem?_cons_succ, List.getElem?_cons_zero]; exact rfl
          case hy61_1 =>
            refine Or.inl ⟨by rfl, ?_⟩
            intro w hSw
            (try dsimp only at hSw)
            go_simp
            (try with_reducible rfl)
          simp only [Act.put, List.setIfInBounds_toArray, List.set_cons_zero, List.set_cons_succ]
          refine' wpAnyH_take (i := 2) (oi := _) (v := _) ?hi61_2 (by kernel_rfl) (by kernel_rfl) (by kernel_rfl) (fun _ _ _ h => (h : False).elim) ?hy61_2 (by assumption) ?rest61_2
          case hi61_2 => simp only [List.getElem?_toArray, List.getElem?_cons_succ, List.getElem?_cons_zero]; exact rfl
          case hy61_2 =>
            refine Or.inl ⟨by rfl, ?_⟩
            intro w hSw
            (try dsimp only at hSw)
            go_simp
            (try with_reducible rfl)
          simp only [Act.put, List.setIfInBounds_toArray, List.set_cons_zero, List.set_cons_succ]
          refine' wpAnyH_take (i := 3) (oi := _) (v := _) ?hi61_3 (by kernel_rfl) (by kernel_rfl) (by kernel_rfl) (fun _ _ _ h => (h : False).elim) ?hy61_3 (by assumption) ?rest61_3
          case hi61_3 => simp only [List.getElem?_toArray, List.getElem?_cons_succ, List.getElem?_cons_zero]; exact rfl
          case hy61_3 =>
            refine Or.inl ⟨by rfl, ?_⟩
            intro w hSw
            (try dsimp only at hSw)
            go_simp
            (try with_reducible rfl)
          simp only [Act.put, List.setIfInBounds_toArray, List.set_cons_zero, List.set_cons_succ]
          refine' wpAnyH_take (i := 4) (oi := _) (v := _) ?hi61_4 (by kernel_rfl) (by kernel_rfl) (by kernel_rfl) (fun _ _ _ h => (h : False).elim) ?hy61_4 (by assumption) ?rest61_4
          case hi61_4 => simp only [List.getElem?_toArray, List.getElem?_cons_succ, List.getElem?_cons_zero]; exact rfl
          case hy61_4 =>
            refine Or.inl ⟨by rfl, ?_⟩
            intro w hSw
            (try dsimp only at hSw)
            go_simp
            (try with_reducible rfl)
          simp only [Act.put, List.setIfInBounds_toArray, List.set_cons_zero, List.set_cons_succ]
          refine' wpAnyH_take (i := 6) (oi := _) (v := _) ?hi61_6 (by kernel_rfl) (by kernel_rfl) (by kernel_rfl) (fun _ _ _ h => (h : False).elim) ?hy61_6 (by assumption) ?rest61_6
          case hi61_6 => simp only [List.getElem?_toArray, List.getElem?_cons_succ, List.getElem?_cons_zero]; exact rfl
          case hy61_6 =>
            refine Or.inl ⟨by rfl, ?_⟩
            intro w hSw
            (try dsimp only at hSw)
            go_simp
            (try with_reducible rfl)
          simp only [Act.put, List.setIfInBounds_toArray, List.set_cons_zero, List.set_cons_succ]
          refine' wpAnyH_take (i := 7) (oi := _) (v := _) ?hi61_7 (by kernel_rfl) (by kernel_rfl) (by kernel_rfl) (fun _ _ _ h => (h : False).elim) ?hy61_7 (by assumption) ?rest61_7
          case hi61_7 => simp only [List.getElem?_toArray, List.getElem?_cons_succ, List.getElem?_cons_zero]; exact rfl
          case hy61_7 =>
            refine Or.inl ⟨by rfl, ?_⟩
            intro w hSw
            (try dsimp only at hSw)
            go_simp
            (try with_reducible rfl)
          simp only [Act.put, List.setIfInBounds_toArray, List.set_cons_zero, List.set_cons_succ]
          refine' wpAnyH_take (i := 12) (oi := _) (v := _) ?hi61_12 (by kernel_rfl) (by kernel_rfl) (by kernel_rfl) (fun _ _ _ h => (h : False).elim) ?hy61_12 (by assumption) ?rest61_12
          case hi61_12 => simp only [List.getElem?_toArray, List.getElem?_cons_succ, List.getElem?_cons_zero]; exact rfl
          case hy61_12 =>
            refine Or.inl ⟨by rfl, ?_⟩
            intro w hSw
            (try dsimp only at hSw)
            go_simp
            (try with_reducible rfl)
          simp only [Act.put, List.setIfInBounds_toArray, List.set_cons_zero, List.set_cons_succ]
          refine wpAnyH_ready (rs := [5]) (by kernel_rfl) (by simp) ?_
          refine' AllReadyH.cons (o := _) ?hi61_5 (fun K hK => ?_) AllReadyH.nil
          case hi61_5 => simp only [List.getElem?_toArray, List.getElem?_cons_succ, List.getElem?_cons_zero]; exact rfl
          go_simp
          go_at_call 42
          refine (at_w l _ 2 _ (h.to (by simp [B1])) (by omega) (by decide)).mono ?_
          rintro e u1 ⟨n1, rfl, hn1, hu1⟩
          have U1 : Below V.heap.size V u1 := via (by simp) hu1
          replace op := op.below U1
          obtain ⟨t, ht⟩ : ∃ t, n1 % f.length = t := ⟨_, rfl⟩
          have ht2 : t < f.length := by rw [← ht]; exact Nat.mod_lt _ (by omega)
          have ht3 : (n1 : Int).tmod (f.length : Int) = t := by rw [← ht, Int.ofNat_tmod]
          obtain ⟨J, hJ⟩ : ∃ J, P.length - 5 - t = J := ⟨_, rfl⟩
          have hj : J < P.length := by omega
          have hj2 : (P.length : Int) - 5 - t = (J : Int) := by omega
          have hw3 : IntKind.i64.wrap (J : Int) = (J : Int) := by rw [IntKind.wrap_i64]; omega
          obtain ⟨q1, q2⟩ := op.byte hfp.1 _ hj
          clear ht
          replace hJ := Lib.hid hJ
          go_wp2_with fail
          refine hK.out _ _ ?_ (fun hHeld5 => ?_)
          · trivial
          clear hK K hHeld0
          refine' wpAnyH_take (i := 8) (oi := _) (v := _) ?hi61_8 (by kernel_rfl) (by kernel_rfl) (by kernel_rfl) (fun _ _ _ h => (h : False).elim) ?hy61_8 (by assumption) ?rest61_8
          case hi61_8 => simp only [List.getElem?_toArray, List.getElem?_cons_succ, List.getElem?_cons_zero]; exact rfl
          case hy61_8 =>
            refine Or.inl ⟨by rfl, ?_⟩
            intro w hSw
            (try dsimp only at hSw)
            go_simp
            (try with_reducible rfl)
          simp only [Act.put, List.setIfInBounds_toArray, List.set_cons_zero, List.set_cons_succ]
          refine' wpAnyH_take (i := 9) (oi := _) (v := _) ?hi61_9 (by kernel_rfl) (by kernel_rfl) (by kernel_rfl) (fun _ _ _ h => (h : False).elim) ?hy61_9 (by assumption) ?rest61_9
          case hi61_9 => simp only [List.getElem?_toArray, List.getElem?_cons_succ, List.getElem?_cons_zero]; exact rfl
          case hy61_9 =>
            refine Or.inl ⟨by rfl, ?_⟩
            intro w hSw
            (try dsimp only at hSw)
            go_simp
            (try with_reducible rfl)
          simp only [Act.put, List.setIfInBounds_toArray, List.set_cons_zero, List.set_cons_succ]
          refine' wpAnyH_take (i := 10) (oi := _) (v := _) ?hi61_10 (by kernel_rfl) (by kernel_rfl) (by kernel_rfl) (fun _ _ _ h => (h : False).elim) ?hy61_10 (by assumption) ?rest61_10
          case hi61_10 => simp only [List.getElem?_toArray, List.getElem?_cons_succ, List.getElem?_cons_zero]; exact rfl
          case hy61_10 =>
            refine Or.inl ⟨by rfl, ?_⟩
            intro w hSw
            (try dsimp only at hSw)
            go_simp
            (try with_reducible rfl)
          simp only [Act.put, List.setIfInBounds_toArray, List.set_cons_zero, List.set_cons_succ]
          refine wpAnyH_ready (rs := [11, 13]) (by kernel_rfl) (by simp) ?_
          refine' AllReadyH.cons (o := _) ?hi61_11 (fun K hK => ?st61_11) (AllReadyH.cons (o := _) ?hi61_13 (fun K hK => ?st61_13) AllReadyH.nil)
          case hi61_11 => simp only [List.getElem?_toArray, List.getElem?_cons_succ, List.getElem?_cons_zero]; exact rfl
          case hi61_13 => simp only [List.getElem?_toArray, List.getElem?_cons_succ, List.getElem?_cons_zero]; exact rfl
          case st61_11 =>
            go_simp
            refine hK.out _ _ ?_ (fun hHeld11 => ?_)
            · trivial
            clear hK K hHeld5
            refine wpAnyH_ready (rs := [13]) (by kernel_rfl) (by simp) ?_
            refine' AllReadyH.cons (o := _) ?hi61_13 (fun K hK => ?_) AllReadyH.nil
            case hi61_13 => simp only [List.getElem?_toArray, List.getElem?_cons_succ, List.getElem?_cons_zero]; exact rfl
            go_simp
            go_at_call 42
            refine (at_w l _ 3 _ (h.to (by simp [via B1 U1])) (by omega) (by decide)).mono ?_
            rintro e u2 ⟨n2, rfl, hn2, hu2⟩
            have U2 : Below u1.heap.size u1 u2 := via (by simp) hu2
            replace op := op.below U2
            replace q1 := (op.byte hfp.1 _ hj).1
            replace q2 := (op.byte hfp.1 _ hj).2
            go_wp2_with fail
            refine hK.out _ _ ?_ (fun hHeld13 => ?_)
            · trivial
            clear hK K hHeld11
            refine' wpAnyH_take (i := 14) (oi := _) (v := _) ?hi61_14 (by kernel_rfl) (by kernel_rfl) (by kernel_rfl) (fun _ _ _ h => (h : False).elim) ?hy61_14 (by assumption) ?rest61_14
            case hi61_14 => simp only [List.getElem?_toArray, List.getElem?_cons_succ, List.getElem?_cons_zero]; exact rfl
            case hy61_14 =>
              refine Or.inl ⟨by rfl, ?_⟩
              intro w hSw
              (try dsimp only at hSw)
              go_simp
              (try with_reducible rfl)
            simp only [Act.put, List.setIfInBounds_toArray, List.set_cons_zero, List.set_cons_succ]
            refine' wpAnyH_take (i := 15) (oi := _) (v := _) ?hi61_15 (by kernel_rfl) (by kernel_rfl) (by kernel_rfl) (fun _ _ _ h => (h : False).elim) ?hy61_15 (by assumption) ?rest61_15
            case hi61_15 => simp only [List.getElem?_toArray, List.getElem?_cons_succ, List.getElem?_cons_zero]; exact rfl
            case hy61_15 =>
              refine Or.inl ⟨by rfl, ?_⟩
              intro w hSw
              (try dsimp only at hSw)
              go_simp
              (try with_reducible rfl)
            simp only [Act.put, List.setIfInBounds_toArray, List.set_cons_zero, List.set_cons_succ]
            refine' wpAnyH_take (i := 16) (oi := _) (v := _) ?hi61_16 (by kernel_rfl) (by kernel_rfl) (by kernel_rfl) (fun _ _ _ h => (h : False).elim) ?hy61_16 (by assumption) ?rest61_16
            case hi61_16 => simp only [List.getElem?_toArray, List.getElem?_cons_succ, List.getElem?_cons_zero]; exact rfl
            case hy61_16 =>
              refine Or.inl ⟨by rfl, ?_⟩
              intro w hSw
              (try dsimp only at hSw)
              go_simp
              (try with_reducible rfl)
            simp only [Act.put, List.setIfInBounds_toArray, List.set_cons_zero, List.set_cons_succ]
            refine' wpAnyH_take (i := 17) (oi := _) (v := _) ?hi61_17 (by kernel_rfl) (by kernel_rfl) (by kernel_rfl) (fun _ _ _ h => (h : False).elim) ?hy61_17 (by assumption) ?rest61_17
            case hi61_17 => simp only [List.getElem?_toArray, List.getElem?_cons_succ, List.getElem?_cons_zero]; exact rfl
            case hy61_17 =>
              refine Or.inl ⟨by rfl, ?_⟩
              intro w hSw
              (try dsimp only at hSw)
              go_simp
              (try with_reducible rfl)
            simp only [Act.put, List.setIfInBounds_toArray, List.set_cons_zero, List.set_cons_succ]
            refine' wpAnyH_take (i := 18) (oi := _) (v := _) ?hi61_18 (by kernel_rfl) (by kernel_rfl) (by kernel_rfl) (fun _ _ _ h => (h : False).elim) ?hy61_18 (by assumption) ?rest61_18
            case hi61_18 => simp only [List.getElem?_toArray, List.getElem?_cons_succ, List.getElem?_cons_zero]; exact rfl
            case hy61_18 =>
              refine Or.inl ⟨by rfl, ?_⟩
              intro w hSw
              (try dsimp only at hSw)
              go_simp
              (try with_reducible rfl)
            simp only [Act.put, List.setIfInBounds_toArray, List.set_cons_zero, List.set_cons_succ]
            refine wpAnyH_ready (rs := [19]) (by kernel_rfl) (by simp) ?_
            refine' AllReadyH.cons (o := _) ?hi61_19 (fun K hK => ?_) AllReadyH.nil
            case hi61_19 => simp only [List.getElem?_toArray, List.getElem?_cons_succ, List.getElem?_cons_zero]; exact rfl
            go_simp
            refine hK.out _ _ ?_ (fun hHeld19 => ?_)
            · trivial
            clear hK K hHeld13
            refine wpAnyH_done (by kernel_rfl) ?_ _
            clear hHeld19
            refine NoPanic.normal ?_
            obtain ⟨s, hs⟩ : ∃ s, n2 % 8 = s := ⟨_, rfl⟩
            have hs8 : s < 8 := by omega
            have ht8 : (n2 : Int).tmod 8 = s := by rw [← hs, Int.ofNat_tmod]; rfl
            rw [ht8]
            obtain ⟨u, hu, hne⟩ := turned P[J] s hs8
            rw [hu]
            have op3 := op.turn hfp.1 J hj u
            have hnone := frame_turned' b f P hPe.out (by omega) t ht2 u J hJ.out hj hne
            have hr3 : w.heap.size ≤ r3 := Nat.le_trans hw01 (hfp.2 _ (op.block_mem rfl))
            have B3 : Below w.heap.size w (u2.setCell ⟨r3, J, none⟩ (.int .u8 (u.toNat : Int))) := (via (via B1 U1) U2).setCell hr3 _
            clear op q1 q2 hu hne hr3 U1 U2 hu1 hu2 ht8 ht3 hs ht2 hj2 hw3 hw1
            generalize u2.setCell ⟨r3, J, none⟩ (.int .u8 (u.toNat : Int)) = u3 at *
            go_wp2_with fail
            refine (implGetFrame_w (P.set J u) _ b.length _ op3.sl ⟨by omega, by omega⟩ (by simp; omega)).mono ?_
            rintro e u4 ⟨a9, c9, f9, rfl, -, -, hu4⟩
            obtain ⟨e1, e2, e3⟩ := getF_none hnone
            rw [e1, e2, e3]
            go_wp2
            go_ret
            exact ⟨rfl, via B3 hu4⟩
          case st61_13 =>
            go_simp
            go_at_call 42
            refine (at_w l _ 3 _ (h.to (by simp [via B1 U1])) (by omega) (by decide)).mono ?_
            rintro e u2 ⟨n2, rfl, hn2, hu2⟩
            have U2 : Below u1.heap.size u1 u2 := via (by simp) hu2
            replace op := op.below U2
            replace q1 := (op.byte hfp.1 _ hj).1
            replace q2 := (op.byte hfp.1 _ hj).2
            go_wp2_with fail
            refine hK.out _ _ ?_ (fun hHeld13 => ?_)
            · trivial
            clear hK K hHeld5
            refine' wpAnyH_take (i := 14) (oi := _) (v := _) ?hi61B_14 (by kernel_rfl) (by kernel_rfl) (by kernel_rfl) (fun _ _ _ h => (h : False).elim) ?hy61B_14 (by assumption) ?rest61B_14
            case hi61B_14 => simp only [List.getElem?_toArray, List.getElem?_cons_succ, List.getElem?_cons_zero]; exact rfl
            case hy61B_14 =>
              refine Or.inl ⟨by rfl, ?_⟩
              intro w hSw
              (try dsimp only at hSw)
              go_simp
              (try with_reducible rfl)
            simp only [Act.put, List.setIfInBounds_toArray, List.set_cons_zero, List.set_cons_succ]
            refine' wpAnyH_take (i := 15) (oi := _) (v := _) ?hi61B_15 (by kernel_rfl) (by kernel_rfl) (by kernel_rfl) (fun _ _ _ h => (h : False).elim) ?hy61B_15 (by assumption) ?rest61B_15
            case hi61B_15 => simp only [List.getElem?_toArray, List.getElem?_cons_succ, List.getElem?_cons_zero]; exact rfl
            case hy61B_15 =>
              refine Or.inl ⟨by rfl, ?_⟩
              intro w hSw
              (try dsimp only at hSw)
              go_simp
              (try with_reducible rfl)
            simp only [Act.put, List.setIfInBounds_toArray, List.set_cons_zero, List.set_cons_succ]
            refine' wpAnyH_take (i := 16) (oi := _) (v := _) ?hi61B_16 (by kernel_rfl) (by kernel_rfl) (by kernel_rfl) (fun _ _ _ h => (h : False).elim) ?hy61B_16 (by assumption) ?rest61B_16
            case hi61B_16 => simp only [List.getElem?_toArray, List.getElem?_cons_succ, List.getElem?_cons_zero]; exact rfl
            case hy61B_16 =>
              refine Or.inl ⟨by rfl, ?_⟩
              intro w hSw
              (try dsimp only at hSw)
              go_simp
              (try with_reducible rfl)
            simp only [Act.put, List.setIfInBounds_toArray, List.set_cons_zero, List.set_cons_succ]
            refine wpAnyH_ready (rs := [11]) (by kernel_rfl) (by simp) ?_
            refine' AllReadyH.cons (o := _) ?hi61B_11 (fun K hK => ?_) AllReadyH.nil
            case hi61B_11 => simp only [List.getElem?_toArray, List.getElem?_cons_succ, List.getElem?_cons_zero]; exact rfl
            go_simp
            refine hK.out _ _ ?_ (fun hHeld11 => ?_)
            · trivial
            clear hK K hHeld13
            refine' wpAnyH_take (i := 17) (oi := _) (v := _) ?hi61B_17 (by kernel_rfl) (by kernel_rfl) (by kernel_rfl) (fun _ _ _ h => (h : False).elim) ?hy61B_17 (by assumption) ?rest61B_17
            case hi61B_17 => simp only [List.getElem?_toArray, List.getElem?_cons_succ, List.getElem?_cons_zero]; exact rfl
            case hy61B_17 =>
              refine Or.inl ⟨by rfl, ?_⟩
              intro w hSw
              (try dsimp only at hSw)
              go_simp
              (try with_reducible rfl)
            simp only [Act.put, List.setIfInBounds_toArray, List.set_cons_zero, List.set_cons_succ]
            refine' wpAnyH_take (i := 18) (oi := _) (v := _) ?hi61B_18 (by kernel_rfl) (by kernel_rfl) (by kernel_rfl) (fun _ _ _ h => (h : False).elim) ?hy61B_18 (by assumption) ?rest61B_18
            case hi61B_18 => simp only [List.getElem?_toArray, List.getElem?_cons_succ, List.getElem?_cons_zero]; exact rfl
            case hy61B_18 =>
              refine Or.inl ⟨by rfl, ?_⟩
              intro w hSw
              (try dsimp only at hSw)
              go_simp
              (try with_reducible rfl)
            simp only [Act.put, List.setIfInBounds_toArray, List.set_cons_zero, List.set_cons_succ]
            refine wpAnyH_ready (rs := [19]) (by kernel_rfl) (by simp) ?_
            refine' AllReadyH.cons (o := _) ?hi61B_19 (fun K hK => ?_) AllReadyH.nil
            case hi61B_19 => simp only [List.getElem?_toArray, List.getElem?_cons_succ, List.getElem?_cons_zero]; exact rfl
            go_simp
            refine hK.out _ _ ?_ (fun hHeld19 => ?_)
            · trivial
            clear hK K hHeld11
            refine wpAnyH_done (by kernel_rfl) ?_ _
            clear hHeld19
            refine NoPanic.normal ?_
            obtain ⟨s, hs⟩ : ∃ s, n2 % 8 = s := ⟨_, rfl⟩
            have hs8 : s < 8 := by omega
            have ht8 : (n2 : Int).tmod 8 = s := by rw [← hs, Int.ofNat_tmod]; rfl
            rw [ht8]
            obtain ⟨u, hu, hne⟩ := turned P[J] s hs8
            rw [hu]
            have op3 := op.turn hfp.1 J hj u
            have hnone := frame_turned' b f P hPe.out (by omega) t ht2 u J hJ.out hj hne
            have hr3 : w.heap.size ≤ r3 := Nat.le_trans hw01 (hfp.2 _ (op.block_mem rfl))
            have B3 : Below w.heap.size w (u2.setCell ⟨r3, J, none⟩ (.int .u8 (u.toNat : Int))) := (via (via B1 U1) U2).setCell hr3 _
            clear op q1 q2 hu hne hr3 U1 U2 hu1 hu2 ht8 ht3 hs ht2 hj2 hw3 hw1
            generalize u2.setCell ⟨r3, J, none⟩ (.int .u8 (u.toNat : Int)) = u3 at *
            go_wp2_with fail
            refine (implGetFrame_w (P.set J u) _ b.length _ op3.sl ⟨by omega, by omega⟩ (by simp; omega)).mono ?_
            rintro e u4 ⟨a9, c9, f9, rfl, -, -, hu4⟩
            obtain ⟨e1, e2, e3⟩ := getF_none hnone
            rw [e1, e2, e3]
            go_wp2
            go_ret
            exact ⟨rfl, via B3 hu4⟩
    | some z =>
      obtain ⟨y, q⟩ := z
      obtain ⟨e1, e2, e3⟩ := getF_some hF
      obtain ⟨i0, m, rfl, rfl, him, hm0, hy4, hpart⟩ := getF_part C i y q hF
      have hfr : Hid (frameB [] y = part C i0 m) := hpart.symm
      rw [hF] at e3
      rw [e1] at sy
      rw [e1, e2]
      simp only [Option.isSome]
      obtain ⟨r5, rfl⟩ : ∃ r, a5 = some ⟨r, 0, none⟩ := by
        rcases had.out with rfl | h
        · obtain ⟨_, _, e, _, _, h, h'⟩ := sC.open; cases e; have := h' rfl; omega
        · exact h
      have hcap : C.length ≤ c5 := by obtain ⟨_, _, e, _, _, h, _⟩ := sC.open; cases e; exact h
      have hcut := sC.part i0 m him
      have hpl : (part C i0 m).length = m := part_len C i0 m him
      have sn : Sl (w6.drew.alloc (.cells #[] 5)) ([] : List UInt8) (.slice (some ⟨w6.heap.size, 0, none⟩) 0 0) := (OwnS.made (α := UInt8) w6.drew _ _ 0 (by simp [maxLen]) (by simp)).sl
      rw [Nat.zero_add] at hcut
      have hq1 : ((i0 : Int) + m).toNat = i0 + m := by omega
      have hq2 : i0 + m - i0 = m := by omega
      have hq3 : ¬ c5 = i0 := by omega
      have hq5 : 0 ≤ (i0 : Int) + m := by omega
      have hq6 : (i0 : Int) + m ≤ c5 := by omega
      have hq7 : i0 ≤ i0 + m := by omega
      clear hF e1 e2 e3 hpart
      go_wp2
      refine wp_region_noPanic ?_
      refine wp_region_held_drew (S := (fun _ => True)) (by kernel_rfl) ?_ (fun hHeld0 => ?_)
      · trivial
      refine' wpAnyH_take (i := 0) (oi := _) (v := _) ?hi62_0 (by kernel_rfl) (by kernel_rfl) (by kernel_rfl) (fun _ _ _ h => (h : False).elim) ?hy62_0 (by assumption) ?rest62_0
      case hi62_0 => simp only [List.getElem?_toArray, List.getElem?_cons_zero]; exact rfl
      case hy62_0 =>
        refine Or.inl ⟨by rfl, ?_⟩
        intro w hSw
        (try dsimp only at hSw)
        go_simp
        (try with_reducible rfl)
      simp only [Act.put, List.setIfInBounds_toArray, List.set_cons_zero, List.set_cons_succ]
      refine' wpAnyH_take (i := 1) (oi := _) (v := _) ?hi62_1 (by kernel_rfl) (by kernel_rfl) (by kernel_rfl) (fun _ _ _ h => (h : False).elim) ?hy62_1 (by assumption) ?rest62_1
      case hi62_1 => simp only [List.getElem?_toArray, List.getElem?_cons_succ, List.getElem?_cons_zero]; exact rfl
      case hy62_1 =>
        refine Or.inl ⟨by rfl, ?_⟩
        intro w hSw
        (try dsimp only at hSw)
        go_simp
        (try with_reducible rfl)
      simp only [Act.put, List.setIfInBounds_toArray, List.set_cons_zero, List.set_cons_succ]
      refine' wpAnyH_take (i := 2) (oi := _) (v := _) ?hi62_2 (by kernel_rfl) (by kernel_rfl) (by kernel_rfl) (fun _ _ _ h => (h : False).elim) ?hy62_2 (by assumption) ?rest62_2
      case hi62_2 => simp only [List.getElem?_toArray, List.getElem?_cons_succ, List.getElem?_cons_zero]; exact rfl
      case hy62_2 =>
        refine Or.inl ⟨by rfl, ?_⟩
        intro w hSw
        (try dsimp only at hSw)
        go_simp
        (try with_reducible rfl)
      simp only [Act.put, List.setIfInBounds_toArray, List.set_cons_zero, List.set_cons_succ]
      refine' wpAnyH_take (i := 3) (oi := _) (v := _) ?hi62_3 (by kernel_rfl) (by kernel_rfl) (by kernel_rfl) (fun _ _ _ h => (h : False).elim) ?hy62_3 (by assumption) ?rest62_3
      case hi62_3 => simp only [List.getElem?_toArray, List.getElem?_cons_succ, List.getElem?_cons_zero]; exact rfl
      case hy62_3 =>
        refine Or.inl ⟨by rfl, ?_⟩
        intro w hSw
        (try dsimp only at hSw)
        go_simp
        (try with_reducible rfl)
      simp only [Act.put, List.setIfInBounds_toArray, List.set_cons_zero, List.set_cons_succ]
      refine' wpAnyH_take (i := 4) (oi := _) (v := _) ?hi62_4 (by kernel_rfl) (by kernel_rfl) (by kernel_rfl) (fun _ _ _ h => (h : False).elim) ?hy62_4 (by assumption) ?rest62_4
      case hi62_4 => simp only [List.getElem?_toArray, List.getElem?_cons_succ, List.getElem?_cons_zero]; exact rfl
      case hy62_4 =>
        refine Or.inl ⟨by rfl, ?_⟩
        intro w hSw
        (try dsimp only at hSw)
        go_simp
        (try with_reducible rfl)
      simp only [Act.put, List.setIfInBounds_toArray, List.set_cons_zero, List.set_cons_succ]
      refine' wpAnyH_take (i := 5) (oi := _) (v := _) ?hi62_5 (by kernel_rfl) (by kernel_rfl) (by kernel_rfl) (fun _ _ _ h => (h : False).elim) ?hy62_5 (by assumption) ?rest62_5
      case hi62_5 => simp only [List.getElem?_toArray, List.getElem?_cons_succ, List.getElem?_cons_zero]; exact rfl
      case hy62_5 =>
        refine Or.inl ⟨by rfl, ?_⟩
        intro w hSw
        (try dsimp only at hSw)
        go_simp
        (try with_reducible rfl)
      simp only [Act.put, List.setIfInBounds_toArray, List.set_cons_zero, List.set_cons_succ]
      refine' wpAnyH_take (i := 6) (oi := _) (v := _) ?hi62_6 (by kernel_rfl) (by kernel_rfl) (by kernel_rfl) (fun _ _ _ h => (h : False).elim) ?hy62_6 (by assumption) ?rest62_6
      case hi62_6 => simp only [List.getElem?_toArray, List.getElem?_cons_succ, List.getElem?_cons_zero]; exact rfl
      case hy62_6 =>
        refine Or.inl ⟨by rfl, ?_⟩
        intro w hSw
        (try dsimp only at hSw)
        go_simp
        (try with_reducible rfl)
      simp only [Act.put, List.setIfInBounds_toArray, List.set_cons_zero, List.set_cons_succ]
      refine' wpAnyH_take (i := 7) (oi := _) (v := _) ?hi62_7 (by kernel_rfl) (by kernel_rfl) (by kernel_rfl) (fun _ _ _ h => (h : False).elim) ?hy62_7 (by assumption) ?rest62_7
      case hi62_7 => simp only [List.getElem?_toArray, List.getElem?_cons_succ, List.getElem?_cons_zero]; exact rfl
      case hy62_7 =>
        refine Or.inl ⟨by rfl, ?_⟩
        intro w hSw
        (try dsimp only at hSw)
        go_simp
        (try with_reducible rfl)
      simp only [Act.put, List.setIfInBounds_toArray, List.set_cons_zero, List.set_cons_succ]
      refine' wpAnyH_take (i := 8) (oi := _) (v := _) ?hi62_8 (by kernel_rfl) (by kernel_rfl) (by kernel_rfl) (fun _ _ _ h => (h : False).elim) ?hy62_8 (by assumption) ?rest62_8
      case hi62_8 => simp only [List.getElem?_toArray, List.getElem?_cons_succ, List.getElem?_cons_zero]; exact rfl
      case hy62_8 =>
        refine Or.inl ⟨by rfl, ?_⟩
        intro w hSw
        (try dsimp only at hSw)
        go_simp
        (try with_reducible rfl)
      simp only [Act.put, List.setIfInBounds_toArray, List.set_cons_zero, List.set_cons_succ]
      refine' wpAnyH_take (i := 9) (oi := _) (v := _) ?hi62_9 (by kernel_rfl) (by kernel_rfl) (by kernel_rfl) (fun _ _ _ h => (h : False).elim) ?hy62_9 (by assumption) ?rest62_9
      case hi62_9 => simp only [List.getElem?_toArray, List.getElem?_cons_succ, List.getElem?_cons_zero]; exact rfl
      case hy62_9 =>
        refine Or.inl ⟨by rfl, ?_⟩
        intro w hSw
        (try dsimp only at hSw)
        go_simp
        (try with_reducible rfl)
      simp only [Act.put, List.setIfInBounds_toArray, List.set_cons_zero, List.set_cons_succ]
      refine' wpAnyH_take (i := 10) (oi := _) (v := _) ?hi62_10 (by kernel_rfl) (by kernel_rfl) (by kernel_rfl) (fun _ _ _ h => (h : False).elim) ?hy62_10 (by assumption) ?rest62_10
      case hi62_10 => simp only [List.getElem?_toArray, List.getElem?_cons_succ, List.getElem?_cons_zero]; exact rfl
      case hy62_10 =>
        refine Or.inl ⟨by rfl, ?_⟩
        intro w hSw
        (try dsimp only at hSw)
        go_simp
        (try with_reducible rfl)
      simp only [Act.put, List.setIfInBounds_toArray, List.set_cons_zero, List.set_cons_succ]
      refine' wpAnyH_take (i := 12) (oi := _) (v := _) ?hi62_12 (by kernel_rfl) (by kernel_rfl) (by kernel_rfl) (fun _ _ _ h => (h : False).elim) ?hy62_12 (by assumption) ?rest62_12
      case hi62_12 => simp only [List.getElem?_toArray, List.getElem?_cons_succ, List.getElem?_cons_zero]; exact rfl
      case hy62_12 =>
        refine Or.inl ⟨by rfl, ?_⟩
        intro w hSw
        (try dsimp only at hSw)
        go_simp
        (try with_reducible rfl)
      simp only [Act.put, List.setIfInBounds_toArray, List.set_cons_zero, List.set_cons_succ]
      refine' wpAnyH_take (i := 14) (oi := _) (v := _) ?hi62_14 (by kernel_rfl) (by kernel_rfl) (by kernel_rfl) (fun _ _ _ h => (h : False).elim) ?hy62_14 (by assumption) ?rest62_14
      case hi62_14 => simp only [List.getElem?_toArray, List.getElem?_cons_succ, List.getElem?_cons_zero]; exact rfl
      case hy62_14 =>
        refine Or.inl ⟨by rfl, ?_⟩
        intro w hSw
        (try dsimp only at hSw)
        go_simp
        (try with_reducible rfl)
      simp only [Act.put, List.setIfInBounds_toArray, List.set_cons_zero, List.set_cons_succ]
      refine' wpAnyH_take (i := 15) (oi := _) (v := _) ?hi62_15 (by kernel_rfl) (by kernel_rfl) (by kernel_rfl) (fun _ _ _ h => (h : False).elim) ?hy62_15 (by assumption) ?rest62_15
      case hi62_15 => simp only [List.getElem?_toArray, List.getElem?_cons_succ, List.getElem?_cons_zero]; exact rfl
      case hy62_15 =>
        refine Or.inl ⟨by rfl, ?_⟩
        intro w hSw
        (try dsimp only at hSw)
        go_simp
        (try with_reducible rfl)
      simp only [Act.put, List.setIfInBounds_toArray, List.set_cons_zero, List.set_cons_succ]
      refine' wpAnyH_take (i := 16) (oi := _) (v := _) ?hi62_16 (by kernel_rfl) (by kernel_rfl) (by kernel_rfl) (fun _ _ _ h => (h : False).elim) ?hy62_16 (by assumption) ?rest62_16
      case hi62_16 => simp only [List.getElem?_toArray, List.getElem?_cons_succ, List.getElem?_cons_zero]; exact rfl
      case hy62_16 =>
        refine Or.inl ⟨by rfl, ?_⟩
        intro w hSw
        (try dsimp only at hSw)
        go_simp
        (try with_reducible rfl)
      simp only [Act.put, List.setIfInBounds_toArray, List.set_cons_zero, List.set_cons_succ]
      refine' wpAnyH_take (i := 17) (oi := _) (v := _) ?hi62_17 (by kernel_rfl) (by kernel_rfl) (by kernel_rfl) (fun _ _ _ h => (h : False).elim) ?hy62_17 (by assumption) ?rest62_17
      case hi62_17 => simp only [List.getElem?_toArray, List.getElem?_cons_succ, List.getElem?_cons_zero]; exact rfl
      case hy62_17 =>
        refine Or.inl ⟨by rfl, ?_⟩
        intro w hSw
        (try dsimp only at hSw)
        go_simp
        (try with_reducible rfl)
      simp only [Act.put, List.setIfInBounds_toArray, List.set_cons_zero, List.set_cons_succ]
      refine wpAnyH_ready (rs := [11]) (by kernel_rfl) (by simp) ?_
      refine' AllReadyH.cons (o := _) ?hi62_11 (fun K hK => ?_) AllReadyH.nil
      case hi62_11 => simp only [List.getElem?_toArray, List.getElem?_cons_succ, List.getElem?_cons_zero]; exact rfl
      go_simp
      refine hK.out _ _ ?_ (fun hHeld11 => ?_)
      · trivial
      clear hK K hHeld0
      refine wpAnyH_ready (rs := [13]) (by kernel_rfl) (by simp) ?_
      refine' AllReadyH.cons (o := _) ?hi62_13 (fun K hK => ?_) AllReadyH.nil
      case hi62_13 => simp only [List.getElem?_toArray, List.getElem?_cons_succ, List.getElem?_cons_zero]; exact rfl
      go_simp
      go_at_call 32
      refine (implPutFrame_w [] y _ _ _ sn (sy.to (by simp)) (by simp) (by omega)).mono ?_
      rintro e u1 ⟨a8, c8, f8, rfl, o8, -, hu1⟩
      have U1 : Below w6.heap.size w6 u1 := via (by simp) hu1
      rw [hfr.out, hpl] at o8 ⊢
      go_wp2_with fail
      refine hK.out _ _ ?_ (fun hHeld13 => ?_)
      · trivial
      clear hK K hHeld11
      refine wpAnyH_ready (rs := [18]) (by kernel_rfl) (by simp) ?_
      refine' AllReadyH.cons (o := _) ?hi62_18 (fun K hK => ?_) AllReadyH.nil
      case hi62_18 => simp only [List.getElem?_toArray, List.getElem?_cons_succ, List.getElem?_cons_zero]; exact rfl
      go_simp
      go_at_call 37
      refine (sameT_w (part C i0 m) _ _ _ o8.sl (hcut.to U1)).mono ?_
      rintro e u2 ⟨rfl, m2, rfl⟩
      go_wp2_with fail
      refine hK.out _ _ ?_ (fun hHeld18 => ?_)
      · trivial
      clear hK K hHeld13
      refine' wpAnyH_take (i := 19) (oi := _) (v := _) ?hi62_19 (by kernel_rfl) (by kernel_rfl) (by kernel_rfl) (fun _ _ _ h => (h : False).elim) ?hy62_19 (by assumption) ?rest62_19
      case hi62_19 => simp only [List.getElem?_toArray, List.getElem?_cons_succ, List.getElem?_cons_zero]; exact rfl
      case hy62_19 =>
        refine Or.inl ⟨by rfl, ?_⟩
        intro w hSw
        (try dsimp only at hSw)
        go_simp
        (try with_reducible rfl)
      simp only [Act.put, List.setIfInBounds_toArray, List.set_cons_zero, List.set_cons_succ]
      refine' wpAnyH_take (i := 20) (oi := _) (v := _) ?hi62_20 (by kernel_rfl) (by kernel_rfl) (by kernel_rfl) (fun _ _ _ h => (h : False).elim) ?hy62_20 (by assumption) ?rest62_20
      case hi62_20 => simp only [List.getElem?_toArray, List.getElem?_cons_succ, List.getElem?_cons_zero]; exact rfl
      case hy62_20 =>
        refine Or.inl ⟨by rfl, ?_⟩
        intro w hSw
        (try dsimp only at hSw)
        go_simp
        (try with_reducible rfl)
      simp only [Act.put, List.setIfInBounds_toArray, List.set_cons_zero, List.set_cons_succ]
      refine' wpAnyH_take (i := 21) (oi := _) (v := _) ?hi62_21 (by kernel_rfl) (by kernel_rfl) (by kernel_rfl) (fun _ _ _ h => (h : False).elim) ?hy62_21 (by assumption) ?rest62_21
      case hi62_21 => simp only [List.getElem?_toArray, List.getElem?_cons_succ, List.getElem?_cons_zero]; exact rfl
      case hy62_21 =>
        refine Or.inl ⟨by rfl, ?_⟩
        intro w hSw
        (try dsimp only at hSw)
        go_simp
        (try with_reducible rfl)
      simp only [Act.put, List.setIfInBounds_toArray, List.set_cons_zero, List.set_cons_succ]
      refine wpAnyH_done (by kernel_rfl) ?_ _
      clear hHeld18
      refine NoPanic.normal ?_
      have BV : Below w6.heap.size w6 (u1.drewN m2) := below_drewN U1 _
      replace sb := sb.to BV
      replace sf := sf.to BV
      replace sx := sx.to BV
      replace op := op.below BV
      replace B1 := via B1 BV
      clear BV sy sC hcut sn hfr o8 hu1 U1
      generalize u1.drewN m2 = V at *
      by_cases hbigf : 4000 < f.length
      · have hPb : P = b := by rw [← hPe.out, frameB, if_pos hbigf]
        obtain rfl : b = P := hPb.symm
        go_wp2_with fail
        refine (sameT_w b _ _ _ op.sl sb).mono ?_
        rintro e V2 ⟨rfl, m2, rfl⟩
        go_wp2
        go_ret
        exact ⟨rfl, by simp [B1]⟩
      · have hg : getF P b.length = some (f, ((P.length : Nat) : Int)) := by
          have := getF_full b f [] (by omega)
          have e : b ++ (numB f.length ++ f ++ crc4 f) = P := by rw [← hPe.out, frameB_one _ _ (by omega)]; rfl
          rw [List.append_nil, e] at this; exact this
        obtain ⟨g1, g2, g3⟩ := getF_some hg
        obtain rfl : f = X := by rw [← hX.out, g1]
        obtain rfl : ((P.length : Nat) : Int) = N := by rw [← hN.out, g2]
        obtain rfl : true = ok := by rw [← hO.out, g3]
        clear hg g1 g2 g3 hX hN hO
        have h5 : 5 + f.length ≤ P.length := by rw [← hPe.out, frameB_one _ _ (by omega)]; have := varB_pos 5 (zig f.length); simp [frB1, numB, crc4]; omega
        replace h5 := Lib.hid h5
        by_cases h0 : f.length = 0
        · obtain rfl : f = [] := List.eq_nil_of_length_eq_zero h0
          go_wp2_with fail
          refine (sameT_w [] _ _ _ sx sf).mono ?_
          rintro e V2 ⟨rfl, m2, rfl⟩
          go_wp2
          go_ret
          exact ⟨rfl, by simp [B1]⟩
        · go_wp2_with fail
          refine (sameT_w f _ _ _ sx sf).mono ?_
          rintro e V2 ⟨rfl, m2, rfl⟩
          have BV2 : Below V.heap.size V (V.drewN m2) := below_drewN (Below.refl _ _) _
          replace sb := sb.to BV2
          replace op := op.below BV2
          replace B1 := via B1 BV2
          clear BV2 sx sf
          generalize V.drewN m2 = V at *
          obtain ⟨r3, rfl⟩ : ∃ r, a3 = some ⟨r, 0, none⟩ := by
            rcases op.addr.out with rfl | h
            · obtain ⟨_, _, e, _, _, h, h'⟩ := op.sl.open; cases e; have := h' rfl; have := h5.out; omega
            · exact h
          replace h5 := h5.out
          have hw1 : IntKind.i64.wrap ((P.length : Int) - 5) = (P.length : Int) - 5 := by rw [IntKind.wrap_i64]; omega
          go_wp2
          refine wp_region_noPanic ?_
          refine wp_region_held_drew (S := (fun _ => True)) (by kernel_rfl) ?_ (fun hHeld0 => ?_)
          · trivial
          refine' wpAnyH_take (i := 0) (oi := _) (v := _) ?hi63_0 (by kernel_rfl) (by kernel_rfl) (by kernel_rfl) (fun _ _ _ h => (h : False).elim) ?hy63_0 (by assumption) ?rest63_0
          case hi63_0 => simp only [List.getElem?_toArray, List.getElem?_cons_zero]; exact rfl
          case hy63_0 =>
            refine Or.inl ⟨by rfl, ?_⟩
            intro w hSw
            (try dsimp only at hSw)
            go_simp
            (try with_reducible rfl)
          simp only [Act.put, List.setIfInBounds_toArray, List.set_cons_zero, List.set_cons_succ]
          refine' wpAnyH_take (i := 1) (oi := _) (v := _) ?hi63_1 (by kernel_rfl) (by kernel_rfl) (by kernel_rfl) (fun _ _ _ h => (h : False).elim) ?hy63_1 (by assumption) ?rest63_1
          case hi63_1 => simp only [List.getElem?_toArray, List.getElem?_cons_succ, List.getElem?_cons_zero]; exact rfl
          case hy63_1 =>
            refine Or.inl ⟨by rfl, ?_⟩
            intro w hSw
            (try dsimp only at hSw)
            go_simp
            (try with_reducible rfl)
          simp only [Act.put, List.setIfInBounds_toArray, List.set_cons_zero, List.set_cons_succ]
          refine' wpAnyH_take (i := 2) (oi := _) (v := _) ?hi63_2 (by kernel_rfl) (by kernel_rfl) (by kernel_rfl) (fun _ _ _ h => (h : False).elim) ?hy63_2 (by assumption) ?rest63_2
          case hi63_2 => simp only [List.getElem?_toArray, List.getElem?_cons_succ, List.getElem?_cons_zero]; exact rfl
          case hy63_2 =>
            refine Or.inl ⟨by rfl, ?_⟩
            intro w hSw
            (try dsimp only at hSw)
            go_simp
            (try with_reducible rfl)
          simp only [Act.put, List.setIfInBounds_toArray, List.set_cons_zero, List.set_cons_succ]
          refine' wpAnyH_take (i := 3) (oi := _) (v := _) ?hi63_3 (by kernel_rfl) (by kernel_rfl) (by kernel_rfl) (fun _ _ _ h => (h : False).elim) ?hy63_3 (by assumption) ?rest63_3
          case hi63_3 => simp only [List.getElem?_toArray, List.getElem?_cons_succ, List.getElem?_cons_zero]; exact rfl
          case hy63_3 =>
            refine Or.inl ⟨by rfl, ?_⟩
            intro w hSw
            (try dsimp only at hSw)
            go_simp
            (try with_reducible rfl)
          simp only [Act.put, List.setIfInBounds_toArray, List.set_cons_zero, List.set_cons_succ]
          refine' wpAnyH_take (i := 4) (oi := _) (v := _) ?hi63_4 (by kernel_rfl) (by kernel_rfl) (by kernel_rfl) (fun _ _ _ h => (h : False).elim) ?hy63_4 (by assumption) ?rest63_4
          case hi63_4 => simp only [List.getElem?_toArray, List.getElem?_cons_succ, List.getElem?_cons_zero]; exact rfl
          case hy63_4 =>
            refine Or.inl ⟨by rfl, ?_⟩
            intro w hSw
            (try dsimp only at hSw)
            go_simp
            (try with_reducible rfl)
          simp only [Act.put, List.setIfInBounds_toArray, List.set_cons_zero, List.set_cons_succ]
          refine' wpAnyH_take (i := 6) (oi := _) (v := _) ?hi63_6 (by kernel_rfl) (by kernel_rfl) (by kernel_rfl) (fun _ _ _ h => (h : False).elim) ?hy63_6 (by assumption) ?rest63_6
          case hi63_6 => simp only [List.getElem?_toArray, List.getElem?_cons_succ, List.getElem?_cons_zero]; exact rfl
          case hy63_6 =>
            refine Or.inl ⟨by rfl, ?_⟩
            intro w hSw
            (try dsimp only at hSw)
            go_simp
            (try with_reducible rfl)
          simp only [Act.put, List.setIfInBounds_toArray, List.set_cons_zero, List.set_cons_succ]
          refine' wpAnyH_take (i := 7) (oi := _) (v := _) ?hi63_7 (by kernel_rfl) (by kernel_rfl) (by kernel_rfl) (fun _ _ _ h => (h : False).elim) ?hy63_7 (by assumption) ?rest63_7
          case hi63_7 => simp only [List.getElem?_toArray, List.getElem?_cons_succ, List.getElem?_cons_zero]; exact rfl
          case hy63_7 =>
            refine Or.inl ⟨by rfl, ?_⟩
            intro w hSw
            (try dsimp only at hSw)
            go_simp
            (try with_reducible rfl)
          simp only [Act.put, List.setIfInBounds_toArray, List.set_cons_zero, List.set_cons_succ]
          refine' wpAnyH_take (i := 12) (oi := _) (v := _) ?hi63_12 (by kernel_rfl) (by kernel_rfl) (by kernel_rfl) (fun _ _ _ h => (h : False).elim) ?hy63_12 (by assumption) ?rest63_12
          case hi63_12 => simp only [List.getElem?_toArray, List.getElem?_cons_succ, List.getElem?_cons_zero]; exact rfl
          case hy63_12 =>
            refine Or.inl ⟨by rfl, ?_⟩
            intro w hSw
            (try dsimp only at hSw)
            go_simp
            (try with_reducible rfl)
          simp only [Act.put, List.setIfInBounds_toArray, List.set_cons_zero, List.set_cons_succ]
          refine wpAnyH_ready (rs := [5]) (by kernel_rfl) (by simp) ?_
          refine' AllReadyH.cons (o := _) ?hi63_5 (fun K hK => ?_) AllReadyH.nil
          case hi63_5 => simp only [List.getElem?_toArray, List.getElem?_cons_succ, List.getElem?_cons_zero]; exact rfl
          go_simp
          go_at_call 42
          refine (at_w l _ 2 _ (h.to (by simp [B1])) (by omega) (by decide)).mono ?_
          rintro e u1 ⟨n1, rfl, hn1, hu1⟩
          have U1 : Below V.heap.size V u1 := via (by simp) hu1
          replace op := op.below U1
          obtain ⟨t, ht⟩ : ∃ t, n1 % f.length = t := ⟨_, rfl⟩
          have ht2 : t < f.length := by rw [← ht]; exact Nat.mod_lt _ (by omega)
          have ht3 : (n1 : Int).tmod (f.length : Int) = t := by rw [← ht, Int.ofNat_tmod]
          obtain ⟨J, hJ⟩ : ∃ J, P.length - 5 - t = J := ⟨_, rfl⟩
          have hj : J < P.length := by omega
          have hj2 : (P.length : Int) - 5 - t = (J : Int) := by omega
          have hw3 : IntKind.i64.wrap (J : Int) = (J : Int) := by rw [IntKind.wrap_i64]; omega
          obtain ⟨q1, q2⟩ := op.byte hfp.1 _ hj
          clear ht
          replace hJ := Lib.hid hJ
          go_wp2_with fail
          refine hK.out _ _ ?_ (fun hHeld5 => ?_)
          · trivial
          clear hK K hHeld0
          refine' wpAnyH_take (i := 8) (oi := _) (v := _) ?hi63_8 (by kernel_rfl) (by kernel_rfl) (by kernel_rfl) (fun _ _ _ h => (h : False).elim) ?hy63_8 (by assumption) ?rest63_8
          case hi63_8 => simp only [List.getElem?_toArray, List.getElem?_cons_succ, List.getElem?_cons_zero]; exact rfl
          case hy63_8 =>
            refine Or.inl ⟨by rfl, ?_⟩
            intro w hSw
            (try dsimp only at hSw)
            go_simp
            (try with_reducible rfl)
          simp only [Act.put, List.setIfInBounds_toArray, List.set_cons_zero, List.set_cons_succ]
          refine' wpAnyH_take (i := 9) (oi := _) (v := _) ?hi63_9 (by kernel_rfl) (by kernel_rfl) (by kernel_rfl) (fun _ _ _ h => (h : False).elim) ?hy63_9 (by assumption) ?rest63_9
          case hi63_9 => simp only [List.getElem?_toArray, List.getElem?_cons_succ, List.getElem?_cons_zero]; exact rfl
          case hy63_9 =>
            refine Or.inl ⟨by rfl, ?_⟩
            intro w hSw
            (try dsimp only at hSw)
            go_simp
            (try with_reducible rfl)
          simp only [Act.put, List.setIfInBounds_toArray, List.set_cons_zero, List.set_cons_succ]
          refine' wpAnyH_take (i := 10) (oi := _) (v := _) ?hi63_10 (by kernel_rfl) (by kernel_rfl) (by kernel_rfl) (fun _ _ _ h => (h : False).elim) ?hy63_10 (by assumption) ?rest63_10
          case hi63_10 => simp only [List.getElem?_toArray, List.getElem?_cons_succ, List.getElem?_cons_zero]; exact rfl
          case hy63_10 =>
            refine Or.inl ⟨by rfl, ?_⟩
            intro w hSw
            (try dsimp only at hSw)
            go_simp
            (try with_reducible rfl)
          simp only [Act.put, List.setIfInBounds_toArray, List.set_cons_zero, List.set_cons_succ]
          refine wpAnyH_ready (rs := [11, 13]) (by kernel_rfl) (by simp) ?_
          refine' AllReadyH.cons (o := _) ?hi63_11 (fun K hK => ?st63_11) (AllReadyH.cons (o := _) ?hi63_13 (fun K hK => ?st63_13) AllReadyH.nil)
          case hi63_11 => simp only [List.getElem?_toArray, List.getElem?_cons_succ, List.getElem?_cons_zero]; exact rfl
          case hi63_13 => simp only [List.getElem?_toArray, List.getElem?_cons_succ, List.getElem?_cons_zero]; exact rfl
          case st63_11 =>
            go_simp
            refine hK.out _ _ ?_ (fun hHeld11 => ?_)
            · trivial
            clear hK K hHeld5
            refine wpAnyH_ready (rs := [13]) (by kernel_rfl) (by simp) ?_
            refine' AllReadyH.cons (o := _) ?hi63_13 (fun K hK => ?_) AllReadyH.nil
            case hi63_13 => simp only [List.getElem?_toArray, List.getElem?_cons_succ, List.getElem?_cons_zero]; exact rfl
            go_simp
            go_at_call 42
            refine (at_w l _ 3 _ (h.to (by simp [via B1 U1])) (by omega) (by decide)).mono ?_
            rintro e u2 ⟨n2, rfl, hn2, hu2⟩
            have U2 : Below u1.heap.size u1 u2 := via (by simp) hu2
            replace op := op.below U2
            replace q1 := (op.byte hfp.1 _ hj).1
            replace q2 := (op.byte hfp.1 _ hj).2
            go_wp2_with fail
            refine hK.out _ _ ?_ (fun hHeld13 => ?_)
            · trivial
            clear hK K hHeld11
            refine' wpAnyH_take (i := 14) (oi := _) (v := _) ?hi63_14 (by kernel_rfl) (by kernel_rfl) (by kernel_rfl) (fun _ _ _ h => (h : False).elim) ?hy63_14 (by assumption) ?rest63_14
            case hi63_14 => simp only [List.getElem?_toArray, List.getElem?_cons_succ, List.getElem?_cons_zero]; exact rfl
            case hy63_14 =>
              refine Or.inl ⟨by rfl, ?_⟩
              intro w hSw
              (try dsimp only at hSw)
              go_simp
              (try with_reducible rfl)
            simp only [Act.put, List.setIfInBounds_toArray, List.set_cons_zero, List.set_cons_succ]
            refine' wpAnyH_take (i := 15) (oi := _) (v := _) ?hi63_15 (by kernel_rfl) (by kernel_rfl) (by kernel_rfl) (fun _ _ _ h => (h : False).elim) ?hy63_15 (by assumption) ?rest63_15
            case hi63_15 => simp only [List.getElem?_toArray, List.getElem?_cons_succ, List.getElem?_cons_zero]; exact rfl
            case hy63_15 =>
              refine Or.inl ⟨by rfl, ?_⟩
              intro w hSw
              (try dsimp only at hSw)
              go_simp
              (try with_reducible rfl)
            simp only [Act.put, List.setIfInBounds_toArray, List.set_cons_zero, List.set_cons_succ]
            refine' wpAnyH_take (i := 16) (oi := _) (v := _) ?hi63_16 (by kernel_rfl) (by kernel_rfl) (by kernel_rfl) (fun _ _ _ h => (h : False).elim) ?hy63_16 (by assumption) ?rest63_16
            case hi63_16 => simp only [List.getElem?_toArray, List.getElem?_cons_succ, List.getElem?_cons_zero]; exact rfl
            case hy63_16 =>
              refine Or.inl ⟨by rfl, ?_⟩
              intro w hSw
              (try dsimp only at hSw)
              go_simp
              (try with_reducible rfl)
            simp only [Act.put, List.setIfInBounds_toArray, List.set_cons_zero, List.set_cons_succ]
            refine' wpAnyH_take (i := 17) (oi := _) (v := _) ?hi63_17 (by kernel_rfl) (by kernel_rfl) (by kernel_rfl) (fun _ _ _ h => (h : False).elim) ?hy63_17 (by assumption) ?rest63_17
            case hi63_17 => simp only [List.getElem?_toArray, List.getElem?_cons_succ, List.getElem?_cons_zero]; exact rfl
            case hy63_17 =>
              refine Or.inl ⟨by rfl, ?_⟩
              intro w hSw
              (try dsimp only at hSw)
              go_simp
              (try with_reducible rfl)
            simp only [Act.put, List.setIfInBounds_toArray, List.set_cons_zero, List.set_cons_succ]
            refine' wpAnyH_take (i := 18) (oi := _) (v := _) ?hi63_18 (by kernel_rfl) (by kernel_rfl) (by kernel_rfl) (fun _ _ _ h => (h : False).elim) ?hy63_18 (by assumption) ?rest63_18
            case hi63_18 => simp only [List.getElem?_toArray, List.getElem?_cons_succ, List.getElem?_cons_zero]; exact rfl
            case hy63_18 =>
              refine Or.inl ⟨by rfl, ?_⟩
              intro w hSw
              (try dsimp only at hSw)
              go_simp
              (try with_reducible rfl)
            simp only [Act.put, List.setIfInBounds_toArray, List.set_cons_zero, List.set_cons_succ]
            refine wpAnyH_ready (rs := [19]) (by kernel_rfl) (by simp) ?_
            refine' AllReadyH.cons (o := _) ?hi63_19 (fun K hK => ?_) AllReadyH.nil
            case hi63_19 => simp only [List.getElem?_toArray, List.getElem?_cons_succ, List.getElem?_cons_zero]; exact rfl
            go_simp
            refine hK.out _ _ ?_ (fun hHeld19 => ?_)
            · trivial
            clear hK K hHeld13
            refine wpAnyH_done (by kernel_rfl) ?_ _
            clear hHeld19
            refine NoPanic.normal ?_
            obtain ⟨s, hs⟩ : ∃ s, n2 % 8 = s := ⟨_, rfl⟩
            have hs8 : s < 8 := by omega
            have ht8 : (n2 : Int).tmod 8 = s := by rw [← hs, Int.ofNat_tmod]; rfl
            rw [ht8]
            obtain ⟨u, hu, hne⟩ := turned P[J] s hs8
            rw [hu]
            have op3 := op.turn hfp.1 J hj u
            have hnone := frame_turned' b f P hPe.out (by omega) t ht2 u J hJ.out hj hne
            have hr3 : w.heap.size ≤ r3 := Nat.le_trans hw01 (hfp.2 _ (op.block_mem rfl))
            have B3 : Below w.heap.size w (u2.setCell ⟨r3, J, none⟩ (.int .u8 (u.toNat : Int))) := (via (via B1 U1) U2).setCell hr3 _
            clear op q1 q2 hu hne hr3 U1 U2 hu1 hu2 ht8 ht3 hs ht2 hj2 hw3 hw1
            generalize u2.setCell ⟨r3, J, none⟩ (.int .u8 (u.toNat : Int)) = u3 at *
            go_wp2_with fail
            refine (implGetFrame_w (P.set J u) _ b.length _ op3.sl ⟨by omega, by omega⟩ (by simp; omega)).mono ?_
            rintro e u4 ⟨a9, c9, f9, rfl, -, -, hu4⟩
            obtain ⟨e1, e2, e3⟩ := getF_none hnone
            rw [e1, e2, e3]
            go_wp2
            go_ret
            exact ⟨rfl, via B3 hu4⟩
          case st63_13 =>
            go_simp
            go_at_call 42
            refine (at_w l _ 3 _ (h.to (by simp [via B1 U1])) (by omega) (by decide)).mono ?_
            rintro e u2 ⟨n2, rfl, hn2, hu2⟩
            have U2 : Below u1.heap.size u1 u2 := via (by simp) hu2
            replace op := op.below U2
            replace q1 := (op.byte hfp.1 _ hj).1
            replace q2 := (op.byte hfp.1 _ hj).2
            go_wp2_with fail
            refine hK.out _ _ ?_ (fun hHeld13 => ?_)
            · trivial
            clear hK K hHeld5
            refine' wpAnyH_take (i := 14) (oi := _) (v := _) ?hi63B_14 (by kernel_rfl) (by kernel_rfl) (by kernel_rfl) (fun _ _ _ h => (h : False).elim) ?hy63B_14 (by assumption) ?rest63B_14
            case hi63B_14 => simp only [List.getElem?_toArray, List.getElem?_cons_succ, List.getElem?_cons_zero]; exact rfl
            case hy63B_14 =>
              refine Or.inl ⟨by rfl, ?_⟩
              intro w hSw
              (try dsimp only at hSw)
              go_simp
              (try with_reducible rfl)
            simp only [Act.put, List.setIfInBounds_toArray, List.set_cons_zero, List.set_cons_succ]
            refine' wpAnyH_take (i := 15) (oi := _) (v := _) ?hi63B_15 (by kernel_rfl) (by kernel_rfl) (by kernel_rfl) (fun _ _ _ h => (h : False).elim) ?hy63B_15 (by assumption) ?rest63B_15
            case hi63B_15 => simp only [List.getElem?_toArray, List.getElem?_cons_succ, List.getElem?_cons_zero]; exact rfl
            case hy63B_15 =>
              refine Or.inl ⟨by rfl, ?_⟩
              intro w hSw
              (try dsimp only at hSw)
              go_simp
              (try with_reducible rfl)
            simp only [Act.put, List.setIfInBounds_toArray, List.set_cons_zero, List.set_cons_succ]
            refine' wpAnyH_take (i := 16) (oi := _) (v := _) ?hi63B_16 (by kernel_rfl) (by kernel_rfl) (by kernel_rfl) (fun _ _ _ h => (h : False).elim) ?hy63B_16 (by assumption) ?rest63B_16
            case hi63B_16 => simp only [List.getElem?_toArray, List.getElem?_cons_succ, List.getElem?_cons_zero]; exact rfl
            case hy63B_16 =>
              refine Or.inl ⟨by rfl, ?_⟩
              intro w hSw
              (try dsimp only at hSw)
              go_simp
              (try with_reducible rfl)
            simp only [Act.put, List.setIfInBounds_toArray, List.set_cons_zero, List.set_cons_succ]
            refine wpAnyH_ready (rs := [11]) (by kernel_rfl) (by simp) ?_
            refine' AllReadyH.cons (o := _) ?hi63B_11 (fun K hK => ?_) AllReadyH.nil
            case hi63B_11 => simp only [List.getElem?_toArray, List.getElem?_cons_succ, List.getElem?_cons_zero]; exact rfl
            go_simp
            refine hK.out _ _ ?_ (fun hHeld11 => ?_)
            · trivial
            clear hK K hHeld13
            refine' wpAnyH_take (i := 17) (oi := _) (v := _) ?hi63B_17 (by kernel_rfl) (by kernel_rfl) (by kernel_rfl) (fun _ _ _ h => (h : False).elim) ?hy63B_17 (by assumption) ?rest63B_17
            case hi63B_17 => simp only [List.getElem?_toArray, List.getElem?_cons_succ, List.getElem?_cons_zero]; exact rfl
            case hy63B_17 =>
              refine Or.inl ⟨by rfl, ?_⟩
              intro w hSw
              (try dsimp only at hSw)
              go_simp
              (try with_reducible rfl)
            simp only [Act.put, List.setIfInBounds_toArray, List.set_cons_zero, List.set_cons_succ]
            refine' wpAnyH_take (i := 18) (oi := _) (v := _) ?hi63B_18 (by kernel_rfl) (by kernel_rfl) (by kernel_rfl) (fun _ _ _ h => (h : False).elim) ?hy63B_18 (by assumption) ?rest63B_18
            case hi63B_18 => simp only [List.getElem?_toArray, List.getElem?_cons_succ, List.getElem?_cons_zero]; exact rfl
            case hy63B_18 =>
              refine Or.inl ⟨by rfl, ?_⟩
              intro w hSw
              (try dsimp only at hSw)
              go_simp
              (try with_reducible rfl)
            simp only [Act.put, List.setIfInBounds_toArray, List.set_cons_zero, List.set_cons_succ]
            refine wpAnyH_ready (rs := [19]) (by kernel_rfl) (by simp) ?_
            refine' AllReadyH.cons (o := _) ?hi63B_19 (fun K hK => ?_) AllReadyH.nil
            case hi63B_19 => simp only [List.getElem?_toArray, List.getElem?_cons_succ, List.getElem?_cons_zero]; exact rfl
            go_simp
            refine hK.out _ _ ?_ (fun hHeld19 => ?_)
            · trivial
            clear hK K hHeld11
            refine wpAnyH_done (by kernel_rfl) ?_ _
            clear hHeld19
            refine NoPanic.normal ?_
            obtain ⟨s, hs⟩ : ∃ s, n2 % 8 = s := ⟨_, rfl⟩
            have hs8 : s < 8 := by omega
            have ht8 : (n2 : Int).tmod 8 = s := by rw [← hs, Int.ofNat_tmod]; rfl
            rw [ht8]
            obtain ⟨u, hu, hne⟩ := turned P[J] s hs8
            rw [hu]
            have op3 := op.turn hfp.1 J hj u
            have hnone := frame_turned' b f P hPe.out (by omega) t ht2 u J hJ.out hj hne
            have hr3 : w.heap.size ≤ r3 := Nat.le_trans hw01 (hfp.2 _ (op.block_mem rfl))
            have B3 : Below w.heap.size w (u2.setCell ⟨r3, J, none⟩ (.int .u8 (u.toNat : Int))) := (via (via B1 U1) U2).setCell hr3 _
            clear op q1 q2 hu hne hr3 U1 U2 hu1 hu2 ht8 ht3 hs ht2 hj2 hw3 hw1
            generalize u2.setCell ⟨r3, J, none⟩ (.int .u8 (u.toNat : Int)) = u3 at *
            go_wp2_with fail
            refine (implGetFrame_w (P.set J u) _ b.length _ op3.sl ⟨by omega, by omega⟩ (by simp; omega)).mono ?_
            rintro e u4 ⟨a9, c9, f9, rfl, -, -, hu4⟩
            obtain ⟨e1, e2, e3⟩ := getF_none hnone
            rw [e1, e2, e3]
            go_wp2
            go_ret
            exact ⟨rfl, via B3 hu4⟩
end Go.Proofs.Ytojlnmenfikhbaa
