/- The law FnFrames. -/
import Derived.Test.YtojlnmenfikhbaaBodies
import Derived.Test.YtojlnmenfikhbaaFrLaw
import Derived.Test.YtojlnmenfikhbaaSmall
namespace Go.Proofs.Ytojlnmenfikhbaa
open Go.RowKit
open Cel (rd own rd_len rd_one own_rd own_lt rd_below rd_mono own_keep)

/-- Where each frame ends. -/
def ends (L : List FrameD) (k : Nat) : List Int := (List.range (k + 1)).map fun j => ((cat (L.take j)).length : Int)
theorem sl52 : SlT Try.prog 52 1 8 := SlT.mk (z := .int .i64 0) Try.underlying52 (by kernel_rfl) rfl
theorem ends_len (L : List FrameD) (k : Nat) : (ends L k).length = k + 1 := by simp [ends]
theorem ends_succ (L : List FrameD) (k : Nat) : ends L (k + 1) = ends L k ++ [((cat (L.take (k + 1))).length : Int)] := by
  unfold ends; rw [List.range_succ, List.map_append]; rfl
theorem ends_at (L : List FrameD) (k j : Nat) (h : j < (ends L k).length) : (ends L k)[j] = ((cat (L.take j)).length : Int) := by simp [ends]
theorem cat_take (L : List FrameD) (hL : ∀ f ∈ L, f.B.length ≤ 4000) (k : Nat) (h : k < L.length) : frameB (cat (L.take k)) (L[k]).B = cat (L.take (k + 1)) := by
  rw [frameB_one _ _ (hL _ (List.getElem_mem h)), List.take_succ_eq_append_getElem h, cat_snoc]
theorem cat_len (L : List FrameD) (hL : okBodies L) : ∀ k, (cat (L.take k)).length ≤ 20 * k := by
  intro k
  induction k with
  | zero => simp [cat]
  | succ k ih =>
    by_cases h : k < L.length
    · rw [List.take_succ_eq_append_getElem h, cat_snoc]
      have h1 := hL.2 _ (List.getElem_mem h)
      have h2 := numB_len (L[k]).B.length
      simp [frB1, crc4]; omega
    · rw [List.take_of_length_le (by omega)]; rw [List.take_of_length_le (by omega)] at ih; omega

theorem OwnS.addr {α : Type} [Cel α] {w : World} {l : List α} {a : Option Addr} {n c : Nat} {fp : List Nat} (h : OwnS w l (.slice a n c) fp) : Hid (a = none ∨ ∃ g, a = some ⟨g, 0, none⟩) := by
  show _ ∨ _
  rcases h with ⟨h, _⟩ | ⟨g, c', cur, e, vss, fps, h, _⟩
  · cases h; exact .inl rfl
  · cases h; exact .inr ⟨g, rfl⟩
theorem part_zero (l : List UInt8) (m : Nat) : part l 0 m = l.take m := by simp [part]
theorem sl_drewN {α : Type} [Cel α] {w : World} {l : List α} {v : Value} (h : Sl w l v) (n : Nat) : Sl (w.drewN n) l v := h.to (below_drewN (Below.refl _ _) _)
theorem sameT_w (l : List UInt8) (v1 v2 : Value) (w : World) (h1 : Sl w l v1) (h2 : Sl w l v2) : Calls Try.prog 37 #[v1, v2] w fun e w' => e = .returned (.bool true) ∧ ∃ m, w' = w.drewN m :=
  (sameQ_w l l v1 v2 w h1 h2).mono fun _ _ ⟨he, hw⟩ => ⟨by rw [he, decide_eq_true rfl], hw⟩
set_option maxHeartbeats 4000000 in
set_option maxRecDepth 20000 in
theorem fnFrames_walk (l : List UInt8) (v : Value) (w : World) (h : Sl w l v) :
    Calls Try.prog 10 #[v] w (RetB true w) := by
  obtain ⟨a, c, rfl, hl2, -⟩ := h.open
  by_cases hbig : 1048576 < l.length
  · go_enter Try.func10, Try.ntmps10
    go_wp2_with fail
    refine (big_w l _ _ h).mono ?_
    rintro e w1 ⟨rfl, hb1⟩
    rw [decide_eq_true hbig]
    go_wp2
    go_ret
    exact ⟨rfl, hb1⟩
  · go_enter Try.func10, Try.ntmps10
    go_wp2_with fail
    refine (big_w l _ _ h).mono ?_
    rintro e w1 ⟨rfl, hb1⟩
    rw [decide_eq_false hbig]
    go_wp2_with fail
    refine (drawBodies_w l _ _ (h.to hb1) (by omega)).mono ?_
    rintro e w2 ⟨L, a2, c2, f2, rfl, hok, ho2, -, hb2⟩
    replace hb2 := via hb1 hb2
    have hL := ho2.sl
    clear ho2 hb1
    have hE0 : Ext (α := Int) [] w2 (ends L 0) (.slice (some ⟨w2.heap.size + 1, 0, none⟩) 1 1) ((w2.alloc (.cells #[] 5)).alloc (.cells #[.int .i64 0] 3)) :=
      Ext.fresh (by simp) (OwnS.ints _ _ _ _ _ _ (by simp) (ends_len _ _) (by simp [maxLen]) (by simp [ends, cat]) (by simp [ends, cat, In64])) (by simp [Fr])
    have h4 : ∀ f ∈ L, f.B.length ≤ 4000 := fun f hf => Nat.le_trans (hok.2 f hf) (by decide)
    have hok' := Lib.hid hok
    have hLl := hok.1
    clear hok
    have hS0 : Sl ((w2.alloc (.cells #[] 5)).alloc (.cells #[.int .i64 0] 3)) (cat (L.take 0)) (.slice (some ⟨w2.heap.size, 0, none⟩) (cat (L.take 0)).length 0) :=
      ((OwnS.made (α := UInt8) w2 #[] 5 0 (by simp [maxLen]) (by simp)).sl).to ((Below.refl _ _).alloc (Nat.le_refl _) _)
    go_wp2
    go_loopw [4, 5, 6] (fun b ee i wr => ∃ (k : Nat) (C : List UInt8) (ab ae : Option Addr) (cb ce : Nat), b = .slice ab C.length cb ∧ ee = .slice ae (ends L k).length ce ∧ i = .int .i64 k ∧ k ≤ L.length ∧ Hid (cat (L.take k) = C) ∧ Hid (ab = none ∨ ∃ g, ab = some ⟨g, 0, none⟩) ∧ Sl wr C (.slice ab C.length cb) ∧
      Ext [] w2 (ends L k) (.slice ae (ends L k).length ce) wr) (fun _ _ i _ => L.length - (intOf i).toNat)
    case atStart => exact ⟨0, _, _, _, _, _, rfl, rfl, rfl, by omega, rfl, .inr ⟨_, rfl⟩, hS0, hE0⟩
    case round =>
      clear hE0 hS0
      obtain ⟨k, C, ab, ae, cb, ce, rfl, rfl, rfl, hk, hC, hab, hS, hE⟩ := hrel
      have hCl : C.length ≤ 20 * k := by rw [← hC.out]; exact cat_len L hok'.out k
      have hB := hE.chg.bel
      by_cases hlt : k < L.length
      · obtain ⟨b, o, vf, rfl, e1, g1, k1⟩ := (hL.to hB).frame k hlt
        have hct := Lib.hid (cat_take L h4 k hlt)
        have hfl := h4 _ (List.getElem_mem hlt)
        generalize L[k] = F at *
        obtain ⟨af, cf, rfl, hfl2, -⟩ := k1.open
        go_wp2_with fail
        refine (implPutFrame_w C F.B _ _ _ hS k1 (by omega) (by omega)).mono ?_
        rintro e w3 ⟨a3, c3, f3, rfl, ho3, hf3, hb3⟩
        have hfr : frameB C F.B = cat (L.take (k + 1)) := by rw [← hct.out, hC.out]
        rw [hfr] at ho3 ⊢
        obtain ⟨f5, g2, g3, g4, g5⟩ := hE
        have hdis : ∀ b ∈ f3, b ∉ f5 := fun b hb3' hb5 => by have := g2.lt b hb5; have := hf3.2 b hb3'; omega
        have hl3 : (ends L k).length + 1 = (ends L (k + 1)).length := by rw [ends_len, ends_len]
        have hE3 := Ext.start (g2.below hb3) g3
        have hv : own w3 [.int .i64 ((cat (L.take (k + 1))).length : Int)] ((cat (L.take (k + 1))).length : Int) [] := ⟨rfl, ⟨by omega, by have := ho3.sl.len; omega⟩, rfl⟩
        have hel := ends_len L k
        have hby : ((ends L k).length + 1) * 8 ≤ 140737488355328 := by omega
        have hml : (ends L k).length + 1 ≤ maxLen := by simp [maxLen]; omega
        clear hel hfr hC
        go_wp2_with (at_builtin; go_loud (refine wpList_ext1 rfl _ _ _ rfl sl52 rfl hE3 rfl rfl hv hby hml ?_); intro a4 c4 w4 hE4)
        have hE5 := Ext.trans (fp := []) (w0 := w2) (g2.below hb3) g4 (g5.trans (Chg.of_below hb3)) hE4
        have hS4 := (ho3.chg hE4.chg hdis).sl
        rw [← ends_succ, hl3] at hE5
        go_roundw
        case rel => exact ⟨k + 1, _, _, _, _, _, rfl, rfl, by go_num, by omega, rfl, ho3.addr, hS4, hE5⟩
        case measure => simp [intOf]; omega
      · obtain rfl : k = L.length := by omega
        clear hlt
        obtain rfl : cat L = C := by rw [← hC.out, List.take_length]
        clear hC
        go_wp2_with fail
        refine (implReadFrames_w (cat L) _ _ hS (by omega)).mono ?_
        rintro e w3 ⟨a3, c3, f3, rfl, ho3, -, hb3⟩
        simp only [readF_cat L h4] at ho3 ⊢
        have hX3 := ho3.sl
        have hB3 : Below w.heap.size w w3 := via (via hb2 hB) hb3
        clear ho3
        go_wp2_with fail
        refine (at_w l _ 2 _ (h.to hB3) (by omega) (by decide)).mono ?_
        rintro e w4 ⟨n, rfl, hn, hb4⟩
        obtain ⟨q, hq⟩ : ∃ q, n % ((cat L).length + 1) = q := ⟨_, rfl⟩
        have hq2 : q ≤ (cat L).length := by have := Nat.mod_lt n (by omega : 0 < (cat L).length + 1); omega
        have hq3 : (n : Int) % (((cat L).length : Int) + 1) = q := by rw [← hq]; simp
        have hcap : (cat L).length ≤ cb := by obtain ⟨_, _, e, _, _, h, _⟩ := hS.open; cases e; exact h
        clear hq
        have hS4 := hS.to (hb3.trans (hb4.mono hb3.size))
        obtain ⟨kk, hk1, hk2, hk3⟩ := readF_cut L h4 q hq2
        replace hk2 := Lib.hid hk2
        have hcut : ∀ ab', ab' = ab → Sl w4 ((cat L).take q) (.slice ab' q cb) := by
          rintro _ rfl
          rcases hab.out with rfl | ⟨g, rfl⟩
          · have h0 : (cat L).length = 0 := by obtain ⟨_, _, e, _, _, h, h'⟩ := hS.open; cases e; have := h' rfl; omega
            have h1 : cb = 0 := by obtain ⟨_, _, e, _, _, h, h'⟩ := hS.open; cases e; exact h' rfl
            obtain rfl : q = 0 := by omega
            subst h1
            exact RdS.nil _ _
          · have := hS4.part 0 q (by omega)
            rw [part_zero] at this; exact this
        have hend : ∀ k, k ≤ L.length → ∃ b o, ae = some ⟨b, o, none⟩ ∧ b < wr.heap.size ∧ wr.cell? ⟨b, o + k, none⟩ = some (.int .i64 ((cat (L.take k)).length : Int)) := by
          intro k hk
          obtain ⟨b, o, vs, e1, e2, ⟨rfl, -⟩, e4⟩ := hE.sl.at k (by rw [ends_len]; omega)
          refine ⟨b, o, e1, e2, ?_⟩
          have := e4 0 (by decide)
          simpa [Cel.k, ends_at] using this
        obtain ⟨be, oe, rfl, hlt, hen⟩ := hend kk hk1
        have hen2 : kk < L.length → wr.cell? ⟨be, oe + (kk + 1), none⟩ = some (.int .i64 ((cat (L.take (kk + 1))).length : Int)) := by
          intro h; obtain ⟨b, o, e, -, h2⟩ := hend (kk + 1) (by omega); cases e; exact h2
        replace hen2 := Lib.hid hen2
        replace hk3 := Lib.hid hk3
        clear hend
        have hel := ends_len L L.length
        rcases hab.out with rfl | ⟨g, rfl⟩
        · have h1 : cb = 0 := by obtain ⟨_, _, e, _, _, h, h'⟩ := hS.open; cases e; exact h' rfl
          obtain rfl : q = 0 := by omega
          subst h1
          have hL0 : L.length = 0 := by
            cases L with
            | nil => rfl
            | cons f L => have := frB1_len f.B; have h0 : (cat (f :: L)).length = 0 := by omega
                          simp only [cat, List.length_append] at h0; omega
          have hL0' := Lib.hid hL0
          clear hL0
          go_wp2_with fail
          refine (implReadFrames_w _ _ _ (hcut _ rfl) (by simp)).mono ?_
          rintro e w5 ⟨a5, c5, f5, rfl, ho5, -, hb5⟩
          simp only [hk2.out] at ho5 ⊢
          have hlk : (L.take kk).length = kk := by simp; omega
          replace ho5 := ho5.sl
          rw [hlk] at ho5 ⊢
          clear hcut hS hS4 hab
          have BW5 : Below wr.heap.size wr w5 := via (via hb3 hb4) hb5
          have k1 : w5.cell? ⟨be, oe + kk, none⟩ = some (.int .i64 ((cat (L.take kk)).length : Int)) := by rw [BW5.cell (p := ⟨be, _, none⟩) hlt]; exact hen
          clear hen
          have B5 : Below w.heap.size w w5 := via (via hb2 hB) BW5
          replace hL := hL.to (via hB BW5)
          replace hX3 := hX3.to (via hb4 hb5)
          replace hlk := Lib.hid hlk
          clear hE hb2 hb3 hb4 hb5 hB3 hB
          have hL0 := hL0'.out
          obtain rfl : kk = L.length := by omega
          clear hen2 hk3 hk2 hlk hL0
          simp only [List.take_length] at k1 ho5 ⊢
          go_wp2
          go_loopw [12] (fun i wr => Below w5.heap.size w5 wr ∧ ∃ k : Nat, i = .int .i64 k ∧ k ≤ L.length) (fun i _ => L.length - (intOf i).toNat)
          case atStart => exact ⟨Below.refl _ _, 0, rfl, by omega⟩
          case round =>
            obtain ⟨hBr, k, rfl, hk⟩ := hrel
            by_cases hlt : k < L.length
            · obtain ⟨b1, o1, v1, rfl, e1, -, s1⟩ := (hL.to hBr).frame k hlt
              obtain ⟨b2, o2, v2, rfl, e2, -, s2⟩ := (hX3.to hBr).frame k hlt
              obtain ⟨b3, o3, v3, rfl, e3, -, s3⟩ := (ho5.to hBr).frame k hlt
              go_wp2
              go_quiet ((go_at_call 37; first | exact Calls.quiet_of (sameT_w _ _ _ _ (sl_drewN s2 _) (sl_drewN s1 _)) | exact Calls.quiet_of (sameT_w _ _ _ _ (sl_drewN s3 _) (sl_drewN s1 _))))
              go_wp2
              go_roundw
              case rel => exact ⟨below_drewN hBr _, k + 1, by go_num, by omega⟩
              case measure => simp [intOf]; omega
            · go_wp2
              go_ret
              exact ⟨rfl, B5.trans (hBr.mono B5.size)⟩
        · go_wp2_with fail
          refine (implReadFrames_w _ _ _ (hcut _ rfl) (by simp; omega)).mono ?_
          rintro e w5 ⟨a5, c5, f5, rfl, ho5, -, hb5⟩
          simp only [hk2.out] at ho5 ⊢
          have hlk : (L.take kk).length = kk := by simp; omega
          replace ho5 := ho5.sl
          rw [hlk] at ho5 ⊢
          clear hcut hS hS4 hab
          have BW5 : Below wr.heap.size wr w5 := via (via hb3 hb4) hb5
          have k1 : w5.cell? ⟨be, oe + kk, none⟩ = some (.int .i64 ((cat (L.take kk)).length : Int)) := by rw [BW5.cell (p := ⟨be, _, none⟩) hlt]; exact hen
          clear hen
          have B5 : Below w.heap.size w w5 := via (via hb2 hB) BW5
          replace hL := hL.to (via hB BW5)
          replace hX3 := hX3.to (via hb4 hb5)
          replace hlk := Lib.hid hlk
          clear hE hb2 hb3 hb4 hb5 hB3 hB
          by_cases hkL : kk < L.length
          · have k2 : w5.cell? ⟨be, oe + (kk + 1), none⟩ = some (.int .i64 ((cat (L.take (kk + 1))).length : Int)) := by rw [BW5.cell (p := ⟨be, _, none⟩) hlt]; exact hen2.out hkL
            have k3 := hk3.out hkL
            clear hen2 hk3 hk2 hlk
            generalize (cat (L.take (kk + 1))).length = E1 at *
            go_wp2
            go_loopw [12] (fun i wr => Below w5.heap.size w5 wr ∧ ∃ k : Nat, i = .int .i64 k ∧ k ≤ L.length) (fun i _ => L.length - (intOf i).toNat)
            case atStart => exact ⟨Below.refl _ _, 0, rfl, by omega⟩
            case round =>
              obtain ⟨hBr, k, rfl, hk⟩ := hrel
              by_cases hlt : k < L.length
              · obtain ⟨b1, o1, v1, rfl, e1, -, s1⟩ := (hL.to hBr).frame k hlt
                obtain ⟨b2, o2, v2, rfl, e2, -, s2⟩ := (hX3.to hBr).frame k hlt
                by_cases hlk : k < kk
                · obtain ⟨b3, o3, v3, rfl, e3, -, s3⟩ := (ho5.to hBr).frame k (by simp; omega)
                  rw [List.getElem_take] at s3
                  go_wp2
                  go_quiet ((go_at_call 37; first | exact Calls.quiet_of (sameT_w _ _ _ _ (sl_drewN s2 _) (sl_drewN s1 _)) | exact Calls.quiet_of (sameT_w _ _ _ _ (sl_drewN s3 _) (sl_drewN s1 _))))
                  go_wp2
                  go_roundw
                  case rel => exact ⟨below_drewN hBr _, k + 1, by go_num, by omega⟩
                  case measure => simp [intOf]; omega
                · go_wp2
                  go_quiet ((go_at_call 37; exact Calls.quiet_of (sameT_w _ _ _ _ (sl_drewN s2 _) (sl_drewN s1 _))))
                  go_wp2
                  go_roundw
                  case rel => exact ⟨below_drewN hBr _, k + 1, by go_num, by omega⟩
                  case measure => simp [intOf]; omega
              · go_wp2
                go_ret
                exact ⟨rfl, B5.trans (hBr.mono B5.size)⟩
          · obtain rfl : kk = L.length := by omega
            clear hen2 hk3 hk2 hlk
            simp only [List.take_length] at k1 ho5 ⊢
            go_wp2
            go_loopw [12] (fun i wr => Below w5.heap.size w5 wr ∧ ∃ k : Nat, i = .int .i64 k ∧ k ≤ L.length) (fun i _ => L.length - (intOf i).toNat)
            case atStart => exact ⟨Below.refl _ _, 0, rfl, by omega⟩
            case round =>
              obtain ⟨hBr, k, rfl, hk⟩ := hrel
              by_cases hlt : k < L.length
              · obtain ⟨b1, o1, v1, rfl, e1, -, s1⟩ := (hL.to hBr).frame k hlt
                obtain ⟨b2, o2, v2, rfl, e2, -, s2⟩ := (hX3.to hBr).frame k hlt
                obtain ⟨b3, o3, v3, rfl, e3, -, s3⟩ := (ho5.to hBr).frame k hlt
                go_wp2
                go_quiet ((go_at_call 37; first | exact Calls.quiet_of (sameT_w _ _ _ _ (sl_drewN s2 _) (sl_drewN s1 _)) | exact Calls.quiet_of (sameT_w _ _ _ _ (sl_drewN s3 _) (sl_drewN s1 _))))
                go_wp2
                go_roundw
                case rel => exact ⟨below_drewN hBr _, k + 1, by go_num, by omega⟩
                case measure => simp [intOf]; omega
              · go_wp2
                go_ret
                exact ⟨rfl, B5.trans (hBr.mono B5.size)⟩
end Go.Proofs.Ytojlnmenfikhbaa
