/- Rows of structs, marked: the walks. Printed by a program. -/
import Derived.Test.YthnilnggpbploaaMk
namespace Go.Proofs.Ythnilnggpbploaa
open Go.RowKit
open Cel (rd own rd_len rd_one own_rd own_lt rd_below rd_mono own_keep)

set_option maxRecDepth 20000 in
theorem markValS_w (l : List ValD) (v : Value) (fp : List Nat) (K : Nat) (z : Int) (hz : z = K) (w : World) (h : OwnS w l v fp) (hn : fp.Nodup) (hk : K + cntL cntVal l ≤ 1099511627776) :
    Calls Try.prog 17 #[v, .int .i64 z] w (fun e w' => e = .returned (.int .i64 ((K + cntL cntVal l : Nat) : Int)) ∧ OwnS w' (mkL mkVal cntVal K l) v fp ∧ Chg fp w w') := by
  obtain ⟨a, c, rfl, hl, -⟩ := h.sl.open
  go_enter Try.func17, Try.ntmps17
  go_wp2
  go_loopw [1, 5] (fun kv i wr => ∃ (j : Nat) (z : Int), i = .int .i64 j ∧ kv = .int .i64 z ∧ z = ((K + cntL cntVal (l.take j) : Nat) : Int) ∧ j ≤ l.length ∧ OwnS wr (mkL mkVal cntVal K (l.take j) ++ l.drop j) (.slice a l.length c) fp ∧ Chg fp w wr) (fun _ i _ => l.length - (intOf i).toNat)
  case atStart => exact ⟨0, z, rfl, rfl, by simp [cntL, hz], by omega, by simpa [mkL] using h, Chg.refl _ _⟩
  case round =>
    clear h hz
    obtain ⟨j, z0, rfl, rfl, hz0, hj, ho, hc⟩ := hrel
    have hll := mkL_mid (mk := mkVal) (cnt := cntVal) l K j hj
    by_cases hlt : j < l.length
    · have hst := Lib.hid (mkL_step (mk := mkVal) (cnt := cntVal) l K j hlt)
      have hcs := cntL_step (cnt := cntVal) l j hlt
      have hcl := cntL_le (cnt := cntVal) l (j + 1)
      rw [hcs] at hcl
      have hcx : cntVal l[j] = 3 := rfl
      obtain ⟨g, rfl⟩ := ho.isRow (by omega)
      rw [mkL_start l K j hlt] at ho
      have hj2 : j < (mkL mkVal cntVal K (l.take j) ++ l.drop j).length := by omega
      have hz0a : 0 ≤ z0 ∧ z0 ≤ 1099511627776 := by omega
      replace hz0 := Lib.hid hz0
      generalize mkL mkVal cntVal K (l.take j) ++ l.drop j = L at *
      generalize cntL cntVal (l.take j) = N at *
      have hcap : l.length ≤ c := by obtain ⟨a1, c1, e, _, _, h1, _⟩ := ho.sl.open; rw [List.length_set] at h1 e; injection e; omega
      generalize l[j] = x at *
      clear hj hll
      obtain ⟨-, -, hfz, hsp⟩ := ho.spare
      obtain ⟨y0, e0⟩ := hsp j (by omega) 0 (by decide)
      replace e0 : wr.cell? ⟨g, j * 3, none⟩ = some y0 := by simpa [Cel.k] using e0
      obtain ⟨y1, e1⟩ := hsp j (by omega) 1 (by decide)
      replace e1 : wr.cell? ⟨g, j * 3 + 1, none⟩ = some y1 := by simpa [Cel.k] using e1
      clear hsp
      go_wp2_with fail
      clear hfz
      obtain ⟨ho1, hg1⟩ := ho.setVal0 hn hj2 (z0) ⟨by omega, by omega⟩
      replace hc := hc.put1 (p := ⟨g, j * 3, none⟩) hg1 rfl (.int .i64 (z0))
      replace ho := ho1
      (try dsimp only at ho)
      clear ho1 hg1
      obtain ⟨ho1, hg1⟩ := ho.setVal1 hn hj2 (z0 + 1) ⟨by omega, by omega⟩
      replace hc := hc.put1 (p := ⟨g, j * 3 + 1, none⟩) hg1 rfl (.int .i64 (z0 + 1))
      replace ho := ho1
      (try dsimp only at ho)
      clear ho1 hg1
      refine (markText_z (K + N + 2) _ (by have := hz0.out; omega) (by omega) _).mono ?_
      rintro e w1 ⟨rfl, hb1⟩
      replace ho := ho.below hb1
      replace hc := hc.trans (Chg.of_below hb1)
      clear hb1
      have ht2 := markT_size (K + N + 2) (by omega)
      obtain ⟨t2, hq2⟩ : ∃ t, markT (K + N + 2) = t := ⟨_, rfl⟩
      rw [hq2] at ht2 ⊢
      replace hq2 := Lib.hid hq2
      obtain ⟨-, -, hfz, hsp⟩ := ho.spare
      obtain ⟨y2, e2⟩ := hsp j (by omega) 2 (by decide)
      replace e2 : w1.cell? ⟨g, j * 3 + 2, none⟩ = some y2 := by simpa [Cel.k] using e2
      clear hsp
      go_wp2
      clear hfz
      obtain ⟨ho1, hg1⟩ := ho.setVal2 hn hj2 t2 ht2
      replace hc := hc.put1 (p := ⟨g, j * 3 + 2, none⟩) hg1 rfl (.string t2)
      replace ho := ho1
      (try dsimp only at ho)
      clear ho1 hg1
      have r0 : z0 = ((K + N + 0 : Nat) : Int) := by have := hz0.out; omega
      have r1 : z0 + 1 = ((K + N + 1 : Nat) : Int) := by have := hz0.out; omega
      replace ho := ho.as (y := mkVal (K + N) x) (by rw [r1, r0, ← hq2.out]; rfl)
      rw [hst.out] at ho
      go_roundw
      case rel => exact ⟨j + 1, _, by go_num, rfl, by have := hz0.out; rw [hcs, hcx]; omega, by omega, ho, hc⟩
      case measure => simp [intOf]; omega
    · obtain rfl : j = l.length := by omega
      rw [List.take_length] at *
      rw [List.drop_length, List.append_nil] at ho
      go_wp2
      go_ret
      subst hz0
      exact ⟨rfl, ho, hc⟩
set_option maxRecDepth 20000 in
theorem markSentS_w (l : List SentD) (v : Value) (fp : List Nat) (K : Nat) (z : Int) (hz : z = K) (w : World) (h : OwnS w l v fp) (hn : fp.Nodup) (hk : K + cntL cntSent l ≤ 1099511627776) :
    Calls Try.prog 10 #[v, .int .i64 z] w (fun e w' => e = .returned (.int .i64 ((K + cntL cntSent l : Nat) : Int)) ∧ OwnS w' (mkL mkSent cntSent K l) v fp ∧ Chg fp w w') := by
  obtain ⟨a, c, rfl, hl, -⟩ := h.sl.open
  go_enter Try.func10, Try.ntmps10
  go_wp2
  go_loopw [1, 5] (fun kv i wr => ∃ (j : Nat) (z : Int), i = .int .i64 j ∧ kv = .int .i64 z ∧ z = ((K + cntL cntSent (l.take j) : Nat) : Int) ∧ j ≤ l.length ∧ OwnS wr (mkL mkSent cntSent K (l.take j) ++ l.drop j) (.slice a l.length c) fp ∧ Chg fp w wr) (fun _ i _ => l.length - (intOf i).toNat)
  case atStart => exact ⟨0, z, rfl, rfl, by simp [cntL, hz], by omega, by simpa [mkL] using h, Chg.refl _ _⟩
  case round =>
    clear h hz
    obtain ⟨j, z0, rfl, rfl, hz0, hj, ho, hc⟩ := hrel
    have hll := mkL_mid (mk := mkSent) (cnt := cntSent) l K j hj
    by_cases hlt : j < l.length
    · have hst := Lib.hid (mkL_step (mk := mkSent) (cnt := cntSent) l K j hlt)
      have hcs := cntL_step (cnt := cntSent) l j hlt
      have hcl := cntL_le (cnt := cntSent) l (j + 1)
      rw [hcs] at hcl
      have hcx : cntSent l[j] = 4 + cntL cntVal l[j].C.F.Fields := rfl
      obtain ⟨g, rfl⟩ := ho.isRow (by omega)
      rw [mkL_start l K j hlt] at ho
      have hj2 : j < (mkL mkSent cntSent K (l.take j) ++ l.drop j).length := by omega
      have hz0a : 0 ≤ z0 ∧ z0 ≤ 1099511627776 := by omega
      replace hz0 := Lib.hid hz0
      generalize mkL mkSent cntSent K (l.take j) ++ l.drop j = L at *
      generalize cntL cntSent (l.take j) = N at *
      have hcap : l.length ≤ c := by obtain ⟨a1, c1, e, _, _, h1, _⟩ := ho.sl.open; rw [List.length_set] at h1 e; injection e; omega
      generalize l[j] = x at *
      clear hj hll
      go_wp2_with fail
      refine (markText_z (K + N + 0) _ (by have := hz0.out; omega) (by omega) _).mono ?_
      rintro e w1 ⟨rfl, hb1⟩
      replace ho := ho.below hb1
      replace hc := hc.trans (Chg.of_below hb1)
      clear hb1
      have ht0 := markT_size (K + N + 0) (by omega)
      obtain ⟨t0, hq0⟩ : ∃ t, markT (K + N + 0) = t := ⟨_, rfl⟩
      rw [hq0] at ht0 ⊢
      replace hq0 := Lib.hid hq0
      obtain ⟨-, -, hfz, hsp⟩ := ho.spare
      obtain ⟨y0, e0⟩ := hsp j (by omega) 0 (by decide)
      replace e0 : w1.cell? ⟨g, j * 5, none⟩ = some y0 := by simpa [Cel.k] using e0
      clear hsp
      go_wp2_with fail
      clear hfz
      obtain ⟨ho1, hg1⟩ := ho.setSent0 hn hj2 t0 ht0
      replace hc := hc.put1 (p := ⟨g, j * 5, none⟩) hg1 rfl (.string t0)
      replace ho := ho1
      (try dsimp only at ho)
      clear ho1 hg1
      refine (markText_z (K + N + 1) _ (by have := hz0.out; omega) (by omega) _).mono ?_
      rintro e w2 ⟨rfl, hb1⟩
      replace ho := ho.below hb1
      replace hc := hc.trans (Chg.of_below hb1)
      clear hb1
      have ht1 := markT_size (K + N + 1) (by omega)
      obtain ⟨t1, hq1⟩ : ∃ t, markT (K + N + 1) = t := ⟨_, rfl⟩
      rw [hq1] at ht1 ⊢
      replace hq1 := Lib.hid hq1
      obtain ⟨-, -, hfz, hsp⟩ := ho.spare
      obtain ⟨y1, e1⟩ := hsp j (by omega) 1 (by decide)
      replace e1 : w2.cell? ⟨g, j * 5 + 1, none⟩ = some y1 := by simpa [Cel.k] using e1
      clear hsp
      go_wp2_with fail
      clear hfz
      obtain ⟨ho1, hg1⟩ := ho.setSent1 hn hj2 t1 ht1
      replace hc := hc.put1 (p := ⟨g, j * 5 + 1, none⟩) hg1 rfl (.string t1)
      replace ho := ho1
      (try dsimp only at ho)
      clear ho1 hg1
      refine (markText_z (K + N + 2) _ (by have := hz0.out; omega) (by omega) _).mono ?_
      rintro e w3 ⟨rfl, hb1⟩
      replace ho := ho.below hb1
      replace hc := hc.trans (Chg.of_below hb1)
      clear hb1
      have ht2 := markT_size (K + N + 2) (by omega)
      obtain ⟨t2, hq2⟩ : ∃ t, markT (K + N + 2) = t := ⟨_, rfl⟩
      rw [hq2] at ht2 ⊢
      replace hq2 := Lib.hid hq2
      obtain ⟨-, -, hfz, hsp⟩ := ho.spare
      obtain ⟨y2, e2⟩ := hsp j (by omega) 2 (by decide)
      replace e2 : w3.cell? ⟨g, j * 5 + 2, none⟩ = some y2 := by simpa [Cel.k] using e2
      obtain ⟨y3, e3⟩ := hsp j (by omega) 3 (by decide)
      replace e3 : w3.cell? ⟨g, j * 5 + 3, none⟩ = some y3 := by simpa [Cel.k] using e3
      clear hsp
      obtain ⟨f0, q, -⟩ := ho.inSent3 hn hj2 _ e3
      obtain ⟨a3, c3, rfl⟩ := q.open
      clear q f0
      go_wp2_with fail
      clear hfz
      obtain ⟨ho1, hg1⟩ := ho.setSent2 hn hj2 t2 ht2
      replace hc := hc.put1 (p := ⟨g, j * 5 + 2, none⟩) hg1 rfl (.string t2)
      replace ho := ho1
      (try dsimp only at ho)
      clear ho1 hg1
      replace e3 := cell_kept (u := .string t2) (p := j * 5 + 2) e3 (by omega)
      obtain ⟨f3, ov, nv, sv, upd⟩ := ho.inSent3 hn hj2 _ e3
      (try dsimp only at ov upd)
      refine (markValS_w x.C.F.Fields _ f3 (K + N + 3) _ (by have := hz0.out; omega) _ ov nv (by omega)).mono ?_
      rintro e w4 ⟨rfl, ov2, hc2⟩
      replace ho := upd _ _ ov2 hc2
      (try dsimp only at ho)
      replace hc := hc.trans (hc2.mono sv)
      clear upd ov ov2 nv sv hc2
      obtain ⟨z1, hz1⟩ : ∃ z : Int, z = ((K + N + 3 + cntL cntVal x.C.F.Fields : Nat) : Int) := ⟨_, rfl⟩
      rw [← hz1]
      have hz1a : 0 ≤ z1 ∧ z1 ≤ 1099511627776 := by omega
      replace hz1 := Lib.hid hz1
      obtain ⟨-, -, hfz, hsp⟩ := ho.spare
      obtain ⟨y4, e4⟩ := hsp j (by omega) 4 (by decide)
      replace e4 : w4.cell? ⟨g, j * 5 + 4, none⟩ = some y4 := by simpa [Cel.k] using e4
      clear hsp
      go_wp2
      clear hfz
      obtain ⟨ho1, hg1⟩ := ho.setSent4 hn hj2 (z1) ⟨by omega, by omega⟩
      replace hc := hc.put1 (p := ⟨g, j * 5 + 4, none⟩) hg1 rfl (.int .i64 (z1))
      replace ho := ho1
      (try dsimp only at ho)
      clear ho1 hg1
      have r0 : z1 = ((K + N + 3 + cntL cntVal x.C.F.Fields + 0 : Nat) : Int) := by have := hz1.out; omega
      replace ho := ho.as (y := mkSent (K + N) x) (by rw [r0, ← hq0.out, ← hq1.out, ← hq2.out]; rfl)
      rw [hst.out] at ho
      go_roundw
      case rel => exact ⟨j + 1, _, by go_num, rfl, by have := hz1.out; rw [hcs, hcx]; omega, by omega, ho, hc⟩
      case measure => simp [intOf]; omega
    · obtain rfl : j = l.length := by omega
      rw [List.take_length] at *
      rw [List.drop_length, List.append_nil] at ho
      go_wp2
      go_ret
      subst hz0
      exact ⟨rfl, ho, hc⟩
end Go.Proofs.Ythnilnggpbploaa
