/- Frames, the program's and the reference's. -/
import Derived.Test.YtojlnmenfikhbaaNum
import Derived.Test.YtojlnmenfikhbaaCrc
import Derived.Test.YtojlnmenfikhbaaFile
namespace Go.Proofs.Ytojlnmenfikhbaa
open Go.RowKit
open Cel (rd own rd_len rd_one own_rd own_lt rd_below rd_mono own_keep)

def crc4 (l : List UInt8) : List UInt8 := [UInt8.ofNat (crcN l / 16777216), UInt8.ofNat (crcN l / 65536), UInt8.ofNat (crcN l / 256), UInt8.ofNat (crcN l)]
def frameB (l f : List UInt8) : List UInt8 := if 4000 < f.length then l else l ++ numB f.length ++ f ++ crc4 f

theorem frameB_len (l f : List UInt8) : (frameB l f).length ≤ l.length + 4010 := by
  have := numB_len f.length
  unfold frameB; split
  · omega
  · simp [crc4]; omega

theorem OwnS.bytes (w : World) (l : List UInt8) (cur : Array Value) (e : TypeId) (g n : Nat) (hg : w.heap.size = g) (hn : l.length = n) (hm : n ≤ maxLen) (hc : cur.toList = l.map fun c => Value.int .u8 (c.toNat : Int)) :
    OwnS (w.alloc (.cells cur e)) l (.slice (some ⟨g, 0, none⟩) n n) [g] := by
  subst hg hn
  have hs : cur.size = l.length := by rw [← Array.length_toList, hc, List.length_map]
  refine .inr ⟨w.heap.size, l.length, cur, e, l.map (fun c => [Value.int .u8 (c.toNat : Int)]), l.map (fun _ => []), rfl, heap_alloc_new w _, Nat.le_refl _, hm, by simp [Cel.k, hs], by simp, ?_, ?_⟩
  · suffices ∀ w (l : List UInt8), OwnL w (l.map (fun c => [Value.int .u8 (c.toNat : Int)])) l (l.map (fun _ => [])) from this _ l
    intro w l
    induction l with
    | nil => trivial
    | cons x xs ih => exact ⟨⟨rfl, rfl⟩, ih⟩
  · have : Cel.k UInt8 = 1 := rfl
    rw [this, Nat.mul_one, List.take_of_length_le (by simp [hs]), hc]
    clear hc hs hm
    induction l with
    | nil => rfl
    | cons x xs ih => simpa using ih

theorem crc4_cells (l : List UInt8) : [Value.int .u8 ((crcN l : Int) / 16777216), Value.int .u8 ((crcN l : Int) / 65536 % 256), Value.int .u8 ((crcN l : Int) / 256 % 256), Value.int .u8 ((crcN l : Int) % 256)] =
    (crc4 l).map fun c => Value.int .u8 (c.toNat : Int) := by
  have hx := crcN_lt l
  unfold crc4
  simp only [List.map_cons, List.map_nil, UInt8.toNat_ofNat', List.cons.injEq, Value.int.injEq, true_and, and_true]
  refine ⟨?_, ?_, ?_, ?_⟩ <;> omega

theorem Chg.bel {w w' : World} (h : Chg [] w w') : Below w.heap.size w w' := ⟨h.os, h.tape, h.output, h.size, fun b hb => h.block b hb (by simp)⟩
theorem implCrc4_w (l : List UInt8) (v : Value) (w : World) (h : Sl w l v) :
    Calls Try.prog 65 #[v] w (RetS (crc4 l) w) := by
  have hx := crcN_lt l
  obtain ⟨a, c, rfl, hl, -⟩ := h.open
  go_enter Try.func65, Try.ntmps65
  go_wp2_with fail
  refine (implCrc_w l _ _ h).mono ?_
  rintro e w1 ⟨rfl, hb1⟩
  go_wp2
  go_ret
  refine ⟨some ⟨w1.heap.size, 0, none⟩, 4, [w1.heap.size], rfl, OwnS.bytes w1 (crc4 l) _ 5 _ _ rfl rfl (by simp [maxLen, crc4]) (crc4_cells l), ⟨by simp, by simpa using hb1.size⟩, by simp [hb1]⟩

theorem implPutFrame_w (l f : List UInt8) (v v2 : Value) (w : World) (h : Sl w l v) (h2 : Sl w f v2) (hlen : l.length ≤ 1099511627776) (hlen2 : f.length ≤ 1099511627776) :
    Calls Try.prog 32 #[v, v2] w (RetS (frameB l f) w) := by
  suffices Calls Try.prog 32 #[v, v2] w (RetE [] (frameB l f) w) from this.mono fun _ _ => RetE.retS
  obtain ⟨a, c, rfl, hl, -⟩ := h.open
  obtain ⟨a2, c2, rfl, hl2, -⟩ := h2.open
  unfold frameB
  have hnl := numB_len f.length
  by_cases hf : 4000 < f.length
  · rw [if_pos hf]
    go_enter Try.func32, Try.ntmps32
    go_wp2_with fail
    refine (clone1_w l _ _ h hlen).mono ?_
    rintro e w1 ⟨a3, c3, fp3, rfl, ho, hfr, hb1⟩
    go_wp2
    go_ret
    exact ⟨a3, c3, rfl, Ext.fresh hb1 ho hfr⟩
  · rw [if_neg hf]
    go_enter Try.func32, Try.ntmps32
    go_wp2_with fail
    refine (clone1_w l _ _ h hlen).mono ?_
    rintro e w1 ⟨a3, c3, fp3, rfl, ho, hfr, hb1⟩
    go_wp2_with fail
    refine (implPutNum_w l _ fp3 f.length _ ho hfr.1 hlen ⟨by omega, by omega⟩).mono ?_
    rintro e w2 ⟨a4, c4, rfl, hE2⟩
    have hE2 : Ext [] w (l ++ numB f.length) (.slice a4 (l ++ numB f.length).length c4) w2 := Ext.trans ho (fun b hb => .inr (hfr.2 b hb)) (Chg.of_below hb1) hE2
    have hL : (l ++ numB f.length).length ≤ 1099511627800 := by simp; omega
    generalize l ++ numB f.length = L2 at *
    have k2 : Sl w2 f (.slice a2 f.length c2) := h2.to ⟨hE2.chg.os, hE2.chg.tape, hE2.chg.output, hE2.chg.size, fun b hb => hE2.chg.block b hb (by simp)⟩
    have hby : (L2.length + f.length) * 1 ≤ 140737488355328 := by omega
    have hml : L2.length + f.length ≤ maxLen := by simp [maxLen]; omega
    go_wp2_with (at_builtin; go_loud (refine wpList_extF (α := UInt8) rfl _ _ _ rfl sl22 rfl hE2 rfl k2 hby hml ?_); intro a5 c5 w5 hE5; clear hE2 k2)
    have b5 : Below w.heap.size w w5 := hE5.chg.bel
    refine (implCrc4_w f _ _ (h2.to b5)).mono ?_
    rintro e w6 ⟨a6, c6, fp6, rfl, ho6, hf6, hb6⟩
    have hE6 := hE5.via hb6
    have k6 := ho6.sl
    have h4 : (crc4 f).length = 4 := rfl
    have hL5 : (L2 ++ f).length = L2.length + f.length := by simp
    rw [← hL5] at hE6
    have hL6 : (L2 ++ f).length ≤ 1099511700000 := by omega
    have hby6 : ((L2 ++ f).length + (crc4 f).length) * 1 ≤ 140737488355328 := by omega
    have hml6 : (L2 ++ f).length + (crc4 f).length ≤ maxLen := by simp [maxLen]; omega
    have H5 := Lib.hid hL5
    clear hL5 h4
    go_wp2_with (at_builtin; go_loud (refine wpList_extF (α := UInt8) rfl _ _ _ rfl sl22 ?_ hE6 rfl k6 hby6 hml6 ?_); (rw [H5.out]; rfl); intro a7 c7 w7 hE7)
    go_ret
    have e7 : (L2 ++ f ++ crc4 f).length = (L2 ++ f).length + (crc4 f).length := List.length_append
    refine ⟨a7, c7, ?_, ?_⟩
    · rw [e7, H5.out]; rfl
    · rw [e7]; exact hE7

theorem specPutFrame_w (l f : List UInt8) (v v2 : Value) (w : World) (h : Sl w l v) (h2 : Sl w f v2) (hlen : l.length ≤ 1099511627776) (hlen2 : f.length ≤ 1099511627776) :
    Calls Try.prog 31 #[v, v2] w (RetS (frameB l f) w) := by
  suffices Calls Try.prog 31 #[v, v2] w (RetE [] (frameB l f) w) from this.mono fun _ _ => RetE.retS
  obtain ⟨a, c, rfl, hl, -⟩ := h.open
  obtain ⟨a2, c2, rfl, hl2, -⟩ := h2.open
  unfold frameB
  have hnl := numB_len f.length
  have hx := crcN_lt f
  have hN := Ext.new (α := UInt8) w #[] 5 w.heap.size 0 rfl (by decide) (by simp)
  have h' := h.to (w' := w.alloc (.cells #[] 5)) (by simp)
  have hby : (([] : List UInt8).length + l.length) * 1 ≤ 140737488355328 := by simp; omega
  have hml : ([] : List UInt8).length + l.length ≤ maxLen := by simp [maxLen]; omega
  by_cases hf : 4000 < f.length
  · rw [if_pos hf]
    go_enter Try.func31, Try.ntmps31
    go_wp2_with (at_builtin; go_loud (refine wpList_extF (α := UInt8) (l := []) rfl _ _ _ rfl sl22 rfl hN rfl h' hby hml ?_); intro a0 c0 w0 hE0)
    simp only [List.length_nil, Nat.zero_add, List.nil_append] at hE0
    go_ret
    exact ⟨a0, c0, rfl, hE0⟩
  · rw [if_neg hf]
    go_enter Try.func31, Try.ntmps31
    go_wp2_with (at_builtin; go_loud (refine wpList_extF (α := UInt8) (l := []) rfl _ _ _ rfl sl22 rfl hN rfl h' hby hml ?_); intro a0 c0 w0 hE0; simp only [List.length_nil, Nat.zero_add, List.nil_append] at hE0; clear hN h' hby hml; have k0 := h2.to hE0.chg.bel)
    refine (specCrc_w f _ _ k0).mono ?_
    rintro e w1 ⟨rfl, hb1⟩
    have hE1 := hE0.via hb1
    go_wp2_with fail
    refine (specPutNum_w l _ f.length _ hE1.sl hlen ⟨by omega, by omega⟩).mono ?_
    rintro e w2 ⟨a3, c3, fp3, rfl, ho, hfr, hb2⟩
    have hbb := via hE1.chg.bel hb2
    have hE2 : Ext [] w (l ++ numB f.length) (.slice a3 (l ++ numB f.length).length c3) w2 := Ext.fresh hbb ho ⟨hfr.1, fun b hb => Nat.le_trans hE1.chg.size (hfr.2 b hb)⟩
    have hL : (l ++ numB f.length).length ≤ 1099511627800 := by simp; omega
    clear ho
    generalize l ++ numB f.length = L2 at *
    have k2 : Sl w2 f (.slice a2 f.length c2) := h2.to hbb
    have hby : (L2.length + f.length) * 1 ≤ 140737488355328 := by omega
    have hml : L2.length + f.length ≤ maxLen := by simp [maxLen]; omega
    have hl5 : (L2 ++ f).length = L2.length + f.length := List.length_append
    have h4 : (crc4 f).length = 4 := rfl
    have hby4 : ((L2 ++ f).length + (crc4 f).length) * 1 ≤ 140737488355328 := by omega
    have hml4 : (L2 ++ f).length + (crc4 f).length ≤ maxLen := by simp only [maxLen]; omega
    have H5 := Lib.hid hl5
    clear hl5 h4
    go_wp2_with (at_builtin; first | (refine wpList_extF (α := UInt8) rfl _ _ _ rfl sl22 rfl hE2 rfl k2 hby hml ?_; intro a5 c5 w5 hE5; clear hE2 k2) | go_loud (refine wpList_extF (α := UInt8) (l2 := crc4 f) rfl _ _ _ rfl sl22 rfl (hE5.alloc _) rfl (OwnS.bytes w5 (crc4 f) _ 5 _ 4 rfl rfl (by simp [maxLen]) (crc4_cells f)).sl hby4 hml4 ?_; intro a7 c7 w7 hE7))
    go_ret
    have e7 : (L2 ++ f ++ crc4 f).length = (L2 ++ f).length + (crc4 f).length := List.length_append
    refine ⟨a7, c7, ?_, ?_⟩
    · rw [e7, H5.out]; rfl
    · rw [e7]; exact hE7
end Go.Proofs.Ytojlnmenfikhbaa
