/- UndosSeen, the program's and the reference's. Printed by a program. -/
import Derived.Test.YthnilnggpbploaaStrS
namespace Go.Proofs.Ythnilnggpbploaa
open Go.RowKit
open Cel (rd own rd_len rd_one own_rd own_lt rd_below rd_mono own_keep)

theorem Chg.belw {w w' : World} (h : Chg [] w w') : Below w.heap.size w w' := ⟨h.os, h.tape, h.output, h.size, fun b hb => h.block b hb (by simp)⟩
theorem sl24 : SlT Try.prog 24 1 16 := SlT.mk (z := .string ⟨#[]⟩) Try.underlying24 (by kernel_rfl) rfl
def undoHit (name undo : ByteArray) (x : SentD) : Bool := decide (x.Name.toList = name.toList) && (decide (x.C.F.Kind.toList = undo.toList) && decide (x.C.Try = 1))
def seenB (name undo : ByteArray) (l : List SentD) : List ByteArray := (l.filter (undoHit name undo)).map fun x => x.C.Key
theorem seen_step (name undo : ByteArray) (l : List SentD) (k : Nat) (h : k < l.length) : seenB name undo (l.take (k + 1)) = seenB name undo (l.take k) ++ if undoHit name undo l[k] then [(l[k]).C.Key] else [] := by
  unfold seenB; rw [List.take_succ_eq_append_getElem h, List.filter_append, List.map_append]
  congr 1; rw [List.filter_cons]; split <;> simp_all
theorem seen_le (name undo : ByteArray) (l : List SentD) : (seenB name undo l).length ≤ l.length := by unfold seenB; rw [List.length_map]; exact List.length_filter_le _ _

set_option maxRecDepth 20000 in
theorem specSeen_w (l : List SentD) (name undo : ByteArray) (v : Value) (w : World) (h : Sl w l v) (hlen : l.length ≤ 1048576) :
    Calls Try.prog 5 #[v, .string name, .string undo] w (RetS (seenB name undo l) w) := by
  suffices Calls Try.prog 5 #[v, .string name, .string undo] w (RetE [] (seenB name undo l) w) from this.mono fun _ _ => RetE.retS
  obtain ⟨a, c, rfl, hl, -⟩ := h.open
  go_enter Try.func5, Try.ntmps5
  go_wp2
  go_loopw [7, 8] (fun out i wr => ∃ (k : Nat) (L : List ByteArray) (a1 : Option Addr) (c1 : Nat), i = .int .i64 k ∧ out = .slice a1 L.length c1 ∧ k ≤ l.length ∧ L.length ≤ k ∧ Hid (seenB name undo (l.take k) = L) ∧ Ext [] w L (.slice a1 L.length c1) wr) (fun _ i _ => l.length - (intOf i).toNat)
  case atStart => exact ⟨0, [], _, _, rfl, rfl, by omega, by simp, rfl, Ext.new (α := ByteArray) w #[] 9 w.heap.size 0 rfl (by simp [maxLen]) (by simp)⟩
  case round =>
    obtain ⟨k, L, a1, c1, rfl, rfl, hk, hLk, hL, hE⟩ := hrel
    by_cases hlt : k < l.length
    · obtain ⟨b, o, v0, rfl, hbl, hok, ⟨c0, d1, d2, d3, d4⟩, s0⟩ := (h.to hE.chg.belw).atSent k hlt
      have hst := Lib.hid (seen_step name undo l k hlt)
      generalize l[k] = x at *
      have hE1 := hE
      clear hE
      by_cases h1 : x.Name.toList = name.toList
      · by_cases h2 : x.C.F.Kind.toList = undo.toList
        · by_cases h3 : x.C.Try = 1
          · have hh : undoHit name undo x = true := by unfold undoHit; rw [decide_eq_true h1, decide_eq_true h2, decide_eq_true h3]; rfl
            have hs2 : seenB name undo (l.take (k + 1)) = L ++ [x.C.Key] := by rw [hst.out, hh, hL.out]; rfl
            replace hs2 := Lib.hid hs2
            have hb1 : (L.length + 1) * 16 ≤ 140737488355328 := by omega
            have hb2 : L.length + 1 ≤ maxLen := by simp [maxLen]; omega
            have hvk : own (wr) [Value.string x.C.Key] x.C.Key [] := ⟨rfl, hok.2.1, rfl⟩
            clear hst hL
            go_wp2_with (at_builtin; go_loud (refine wpList_ext1 rfl _ _ _ rfl sl24 rfl hE1 rfl (by simp) hvk hb1 hb2 ?_); intro a2 c2 w2 hE2)
            go_roundw
            case rel => exact ⟨k + 1, L ++ [x.C.Key], a2, c2, by go_num, by simp, by omega, by simp; omega, hs2, by simpa using hE2⟩
            case measure => simp [intOf]; omega
          · have b3 : (x.C.Try == 1) = false := by simpa using h3
            have hh : undoHit name undo x = false := by unfold undoHit; rw [decide_eq_false h3, Bool.and_false, Bool.and_false]
            have hs2 : seenB name undo (l.take (k + 1)) = L := by rw [hst.out, hh, hL.out]; simp
            replace hs2 := Lib.hid hs2
            go_wp2
            go_roundw
            case rel => exact ⟨k + 1, L, a1, c1, by go_num, rfl, by omega, by omega, hs2, hE1⟩
            case measure => simp [intOf]; omega
        · have b2 : (x.C.F.Kind.toList == undo.toList) = false := by simpa using h2
          have hh : undoHit name undo x = false := by unfold undoHit; rw [decide_eq_false h2, Bool.false_and, Bool.and_false]
          have hs2 : seenB name undo (l.take (k + 1)) = L := by rw [hst.out, hh, hL.out]; simp
          replace hs2 := Lib.hid hs2
          go_wp2
          go_roundw
          case rel => exact ⟨k + 1, L, a1, c1, by go_num, rfl, by omega, by omega, hs2, hE1⟩
          case measure => simp [intOf]; omega
      · have b1 : (x.Name.toList == name.toList) = false := by simpa using h1
        have hh : undoHit name undo x = false := by unfold undoHit; rw [decide_eq_false h1]; rfl
        have hs2 : seenB name undo (l.take (k + 1)) = L := by rw [hst.out, hh, hL.out]; simp
        replace hs2 := Lib.hid hs2
        go_wp2
        go_roundw
        case rel => exact ⟨k + 1, L, a1, c1, by go_num, rfl, by omega, by omega, hs2, hE1⟩
        case measure => simp [intOf]; omega
    · obtain rfl : k = l.length := by omega
      rw [List.take_length] at hL
      go_wp2
      go_ret
      exact ⟨a1, c1, by rw [hL.out]; rfl, by rw [hL.out]; exact hE⟩

set_option maxRecDepth 20000 in
theorem implSeen_w (l : List SentD) (name undo : ByteArray) (v : Value) (w : World) (h : Sl w l v) (hlen : l.length ≤ 1048576) :
    Calls Try.prog 7 #[v, .string name, .string undo] w (RetS (seenB name undo l) w) := by
  suffices Calls Try.prog 7 #[v, .string name, .string undo] w (RetE [] (seenB name undo l) w) from this.mono fun _ _ => RetE.retS
  obtain ⟨a, c, rfl, hl, -⟩ := h.open
  go_enter Try.func7, Try.ntmps7
  go_wp2
  go_loopw [7, 12] (fun out i wr => ∃ (k : Nat) (L : List ByteArray) (a1 : Option Addr) (c1 : Nat), i = .int .i64 k ∧ out = .slice a1 L.length c1 ∧ k ≤ l.length ∧ L.length ≤ k ∧ Hid (seenB name undo (l.take k) = L) ∧ Ext [] w L (.slice a1 L.length c1) wr) (fun _ i _ => l.length - (intOf i).toNat)
  case atStart => exact ⟨0, [], none, 0, rfl, rfl, by omega, by simp, rfl, ⟨[], OwnS.nil _, by simp, by simp, Chg.refl _ _⟩⟩
  case round =>
    obtain ⟨k, L, a1, c1, rfl, rfl, hk, hLk, hL, hE⟩ := hrel
    by_cases hlt : k < l.length
    · obtain ⟨b, o, v0, rfl, hbl, hok, ⟨c0, d1, d2, d3, d4⟩, s0⟩ := (h.to hE.chg.belw).atSent k hlt
      obtain ⟨a0, q0, rfl, hl0, -⟩ := s0.open
      have hst := Lib.hid (seen_step name undo l k hlt)
      generalize l[k] = x at *
      have hE1 := hE.alloc (.cells #[.string x.Name, .string x.C.Key, .string x.C.F.Kind, .slice a0 x.C.F.Fields.length q0, .int .i64 x.C.Try] 47)
      clear hE
      by_cases h1 : x.Name.toList = name.toList
      · by_cases h2 : x.C.F.Kind.toList = undo.toList
        · by_cases h3 : x.C.Try = 1
          · have hh : undoHit name undo x = true := by unfold undoHit; rw [decide_eq_true h1, decide_eq_true h2, decide_eq_true h3]; rfl
            have hs2 : seenB name undo (l.take (k + 1)) = L ++ [x.C.Key] := by rw [hst.out, hh, hL.out]; rfl
            replace hs2 := Lib.hid hs2
            have hb1 : (L.length + 1) * 16 ≤ 140737488355328 := by omega
            have hb2 : L.length + 1 ≤ maxLen := by simp [maxLen]; omega
            have hvk : own (wr.alloc (.cells #[.string x.Name, .string x.C.Key, .string x.C.F.Kind, .slice a0 x.C.F.Fields.length q0, .int .i64 x.C.Try] 47)) [Value.string x.C.Key] x.C.Key [] := ⟨rfl, hok.2.1, rfl⟩
            rw [h3] at hE1 hvk
            clear hst hL
            go_wp2_with (at_builtin; go_loud (refine wpList_ext1 rfl _ _ _ rfl sl24 rfl hE1 rfl (by simp) hvk hb1 hb2 ?_); intro a2 c2 w2 hE2)
            go_roundw
            case rel => exact ⟨k + 1, L ++ [x.C.Key], a2, c2, by go_num, by simp, by omega, by simp; omega, hs2, by simpa using hE2⟩
            case measure => simp [intOf]; omega
          · have b3 : (x.C.Try == 1) = false := by simpa using h3
            have hh : undoHit name undo x = false := by unfold undoHit; rw [decide_eq_false h3, Bool.and_false, Bool.and_false]
            have hs2 : seenB name undo (l.take (k + 1)) = L := by rw [hst.out, hh, hL.out]; simp
            replace hs2 := Lib.hid hs2
            go_wp2
            go_roundw
            case rel => exact ⟨k + 1, L, a1, c1, by go_num, rfl, by omega, by omega, hs2, hE1⟩
            case measure => simp [intOf]; omega
        · have b2 : (x.C.F.Kind.toList == undo.toList) = false := by simpa using h2
          have hh : undoHit name undo x = false := by unfold undoHit; rw [decide_eq_false h2, Bool.false_and, Bool.and_false]
          have hs2 : seenB name undo (l.take (k + 1)) = L := by rw [hst.out, hh, hL.out]; simp
          replace hs2 := Lib.hid hs2
          go_wp2
          go_roundw
          case rel => exact ⟨k + 1, L, a1, c1, by go_num, rfl, by omega, by omega, hs2, hE1⟩
          case measure => simp [intOf]; omega
      · have b1 : (x.Name.toList == name.toList) = false := by simpa using h1
        have hh : undoHit name undo x = false := by unfold undoHit; rw [decide_eq_false h1]; rfl
        have hs2 : seenB name undo (l.take (k + 1)) = L := by rw [hst.out, hh, hL.out]; simp
        replace hs2 := Lib.hid hs2
        go_wp2
        go_roundw
        case rel => exact ⟨k + 1, L, a1, c1, by go_num, rfl, by omega, by omega, hs2, hE1⟩
        case measure => simp [intOf]; omega
    · obtain rfl : k = l.length := by omega
      rw [List.take_length] at hL
      go_wp2
      go_ret
      exact ⟨a1, c1, by rw [hL.out]; rfl, by rw [hL.out]; exact hE⟩
end Go.Proofs.Ythnilnggpbploaa
