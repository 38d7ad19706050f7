/- Parts of a proof. -/
import Derived.Test.YtkdidadegedmiaaGreatZc
import Derived.Test.YtkdidadegedmiaaGreatProg
import Derived.Lib.Overlaps
import Derived.Lib.AppendZerosOnto
import Derived.Laws.NewBlocks
import Derived.Shelf.Spec.SlicesInsert
import Derived.Eval
namespace Go.Proofs.YtkdidadegedmiaaGreat
open Go.RowKit
theorem zPC {P : Program} {k : Nat} (w : World) (dT sT ty elem : TypeId) (g o dLen dCap : Nat) (a : Addr) (sLen sCap : Nat) (cur : Array Value) (t : TypeId) (cs : List Value)
  (hu : P.underlying dT = some (.slice elem)) (hs : (P.info? elem).map (·.size) = some k)
  (hg : w.heap[g]? = some (.cells cur t (0, 0))) (hn : cs.length = Nat.min sLen dLen * k)
  (hsrc : ∀ j v, cs[j]? = some v → w.cell? (a.add j) = some v) (hfit : o + cs.length ≤ cur.size) (h1 : ∀ v ∈ cs, v.oneCell' = true) :
  (Builtin.copy_ #[dT, sT] ty #[.slice (some ⟨g, o, none⟩) dLen dCap, .slice (some a) sLen sCap]).run P w =
   .ok (goInt (Nat.min sLen dLen)) (w.setRow g (cur.toList.take o ++ cs ++ cur.toList.drop (o + cs.length)).toArray) := by
 have hl := run_loadCells_list (P := P) w a cs hsrc
 have hst := run_storeCells_at P g o t cs 0 cur w hg (by simpa using hfit) h1
 cases hq : P.info? elem with
 | none => simp [hq] at hs
 | some i =>
  have hi : i.size = k := by simpa [hq] using hs
  simp only [Nat.add_zero] at hst
  simp [Builtin.copy_, run_underlying hu, Builtin.lenOf, Builtin.firstCells, sizeOf, typeInfo, hq, hi, ← hn, hl, hst]
theorem zeG : ∃ i z, Tryz.prog.info? 169 = some i ∧ i.zero = some z ∧ i.size = 3 ∧ z.cells.size = 3 ∧ i.bytes ≤ 8388608 := by
 have h1 : (Tryz.prog.info? 169).map (·.size) = some 3 := by kernel_rfl
 have h2 : ((Tryz.prog.info? 169).bind (·.zero)).map (·.cells.size) = some 3 := by kernel_rfl
 have h3 : (Tryz.prog.info? 169).map (fun i => decide (i.bytes ≤ 8388608)) = some true := by kernel_rfl
 cases e : Tryz.prog.info? 169 with
 | none => rw [e] at h1; cases h1
 | some i =>
  rw [e] at h1 h2 h3
  simp only [Option.map_some, Option.some.injEq, Option.bind_some, decide_eq_true_eq] at h1 h2 h3
  cases e2 : i.zero with
  | none => rw [e2] at h2; cases h2
  | some z =>
   rw [e2] at h2
   exact ⟨i, z, rfl, e2, h1, by simpa using h2, h3⟩
set_option maxHeartbeats 4000000 in
set_option maxRecDepth 100000 in
theorem zm3 {b n c i vb vc : Nat} {cur vcur : Array Value} {e1 e2 : TypeId} (w : World) (hi : i < n) (hroom : n + 1 ≤ c) (hc63 : c ≤ maxLen) (hvb : vb ≠ b)
  (hb : w.heap[b]? = some (.cells cur e1 (0, 0))) (hv : w.heap[vb]? = some (.cells vcur e2 (0, 0))) (hsz : c * 3 ≤ cur.size) (hvs : 3 ≤ vcur.size)
  (h1c : ∀ v ∈ cur.toList.take (n * 3), v.oneCell' = true) (h1v : ∀ v ∈ vcur.toList.take 3, v.oneCell' = true) :
  ∃ curA cur' : Array Value, cur'.size = cur.size ∧ (∀ (j : Nat) (u : Value), (cur.toList.take (i * 3) ++ vcur.toList.take 3 ++ (cur.toList.take (n * 3)).drop (i * 3))[j]? = some u → cur'[j]? = some u) ∧
   Calls Tryz.prog 268 #[.slice (some ⟨b, 0, none⟩) n c, .int .i64 i, .slice (some ⟨vb, 0, none⟩) 1 vc] w fun e w' =>
    e = .returned (.slice (some ⟨b, 0, none⟩) (n + 1) c) ∧ w' = (w.drew.setRow b curA).setRow b cur' := by
 have hm9 : maxLen = 9223372036854775807 := rfl
 have hz2 : ¬ ((i : Int) = (n : Int)) := by omega
 have hsz3 : (Tryz.prog.info? 169).map (·.size) = some 3 := by kernel_rfl
 have hz3 : ∀ w, (Go.sizeOf 169).run Tryz.prog w = .ok 3 w := fun w => by kernel_rfl
 have hov : ∀ lb cb, (callFunc 337 #[.slice (some ⟨vb, 0, none⟩) 1 vc, .slice (some ⟨b, (i + 1) * 3, none⟩) lb cb]).run Tryz.prog w = .ok (.value (.bool false)) w := fun lb cb => by
  rw [run_callFunc_extern Tryz.func337 (by kernel_rfl) (by kernel_rfl) (by kernel_rfl) (e := Extern.SlicesOverlaps.overlaps #[32, 32] #[4]) (by kernel_rfl),
   Lib.run_overlaps_apart w 32 4 169 Tryz.underlying32 3 hz3 ⟨vb, 0, none⟩ ⟨b, (i + 1) * 3, none⟩ 1 vc lb cb hvb e2 e1 vcur.size cur.size (by simp [World.shape?, hv]) (by simp [World.shape?, hb]) (by omega) (by simp [World.frozen?, hv]) (by simp [World.frozen?, hv])]
  rfl
 have hnc : n * 3 ≤ cur.size := by omega
 have hc1 : (i + 1) * 3 + (n - i) * 3 = (n + 1) * 3 := by omega
 have hle : ((cur.toList.take (n * 3)).drop (i * 3)).length = (n - i) * 3 := by simp; omega
 have h1d : ∀ v ∈ (cur.toList.take (n * 3)).drop (i * 3), v.oneCell' = true := fun v hv => h1c v (List.mem_of_mem_drop hv)
 have hlv : (vcur.toList.take 3).length = 3 := by simp; omega
 obtain ⟨curA, hA⟩ : ∃ curA : Array Value, curA = (cur.toList.take ((i + 1) * 3) ++ (cur.toList.take (n * 3)).drop (i * 3) ++ cur.toList.drop ((i + 1) * 3 + ((cur.toList.take (n * 3)).drop (i * 3)).length)).toArray := ⟨_, rfl⟩
 have hAs : curA.size = cur.size := by
  rw [hA]; simp; omega
 obtain ⟨cur', hB⟩ : ∃ cur' : Array Value, cur' = (curA.toList.take (i * 3) ++ vcur.toList.take 3 ++ curA.toList.drop (i * 3 + (vcur.toList.take 3).length)).toArray := ⟨_, rfl⟩
 have hBs : cur'.size = cur.size := by
  rw [hB]; simp; omega
 have hcp1 : ∀ ty dc sc, (Builtin.copy_ #[32, 32] ty #[.slice (some ⟨b, (i + 1) * 3, none⟩) (n - i) dc, .slice (some ⟨b, i * 3, none⟩) (n + 1 - i) sc]).run Tryz.prog w.drew = .ok (goInt (Nat.min (n + 1 - i) (n - i))) (w.drew.setRow b curA) := fun ty dc sc => by
  rw [hA]
  exact zPC w.drew _ _ ty 169 b ((i + 1) * 3) _ _ ⟨b, i * 3, none⟩ _ _ cur e1 _ Tryz.underlying32 hsz3 hb (by rw [hle]; congr 1; simp only [Nat.min_def]; split <;> omega)
   (fun j v hj => by
    rw [Addr.add_lit]
    rw [List.getElem?_drop, List.getElem?_take] at hj
    split at hj
    ·show w.cell? _ = _
     simp only [World.cell?, hb, Option.isSome_none, Bool.false_eq_true, if_false]; simpa using hj
    ·cases hj) (by rw [hle]; omega) h1d
 have hWb : ∀ W : World, W.heap = (w.drew.setRow b curA).heap → W.heap[b]? = some (.cells curA e1 (0, 0)) := fun W h => by rw [h]; exact setRow_heap w.drew b cur curA e1 _ hb
 have hWv : ∀ W : World, W.heap = (w.drew.setRow b curA).heap → W.heap[vb]? = some (.cells vcur e2 (0, 0)) := fun W h => by rw [h, setRow_other _ _ _ _ hvb]; exact hv
 have hcp2 : ∀ W : World, W.heap = (w.drew.setRow b curA).heap → ∀ ty dc, (Builtin.copy_ #[32, 32] ty #[.slice (some ⟨b, i * 3, none⟩) (n + 1 - i) dc, .slice (some ⟨vb, 0, none⟩) 1 vc]).run Tryz.prog W = .ok (goInt (Nat.min 1 (n + 1 - i))) (W.setRow b cur') := fun W hW ty dc => by
  rw [hB]
  exact zPC W _ _ ty 169 b (i * 3) _ _ ⟨vb, 0, none⟩ _ _ curA e1 _ Tryz.underlying32 hsz3 (hWb W hW) (by rw [hlv]; simp only [Nat.min_def]; split <;> omega)
   (fun j v hj => by
    rw [Addr.add_lit]
    rw [List.getElem?_take] at hj
    split at hj
    ·simp only [World.cell?, hWv W hW, Option.isSome_none, Bool.false_eq_true, if_false, Nat.zero_add]; simpa using hj
    ·cases hj) (by rw [hlv]; omega) h1v
 refine ⟨curA, cur', hBs, fun j u hu => ?_, ?_⟩
 ·have hl1 : (cur.toList.take ((i + 1) * 3)).length = (i + 1) * 3 := by simp; omega
  have h1 : curA.toList.take (i * 3) = cur.toList.take (i * 3) := by
   rw [hA]
   simp only [List.append_assoc]
   rw [List.take_append_of_le_length (by omega), List.take_take]
   congr 1; omega
  have h2 : curA.toList.drop (i * 3 + (vcur.toList.take 3).length) = (cur.toList.take (n * 3)).drop (i * 3) ++ cur.toList.drop ((i + 1) * 3 + ((cur.toList.take (n * 3)).drop (i * 3)).length) := by
   rw [hA]
   simp only [List.append_assoc]
   exact List.drop_left' (by rw [hl1, hlv]; omega)
  have h3 : cur'.toList = (cur.toList.take (i * 3) ++ vcur.toList.take 3 ++ (cur.toList.take (n * 3)).drop (i * 3)) ++ cur.toList.drop ((i + 1) * 3 + ((cur.toList.take (n * 3)).drop (i * 3)).length) := by
   rw [hB, h1, h2]; simp only [List.append_assoc]
  rw [← Array.getElem?_toList, h3, List.getElem?_append_left (List.getElem?_eq_some_iff.1 hu).1]
  exact hu
 clear hA hB hAs hBs hWb hWv h1c h1v h1d hle hlv
 have mixed : Tryz.prog.follows .mixedOrders = true := by kernel_rfl
 have hw1 : IntKind.i64.wrap ((i : Int) + 1) = (i : Int) + 1 := by rw [IntKind.wrap_i64]; omega
 have hb1 : (0 : Int) ≤ (i : Int) + 1 := by omega
 have hin : i ≤ n := by omega
 have htn : ((i : Int) + 1).toNat = i + 1 := by omega
 have hb2 : ¬ (c = i + 1) := by omega
 have hb3 : (i : Int) ≤ (n : Int) + 1 := by omega
 have hb4 : ¬ (c = i) := by omega
 go_enter Tryz.func268, Tryz.ntmps268
 go_wp2_with (simp only [hov])
 go_region_law_o (refine step_copy_runI rfl _ _ 32 32 rfl _ _ (by simp [Act.eval, Act.put]) (by simp [Act.eval, Act.put]) (hcp1 _ _ _) ?_)
 go_wp2_with (at_builtin; refine wpList_copy_runI _ rfl _ _ 32 32 rfl _ _ rfl rfl (hcp2 _ rfl _ _) ?_)
 go_ret
 exact ⟨rfl, rfl⟩
set_option maxHeartbeats 4000000 in
set_option maxRecDepth 100000 in
theorem zkr {ad : Option Addr} {n c vb vc : Nat} (w w2 : World) (y : Value) (hnc : n ≤ c) (hnil : ad = none → c = 0) (hn : n ≤ 16777216)
  (hrun : (Builtin.append_ #[32, 32] 32 #[.slice ad n c, .slice (some ⟨vb, 0, none⟩) 1 vc]).run Tryz.prog w = .ok y w2) :
  Calls Tryz.prog 268 #[.slice ad n c, .int .i64 n, .slice (some ⟨vb, 0, none⟩) 1 vc] w fun e w' => e = .returned y ∧ w' = w2 := by
 have hb1 : (0 : Int) ≤ (n : Int) := by omega
 have hin : n ≤ n := Nat.le_refl _
 cases ad with
 | none =>
  obtain rfl := hnil rfl
  obtain rfl : n = 0 := by omega
  go_enter Tryz.func268, Tryz.ntmps268
  go_wp2_with (at_builtin; refine Lib.wpList_append_run _ rfl _ _ _ _ rfl _ _ rfl rfl _ _ hrun ?_)
  go_ret
  exact ⟨rfl, rfl⟩
 | some a =>
  obtain ⟨ab, ao, asp⟩ := a
  by_cases hcn : c = n
  ·subst hcn
   go_enter Tryz.func268, Tryz.ntmps268
   go_wp2_with (at_builtin; refine Lib.wpList_append_run _ rfl _ _ _ _ rfl _ _ rfl rfl _ _ hrun ?_)
   go_ret
   exact ⟨rfl, rfl⟩
  ·go_enter Tryz.func268, Tryz.ntmps268
   go_wp2_with (at_builtin; refine Lib.wpList_append_run _ rfl _ _ _ _ rfl _ _ rfl rfl _ _ hrun ?_)
   go_ret
   exact ⟨rfl, rfl⟩
set_option maxHeartbeats 1000000 in
set_option maxRecDepth 100000 in
theorem zqc {b n c i vb vc : Nat} {cur vcur : Array Value} {e1 e2 : TypeId} (w : World) (hi : i < n) (hnc : n ≤ c) (hroom : c < n + 1) (hn : n + 1 ≤ 16777216)
  (hb : w.heap[b]? = some (.cells cur e1 (0, 0))) (hv : w.heap[vb]? = some (.cells vcur e2 (0, 0))) (hsz : c * 3 ≤ cur.size) (hvs : 3 ≤ vcur.size)
  (h1c : ∀ v ∈ cur.toList.take (n * 3), v.oneCell' = true) (h1v : ∀ v ∈ vcur.toList.take 3, v.oneCell' = true) :
  ∃ (G : Nat) (ROW curA cur' : Array Value), n + 1 ≤ G ∧ G ≤ maxLen ∧ G * 3 ≤ cur'.size ∧ curA.size = ROW.size ∧ cur'.size = ROW.size ∧ (∀ (j : Nat) (u : Value), (cur.toList.take (i * 3) ++ vcur.toList.take 3 ++ (cur.toList.take (n * 3)).drop (i * 3))[j]? = some u → cur'[j]? = some u) ∧
   Calls Tryz.prog 268 #[.slice (some ⟨b, 0, none⟩) n c, .int .i64 i, .slice (some ⟨vb, 0, none⟩) 1 vc] w fun e w' =>
    e = .returned (.slice (some ⟨w.heap.size, 0, none⟩) (n + 1) G) ∧ w' = (((w.alloc (.cells ROW 169)).drew.setRow w.heap.size curA).drew).setRow w.heap.size cur' := by
 obtain rfl : n = c := by omega
 obtain ⟨i0, z, hi0, hz0, hzs, hzc, hzb⟩ := zeG
 have hz2 : ¬ ((i : Int) = (n : Int)) := by omega
 have hz3 : (n : Int) < (n : Int) + 1 := by omega
 have hsz3 : (Tryz.prog.info? 169).map (·.size) = some 3 := by kernel_rfl
 have hbw : b < w.heap.size := (Array.getElem?_eq_some_iff.1 hb).1
 have hvw : vb < w.heap.size := (Array.getElem?_eq_some_iff.1 hv).1
 have hkk : (n : Int) + 1 - (i : Int) = ((n + 1 - i : Nat) : Int) := by omega
 have hik : i + (n + 1 - i) = n + 1 := by omega
 have hnc3 : n * 3 ≤ cur.size := by omega
 have hli : (cur.toList.take (i * 3)).length = i * 3 := by simp; omega
 have hlv : (vcur.toList.take 3).length = 3 := by simp; omega
 have hle : ((cur.toList.take (n * 3)).drop (i * 3)).length = (n - i) * 3 := by simp; omega
 have h1d : ∀ v ∈ (cur.toList.take (n * 3)).drop (i * 3), v.oneCell' = true := fun v hv => h1c v (List.mem_of_mem_drop hv)
 have hby : (n + 1) * i0.bytes ≤ 140737488355328 := Nat.le_trans (Nat.mul_le_mul hn hzb) (by decide)
 have hold : (Builtin.firstCells i0.size i (.slice (some ⟨b, 0, none⟩) i n)).run Tryz.prog w.drew = .ok (cur.toList.take (i * 3)).toArray w.drew := by
  rw [hzs]
  exact run_firstCells_some w.drew 3 i ⟨b, 0, none⟩ i n (cur.toList.take (i * 3)) (by rw [hli]) (fun j v hj => by
   rw [Addr.add_lit]
   rw [List.getElem?_take] at hj
   split at hj
   ·show w.cell? _ = _
    simp only [World.cell?, hb, Option.isSome_none, Bool.false_eq_true, if_false, Nat.zero_add]; simpa using hj
   ·cases hj)
 have hrz : ∀ ty, (Builtin.append_ #[32, 3] ty #[.slice (some ⟨b, 0, none⟩) i n, .int .i64 ((n : Int) + 1 - (i : Int))]).run Tryz.prog w =
   .ok (.slice (some ⟨w.heap.size, 0, none⟩) (n + 1) (grownCap w (n + 1) n 169)) (w.drew.alloc (.cells ((cur.toList.take (i * 3)).toArray ++ Builtin.zeroCells z.cells (n + 1 - i) ++ Builtin.zeroCells z.cells (grownCap w (n + 1) n 169 - (n + 1))) 169)) := fun ty => by
  have hb9 : (n + 1 - i) * i0.bytes ≤ (n + 1) * i0.bytes := Nat.mul_le_mul_right _ (by omega)
  have h := Lib.run_append_grow_zeros w 32 3 ty 169 i0 _ .i64 .i64 Tryz.underlying32 Tryz.underlying3 hi0 hz0 (some ⟨b, 0, none⟩) i n (cur.toList.take (i * 3)) hold (n + 1 - i) (by omega) (by omega) (by omega) (by omega) (by omega) (by rw [hik]; exact growslice_fits hroom hby)
  rw [hik] at h
  rw [hkk]
  exact h
 obtain ⟨G, hG⟩ : ∃ G, G = grownCap w (n + 1) n 169 := ⟨_, rfl⟩
 rw [← hG] at hrz
 have hGn : n + 1 ≤ G := by rw [hG]; exact grownCap_ge w _ _ _
 have hGm : G ≤ maxLen := by rw [hG]; exact grownCap_le_maxLen w (n + 1) n _ (by unfold maxLen; omega)
 have hm9 : maxLen = 9223372036854775807 := rfl
 obtain ⟨ROW, hROW⟩ : ∃ ROW : Array Value, ROW = (cur.toList.take (i * 3)).toArray ++ Builtin.zeroCells z.cells (n + 1 - i) ++ Builtin.zeroCells z.cells (G - (n + 1)) := ⟨_, rfl⟩
 rw [← hROW] at hrz
 have hRl : ROW.size = G * 3 := by
  rw [hROW]
  simp only [Builtin.zeroCells, Array.size_append, Array.size_map, Array.size_range, List.size_toArray, hli, hzc]
  omega
 have hRt : ROW.toList.take (i * 3) = cur.toList.take (i * 3) := by
  rw [hROW]
  simp only [Array.toList_append, List.append_assoc]
  exact List.take_left' hli
 obtain ⟨curA, hA⟩ : ∃ curA : Array Value, curA = (ROW.toList.take (i * 3) ++ vcur.toList.take 3 ++ ROW.toList.drop (i * 3 + (vcur.toList.take 3).length)).toArray := ⟨_, rfl⟩
 have hAs : curA.size = ROW.size := by
  rw [hA]; simp; omega
 obtain ⟨cur', hB⟩ : ∃ cur' : Array Value, cur' = (curA.toList.take ((i + 1) * 3) ++ (cur.toList.take (n * 3)).drop (i * 3) ++ curA.toList.drop ((i + 1) * 3 + ((cur.toList.take (n * 3)).drop (i * 3)).length)).toArray := ⟨_, rfl⟩
 have hBs : cur'.size = ROW.size := by
  rw [hB]; simp; omega
 have hN : ∀ W : World, W.heap = (w.drew.alloc (.cells ROW 169)).heap → W.heap[w.heap.size]? = some (.cells ROW 169 (0, 0)) ∧ W.heap[vb]? = some (.cells vcur e2 (0, 0)) ∧ W.heap[b]? = some (.cells cur e1 (0, 0)) := fun W h => by
  rw [h]
  exact ⟨heap_alloc_new w.drew _, by rw [Below.heap_alloc w.drew _ vb hvw]; exact hv, by rw [Below.heap_alloc w.drew _ b hbw]; exact hb⟩
 have hcpA : ∀ W : World, W.heap = (w.drew.alloc (.cells ROW 169)).heap → ∀ ty dc, (Builtin.copy_ #[32, 32] ty #[.slice (some ⟨w.heap.size, i * 3, none⟩) (n + 1 - i) dc, .slice (some ⟨vb, 0, none⟩) 1 vc]).run Tryz.prog W = .ok (goInt (Nat.min 1 (n + 1 - i))) (W.setRow w.heap.size curA) := fun W hW ty dc => by
  rw [hA]
  exact zPC W _ _ ty 169 w.heap.size (i * 3) _ _ ⟨vb, 0, none⟩ _ _ ROW 169 _ Tryz.underlying32 hsz3 (hN W hW).1 (by rw [hlv]; simp only [Nat.min_def]; split <;> omega)
   (fun j v hj => by
    rw [Addr.add_lit]
    rw [List.getElem?_take] at hj
    split at hj
    ·simp only [World.cell?, (hN W hW).2.1, Option.isSome_none, Bool.false_eq_true, if_false, Nat.zero_add]; simpa using hj
    ·cases hj) (by rw [hlv]; omega) h1v
 have hcpB : ∀ W : World, W.heap = ((w.drew.alloc (.cells ROW 169)).setRow w.heap.size curA).heap → ∀ ty dc sc, (Builtin.copy_ #[32, 32] ty #[.slice (some ⟨w.heap.size, (i + 1) * 3, none⟩) (n - i) dc, .slice (some ⟨b, i * 3, none⟩) (n - i) sc]).run Tryz.prog W = .ok (goInt (Nat.min (n - i) (n - i))) (W.setRow w.heap.size cur') := fun W hW ty dc sc => by
  have g1 : W.heap[w.heap.size]? = some (.cells curA 169 (0, 0)) := by rw [hW]; exact setRow_heap _ _ ROW curA _ _ (hN _ rfl).1
  have g2 : W.heap[b]? = some (.cells cur e1 (0, 0)) := by rw [hW, setRow_other _ _ _ _ (by omega)]; exact (hN _ rfl).2.2
  rw [hB]
  exact zPC W _ _ ty 169 w.heap.size ((i + 1) * 3) _ _ ⟨b, i * 3, none⟩ _ _ curA 169 _ Tryz.underlying32 hsz3 g1 (by rw [hle, show Nat.min (n - i) (n - i) = n - i from Nat.min_self _])
   (fun j v hj => by
    rw [Addr.add_lit]
    rw [List.getElem?_drop, List.getElem?_take] at hj
    split at hj
    ·simp only [World.cell?, g2, Option.isSome_none, Bool.false_eq_true, if_false]; simpa using hj
    ·cases hj) (by rw [hle]; omega) h1d
 refine ⟨G, ROW, curA, cur', hGn, hGm, by omega, hAs, hBs, fun j u hu => ?_, ?_⟩
 ·have h1 : curA.toList.take ((i + 1) * 3) = cur.toList.take (i * 3) ++ vcur.toList.take 3 := by
   rw [hA]
   simp only []
   rw [hRt]
   exact List.take_left' (by rw [List.length_append, hli, hlv]; omega)
  have h3 : cur'.toList = (cur.toList.take (i * 3) ++ vcur.toList.take 3 ++ (cur.toList.take (n * 3)).drop (i * 3)) ++ curA.toList.drop ((i + 1) * 3 + ((cur.toList.take (n * 3)).drop (i * 3)).length) := by
   rw [hB, h1]
  rw [← Array.getElem?_toList, h3, List.getElem?_append_left (List.getElem?_eq_some_iff.1 hu).1]
  exact hu
 have hE1 : ((w.alloc (.cells ROW 169)).drew).heap = (w.drew.alloc (.cells ROW 169)).heap := rfl
 have hF1 : (((w.alloc (.cells ROW 169)).drew.setRow w.heap.size curA).drew).heap = ((w.drew.alloc (.cells ROW 169)).setRow w.heap.size curA).heap := rfl
 clear hA hB hAs hBs h1c h1v h1d hle hlv hli hRt hRl hROW hG hN hold hkk hik hby
 have mixed : Tryz.prog.follows .mixedOrders = true := by kernel_rfl
 have hw1 : IntKind.i64.wrap ((i : Int) + 1) = (i : Int) + 1 := by rw [IntKind.wrap_i64]; omega
 have hw2 : IntKind.i64.wrap ((n : Int) + 1) = (n : Int) + 1 := by rw [IntKind.wrap_i64]; omega
 have hw3 : IntKind.i64.wrap ((n : Int) + 1 - (i : Int)) = (n : Int) + 1 - (i : Int) := by rw [IntKind.wrap_i64]; omega
 have hb1 : (0 : Int) ≤ (i : Int) + 1 := by omega
 have hin : i ≤ n := by omega
 have htn : ((i : Int) + 1).toNat = i + 1 := by omega
 have hb3 : (i : Int) ≤ (n : Int) := by omega
 have hb4 : ¬ (n = i) := by omega
 have hGi : ¬ (G = i) := by omega
 have hGim : ¬ (G = i + 1) := by omega
 go_enter Tryz.func268, Tryz.ntmps268
 go_wp2_with (first
  | (at_builtin; refine Lib.wpList_append_run _ rfl _ _ _ _ rfl _ _ rfl rfl _ _ (hrz _) ?_)
  | (at_builtin; refine wpList_copy_runI _ rfl _ _ 32 32 rfl _ _ rfl rfl (hcpA _ hE1 _ _) ?_))
 go_region_law_o (refine step_copy_runI rfl _ _ 32 32 rfl (.slice (some ⟨w.heap.size, (i + 1) * 3, none⟩) (n - i) (G - (i + 1))) (.slice (some ⟨b, i * 3, none⟩) (n - i) (n - i)) (by simp [Act.eval, Act.put]) (by simp [Act.eval, Act.put]) (hcpB _ hF1 _ (G - (i + 1)) (n - i)) ?_)
 go_wp2
 go_ret
 exact ⟨rfl, rfl⟩
theorem grD (w : World) : Gr w w.drew := ⟨Nat.le_refl _, rfl, rfl, rfl⟩
structure InsR (w : World) (old : Nat → Prop) (n : Nat) (L : List Value) (e : Ending) (w' : World) (b' c' : Nat) (cur' : Array Value) (e' : TypeId) : Prop where
 e : e = .returned (.slice (some ⟨b', 0, none⟩) (n + 1) c')
 h : w'.heap[b']? = some (.cells cur' e' (0, 0))
 g : Gr w w'
 b : old b' ∨ w.heap.size ≤ b'
 s : ∀ b, b < w.heap.size → ¬ old b → w'.heap[b]? = w.heap[b]?
 c1 : n + 1 ≤ c'
 c2 : c' ≤ maxLen
 c3 : c' * 3 ≤ cur'.size
 v : ∀ (j : Nat) (u : Value), L[j]? = some u → cur'[j]? = some u
theorem zsI {b n c i vb vc : Nat} {cur vcur : Array Value} {e1 e2 : TypeId} (w : World) (hi : i ≤ n) (hnc : n ≤ c) (hcm : c ≤ maxLen) (hn : n + 1 ≤ 16777216) (hvb : vb ≠ b)
  (hb : w.heap[b]? = some (.cells cur e1 (0, 0))) (hv : w.heap[vb]? = some (.cells vcur e2 (0, 0))) (hsz : c * 3 ≤ cur.size) (hvs : 3 ≤ vcur.size)
  (h1c : ∀ v ∈ cur.toList.take (n * 3), v.oneCell' = true) (h1v : ∀ v ∈ vcur.toList.take 3, v.oneCell' = true) :
  Calls Tryz.prog 268 #[.slice (some ⟨b, 0, none⟩) n c, .int .i64 i, .slice (some ⟨vb, 0, none⟩) 1 vc] w fun e w' =>
   ∃ b' c' cur' e', InsR w (· = b) n (cur.toList.take (i * 3) ++ vcur.toList.take 3 ++ (cur.toList.take (n * 3)).drop (i * 3)) e w' b' c' cur' e' := by
 have hbw : b < w.heap.size := (Array.getElem?_eq_some_iff.1 hb).1
 have hrow : zqa w 3 1 (some ⟨vb, 0, none⟩) (vcur.toList.take 3) := by
  refine ⟨fun h => (by cases h), (by simp; omega), fun a ha j u hu => ?_, h1v⟩
  cases ha
  rw [zDf]
  rw [List.getElem?_take] at hu
  split at hu
  ·simp only [World.cell?, hv, Option.isSome_none, Bool.false_eq_true, if_false, Nat.zero_add]; simpa using hu
  ·cases hu
 rcases Nat.lt_or_eq_of_le hi with hi | rfl
 ·by_cases hroom : n + 1 ≤ c
  ·obtain ⟨curA, cur', hs, hval, hcall⟩ := zm3 (vc := vc) w hi hroom hcm hvb hb hv hsz hvs h1c h1v
   refine hcall.mono ?_
   rintro e w' ⟨rfl, rfl⟩
   have g1 := setRow_heap w.drew b cur curA e1 _ hb
   have g2 := setRow_heap (w.drew.setRow b curA) b curA cur' e1 _ g1
   exact ⟨b, c, cur', e1, rfl, g2, (grD w).trans ((Gr.setRow w.drew b curA).trans (Gr.setRow _ b cur')), .inl rfl, fun b' _ h => by rw [setRow_other _ _ _ _ h, setRow_other _ _ _ _ h]; rfl, hroom, hcm, by omega, hval⟩
  ·obtain ⟨G, ROW, curA, cur', hG1, hG2, hG3, hs1, hs2, hval, hcall⟩ := zqc (vc := vc) w hi hnc (by omega) hn hb hv hsz hvs h1c h1v
   refine hcall.mono ?_
   rintro e w' ⟨rfl, rfl⟩
   have g0 : ((w.alloc (.cells ROW 169)).drew).heap[w.heap.size]? = some (.cells ROW 169 (0, 0)) := heap_alloc_new w _
   have g1 := setRow_heap _ w.heap.size ROW curA _ _ g0
   have g2 := setRow_heap (((w.alloc (.cells ROW 169)).drew.setRow w.heap.size curA).drew) w.heap.size curA cur' _ _ g1
   exact ⟨w.heap.size, G, cur', _, rfl, g2, (Gr.alloc w _).trans ((grD _).trans ((Gr.setRow (w.alloc (.cells ROW 169)).drew w.heap.size curA).trans ((grD _).trans (Gr.setRow _ _ _)))), .inr (Nat.le_refl _), fun b' h _ => by rw [setRow_other _ _ _ _ (by omega)]; show ((w.alloc (.cells ROW 169)).drew.setRow w.heap.size curA).heap[b']? = _; rw [setRow_other _ _ _ _ (by omega)]; exact Below.heap_alloc w _ b' h, hG1, hG2, hG3, hval⟩
 ·obtain ⟨i0, z, hi0, hz0, hzs, hzc, hzb⟩ := zeG
  obtain ⟨b', cur', e2', c', w', hrun, g1, g2, g3, g4, g5, g6, g7, g8⟩ := zhO (w := w) (P := Tryz.prog) Tryz.underlying32 hi0 hz0 hzs hzc hzb 32 hb hnc hcm hsz (c := vc) hrow (by omega)
  refine (zkr w w' _ hnc (fun h => by cases h) (by omega) hrun).mono ?_
  rintro e w2 ⟨rfl, rfl⟩
  refine ⟨b', c', cur', e2', rfl, g1, g3, g2.imp id (fun h => by omega), fun b0 h1 h2 => g4 b0 h1 h2, g5, g6, g7, fun j u hu => g8 j u ?_⟩
  have : (cur.toList.take (i * 3)).drop (i * 3) = [] := by
   apply List.drop_eq_nil_of_le; rw [List.length_take]; omega
  rw [this, List.append_nil] at hu
  exact hu
theorem zrg {a0 : Option Addr} {vb vc : Nat} {vcur : Array Value} {e2 : TypeId} (w : World)
  (hv : w.heap[vb]? = some (.cells vcur e2 (0, 0))) (hvs : 3 ≤ vcur.size) (h1v : ∀ v ∈ vcur.toList.take 3, v.oneCell' = true) :
  Calls Tryz.prog 268 #[.slice a0 0 0, .int .i64 0, .slice (some ⟨vb, 0, none⟩) 1 vc] w fun e w' =>
   ∃ b' c' cur' e', InsR w (fun _ => False) 0 (vcur.toList.take 3) e w' b' c' cur' e' := by
 have hrow : zqa w 3 1 (some ⟨vb, 0, none⟩) (vcur.toList.take 3) := by
  refine ⟨fun h => (by cases h), (by simp; omega), fun a ha j u hu => ?_, h1v⟩
  cases ha
  rw [zDf]
  rw [List.getElem?_take] at hu
  split at hu
  ·simp only [World.cell?, hv, Option.isSome_none, Bool.false_eq_true, if_false, Nat.zero_add]; simpa using hu
  ·cases hu
 obtain ⟨i0, z, hi0, hz0, hzs, hzc, hzb⟩ := zeG
 rcases zWm (w := w) (P := Tryz.prog) Tryz.underlying32 hi0 hz0 hzs hzc hzb 32 a0 (c := vc) hrow (by omega) with ⟨h, _⟩ | ⟨cur', c', hrun, g1, g2, g3, g4⟩
 ·cases h
 ·refine (zkr (n := 0) w _ _ (Nat.le_refl 0) (fun _ => rfl) (by omega) hrun).mono ?_
  rintro e w2 ⟨rfl, rfl⟩
  exact ⟨w.heap.size, c', cur', _, rfl, heap_alloc_new w.drew _, Gr.dalloc w _, .inr (Nat.le_refl _), fun b0 h1 _ => Below.heap_alloc w.drew _ b0 h1, g1, g2, g3, g4⟩
abbrev tTm : Ty := .pr .int (.pr .str (.lst (.pr .int (.pr .int .str))))
theorem zpl {α : Type} (l : List α) (i : Nat) (v : List α) (hi : i ≤ l.length) : (zXM l (i : Int) v).length = l.length + v.length := by
 simp [zXM]; omega
theorem zVi {Z : Zs} {w w' : World} {x : El tTm} {A cur' : Array Value} {j0 j : Nat} {f0 : Nat → Prop} (hz : ∀ q b, Z q b → w'.heap[b]? = w.heap[b]?) (h : TrO Z w (.d tTm) x (zu A 3 j0) f0) (hm : ∀ m, m < 3 → cur'[j * 3 + m]? = A[j0 * 3 + m]?) :
  TrO Z w' (.d tTm) x (zu cur' 3 j) vm := by
 have hc : zu cur' 3 j = zu A 3 j0 := by
  apply List.ext_getElem?
  intro m
  by_cases h3 : m < 3
  ·rw [xR h3, xR h3, hm m h3]
  ·rw [List.getElem?_eq_none (by simp [zu]; omega), List.getElem?_eq_none (by simp [zu]; omega)]
 rw [hc]
 exact ⟨fun _ h => h, h.2.1, fun j u y hu hy => (h.2.2 j u y hu hy).mono (zp6 (fun _ _ h => h) hz)⟩
theorem zcO {Z : Zs} {w : World} {l : List (El tTm)} {cur : Array Value} {fs : Nat → Nat → Prop} (ht : ∀ i x, l[i]? = some x → TrO Z w (.d tTm) x (zu cur 3 i) (fs i)) (_ : l.length * 3 ≤ cur.size) : ∀ v ∈ cur.toList.take (l.length * 3), v.oneCell' = true := by
 intro v hv
 obtain ⟨j, hj⟩ := List.mem_iff_getElem?.1 hv
 have hlt := (List.getElem?_eq_some_iff.1 hj).1
 rw [List.length_take] at hlt
 rw [List.getElem?_take, if_pos (by omega)] at hj
 have hi : j / 3 < l.length := by omega
 refine (ht (j / 3) _ (List.getElem?_eq_getElem hi)).one v (List.mem_of_getElem? (i := j % 3) ?_)
 rw [xR (Nat.mod_lt _ (by decide)), show j / 3 * 3 + j % 3 = j by omega]; simpa using hj
theorem ztv : zKC Tryz.prog 268 (zK0 tTm) where
 ok := by rfl
 enter args w := by
  obtain ⟨c, hb⟩ : ∃ c, Tryz.f268.body = some c := Option.isSome_iff_exists.1 (by kernel_rfl)
  have hn : (Tryz.f268.name == "runtime.NumGoroutine") = false := by kernel_rfl
  unfold callFunc
  simp only [program, Sem.run_bind, Sem.run, Result.andThen_ok, Tryz.func268, hn, hb, Option.isNone_some, Bool.false_eq_true, if_false, Sem.run_pure]
 call w Z ρ a xs hr hl hc htot hpre := by
  obtain ⟨l, i, v, ⟨⟩⟩ := a
  obtain ⟨x0, x1, x2, rfl⟩ : ∃ x0 x1 x2, xs = [x0, x1, x2] := by
   match xs, hl with
   | [x0, x1, x2], _ => exact ⟨x0, x1, x2, rfl⟩
  have c0 : Cn ρ Z w (.obj 0) x0 := hc 0 _ _ rfl rfl
  have c1 : Cn ρ Z w (.c (.int .i64 i)) x1 := hc 1 _ _ rfl rfl
  have c2 : Cn ρ Z w (.obj 1) x2 := hc 2 _ _ rfl rfl
  obtain ⟨q0, q1, q2, q3⟩ : zhK l i v := hpre
  obtain ⟨i, rfl⟩ : ∃ k : Nat, i = (k : Int) := ⟨Int.toNat i, (Int.toNat_of_nonneg (show (0 : Int) ≤ i from q0)).symm⟩
  have q1 : (i : Int) ≤ ((List.length l : Nat) : Int) := q1
  have q2 : ((List.length v : Nat) : Int) = 1 := q2
  have q3 : ((List.length l : Nat) : Int) < 16777216 := q3
  have hi : i ≤ List.length l := by omega
  have hv1 : List.length v = 1 := by omega
  obtain ⟨p0, g0, rfl⟩ := c0.obj_inv
  obtain ⟨p1, g1, rfl⟩ := c2.obj_inv
  rw [x8 c1]
  have e0 : (yM (zK0 tTm).args (l, (i : Int), v, ()))[0]? = some (.arr (.d tTm) l) := rfl
  have e1 : (yM (zK0 tTm).args (l, (i : Int), v, ()))[1]? = some (.arr (.d tTm) v) := rfl
  rcases hr.ob 1 p1 _ g1 e1 with ⟨_, hnil, _⟩ | ⟨vcur, ve, vc, vfs, kv⟩
  ·rw [hnil] at hv1; cases hv1
  have hvx := kv.hv
  have hvs : 3 ≤ vcur.size := by
   have h1 := kv.hs
   have h2 := kv.hc
   have : (OT.d tTm).ty = tTm := rfl
   have h3 : zO tTm = 3 := rfl
   rw [this, h3] at h1
   omega
  have h1v : ∀ u ∈ vcur.toList.take 3, u.oneCell' = true := by
   have := zcO kv.ht (by rw [hv1]; omega)
   rw [hv1] at this; exact this
  have fin : ∀ (old : Nat → Prop) (A : Array Value) (L : List Value), (∀ b, old b → b = p0.b ∧ p0.fp p0.b) → (∀ (b' c' : Nat) (cur' : Array Value) (e' : TypeId) (e : Ending) (w' : World), InsR w old l.length L e w' b' c' cur' e' →
    (∀ q b, Z q b → w'.heap[b]? = w.heap[b]?) → ∀ j x, (zXM l (i : Int) v)[j]? = some x → TrO Z w' (.d tTm) x (zu cur' 3 j) vm) →
    Calls Tryz.prog 268 #[p0.x, .int .i64 i, p1.x] w (fun e w' => ∃ b' c' cur' e', InsR w old l.length L e w' b' c' cur' e') →
    Calls Tryz.prog 268 #[p0.x, .int .i64 i, p1.x] w (fun e w' => ∃ x ys ρ' Z', e = .returned x ∧ x = zhq ys ∧ Gr w w' ∧
     (∀ b, b < w.heap.size → (∀ (o : Nat) (p : Pl) (y : Ob), ρ o = some p → (yM (zK0 tTm).args (l, (i : Int), v, ()))[o]? = some y → ¬ vy y p b) → w'.heap[b]? = w.heap[b]?) ∧
     (∀ b, Z' false b → Z false b ∨ w.heap.size ≤ b ∨ ∃ (o : Nat) (p : Pl) (y : Ob), ρ o = some p ∧ (yM (zK0 tTm).args (l, (i : Int), v, ()))[o]? = some y ∧ vy y p b) ∧
     HR ρ' Z' (yM (zK0 tTm).res ((zK0 tTm).F (l, (i : Int), v, ()))) w' ∧
     (∀ (o : Nat) (p : Pl) (y : Ob) (b : Nat), ρ' o = some p → (yM (zK0 tTm).res ((zK0 tTm).F (l, (i : Int), v, ())))[o]? = some y → vy y p b → w.heap.size ≤ b ∨ ∃ (o0 : Nat) (p0 : Pl) (y0 : Ob), ρ o0 = some p0 ∧ (yM (zK0 tTm).args (l, (i : Int), v, ()))[o0]? = some y0 ∧ vy y0 p0 b) ∧
     (∀ i, i < zi (zK0 tTm).args → ρ' i = ρ i) ∧
     (∀ (j : Nat) (p : Pl) (n : Nat), j < zi (zK0 tTm).args → ρ j = some p → (vY (zK0 tTm).args)[j]? = some n → zBF p.b p.off (p.off + n) w w') ∧
     ys.length = (zCc (zK0 tTm).res ((zK0 tTm).F (l, (i : Int), v, ())) (zi (zK0 tTm).res)).length ∧ ∀ (j : Nat) (u : V) (y : Value), (zCc (zK0 tTm).res ((zK0 tTm).F (l, (i : Int), v, ())) (zi (zK0 tTm).res))[j]? = some u → ys[j]? = some y → Cn ρ' Z' w' u y) := by
   intro old A L hold hel hcall
   refine hcall.mono ?_
   rintro e w' ⟨b', c', cur', e', R⟩
   have hz : ∀ q b, Z q b → w'.heap[b]? = w.heap[b]? := fun q b hq => R.s b (hr.zl q b hq) fun h => by
    obtain ⟨rfl, h'⟩ := hold b h
    exact (hr.own g0 e0 h').1 q hq
   have hnz : ∀ q, ¬ Z q b' := fun q hq => by
    rcases R.b with h | h
    ·obtain ⟨rfl, h'⟩ := hold b' h
     exact (hr.own g0 e0 h').1 q hq
    ·have := hr.zl q b' hq; omega
   have hlen : (zXM l (i : Int) v).length = l.length + 1 := by rw [zpl _ _ _ hi, hv1]
   let pn : Pl := ⟨b', .slice (some ⟨b', 0, none⟩) (l.length + 1) c', 0, fun b => b = b'⟩
   refine ⟨_, [_], fun o => if o = 0 then some pn else none, Z, R.e, rfl, R.g, fun b hb hno => R.s b hb fun h => ?_, fun b h => .inl h, ?_, fun o p y b h1 h2 h3 => ?_, fun i h => by simp [zi, AD.r] at h, fun j p n h => by simp [zi, AD.r] at h, rfl, fun j u y hu hy => ?_⟩
   ·obtain ⟨rfl, h'⟩ := hold b h
    exact hno 0 p0 _ g0 e0 h'
   ·refine ⟨fun q b hq => Nat.lt_of_lt_of_le (hr.zl q b hq) R.g.le, fun o p h => ?_, fun o p y h1 h2 => ?_, fun o o' p p' y y' b h1 h2 h3 h4 _ _ => ?_⟩
    ·split at h
     ·rename_i ho; subst ho; show 0 < 1; omega
     ·cases h
    ·split at h1
     ·rename_i ho
      subst ho
      cases h1; cases h2
      exact .inr ⟨cur', e', c', fun _ => vm, ⟨by rw [hlen], R.h, hnz, by rw [hlen]; exact R.c1, R.c2, by rw [hlen]; show l.length + 1 ≤ 16777216; omega, R.c3, fun b => ⟨fun h => .inl h, fun h => h.elim id fun ⟨_, _, h⟩ => h.elim⟩, fun _ _ h => h, fun _ _ _ _ _ h => h.elim, fun j x hx => hel b' c' cur' e' e w' R hz j x hx⟩⟩
     ·cases h1
    ·split at h1
     ·split at h2
      ·rename_i a1 a2; rw [a1, a2]
      ·cases h2
     ·cases h1
   ·have h1 : (if o = 0 then some pn else none) = some p := h1
    split at h1
    ·rename_i ho
     subst ho
     cases h1; cases h2
     obtain rfl : b = b' := h3
     rcases R.b with h | h
     ·obtain ⟨rfl, h'⟩ := hold b h
      exact .inr ⟨0, p0, _, g0, e0, h'⟩
     ·exact .inl h
    ·cases h1
   ·match j, hu, hy with
    | 0, hu, hy => cases hu; cases hy; exact .obj (p := pn) rfl rfl
  rcases hr.ob 0 p0 _ g0 e0 with ⟨⟨a0, k1⟩, hnil, _⟩ | ⟨cur, e', c, fs, k⟩
  ·have hi0 : i = 0 := by rw [hnil] at hi; simpa using hi
   subst hi0
   refine fin (fun _ => False) #[] (vcur.toList.take 3) (fun b h => h.elim) (fun b' c' cur' e' e w' R hz j x hx => ?_) ?_
   ·have hx : v[j]? = some x := by rw [hnil] at hx; simpa [zXM] using hx
    have hj : j = 0 := by have := (List.getElem?_eq_some_iff.1 hx).1; omega
    subst hj
    refine zVi hz (kv.ht 0 x hx) fun m hm => ?_
    have hlt : m < vcur.size := by omega
    rw [Nat.zero_mul, Nat.zero_add, Array.getElem?_eq_getElem hlt]
    exact R.v m _ (by rw [List.getElem?_take, if_pos hm, Array.getElem?_toList, Array.getElem?_eq_getElem hlt])
   ·rw [k1, hvx, hv1]
    have := zrg (a0 := a0) (vc := vc) w kv.hw hvs h1v
    rw [hnil]; exact this
  ·have hkt : zO (OT.d tTm).ty = 3 := rfl
   have hks := k.hs
   rw [hkt] at hks
   have hln : l.length * 3 ≤ cur.size := Nat.le_trans (Nat.mul_le_mul_right _ k.hc) hks
   have hvb : p1.b ≠ p0.b := fun h => by
    have := hr.dj 1 0 p1 p0 _ _ p1.b g1 g0 e1 e0 ((kv.hf p1.b).2 (.inl rfl)) (by rw [h]; exact (k.hf p0.b).2 (.inl rfl))
    omega
   refine fin (· = p0.b) cur (cur.toList.take (i * 3) ++ vcur.toList.take 3 ++ (cur.toList.take (l.length * 3)).drop (i * 3)) (fun b h => ⟨h, (k.hf p0.b).2 (.inl rfl)⟩) (fun b' c' cur' e'' e w' R hz j x hx => ?_) ?_
   ·have hl1 : (cur.toList.take (i * 3)).length = i * 3 := by rw [List.length_take]; have : cur.toList.length = cur.size := Array.length_toList; omega
    have hl2 : (vcur.toList.take 3).length = 3 := by rw [List.length_take]; have : vcur.toList.length = vcur.size := Array.length_toList; omega
    have hlt2 : (l.take i).length = i := by rw [List.length_take]; omega
    have hx : (l.take i ++ v ++ l.drop i)[j]? = some x := hx
    by_cases h1 : j < i
    ·rw [List.append_assoc, List.getElem?_append_left (by omega), List.getElem?_take, if_pos h1] at hx
     refine zVi hz (k.ht j x hx) fun m hm => ?_
     have hlt : j * 3 + m < cur.size := by omega
     rw [Array.getElem?_eq_getElem hlt]
     refine R.v _ _ ?_
     rw [List.append_assoc, List.getElem?_append_left (by omega), List.getElem?_take, if_pos (by omega), Array.getElem?_toList, Array.getElem?_eq_getElem hlt]
    ·by_cases h2 : j = i
     ·subst h2
      rw [List.append_assoc, List.getElem?_append_right (by omega), hlt2, Nat.sub_self, List.getElem?_append_left (by omega)] at hx
      refine zVi hz (kv.ht 0 x hx) fun m hm => ?_
      have hlt : m < vcur.size := by omega
      rw [Nat.zero_mul, Nat.zero_add, Array.getElem?_eq_getElem hlt]
      refine R.v _ _ ?_
      rw [List.append_assoc, List.getElem?_append_right (by omega), hl1, Nat.add_sub_cancel_left, List.getElem?_append_left (by omega), List.getElem?_take, if_pos hm, Array.getElem?_toList, Array.getElem?_eq_getElem hlt]
     ·rw [List.getElem?_append_right (by rw [List.length_append]; omega), List.length_append, hlt2, hv1, List.getElem?_drop, show i + (j - (i + 1)) = j - 1 by omega] at hx
      have hj := (List.getElem?_eq_some_iff.1 hx).1
      refine zVi hz (k.ht (j - 1) x hx) fun m hm => ?_
      have hlt : (j - 1) * 3 + m < cur.size := by omega
      rw [Array.getElem?_eq_getElem hlt]
      refine R.v _ _ ?_
      rw [List.getElem?_append_right (by rw [List.length_append]; omega), List.length_append, hl1, hl2, List.getElem?_drop, List.getElem?_take, if_pos (by omega), Array.getElem?_toList, show i * 3 + (j * 3 + m - (i * 3 + 3)) = (j - 1) * 3 + m by omega, Array.getElem?_eq_getElem hlt]
   ·rw [k.hv, hvx, hv1]
    exact zsI w hi k.hc k.hm (by omega) hvb k.hw kv.hw hks hvs (zcO k.ht hln) h1v
end Go.Proofs.YtkdidadegedmiaaGreat
namespace Go.Proofs.YtkdidadegedmiaaGreat
open Go.RowKit
set_option linter.defProp false
noncomputable section
theorem mo : Tryz.prog.follows .mixedOrders = true := by kernel_rfl
def ziv (a0 : Li .u8) : Bool × Unit := (decide ((a0.length : Int) > 1048576), ())
abbrev zs0 := fd [vd (.lst .u8)] [vd .bool] (U1 ziv)
def ztb := cv mo [] 5 zs0 Tryz.f5
abbrev zPT : LB := ⟨[], ⟨32, [], [(0, vd (.lst .u8)), (3, vd .int), (4, vd .int)], []⟩, ⟨32, [], [], []⟩, 0, U3 fun (l0 : Li .u8) (n3 n4 : Int) => cond (decide (n4 < (l0.length : Int))) (cond (decide (n4 < 4000)) (.ix n4 l0 (.ik (zB .u8 l0 n4) (.v (.go (l0, (zHW .and .i64 (IntKind.wrap .i64 ((IntKind.wrap .i64 ((IntKind.wrap .i64 (n3 * (137 : Int))) + (zB .u8 l0 n4))) + (11 : Int))) (1073741823 : Int)), (IntKind.wrap .i64 (n4 + 1)), ()))))) (.v (.brk (l0, n3, n4, ())))) (.v (.brk (l0, n3, n4, ())))⟩
theorem zUd : PO zPT (fun _ _ => False) (U3 fun (l00 : Li .u8) _ _ => U3 fun (l0 : Li .u8) _ _ => l0 = l00) := poG trivial (an @zpc (an @zsu trivial)) trivial
theorem zg9 : SF zPT (U3 fun (l0 : Li .u8) _ (n4 : Int) => (0 ≤ n4 ∧ n4 ≤ 4000 ∧ (∀ c ∈ l0, Ub c), 4000 - n4)) := sfG trivial (an @zpc (an @zsu trivial)) trivial
abbrev zRo (a0 : Li .u8) : Tr (El zJ) := .lp zPT (a0, (IntKind.wrap .i64 ((354354 : Int) + (a0.length : Int))), (0 : Int), ()) (fun _ => .bad) (fun t1 => .v (t1.1, ((0 : Int), t1.2.1)))
def zSi a0 := (zRo a0).val
abbrev zqs : NwD := ⟨.lst .u8, zJ, fun a => zSi a⟩
abbrev zod : List AD := [vd (.lst .u8)]
theorem zqp (a0 : Li .u8) (hw : WdA zod (a0, ())) : (zRo a0).ok := by
 unfold zRo
 exact zg (zg9 _ ⟨by simp, by simp, fun c hc => zeA (hw.1.2 c hc)⟩) (okF.2 (xM zUd rfl (fun _ h => h.elim) (fun _ _ => trivial)))
def zqE : Gv := ⟨true, fun _ => none, false⟩
def zpL : NCon Tryz.prog := zvJ mo zqE [] [zPT] 23 zqs (fn := Tryz.f23) ⟨lk, trivial⟩ (fun a hw => okT (by kernel_rfl) (zqp a ⟨hw, trivial⟩) rfl)
theorem zfJ {a0 : Li .u8} (h : (a0.length : Int) ≤ 1048576) : Cu (zSi a0) := psG (T := zRo a0) (P := fun y => Cu y) (an zUd trivial) (an h trivial) (an @Cu.mk trivial)
abbrev zO2 (a0 : Li .u8) (a1 : Int) : Tr (Int × Unit) := let k1 := Int.tdiv (a0.length : Int) (12 : Int); .ck ((12 : Int) ≠ 0 ∧ InK .i64 k1) (let k2 := IntKind.wrap .i64 ((3 : Int) + k1); cond (decide (k2 > a1)) (.v (a1, ())) (.v (k2, ())))
def zb8 a0 a1 := (zO2 a0 a1).val
abbrev zci := fd [vd (.lst .u8), vd .int] [vd .int] (U2 zb8)
theorem zmD : Ok zci (U2 zO2) := fun a hw hp => by
 unfold U2 zO2
 refine zg ⟨by decide, ink ?_ ?_⟩ (zu6.2 ⟨fun _ => trivial, fun _ => trivial⟩)
 ·rw [Int.tdiv_eq_ediv_of_nonneg (Int.natCast_nonneg _)]; omega
 ·rw [Int.tdiv_eq_ediv_of_nonneg (Int.natCast_nonneg _)]
  have : ((List.length a.1 : Nat) : Int) ≤ 9223372036854775807 := vC hw.1.1
  omega
def znG : Gv := ⟨true, fun _ => none, false⟩
def zmr := cn mo [] [] 25 zci Tryz.f25 (U2 zO2) zmD (g := znG)
abbrev zHv (a0 : El zJ) : Tr (Int × El zJ × Unit) := .ck (0 ≤ (33 : Int)) (.ck (0 ≤ (47 : Int)) (let k1 := IntKind.wrap .i64 ((IntKind.wrap .i64 (a0.2.2 * (6364136223846793005 : Int))) + (1442695040888963407 : Int)); let k2 := zHW .and .i64 (zHW .xor .i64 (zHW .shr .i64 k1 (33 : Int)) (zHW .shr .i64 k1 (47 : Int))) (255 : Int); cond (decide (a0.2.1 < (a0.1.length : Int))) (.ix a0.2.1 a0.1 (.ik (zB .u8 a0.1 a0.2.1) (.v ((zHW .and .i64 (IntKind.wrap .i64 (k2 + (zB .u8 a0.1 a0.2.1))) (255 : Int)), (a0.1, ((IntKind.wrap .i64 (a0.2.1 + (1 : Int))), k1)), ())))) (.v (k2, (a0.1, (a0.2.1, k1)), ()))))
def x6 a0 := (zHv a0).val
@[simp] def zKy (a0 : El zJ) : Prop := Cu a0
abbrev zb2 := gq [zCi] [vd .int, zCi] (U1 zKy) (U1 x6)
theorem znT : Ok zb2 (U1 zHv) := fun a hw hp => by
 obtain ⟨h1, h2⟩ : Cu a.1 := hp
 show (zHv a.1).ok
 simp
 intro h
 have := zeA (zk4 (t := .u8) hw.1.1.2 (i := a.1.2.1) ⟨h1, h⟩)
 exact ⟨⟨h1, h⟩, by omega, by omega⟩
theorem zbU {a0 : El zJ} (h : Cu a0) : Cu (x6 a0).2.1 := by
 simp only [x6, zHv, z0, ze, zY]
 cases e : decide (a0.2.1 < (a0.1.length : Int)) with
 | false => exact h
 | true =>
  replace e : @LT.lt Int _ a0.2.1 (a0.1.length : Int) := of_decide_eq_true e
  obtain ⟨h1, h2⟩ := h
  refine ⟨?_, h2⟩
  show 0 ≤ IntKind.wrap .i64 (a0.2.1 + 1)
  rw [zug _ h1 (by omega)]; omega
theorem zTC {a0 : El zJ} : 0 ≤ (x6 a0).1 ∧ (x6 a0).1 ≤ 255 := by
 simp only [x6, zHv, z0, ze, zY]
 cases decide (a0.2.1 < (a0.1.length : Int)) <;> exact ztH _
def znK : Gv := ⟨true, fun _ => none, false⟩
def zmC := cn mo [] [] 152 zb2 Tryz.f152 (U1 zHv) znT (g := znK)
abbrev zIz (a0 : El zJ) (a1 : Int) : Tr (Int × El zJ × Unit) := cond (decide (a1 ≤ (0 : Int))) (.v ((0 : Int), a0, ())) (cond (decide (a1 ≤ (256 : Int))) (.ck (zKy a0) (.ck (a1 ≠ 0) (.v ((Int.tmod (x6 a0).1 a1), (x6 a0).2.1, ())))) (.ck (zKy a0) (.ck (zKy (x6 a0).2.1) (let y1 := (x6 (x6 a0).2.1); .ck (zKy y1.2.1) (let k2 := (x6 a0).1 * (65536 : Int); .ik k2 (.ik (y1.1 * (256 : Int)) (let k1 := k2 + (y1.1 * (256 : Int)); .ik k1 (let k3 := k1 + (x6 y1.2.1).1; .ik k3 (.ck (a1 ≠ 0) (.v ((Int.tmod k3 a1), (x6 y1.2.1).2.1, ())))))))))))
def zT a0 a1 := (zIz a0 a1).val
@[simp] def yz (a0 : El zJ) (_a1 : Int) : Prop := Cu a0
abbrev zYU := gq [zCi, vd .int] [vd .int, zCi] (U2 yz) (U2 zT)
theorem zjA : Ok zYU (U2 zIz) := okG trivial (an @zbU (an @zTC trivial)) trivial
theorem zj {a0 : El zJ} {a1 : Int} (h : Cu a0) : Cu (zT a0 a1).2.1 := psG (T := zIz a0 a1) (P := fun y => Cu y.2.1) trivial (an h (an @zbU (an @zTC trivial))) trivial
theorem zS {a0 : El zJ} {a1 : Int} : 0 ≤ (zT a0 a1).1 ∧ (0 < a1 → (zT a0 a1).1 < a1) := by
 have F := @zTC
 simp only [zT, zIz, z0, ze, zY]
 cases e1 : decide (a1 ≤ 0) with
 | true => simp only [cond_true]; have := of_decide_eq_true e1; omega
 | false =>
  cases e2 : decide (a1 ≤ 256) with
  | true => exact zlC _ _ (F).1
  | false =>
   have h1 := @F a0
   have h2 := @F (x6 a0).2.1
   have h3 := @F (x6 (x6 a0).2.1).2.1
   exact zlC _ _ (by omega)
def vg := cn mo [zmC] [] 77 zYU Tryz.f77 (U2 zIz) zjA
def bw (c : El zJ) (n : Int) : Nat := (zT c n).1.toNat
@[simp] theorem zvq (c : El zJ) : (zT c 2).1 = ((bw c 2 % 2 : Nat) : Int) := by have := @zS c 2; unfold bw; omega
@[simp] theorem zvb (c : El zJ) : (zT c 3).1 = ((bw c 3 % 3 : Nat) : Int) := by have := @zS c 3; unfold bw; omega
@[simp] theorem zvp (c : El zJ) : (zT c 4).1 = ((bw c 4 % 4 : Nat) : Int) := by have := @zS c 4; unfold bw; omega
@[simp] theorem zvd (c : El zJ) : (zT c 5).1 = ((bw c 5 % 5 : Nat) : Int) := by have := @zS c 5; unfold bw; omega
@[simp] theorem zvo (c : El zJ) : (zT c 6).1 = ((bw c 6 % 6 : Nat) : Int) := by have := @zS c 6; unfold bw; omega
@[simp] theorem zvk (c : El zJ) : (zT c 7).1 = ((bw c 7 % 7 : Nat) : Int) := by have := @zS c 7; unfold bw; omega
@[simp] theorem zvg (c : El zJ) : (zT c 8).1 = ((bw c 8 % 8 : Nat) : Int) := by have := @zS c 8; unfold bw; omega
@[simp] theorem zva (c : El zJ) : (zT c 9).1 = ((bw c 9 % 9 : Nat) : Int) := by have := @zS c 9; unfold bw; omega
@[simp] theorem zvO (c : El zJ) : (zT c 10).1 = ((bw c 10 % 10 : Nat) : Int) := by have := @zS c 10; unfold bw; omega
@[simp] theorem zvS (c : El zJ) : (zT c 12).1 = ((bw c 12 % 12 : Nat) : Int) := by have := @zS c 12; unfold bw; omega
@[simp] theorem zvY (c : El zJ) : (zT c 16).1 = ((bw c 16 % 16 : Nat) : Int) := by have := @zS c 16; unfold bw; omega
@[simp] theorem zvN (c : El zJ) : (zT c 20).1 = ((bw c 20 % 20 : Nat) : Int) := by have := @zS c 20; unfold bw; omega
@[simp] theorem zvX (c : El zJ) : (zT c 30).1 = ((bw c 30 % 30 : Nat) : Int) := by have := @zS c 30; unfold bw; omega
@[simp] theorem zvT (c : El zJ) : (zT c 31).1 = ((bw c 31 % 31 : Nat) : Int) := by have := @zS c 31; unfold bw; omega
abbrev zNj (a0 : El zJ) (a1 : Li .str) : Tr (ByteArray × El zJ × Unit) := let k1 := (a1.length : Int); .ck (yz a0 k1) (let y1 := (zT a0 k1); .ix y1.1 a1 (.v ((zB .str a1 y1.1), y1.2.1, ())))
def zAF a0 a1 := (zNj a0 a1).val
@[simp] def zBZ (a0 : El zJ) (a1 : Li .str) : Prop := Cu a0 ∧ (0 < a1.length)
abbrev zfS := gq [zCi, vd (.lst .str)] [vd .str, zCi] (U2 zBZ) (U2 zAF)
theorem zo0 : Ok zfS (U2 zNj) := okG trivial (an @zj (an @zS trivial)) trivial
theorem vA {a0 : El zJ} {a1 : Li .str} (h : Cu a0 ∧ (0 < a1.length)) : Cu (zAF a0 a1).2.1 := psG (T := zNj a0 a1) (P := fun y => Cu y.2.1) trivial (an h (an @zj (an @zS trivial))) trivial
theorem x5 {a0 : El zJ} {a1 : Li .str} (h : Cu a0 ∧ (0 < a1.length)) : (zAF a0 a1).1 ∈ a1 := by
 simp only [zAF, zNj, ze, zY]
 exact zV ⟨(zS).1, (zS).2 (by omega)⟩
def zGm := cn mo [vg] [] 149 zfS Tryz.f149 (U2 zNj) zo0
abbrev zNI (a0 : El zJ) (a1 : Li .int) : Tr (Int × El zJ × Unit) := let k1 := (a1.length : Int); .ck (yz a0 k1) (let y1 := (zT a0 k1); .ix y1.1 a1 (.v ((zB .int a1 y1.1), y1.2.1, ())))
def zDB a0 a1 := (zNI a0 a1).val
@[simp] def zGz (a0 : El zJ) (a1 : Li .int) : Prop := Cu a0 ∧ (0 < a1.length)
abbrev zg3 := gq [zCi, vd (.lst .int)] [vd .int, zCi] (U2 zGz) (U2 zDB)
theorem zpC : Ok zg3 (U2 zNI) := okG trivial (an @zj (an @zS trivial)) trivial
theorem zDo {a0 : El zJ} {a1 : Li .int} (h : Cu a0 ∧ (0 < a1.length)) : Cu (zDB a0 a1).2.1 := psG (T := zNI a0 a1) (P := fun y => Cu y.2.1) trivial (an h (an @zj (an @zS trivial))) trivial
theorem zFF {a0 : El zJ} {a1 : Li .int} (h : Cu a0 ∧ (0 < a1.length)) : (zDB a0 a1).1 ∈ a1 := by
 simp only [zDB, zNI, ze, zY]
 exact zV ⟨(zS).1, (zS).2 (by omega)⟩
def zNk := cn mo [vg] [] 76 zg3 Tryz.f76 (U2 zNI) zpC
abbrev zOl (a0 : El zJ) (a1 : Int) : Tr (Bool × El zJ × Unit) := .ck (yz a0 a1) (.v (((zT a0 a1).1 == (0 : Int)), (zT a0 a1).2.1, ()))
def vL a0 a1 := (zOl a0 a1).val
@[simp] def vZ (a0 : El zJ) (_a1 : Int) : Prop := Cu a0
abbrev zcV := gq [zCi, vd .int] [vd .bool, zCi] (U2 vZ) (U2 vL)
theorem znc : Ok zcV (U2 zOl) := okG trivial (an @zj (an @zS trivial)) trivial
theorem xX {a0 : El zJ} {a1 : Int} (h : Cu a0) : Cu (vL a0 a1).2.1 := psG (T := zOl a0 a1) (P := fun y => Cu y.2.1) trivial (an h (an @zj (an @zS trivial))) trivial
def zDL := cn mo [vg] [] 79 zcV Tryz.f79 (U2 zOl) znc
abbrev zLV (a0 : El zJ) : Tr (El zL × El zJ × Unit) := .ck (vZ a0 2) (let k1 := vL a0 2; cond k1.1 (.ck (yz k1.2.1 3) (let y1 := (zT k1.2.1 3); .ik ((1 : Int) + y1.1) (.v (((1 : Int), (((1 : Int) + y1.1), (⟨#[]⟩ : ByteArray))), y1.2.1, ())))) (.ck (zBZ k1.2.1 [(⟨#[97]⟩ : ByteArray), (⟨#[98]⟩ : ByteArray)]) (let y1 := (zAF k1.2.1 [(⟨#[97]⟩ : ByteArray), (⟨#[98]⟩ : ByteArray)]); .v (((2 : Int), ((0 : Int), y1.1)), y1.2.1, ()))))
def vH a0 := (zLV a0).val
@[simp] def zF3 (a0 : El zJ) : Prop := Cu a0
abbrev zV5 := gq [zCi] [va zL, zCi] (U1 zF3) (U1 vH)
theorem zh7 : Ok zV5 (U1 zLV) := okG trivial (an @xX (an @zj (an @zS (an @vA (an @x5 trivial))))) trivial
theorem zEJ {a0 : El zJ} (h : Cu a0) : Cu (vH a0).2.1 := psG (T := zLV a0) (P := fun y => Cu y.2.1) trivial (an h (an @xX (an @zj (an @zS (an @vA (an @x5 trivial)))))) trivial
def zIQ := cn mo [zDL, vg, zGm] [] 159 zV5 Tryz.f159 (U1 zLV) zh7
def zSe (a0 : El zL) : El yb × Unit := (((2 : Int), ((⟨#[]⟩ : ByteArray), a0)), ())
abbrev zpU := fd [va zL] [va yb] (U1 zSe)
def zYg := cv mo [] 316 zpU Tryz.f316
def zR5 (a0 : ByteArray) : El yb × Unit := (((1 : Int), (a0, ((0 : Int), ((0 : Int), (⟨#[]⟩ : ByteArray))))), ())
abbrev zob := fd [vd .str] [va yb] (U1 zR5)
def zX5 := cv mo [] 317 zob Tryz.f317
abbrev zRi (a0 : El zJ) : Tr (El yb × El zJ × Unit) := .ck (yz a0 6) (let y1 := (zT a0 6); cond (y1.1 == (0 : Int)) (.v (((3 : Int), ((⟨#[]⟩ : ByteArray), ((0 : Int), ((0 : Int), (⟨#[]⟩ : ByteArray))))), y1.2.1, ())) (cond (y1.1 == (1 : Int)) (.ck (zF3 y1.2.1) (.v ((zSe (vH y1.2.1).1).1, (vH y1.2.1).2.1, ()))) (.ck (zBZ y1.2.1 [(⟨#[88]⟩ : ByteArray), (⟨#[89]⟩ : ByteArray), (⟨#[90]⟩ : ByteArray), (⟨#[88]⟩ : ByteArray)]) (let y2 := (zAF y1.2.1 [(⟨#[88]⟩ : ByteArray), (⟨#[89]⟩ : ByteArray), (⟨#[90]⟩ : ByteArray), (⟨#[88]⟩ : ByteArray)]); .v ((zR5 y2.1).1, y2.2.1, ())))))
def zNb a0 := (zRi a0).val
@[simp] def zf5 (a0 : El zJ) : Prop := Cu a0
abbrev zhp := gq [zCi] [va yb, zCi] (U1 zf5) (U1 zNb)
theorem zqF : Ok zhp (U1 zRi) := okG trivial (an @zj (an @zS (an @zEJ (an @vA (an @x5 trivial))))) trivial
theorem zg1 {a0 : El zJ} (h : Cu a0) : Cu (zNb a0).2.1 := psG (T := zRi a0) (P := fun y => Cu y.2.1) trivial (an h (an @zj (an @zS (an @zEJ (an @vA (an @x5 trivial)))))) trivial
def zqq := cn mo [vg, zIQ, zYg, zGm, zX5] [] 311 zhp Tryz.f311 (U1 zRi) zqF
abbrev zIv : LB := ⟨[0, 1, 3], ⟨29, [.d zJ, .pr (.d .str) (.pr (.o (.d yb)) (.d .bool)), .pr (.d .str) (.pr (.o (.d yb)) (.d .bool))], [(0, .pt 0 0), (4, .pt 1 0), (5, .pt 2 0), (6, vd .int), (7, vd .int)], []⟩, ⟨29, [.d zJ], [], []⟩, 0, U8 fun (w0 : El zJ) (w1 w2 : El zM) _ _ _ (n6 n7 : Int) => cond (decide (n7 < n6)) (.ck (zf5 w0) (.ck (((w2.2.1.length + [(zNb w0).1].length : Nat) : Int) ≤ 16777216) (.ik (n7 + 1) (.v (.go ((zNb w0).2.1, w1, (w2.1, ((w2.2.1 ++ [(zNb w0).1]), w2.2.2)), (), (), (), n6, (n7 + 1), ())))))) (.v (.brk (w0, w1, w2, (), (), (), n6, n7, ())))⟩
theorem zHL : PO zIv (fun _ _ => False) (U8 fun _ (w10 w20 : El zM) _ _ _ (n60 : Int) _ => U8 fun (w0 : El zJ) (w1 w2 : El zM) _ _ _ (n6 n7 : Int) => w1 = w10 ∧ n6 = n60 ∧ Cu w0 ∧ (0 ≤ n6 ∧ n6 ≤ 2 ∧ 0 ≤ n7 ∧ n7 ≤ n6 ∧ (w2.2.1.length : Int) ≤ n7) ∧ w2.2.2 = w20.2.2) := poG trivial (an @zg1 trivial) trivial
theorem zeR : SF zIv (U8 fun (w0 : El zJ) _ (w2 : El zM) _ _ _ (n6 n7 : Int) => (0 ≤ n7 ∧ Cu w0 ∧ (0 ≤ n6 ∧ n6 ≤ 2) ∧ (w2.2.1.length : Int) ≤ n7, n6 - n7)) := sfG trivial (an @zg1 trivial) trivial
abbrev zHp (a0 : El zJ) (a1 : Bool) : Tr (El zM × El zJ × Unit) := .ck (zBZ a0 [(⟨#[111, 114, 100, 101, 114]⟩ : ByteArray), (⟨#[112, 97, 105, 100]⟩ : ByteArray), (⟨#[105, 116, 101, 109]⟩ : ByteArray), (⟨#[111, 114, 100, 101, 114]⟩ : ByteArray)]) (let y1 := (zAF a0 [(⟨#[111, 114, 100, 101, 114]⟩ : ByteArray), (⟨#[112, 97, 105, 100]⟩ : ByteArray), (⟨#[105, 116, 101, 109]⟩ : ByteArray), (⟨#[111, 114, 100, 101, 114]⟩ : ByteArray)]); let k1 := ((⟨#[]⟩ : ByteArray), (([] : Li yb), false)); let k2 := (y1.1, (([] : Li yb), a1)); cond (y1.1.toList == (⟨#[105, 116, 101, 109]⟩ : ByteArray).toList) (.lp zIv (y1.2.1, k1, k2, (), (), (), (2 : Int), (0 : Int), ()) (fun _ => .bad) (fun t2 => .v (t2.2.2.1, t2.1, ()))) (.lp zIv (y1.2.1, k1, k2, (), (), (), (1 : Int), (0 : Int), ()) (fun _ => .bad) (fun t2 => .v (t2.2.2.1, t2.1, ()))))
def zH3 a0 a1 := (zHp a0 a1).val
@[simp] def zS3 (a0 : El zJ) (_a1 : Bool) : Prop := Cu a0
abbrev zbb := gq [zCi, vd .bool] [.val true (.pr (.d .str) (.pr (.o (.d yb)) (.d .bool))), zCi] (U2 zS3) (U2 zH3)
theorem znl : Ok zbb (U2 zHp) := okG (an zeR (an zHL trivial)) (an @vA (an @x5 trivial)) trivial
theorem zKL {a0 : El zJ} {a1 : Bool} (h : Cu a0) : Cu (zH3 a0 a1).2.1 := psG (T := zHp a0 a1) (P := fun y => Cu y.2.1) (an zHL trivial) (an h (an @vA (an @x5 trivial))) trivial
theorem zKW {a0 : El zJ} {a1 : Bool} (h : Cu a0) : ((zH3 a0 a1).1.2.1.length : Int) ≤ 2 := psG (T := zHp a0 a1) (P := fun y => (y.1.2.1.length : Int) ≤ 2) (an zHL trivial) (an h (an @vA (an @x5 trivial))) trivial
theorem zKw {a0 : El zJ} {a1 : Bool} (h : Cu a0) : (zH3 a0 a1).1.2.2 = a1 := psG (T := zHp a0 a1) (P := fun y => y.1.2.2 = a1) (an zHL trivial) (an h (an @vA (an @x5 trivial))) trivial
def znB := cn mo [zGm, zqq] [zIv] 242 zbb Tryz.f242 (U2 zHp) znl
abbrev zOh : LB := ⟨[], ⟨18, [], [(0, vd (.lst .str)), (1, vd .str), (5, vd .int)], []⟩, ⟨18, [], [(4, vd .bool)], []⟩, 0, U3 fun (l0 : Li .str) (s1 : ByteArray) (n5 : Int) => cond (decide (n5 < (l0.length : Int))) (.ix n5 l0 (cond ((zB .str l0 n5).toList == s1.toList) (.v (.ret (true, ()))) (.ik (n5 + 1) (.v (.go (l0, s1, (n5 + 1), ())))))) (.v (.brk (l0, s1, n5, ())))⟩
def zho (l0 : Li .str) (s1 : ByteArray) := rA (l := zOh) (L := l0) (fun i => (l0, s1, i, ())) (fun i x => bif (x.toList == s1.toList) then false else true) (true, ())
theorem zfU : SF zOh (U3 fun (l0 : Li .str) _ (n5 : Int) => (0 ≤ n5, (l0.length : Int) - n5)) := sfA
abbrev zSA (a0 : Li .str) (a1 : ByteArray) : Tr (Bool × Unit) := .lp zOh (a0, a1, (0 : Int), ()) (fun r1 => .v (r1.1, ())) (fun _ => .v (false, ()))
def zAy a0 a1 := (zSA a0 a1).val
abbrev zf7 := fd [vd (.lst .str), vd .str] [vd .bool] (U2 zAy)
theorem zpB : Ok zf7 (U2 zSA) := vN zfU
def zY5 := cn mo [] [zOh] 313 zf7 Tryz.f313 (U2 zSA) zpB
def zqr (a0 : Li .str) (a1 : ByteArray) := (by
 simp only [zAy, zSA, zY, zq, ze]
 rewrite [zho, z3]
 dsimp only : zAy a0 a1 = _)
abbrev zF8 : LB := ⟨[], ⟨41, [.d zM], [(1, .pt 0 0), (3, vo .str), (4, vd .int)], []⟩, ⟨41, [], [], []⟩, 0, U4 fun (w0 : El zM) _ (l3 : Li .str) (n4 : Int) => cond (decide (n4 < (w0.2.1.length : Int))) (.ix n4 w0.2.1 (let k1 := zB yb w0.2.1 n4; let k2 : Tr (St _ _) := .ik (n4 + 1) (.v (.go (w0, (), l3, (n4 + 1), ()))); cond (k1.1 == (1 : Int)) (.ix n4 w0.2.1 (cond (!(zAy l3 k1.2.1).1) (.ix n4 w0.2.1 (.ck (((l3.length + [k1.2.1].length : Nat) : Int) ≤ 16777216) (.ik (n4 + 1) (.v (.go (w0, (), (l3 ++ [k1.2.1]), (n4 + 1), ())))))) k2)) k2)) (.v (.brk (w0, (), l3, n4, ())))⟩
def zcw (w0 : El zM) (l3 : Li .str) := rF (l := zF8) (L := w0.2.1) (fun i (s : (Li .str)) => (w0, (), s, i, ())) (fun i x s => bif (x.1 == (1 : Int)) then (bif (!(zAy s x.2.1).1) then (s ++ [x.2.1]) else s) else s) l3
theorem zRM : PO zF8 (fun _ _ => False) (U4 fun (w00 : El zM) _ _ _ => U4 fun (w0 : El zM) _ (l3 : Li .str) (n4 : Int) => w00 = w0 ∧ ((l3.length : Int) ≤ n4 ∧ n4 ≤ (w0.2.1.length : Int))) := poA
theorem zd6 : SF zF8 (U4 fun (w0 : El zM) _ (l3 : Li .str) (n4 : Int) => (0 ≤ n4 ∧ (l3.length : Int) ≤ n4, (w0.2.1.length : Int) - n4)) := sfA
abbrev zFs (a0 : El zM) : Tr (Li .str × Unit) := .lp zF8 (a0, (), ([] : Li .str), (0 : Int), ()) (fun _ => .bad) (fun t1 => .v (t1.2.2.1, ()))
def zAq a0 := (zFs a0).val
abbrev zbx := fd [va zM] [vo .str] (U1 zAq)
theorem zmX : Ok zbx (U1 zFs) := by
 rintro ⟨(a0 : El zM), ⟨⟩⟩ hw hp
 show (zFs a0).ok
 unfold zFs
 refine zg ?_ ?_
 ·exact zd6 _ ⟨by simp, by simp⟩
 ·refine zJ1 (zRM _ ⟨rfl, by (dsimp only; first | omega | rfl | assumption | (simp <;> omega) | (refine ⟨?_, ?_, ?_⟩ <;> first | omega | rfl | (simp <;> omega)) | (refine ⟨?_, ?_⟩ <;> first | omega | rfl | (simp <;> omega)))⟩) (fun _ h => h.elim) (fun t ht => ?_)
  obtain ⟨t2w0, ⟨⟩, t2l3, (t2n4 : Int), ⟨⟩⟩ := t
  dsimp only [U4] at ht ⊢
  obtain ⟨rfl, hth1⟩ := ht
  trivial
def zmo := cn mo [zY5] [zF8] 312 zbx Tryz.f312 (U1 zFs) zmX
def znh (a0 : El zM) := (by
 simp only [zAq, zFs, zY, zq, ze]
 rewrite [zcw, xL]
 dsimp only : zAq a0 = _)
theorem zKm (p : El zM) : ((zAq p).1.length : Int) ≤ (p.2.1.length : Int) := by
 simp only [zAq, zFs, ze, zY, zq]
 have := zRM (p, (), ([] : Li .str), (0 : Int), ()) ⟨rfl, by simp⟩
 revert this
 cases (LB.run zF8 (p, (), ([] : Li .str), (0 : Int), ())) with
 | ret r => intro h; exact h.elim
 | brk t => obtain ⟨t0, ⟨⟩, t1, t2, ⟨⟩⟩ := t; rintro ⟨rfl, h1, h2⟩; obtain ⟨t2, rfl⟩ : ∃ y : Int, y = t2 := ⟨_, rfl⟩; replace h1 : (t1.length : Int) ≤ t2 := h1; replace h2 : t2 ≤ (p.2.1.length : Int) := h2; show (t1.length : Int) ≤ _; omega
 | go t => obtain ⟨t0, ⟨⟩, t1, t2, ⟨⟩⟩ := t; rintro ⟨rfl, h1, h2⟩; obtain ⟨t2, rfl⟩ : ∃ y : Int, y = t2 := ⟨_, rfl⟩; replace h1 : (t1.length : Int) ≤ t2 := h1; replace h2 : t2 ≤ (p.2.1.length : Int) := h2; show (t1.length : Int) ≤ _; omega
abbrev vQ : LB := ⟨[], ⟨51, [.d zG], [(1, .pt 0 0), (3, vo .str), (4, vd .int), (5, vo .str), (6, vd .int)], []⟩, ⟨51, [], [], []⟩, 2, U6 fun (w0 : El zG) _ (l3 : Li .str) (n4 : Int) (l5 : Li .str) (n6 : Int) => let k1 := .brk (w0, (), l3, n4, l5, n6, ()); cond (decide (n6 < (l5.length : Int))) (.ix n4 w0.2.2.1 (cond (!(zB zM w0.2.2.1 n4).2.2) (.ix n6 l5 (cond (!(zAy l3 (zB .str l5 n6)).1) (.ix n6 l5 (.ck (((l3.length + [(zB .str l5 n6)].length : Nat) : Int) ≤ 16777216) (.ik (n6 + 1) (.v (.go (w0, (), (l3 ++ [(zB .str l5 n6)]), n4, l5, (n6 + 1), ())))))) (.ik (n6 + 1) (.v (.go (w0, (), l3, n4, l5, (n6 + 1), ())))))) (.v k1))) (.v k1)⟩
theorem zZS : PO vQ (fun _ _ => False) (U6 fun (w00 : El zG) _ _ (n40 : Int) (l50 : Li .str) _ => U6 fun (w0 : El zG) _ (l3 : Li .str) (n4 : Int) (l5 : Li .str) (n6 : Int) => w00 = w0 ∧ n40 = n4 ∧ l50 = l5 ∧ ((l3.length : Int) + (l5.length : Int) - n6 + zFZ w0.2.2.1 (n4 + 1) ≤ 16777216 ∧ n6 ≤ (l5.length : Int))) := poA
theorem zZQ : PO vQ (fun _ _ => False) (U6 fun (w00 : El zG) _ _ (n40 : Int) (l50 : Li .str) _ => U6 fun (w0 : El zG) _ _ (n4 : Int) (l5 : Li .str) _ => w00 = w0 ∧ n40 = n4 ∧ l50 = l5) := poA
theorem zZo : SF vQ fun x : El zG × Unit × Li .str × Int × Li .str × Int × Unit => (0 ≤ x.2.2.2.2.2.1 ∧ (0 ≤ x.2.2.2.1 ∧ x.2.2.2.1 < (x.1.2.2.1.length : Int)) ∧ (x.2.2.1.length : Int) + (x.2.2.2.2.1.length : Int) - x.2.2.2.2.2.1 + zFZ x.1.2.2.1 (x.2.2.2.1 + 1) ≤ 16777216, (x.2.2.2.2.1.length : Int) - x.2.2.2.2.2.1) := sfk (by
 rintro ⟨(w0 : El zG), ⟨⟩, (l3 : Li .str), (n4 : Int), (l5 : Li .str), (n6 : Int), ⟨⟩⟩ hI hw
 dsimp only [U6] at hI ⊢
 obtain ⟨i0, i1, k0⟩ := hI
 have _ : -9223372036854775808 ≤ n4 ∧ n4 ≤ 9223372036854775807 := zAd hw.2.2.2.1
 have hb : (l5.length : Int) ≤ 16777216 := vC (hw.2.2.2.2.1.1)
 have hb0 : (w0.2.2.1.length : Int) ≤ 16777216 := vC (hw.1.2.2.1.1)
 refine ⟨by omega, ?_⟩
 refine xI (fun h1 => ?_) (fun h1 => ?_)
 ·replace h1 : n6 < (l5.length : Int) := of_decide_eq_true h1
  refine z7 ?_ ?_
  ·first | omega | (simp <;> omega)
  ·refine xI (fun h2 => ?_) (fun h2 => ?_)
   ·refine z7 ?_ ?_
    ·first | omega | (simp <;> omega)
    ·refine xI (fun h3 => ?_) (fun h3 => ?_)
     ·refine z7 ?_ ?_
      ·first | omega | (simp <;> omega)
      ·refine z7 ?_ ?_
       ·have _ := zIX w0.2.2.1 (n4 + 1); have _ : (l3.length : Int) ≤ 16777216 := vC (hw.2.2.1.1); first | omega | (simp <;> omega)
       ·refine z7 ?_ ?_
        ·exact ink (by omega) (by omega)
        ·exact show (0 ≤ (n6 + 1) ∧ (0 ≤ n4 ∧ n4 < (w0.2.2.1.length : Int)) ∧ ((l3 ++ [(zB .str l5 n6)]).length : Int) + (l5.length : Int) - (n6 + 1) + zFZ w0.2.2.1 (n4 + 1) ≤ 16777216) ∧ (l5.length : Int) - (n6 + 1) < (l5.length : Int) - n6 ∧ 0 < (l5.length : Int) - n6 from ⟨⟨by (have _ := zIX w0.2.2.1 (n4 + 1); first | omega | rfl | assumption | (simp <;> omega)), by (have _ := zIX w0.2.2.1 (n4 + 1); first | omega | rfl | assumption | (simp <;> omega)), by (have _ := zIX w0.2.2.1 (n4 + 1); first | omega | rfl | assumption | (simp <;> omega))⟩, by (first | omega | (simp only [List.length_set]; omega)), by (first | omega | (simp only [List.length_set]; omega))⟩
     ·refine z7 ?_ ?_
      ·exact ink (by omega) (by omega)
      ·exact show (0 ≤ (n6 + 1) ∧ (0 ≤ n4 ∧ n4 < (w0.2.2.1.length : Int)) ∧ (l3.length : Int) + (l5.length : Int) - (n6 + 1) + zFZ w0.2.2.1 (n4 + 1) ≤ 16777216) ∧ (l5.length : Int) - (n6 + 1) < (l5.length : Int) - n6 ∧ 0 < (l5.length : Int) - n6 from ⟨⟨by (have _ := zIX w0.2.2.1 (n4 + 1); first | omega | rfl | assumption | (simp <;> omega)), by (have _ := zIX w0.2.2.1 (n4 + 1); first | omega | rfl | assumption | (simp <;> omega)), by (have _ := zIX w0.2.2.1 (n4 + 1); first | omega | rfl | assumption | (simp <;> omega))⟩, by (first | omega | (simp only [List.length_set]; omega)), by (first | omega | (simp only [List.length_set]; omega))⟩
   ·exact trivial
 ·replace h1 : ¬ (n6 < (l5.length : Int)) := of_decide_eq_false h1
  exact trivial)
abbrev zAt : LB := ⟨[], ⟨51, [.d zG], [(1, .pt 0 0), (3, vo .str), (4, vd .int)], []⟩, ⟨51, [], [], []⟩, 0, U4 fun (w0 : El zG) _ (l3 : Li .str) (n4 : Int) => cond (decide (n4 < (w0.2.2.1.length : Int))) (.ix n4 w0.2.2.1 (.lp vQ (w0, (), l3, n4, (zAq (zB zM w0.2.2.1 n4)).1, (0 : Int), ()) (fun _ => .v (.ret ())) (fun t1 => .ik (t1.2.2.2.1 + (1 : Int)) (.v (.go (t1.1, (), t1.2.2.1, (t1.2.2.2.1 + (1 : Int)), ())))))) (.v (.brk (w0, (), l3, n4, ())))⟩
theorem zZl : PO zAt (fun _ _ => False) (U4 fun (w00 : El zG) _ _ _ => U4 fun (w0 : El zG) _ _ _ => w00 = w0) := poB (by
 rintro ⟨w00, ⟨⟩, l30, n40, ⟨⟩⟩ ⟨(w0 : El zG), ⟨⟩, (l3 : Li .str), (n4 : Int), ⟨⟩⟩ hI
 dsimp only [U4] at hI ⊢
 have eq0 := hI
 simp only [LB.b, zAt, U4, z0, ze, zY, zq]
 refine zDu (fun h4 => ?_) (fun h4 => ?_)
 ·replace h4 : n4 < (w0.2.2.1.length : Int) := of_decide_eq_true h4
  refine zVq (zZQ _ ⟨rfl, rfl, rfl⟩) (fun _ h => h.elim) (fun t ht => ?_)
  obtain ⟨t4w0, ⟨⟩, t4l3, (t4n4 : Int), t4l5, (t4n6 : Int), ⟨⟩⟩ := t
  dsimp only [U6] at ht ⊢
  obtain ⟨rfl, rfl, rfl⟩ := ht
  exact eq0
 ·replace h4 : ¬ (n4 < (w0.2.2.1.length : Int)) := of_decide_eq_false h4
  exact eq0)
theorem zaY : SF zAt fun x : El zG × Unit × Li .str × Int × Unit => (0 ≤ x.2.2.2.1 ∧ (x.2.2.1.length : Int) + zFZ x.1.2.2.1 x.2.2.2.1 ≤ 16777216, (x.1.2.2.1.length : Int) - x.2.2.2.1) := sfk (by
 rintro ⟨(w0 : El zG), ⟨⟩, (l3 : Li .str), (n4 : Int), ⟨⟩⟩ hI hw
 dsimp only [U4] at hI ⊢
 obtain ⟨i0, k0⟩ := hI
 have hb : (w0.2.2.1.length : Int) ≤ 16777216 := vC (hw.1.2.2.1.1)
 refine ⟨by omega, ?_⟩
 refine xI (fun h5 => ?_) (fun h5 => ?_)
 ·replace h5 : n4 < (w0.2.2.1.length : Int) := of_decide_eq_true h5
  refine z7 ?_ ?_
  ·first | omega | (simp <;> omega)
  ·refine z7 ?_ ?_
   ·have _ := zKm (zB zM w0.2.2.1 n4); exact zZo _ ⟨by (have _ := zKm (zB zM w0.2.2.1 n4); have _ := zAc w0.2.2.1 n4 (by omega); dsimp only <;> first | omega | rfl | assumption | (simp <;> omega)), by (have _ := zKm (zB zM w0.2.2.1 n4); have _ := zAc w0.2.2.1 n4 (by omega); dsimp only <;> first | omega | rfl | assumption | (simp <;> omega)), by (have _ := zKm (zB zM w0.2.2.1 n4); have _ := zAc w0.2.2.1 n4 (by omega); dsimp only <;> first | omega | rfl | assumption | (simp <;> omega))⟩
   ·refine zQi (zZS _ ⟨rfl, rfl, rfl, by (have _ := zKm (zB zM w0.2.2.1 n4); have _ := zAc w0.2.2.1 n4 (by omega); dsimp only; first | omega | rfl | assumption | (simp <;> omega) | (refine ⟨?_, ?_, ?_⟩ <;> first | omega | rfl | (simp <;> omega)) | (refine ⟨?_, ?_⟩ <;> first | omega | rfl | (simp <;> omega)))⟩) (fun _ h => h.elim) (fun t ht => ?_)
    obtain ⟨t4w0, ⟨⟩, t4l3, (t4n4 : Int), t4l5, (t4n6 : Int), ⟨⟩⟩ := t
    dsimp only [U6] at ht ⊢
    obtain ⟨rfl, rfl, rfl, hth6⟩ := ht
    refine z7 ?_ ?_
    ·exact ink (by omega) (by omega)
    ·exact show (0 ≤ (n4 + 1) ∧ (t4l3.length : Int) + zFZ w0.2.2.1 (n4 + 1) ≤ 16777216) ∧ (w0.2.2.1.length : Int) - (n4 + 1) < (w0.2.2.1.length : Int) - n4 ∧ 0 < (w0.2.2.1.length : Int) - n4 from ⟨⟨by (first | omega | rfl | assumption | (simp <;> omega)), by (first | omega | rfl | assumption | (simp <;> omega))⟩, by (first | omega | (simp only [List.length_set]; omega)), by (first | omega | (simp only [List.length_set]; omega))⟩
 ·replace h5 : ¬ (n4 < (w0.2.2.1.length : Int)) := of_decide_eq_false h5
  exact trivial)
abbrev zF7 (a0 : El zG) : Tr (Li .str × Unit) := .lp zAt (a0, (), ([] : Li .str), (0 : Int), ()) (fun _ => .bad) (fun t1 => .v (t1.2.2.1, ()))
def xb a0 := (zF7 a0).val
def zFt (a0 : El zG) : Prop := SzR a0
abbrev zYf := fq [va zG] [vo .str] (U1 zFt) (U1 xb)
theorem zkA : Ok zYf (U1 zF7) := by
 rintro ⟨(a0 : El zG), ⟨⟩⟩ hw hp
 replace hp : zFt a0 := hp
 show (zF7 a0).ok
 unfold zFt at hp
 unfold zF7
 refine zg ?_ ?_
 ·exact zaY _ ⟨by (have _ := hp.1; dsimp only <;> first | omega | rfl | assumption | (simp <;> omega)), by (have _ := hp.1; dsimp only <;> first | omega | rfl | assumption | (simp <;> omega))⟩
 ·refine zJ1 (zZl _ rfl) (fun _ h => h.elim) (fun t ht => ?_)
  obtain ⟨t5w0, ⟨⟩, t5l3, (t5n4 : Int), ⟨⟩⟩ := t
  dsimp only [U4] at ht ⊢
  obtain rfl := ht
  trivial
def zYb := cn mo [zmo, zY5] [zAt, vQ] 243 zYf Tryz.f243 (U1 zF7) zkA
abbrev zSH (a0 : El zJ) : Tr (El yb × El zJ × Unit) := .ck (vZ a0 3) (let k1 := vL a0 3; cond k1.1 (.ck (zF3 k1.2.1) (let y1 := (vH k1.2.1); .v ((zSe y1.1).1, y1.2.1, ()))) (.ck (zBZ k1.2.1 [(⟨#[88]⟩ : ByteArray), (⟨#[89]⟩ : ByteArray)]) (let y1 := (zAF k1.2.1 [(⟨#[88]⟩ : ByteArray), (⟨#[89]⟩ : ByteArray)]); .v ((zR5 y1.1).1, y1.2.1, ()))))
def zCD a0 := (zSH a0).val
@[simp] def zNq (a0 : El zJ) : Prop := Cu a0
abbrev zfE := gq [zCi] [va yb, zCi] (U1 zNq) (U1 zCD)
theorem zog : Ok zfE (U1 zSH) := okG trivial (an @xX (an @zEJ (an @vA (an @x5 trivial)))) trivial
theorem zRH {a0 : El zJ} (h : Cu a0) : Cu (zCD a0).2.1 := psG (T := zSH a0) (P := fun y => Cu y.2.1) trivial (an h (an @xX (an @zEJ (an @vA (an @x5 trivial))))) trivial
def zfs := cn mo [zDL, zIQ, zYg, zGm, zX5] [] 314 zfE Tryz.f314 (U1 zSH) zog
abbrev zPE (a0 : El zJ) : Tr (El z5 × El zJ × Unit) := .ck (yz a0 3) (let y1 := (zT a0 3); .ik ((1 : Int) + y1.1) (.ck (zNq y1.2.1) (.ck (zNq (zCD y1.2.1).2.1) (let y2 := (zCD (zCD y1.2.1).2.1); .v ((((1 : Int) + y1.1), ((zCD y1.2.1).1, y2.1)), y2.2.1, ())))))
def zAr a0 := (zPE a0).val
@[simp] def zTT (a0 : El zJ) : Prop := Cu a0
abbrev zb6 := gq [zCi] [va z5, zCi] (U1 zTT) (U1 zAr)
theorem zoQ : Ok zb6 (U1 zPE) := okG trivial (an @zj (an @zS (an @zRH trivial))) trivial
theorem zTV {a0 : El zJ} (h : Cu a0) : Cu (zAr a0).2.1 := psG (T := zPE a0) (P := fun y => Cu y.2.1) trivial (an h (an @zj (an @zS (an @zRH trivial)))) trivial
def zlw := cn mo [vg, zfs] [] 244 zb6 Tryz.f244 (U1 zPE) zoQ
abbrev zMe (a0 : El yb) (a1 : Li .str) : Tr (Bool × Unit) := cond (a0.1 != (1 : Int)) (.v (true, ())) (.v ((zAy a1 a0.2.1).1, ()))
def xE a0 a1 := (zMe a0 a1).val
abbrev zjy := fd [va yb, vd (.lst .str)] [vd .bool] (U2 xE)
def zQf := cn mo [zY5] [] 315 zjy Tryz.f315 (U2 zMe) (fun _ _ _ => by simp [zMe])
abbrev zWZ (a0 : El yb) (a1 : Li .str) : Tr (El yb × Unit) := cond (xE a0 a1).1 (.v (a0, ())) (cond ((a1.length : Int) == 0) (.v ((zSe ((1 : Int), ((1 : Int), (⟨#[]⟩ : ByteArray)))).1, ())) (.ix (0 : Int) a1 (.v ((zR5 (zB .str a1 (0 : Int))).1, ()))))
def zIj a0 a1 := (zWZ a0 a1).val
abbrev zgq := fd [va yb, vd (.lst .str)] [va yb] (U2 zIj)
theorem zq6 : Ok zgq (U2 zWZ) := okG trivial trivial trivial
def zqN := cn mo [zQf, zYg, zX5] [] 245 zgq Tryz.f245 (U2 zWZ) zq6
abbrev zHP : LB := ⟨[], ⟨22, [.d zG], [(1, .pt 0 0), (3, vd .int), (4, vd .int)], []⟩, ⟨22, [], [], []⟩, 0, U4 fun (w0 : El zG) _ (n3 n4 : Int) => cond (decide (n4 < (w0.2.2.1.length : Int))) (.ix n4 w0.2.2.1 (cond (!(zB zM w0.2.2.1 n4).2.2) (.ik (n3 + 1) (.ik (n4 + 1) (.v (.go (w0, (), (n3 + 1), (n4 + 1), ()))))) (.ik (n4 + 1) (.v (.go (w0, (), n3, (n4 + 1), ())))))) (.v (.brk (w0, (), n3, n4, ())))⟩
def zIT (w0 : El zG) (n3 : Int) := rF (l := zHP) (L := w0.2.2.1) (fun i (s : Int) => (w0, (), s, i, ())) (fun i x s => bif (!x.2.2) then (s + (1 : Int)) else s) n3
theorem zXC : SF zHP (U4 fun (w0 : El zG) _ (n3 n4 : Int) => (0 ≤ n4 ∧ (0 ≤ n3 ∧ n3 ≤ n4), (w0.2.2.1.length : Int) - n4)) := sfA
abbrev zGw (a0 : El zG) : Tr (Int × Unit) := .lp zHP (a0, (), (0 : Int), (0 : Int), ()) (fun _ => .bad) (fun t1 => .v (t1.2.2.1, ()))
def zc a0 := (zGw a0).val
abbrev zUQ := fd [va zG] [vd .int] (U1 zc)
theorem zg4 : Ok zUQ (U1 zGw) := zNF zXC zIT
def zGy := cn mo [] [zHP] 188 zUQ Tryz.f188 (U1 zGw) zg4
def zfk (a0 : El zG) := (by
 simp only [zc, zGw, zY, zq, ze]
 rewrite [zIT, xL]
 dsimp only : zc a0 = _)
theorem zGF (r : El zG) : (zc r).1 = ((r.2.2.1.filter (fun p => !p.2.2)).length : Int) := by
 simp only [zc, zGw, ze, zY, zq]
 rw [zIT]
 show yC (fun i x (s : Int) => bif (!x.2.2) then (s + (1 : Int)) else s) 0 r.2.2.1 (0 : Int) = _
 rw [zJO]; simp
def ztI (d : El zN) (s : El zE) : Prop := s.1.length ≤ 40 ∧ d.2.length ≤ 12 ∧ ∀ r ∈ d.2, (∀ p ∈ r.2.2.1, p.2.1.length ≤ 5) ∧ (r.2.2.1.filter (fun p => !p.2.2)).length ≤ 3
abbrev zOr (a0 : El zJ) : Tr (El zo × El zJ × Unit) := .ck (zNq a0) (.ck (vZ (zCD a0).2.1 (4 : Int)) (let y1 := (vL (zCD a0).2.1 (4 : Int)); cond y1.1 (.ck (zBZ y1.2.1 [(⟨#[43]⟩ : ByteArray), (⟨#[45]⟩ : ByteArray)]) (let y2 := (zAF y1.2.1 [(⟨#[43]⟩ : ByteArray), (⟨#[45]⟩ : ByteArray)]); .ck (zNq y2.2.1) (.v ((y2.1, ((zCD a0).1, (zCD y2.2.1).1)), (zCD y2.2.1).2.1, ())))) (.v (((⟨#[]⟩ : ByteArray), ((zCD a0).1, ((0 : Int), ((⟨#[]⟩ : ByteArray), ((0 : Int), ((0 : Int), (⟨#[]⟩ : ByteArray))))))), y1.2.1, ()))))
def zKb a0 := (zOr a0).val
@[simp] def zaw (a0 : El zJ) : Prop := Cu a0
abbrev zak := gq [zCi] [va zo, zCi] (U1 zaw) (U1 zKb)
theorem zns : Ok zak (U1 zOr) := okG trivial (an @zRH (an @xX (an @vA (an @x5 trivial)))) trivial
theorem zbm {a0 : El zJ} (h : Cu a0) : Cu (zKb a0).2.1 := psG (T := zOr a0) (P := fun y => Cu y.2.1) trivial (an h (an @zRH (an @xX (an @vA (an @x5 trivial))))) trivial
def zmn := cn mo [zfs, zDL, zGm] [] 318 zak Tryz.f318 (U1 zOr) zns
abbrev zIH : LB := ⟨[0, 1, 3], ⟨63, [.d zJ, .pr (.d .int) (.pr (.d .str) (.pr (.o (.d zo)) (.d (.pr .int .str)))), .pr (.d .int) (.pr (.d .str) (.pr (.o (.d zo)) (.d (.pr .int .str))))], [(0, .pt 0 0), (4, .pt 1 0), (5, .pt 2 0), (6, vd .int), (7, vd .int)], []⟩, ⟨63, [.d zJ], [], []⟩, 1, U8 fun (w0 : El zJ) (w1 w2 : El zp) _ _ _ (n6 n7 : Int) => cond (decide (n7 < n6)) (.ck (zaw w0) (.ck (((w2.2.2.1.length + [(zKb w0).1].length : Nat) : Int) ≤ 16777216) (.ik (n7 + 1) (.v (.go ((zKb w0).2.1, w1, (w2.1, (w2.2.1, ((w2.2.2.1 ++ [(zKb w0).1]), w2.2.2.2))), (), (), (), n6, (n7 + 1), ())))))) (.v (.brk (w0, w1, w2, (), (), (), n6, n7, ())))⟩
theorem zLS : PO zIH (fun _ _ => False) (U8 fun _ (w10 : El zp) _ _ _ _ (n60 : Int) _ => U8 fun (w0 : El zJ) (w1 w2 : El zp) _ _ _ (n6 n7 : Int) => w1 = w10 ∧ n6 = n60 ∧ Cu w0 ∧ (0 ≤ n6 ∧ n6 ≤ 2 ∧ 0 ≤ n7 ∧ n7 ≤ n6 ∧ (w2.2.2.1.length : Int) ≤ n7)) := poG trivial (an @zbm trivial) trivial
theorem zes : SF zIH (U8 fun (w0 : El zJ) _ (w2 : El zp) _ _ _ (n6 n7 : Int) => (0 ≤ n7 ∧ Cu w0 ∧ (0 ≤ n6 ∧ n6 ≤ 2) ∧ (w2.2.2.1.length : Int) ≤ n7, n6 - n7)) := sfG trivial (an @zbm trivial) trivial
abbrev zKg (a0 : El zJ) (a1 : Int) : Tr (El zp × El zJ × Unit) := .ck (zGz a0 [(1 : Int), (1 : Int), (2 : Int), (3 : Int), (3 : Int), (4 : Int), (5 : Int), (6 : Int)]) (let y1 := (zDB a0 [(1 : Int), (1 : Int), (2 : Int), (3 : Int), (3 : Int), (4 : Int), (5 : Int), (6 : Int)]); cond (y1.1 == (2 : Int)) (.ck (yz y1.2.1 a1) (.v ((y1.1, ((⟨#[]⟩ : ByteArray), (([] : Li zo), ((zT y1.2.1 a1).1, (⟨#[]⟩ : ByteArray))))), (zT y1.2.1 a1).2.1, ()))) (let k2 := (([] : Li zo), ((0 : Int), (⟨#[]⟩ : ByteArray))); let k3 := ((⟨#[]⟩ : ByteArray), k2); let k1 : Tr _ := .ck (zBZ y1.2.1 [(⟨#[111, 114, 100, 101, 114]⟩ : ByteArray), (⟨#[112, 97, 105, 100]⟩ : ByteArray), (⟨#[105, 116, 101, 109]⟩ : ByteArray), (⟨#[115, 104, 105, 112]⟩ : ByteArray), (⟨#[99, 104, 97, 114, 103, 101]⟩ : ByteArray)]) (let y2 := (zAF y1.2.1 [(⟨#[111, 114, 100, 101, 114]⟩ : ByteArray), (⟨#[112, 97, 105, 100]⟩ : ByteArray), (⟨#[105, 116, 101, 109]⟩ : ByteArray), (⟨#[115, 104, 105, 112]⟩ : ByteArray), (⟨#[99, 104, 97, 114, 103, 101]⟩ : ByteArray)]); cond (y2.1.toList == (⟨#[105, 116, 101, 109]⟩ : ByteArray).toList) (.lp zIH (y2.2.1, ((0 : Int), k3), (y1.1, (y2.1, k2)), (), (), (), (2 : Int), (0 : Int), ()) (fun _ => .bad) (fun t3 => cond (t3.2.2.1.1 == (4 : Int)) (.ck (zGz t3.1 [(0 : Int), (1 : Int), (5 : Int), (100000 : Int)]) (let y4 := (zDB t3.1 [(0 : Int), (1 : Int), (5 : Int), (100000 : Int)]); cond (t3.2.2.1.1 == (3 : Int)) (.ck (vZ y4.2.1 2) (let y5 := (vL y4.2.1 2); cond y5.1 (.ck (zBZ y5.2.1 [(⟨#[114, 101, 102, 117, 110, 100]⟩ : ByteArray), (⟨#[99, 97, 110, 99, 101, 108]⟩ : ByteArray)]) (let y6 := (zAF y5.2.1 [(⟨#[114, 101, 102, 117, 110, 100]⟩ : ByteArray), (⟨#[99, 97, 110, 99, 101, 108]⟩ : ByteArray)]); .v ((t3.2.2.1.1, (t3.2.2.1.2.1, (t3.2.2.1.2.2.1, (y4.1, y6.1)))), y6.2.1, ()))) (.v ((t3.2.2.1.1, (t3.2.2.1.2.1, (t3.2.2.1.2.2.1, (y4.1, t3.2.2.1.2.2.2.2)))), y5.2.1, ())))) (.v ((t3.2.2.1.1, (t3.2.2.1.2.1, (t3.2.2.1.2.2.1, (y4.1, t3.2.2.1.2.2.2.2)))), y4.2.1, ())))) (cond (t3.2.2.1.1 == (3 : Int)) (.ck (vZ t3.1 2) (let y4 := (vL t3.1 2); cond y4.1 (.ck (zBZ y4.2.1 [(⟨#[114, 101, 102, 117, 110, 100]⟩ : ByteArray), (⟨#[99, 97, 110, 99, 101, 108]⟩ : ByteArray)]) (let y5 := (zAF y4.2.1 [(⟨#[114, 101, 102, 117, 110, 100]⟩ : ByteArray), (⟨#[99, 97, 110, 99, 101, 108]⟩ : ByteArray)]); .v ((t3.2.2.1.1, (t3.2.2.1.2.1, (t3.2.2.1.2.2.1, (t3.2.2.1.2.2.2.1, y5.1)))), y5.2.1, ()))) (.v (t3.2.2.1, y4.2.1, ())))) (.v (t3.2.2.1, t3.1, ()))))) (.lp zIH (y2.2.1, ((0 : Int), k3), (y1.1, (y2.1, k2)), (), (), (), (1 : Int), (0 : Int), ()) (fun _ => .bad) (fun t3 => cond (t3.2.2.1.1 == (4 : Int)) (.ck (zGz t3.1 [(0 : Int), (1 : Int), (5 : Int), (100000 : Int)]) (let y4 := (zDB t3.1 [(0 : Int), (1 : Int), (5 : Int), (100000 : Int)]); cond (t3.2.2.1.1 == (3 : Int)) (.ck (vZ y4.2.1 2) (let y5 := (vL y4.2.1 2); cond y5.1 (.ck (zBZ y5.2.1 [(⟨#[114, 101, 102, 117, 110, 100]⟩ : ByteArray), (⟨#[99, 97, 110, 99, 101, 108]⟩ : ByteArray)]) (let y6 := (zAF y5.2.1 [(⟨#[114, 101, 102, 117, 110, 100]⟩ : ByteArray), (⟨#[99, 97, 110, 99, 101, 108]⟩ : ByteArray)]); .v ((t3.2.2.1.1, (t3.2.2.1.2.1, (t3.2.2.1.2.2.1, (y4.1, y6.1)))), y6.2.1, ()))) (.v ((t3.2.2.1.1, (t3.2.2.1.2.1, (t3.2.2.1.2.2.1, (y4.1, t3.2.2.1.2.2.2.2)))), y5.2.1, ())))) (.v ((t3.2.2.1.1, (t3.2.2.1.2.1, (t3.2.2.1.2.2.1, (y4.1, t3.2.2.1.2.2.2.2)))), y4.2.1, ())))) (cond (t3.2.2.1.1 == (3 : Int)) (.ck (vZ t3.1 2) (let y4 := (vL t3.1 2); cond y4.1 (.ck (zBZ y4.2.1 [(⟨#[114, 101, 102, 117, 110, 100]⟩ : ByteArray), (⟨#[99, 97, 110, 99, 101, 108]⟩ : ByteArray)]) (let y5 := (zAF y4.2.1 [(⟨#[114, 101, 102, 117, 110, 100]⟩ : ByteArray), (⟨#[99, 97, 110, 99, 101, 108]⟩ : ByteArray)]); .v ((t3.2.2.1.1, (t3.2.2.1.2.1, (t3.2.2.1.2.2.1, (t3.2.2.1.2.2.2.1, y5.1)))), y5.2.1, ()))) (.v (t3.2.2.1, y4.2.1, ())))) (.v (t3.2.2.1, t3.1, ())))))); cond (y1.1 == (5 : Int)) (cond (y1.1 == (5 : Int)) (.v ((y1.1, k3), y1.2.1, ())) k1) (cond (y1.1 == (6 : Int)) (.v ((y1.1, k3), y1.2.1, ())) k1)))
def zOs a0 a1 := (zKg a0 a1).val
@[simp] def zaq (a0 : El zJ) (_a1 : Int) : Prop := Cu a0
abbrev zb5 := gq [zCi, vd .int] [.val true (.pr (.d .int) (.pr (.d .str) (.pr (.o (.d zo)) (.d (.pr .int .str))))), zCi] (U2 zaq) (U2 zOs)
theorem znA : Ok zb5 (U2 zKg) := okG (an zes (an zLS trivial)) (an @zDo (an @zFF (an @zj (an @zS (an @vA (an @x5 (an @xX trivial))))))) trivial
theorem za7 {a0 : El zJ} {a1 : Int} (h : Cu a0) : Cu (zOs a0 a1).2.1 := psG (T := zKg a0 a1) (P := fun y => Cu y.2.1) (an zLS trivial) (an h (an @zDo (an @zFF (an @zj (an @zS (an @vA (an @x5 (an @xX trivial)))))))) trivial
theorem zcf {a0 : El zJ} {a1 : Int} (h : Cu a0) : ((zOs a0 a1).1.2.2.1.length : Int) ≤ 2 := psG (T := zKg a0 a1) (P := fun y => (y.1.2.2.1.length : Int) ≤ 2) (an zLS trivial) (an h (an @zDo (an @zFF (an @zj (an @zS (an @vA (an @x5 (an @xX trivial)))))))) trivial
def zmi := cn mo [zNk, vg, zGm, zmn, zDL] [zIH] 246 zb5 Tryz.f246 (U2 zKg) znA
abbrev zMQ : LB := ⟨[0, 1, 3], ⟨120, [.d zJ, .pr (.d .str) (.pr (.d .int) (.pr (.o (.d zM)) (.pr (.o (.d z5)) (.o (.d zp))))), .pr (.d .str) (.pr (.d .int) (.pr (.o (.d zM)) (.pr (.o (.d z5)) (.o (.d zp)))))], [(0, .pt 0 0), (4, .pt 1 0), (5, .pt 2 0), (6, vd .int)], []⟩, ⟨120, [.d zJ], [], []⟩, 0, U7 fun (w0 : El zJ) (w1 w2 : El zG) _ _ _ (n6 : Int) => cond (decide (n6 > 0)) (.ck (zS3 w0 false) (let k1 := zH3 w0 false; .ck (((w2.2.2.1.length + [k1.1].length : Nat) : Int) ≤ 16777216) (.ik (n6 - 1) (.v (.go (k1.2.1, w1, (w2.1, (w2.2.1, ((w2.2.2.1 ++ [k1.1]), w2.2.2.2))), (), (), (), (n6 - 1), ())))))) (.v (.brk (w0, w1, w2, (), (), (), n6, ())))⟩
theorem zLR : PO zMQ (fun _ _ => False) (U7 fun _ (w10 : El zG) _ _ _ _ _ => U7 fun (w0 : El zJ) (w1 w2 : El zG) _ _ _ (n6 : Int) => w1 = w10 ∧ Cu w0 ∧ (0 ≤ n6 ∧ (w2.2.2.1.length : Int) + n6 ≤ 3) ∧ (∀ p ∈ w2.2.2.1, (p.2.1.length : Int) ≤ 2) ∧ (w2.2.2.2.1 = [] ∧ w2.2.2.2.2 = [])) := poG trivial (an @zKL (an @zKW (an @zKw trivial))) (an @SzR.pats (an @DrR.mk trivial))
theorem zdc : SF zMQ (U7 fun (w0 : El zJ) _ (w2 : El zG) _ _ _ (n6 : Int) => (0 ≤ n6 ∧ Cu w0 ∧ (w2.2.2.1.length : Int) + n6 ≤ 3, n6)) := sfG trivial (an @zKL (an @zKW (an @zKw trivial))) (an @SzR.pats (an @DrR.mk trivial))
abbrev zLl : LB := ⟨[0, 1, 2, 11], ⟨120, [.d zJ, .pr (.d .str) (.pr (.d .int) (.pr (.o (.d zM)) (.pr (.o (.d z5)) (.o (.d zp))))), .pr (.d .str) (.pr (.d .int) (.pr (.o (.d zM)) (.pr (.o (.d z5)) (.o (.d zp))))), .pr (.d .int) (.pr (.d .str) (.pr (.o (.d zo)) (.d (.pr .int .str))))], [(0, .pt 0 0), (4, .pt 1 0), (5, .pt 2 0), (7, vo .str), (9, vd .int), (10, .pt 3 0), (11, vd .int)], []⟩, ⟨120, [.d zJ], [], []⟩, 4, U11 fun (w0 : El zJ) (w1 w2 : El zG) (w3 : El zp) _ _ _ (l7 : Li .str) (n9 : Int) _ (n11 : Int) => cond (decide (n11 < (w3.2.2.1.length : Int))) (.ix n11 w3.2.2.1 (let k2 := zB zo w3.2.2.1 n11; let y1 := (zIj k2.2.1 l7); .ix n11 w3.2.2.1 (let k1 := List.set w3.2.2.1 (Int.toNat n11) (k2.1, (y1.1, k2.2.2)); .ix n11 k1 (cond (!((zB zo k1 n11).1.toList == (⟨#[]⟩ : ByteArray).toList)) (.ix n11 k1 (.ix n11 k1 (.ik (n11 + 1) (.v (.go (w0, w1, w2, (w3.1, (w3.2.1, ((List.set k1 (Int.toNat n11) ((zB zo k1 n11).1, ((zB zo k1 n11).2.1, (zIj (zB zo k1 n11).2.2 l7).1))), w3.2.2.2))), (), (), (), l7, n9, (), (n11 + 1), ())))))) (.ik (n11 + 1) (.v (.go (w0, w1, w2, (w3.1, (w3.2.1, (k1, w3.2.2.2))), (), (), (), l7, n9, (), (n11 + 1), ())))))))) (.v (.brk (w0, w1, w2, w3, (), (), (), l7, n9, (), n11, ())))⟩
theorem zRd : PO zLl (fun _ _ => False) (U11 fun (w00 : El zJ) (w10 w20 : El zG) (w30 : El zp) _ _ _ (l70 : Li .str) (n90 : Int) _ _ => U11 fun (w0 : El zJ) (w1 w2 : El zG) (w3 : El zp) _ _ _ (l7 : Li .str) (n9 : Int) _ _ => w0 = w00 ∧ w1 = w10 ∧ w2 = w20 ∧ l7 = l70 ∧ n9 = n90 ∧ Cu w0 ∧ w3.2.2.1.length = w30.2.2.1.length) := poG trivial trivial (an @SzR.pats (an @DrR.mk trivial))
theorem zdS : SF zLl (U11 fun (w0 : El zJ) _ _ (w3 : El zp) _ _ _ _ _ _ (n11 : Int) => (Cu w0 ∧ 0 ≤ n11, (w3.2.2.1.length : Int) - n11)) := sfG trivial trivial (an @SzR.pats (an @DrR.mk trivial))
abbrev zEB : LB := ⟨[], ⟨120, [.d zJ, .pr (.d .str) (.pr (.d .int) (.pr (.o (.d zM)) (.pr (.o (.d z5)) (.o (.d zp))))), .pr (.d .str) (.pr (.d .int) (.pr (.o (.d zM)) (.pr (.o (.d z5)) (.o (.d zp)))))], [(0, .pt 0 0), (4, .pt 1 0), (5, .pt 2 0), (7, vo .str), (9, vd .int)], []⟩, ⟨120, [.d zJ], [], []⟩, 2, U8 fun (w0 : El zJ) (w1 w2 : El zG) _ _ _ (l7 : Li .str) (n9 : Int) => cond (decide (n9 > 0)) (.ck (zaq w0 (zc w2).1) (let y1 := (zOs w0 (zc w2).1); .lp zLl (y1.2.1, w1, w2, y1.1, (), (), (), l7, n9, (), (0 : Int), ()) (fun r13 => .v (.ret (r13.1, ()))) (fun t2 => .ck (((t2.2.2.1.2.2.2.2.length + [t2.2.2.2.1].length : Nat) : Int) ≤ 16777216) (let k1 := t2.2.2.2.2.2.2.2.2.1 - (1 : Int); .ik k1 (.v (.go (t2.1, t2.2.1, (t2.2.2.1.1, (t2.2.2.1.2.1, (t2.2.2.1.2.2.1, (t2.2.2.1.2.2.2.1, (t2.2.2.1.2.2.2.2 ++ [t2.2.2.2.1]))))), (), (), (), t2.2.2.2.2.2.2.2.1, k1, ()))))))) (.v (.brk (w0, w1, w2, (), (), (), l7, n9, ())))⟩
theorem zLY : PO zEB (fun _ _ => False) (U8 fun _ (w10 w20 : El zG) _ _ _ (l70 : Li .str) _ => U8 fun (w0 : El zJ) (w1 w2 : El zG) _ _ _ (l7 : Li .str) (n9 : Int) => w1 = w10 ∧ l7 = l70 ∧ Cu w0 ∧ (0 ≤ n9 ∧ (w2.2.2.2.2.length : Int) + n9 ≤ 3) ∧ (∀ a ∈ w2.2.2.2.2, (a.2.2.1.length : Int) ≤ 2) ∧ (w2.2.2.1 = w20.2.2.1 ∧ w2.2.2.2.1 = w20.2.2.2.1)) := poG (an zRd trivial) (an @za7 (an @zcf trivial)) (an @SzR.pats (an @DrR.mk trivial))
theorem zdQ : SF zEB (U8 fun (w0 : El zJ) _ (w2 : El zG) _ _ _ _ (n9 : Int) => (0 ≤ n9 ∧ Cu w0 ∧ (w2.2.2.2.2.length : Int) + n9 ≤ 3, n9)) := sfG (an zdS (an zRd trivial)) (an @za7 (an @zcf trivial)) (an @SzR.pats (an @DrR.mk trivial))
abbrev zKk (a0 : El zJ) (a1 : ByteArray) : Tr (El zG × El zJ × Unit) := .ck (zGz a0 [(0 : Int), (0 : Int), (5 : Int), (-5 : Int), (100 : Int)]) (let y1 := (zDB a0 [(0 : Int), (0 : Int), (5 : Int), (-5 : Int), (100 : Int)]); .ck (yz y1.2.1 3) (let y2 := (zT y1.2.1 3); .ik ((1 : Int) + y2.1) (let k3 := (([] : Li zM), (([] : Li z5), ([] : Li zp))); .lp zMQ (y2.2.1, ((⟨#[]⟩ : ByteArray), ((0 : Int), k3)), (a1, (y1.1, k3)), (), (), (), ((1 : Int) + y2.1), ()) (fun _ => .bad) (fun t3 => .ck (vZ t3.1 3) (let y4 := (vL t3.1 3); cond y4.1 (.ck (zS3 y4.2.1 true) (let k2 := zH3 y4.2.1 true; .ck (((t3.2.2.1.2.2.1.length + [k2.1].length : Nat) : Int) ≤ 16777216) (let k7 := t3.2.2.1.2.2.1 ++ [k2.1]; let k1 := (t3.2.2.1.1, (t3.2.2.1.2.1, (k7, t3.2.2.1.2.2.2))); .ck (zFt k1) (let y5 := (xb k1); .ck (vZ k2.2.1 3) (let y6 := (vL k2.2.1 3); cond y6.1 (.ck (zTT y6.2.1) (let y7 := (zIj (zAr y6.2.1).1.2.1 y5.1); let y8 := (zIj (zAr y6.2.1).1.2.2 y5.1); let k5 := ((zAr y6.2.1).1.1, (y7.1, y8.1)); .ck (((t3.2.2.1.2.2.2.1.length + [k5].length : Nat) : Int) ≤ 16777216) (.ck (yz (zAr y6.2.1).2.1 (3 : Int)) (let y9 := (zT (zAr y6.2.1).2.1 (3 : Int)); .ik ((1 : Int) + y9.1) (.lp zEB (y9.2.1, t3.2.1, (t3.2.2.1.1, (t3.2.2.1.2.1, (k7, ((t3.2.2.1.2.2.2.1 ++ [k5]), t3.2.2.1.2.2.2.2)))), (), (), (), y5.1, ((1 : Int) + y9.1), ()) (fun _ => .bad) (fun t10 => .v (t10.2.2.1, t10.1, ()))))))) (.ck (yz y6.2.1 3) (let y7 := (zT y6.2.1 3); .ik ((1 : Int) + y7.1) (.lp zEB (y7.2.1, t3.2.1, k1, (), (), (), y5.1, ((1 : Int) + y7.1), ()) (fun _ => .bad) (fun t8 => .v (t8.2.2.1, t8.1, ())))))))))) (.ck (zFt t3.2.2.1) (.ck (vZ y4.2.1 3) (let y5 := (vL y4.2.1 3); let k4 := xb t3.2.2.1; cond y5.1 (.ck (zTT y5.2.1) (let y6 := (zIj (zAr y5.2.1).1.2.1 k4.1); let y7 := (zIj (zAr y5.2.1).1.2.2 k4.1); let k6 := ((zAr y5.2.1).1.1, (y6.1, y7.1)); .ck (((t3.2.2.1.2.2.2.1.length + [k6].length : Nat) : Int) ≤ 16777216) (.ck (yz (zAr y5.2.1).2.1 (3 : Int)) (let y8 := (zT (zAr y5.2.1).2.1 (3 : Int)); .ik ((1 : Int) + y8.1) (.lp zEB (y8.2.1, t3.2.1, (t3.2.2.1.1, (t3.2.2.1.2.1, (t3.2.2.1.2.2.1, ((t3.2.2.1.2.2.2.1 ++ [k6]), t3.2.2.1.2.2.2.2)))), (), (), (), k4.1, ((1 : Int) + y8.1), ()) (fun _ => .bad) (fun t9 => .v (t9.2.2.1, t9.1, ()))))))) (.ck (yz y5.2.1 3) (let y6 := (zT y5.2.1 3); .ik ((1 : Int) + y6.1) (.lp zEB (y6.2.1, t3.2.1, t3.2.2.1, (), (), (), k4.1, ((1 : Int) + y6.1), ()) (fun _ => .bad) (fun t7 => .v (t7.2.2.1, t7.1, ())))))))))))))
def zOd a0 a1 := (zKk a0 a1).val
@[simp] def zb4 (a0 : El zJ) (_a1 : ByteArray) : Prop := Cu a0
abbrev zcQ := gq [zCi, vd .str] [.val true (.pr (.d .str) (.pr (.d .int) (.pr (.o (.d zM)) (.pr (.o (.d z5)) (.o (.d zp)))))), zCi] (U2 zb4) (U2 zOd)
set_option maxHeartbeats 2000000 in
theorem zm6 : Ok zcQ (U2 zKk) := okG (an zdc (an zLR (an zdQ (an zLY trivial)))) (an @zDo (an @zFF (an @zj (an @zS (an @xX (an @zKL (an @zKW (an @zKw (an @zTV trivial))))))))) (an @SzR.pats (an @DrR.mk trivial))
set_option maxHeartbeats 2000000 in
theorem zbQ {a0 : El zJ} {a1 : ByteArray} (h : Cu a0) : Cu (zOd a0 a1).2.1 := psG (T := zKk a0 a1) (P := fun y => Cu y.2.1) (an zLR (an zLY trivial)) (an h (an @zDo (an @zFF (an @zj (an @zS (an @xX (an @zKL (an @zKW (an @zKw (an @zTV trivial)))))))))) (an @SzR.pats (an @DrR.mk trivial))
set_option maxHeartbeats 2000000 in
theorem zcm {a0 : El zJ} {a1 : ByteArray} (h : Cu a0) : DrR (zOd a0 a1).1 := psG (T := zKk a0 a1) (P := fun y => DrR y.1) (an zLR (an zLY trivial)) (an h (an @zDo (an @zFF (an @zj (an @zS (an @xX (an @zKL (an @zKW (an @zKw (an @zTV trivial)))))))))) (an @SzR.pats (an @DrR.mk trivial))
def zm9 := cn mo [zNk, vg, znB, zDL, zYb, zlw, zqN, zGy, zmi] [zMQ, zEB, zLl] 150 zcQ Tryz.f150 (U2 zKk) zm6
abbrev zJc : LB := ⟨[0, 1, 3], ⟨34, [.d zJ, .pr (.d .str) (.o (.d zG)), .pr (.d .str) (.o (.d zG))], [(0, .pt 0 0), (2, .pt 1 0), (3, .pt 2 0), (4, vo .str), (5, vd .int)], []⟩, ⟨34, [.d zJ], [], []⟩, 0, U8 fun (w0 : El zJ) (w1 w2 : El zN) _ _ _ (l4 : Li .str) (n5 : Int) => .ck (yz w0 4) (let y1 := (zT w0 4); .ik ((1 : Int) + y1.1) (let k1 := .brk (y1.2.1, w1, w2, (), (), (), l4, n5, ()); cond (decide (n5 < ((1 : Int) + y1.1))) (cond (decide (n5 < 4)) (.ix n5 l4 (.ck (zb4 y1.2.1 (zB .str l4 n5)) (let y2 := (zOd y1.2.1 (zB .str l4 n5)); .ck (((w2.2.length + [y2.1].length : Nat) : Int) ≤ 16777216) (.ik (n5 + 1) (.v (.go (y2.2.1, w1, (w2.1, (w2.2 ++ [y2.1])), (), (), (), l4, (n5 + 1), ()))))))) (.v k1)) (.v k1)))⟩
theorem zJ6 : PO zJc (fun _ _ => False) (U8 fun _ (w10 : El zN) _ _ _ _ (l40 : Li .str) _ => U8 fun (w0 : El zJ) (w1 w2 : El zN) _ _ _ (l4 : Li .str) (n5 : Int) => w1 = w10 ∧ l4 = l40 ∧ Cu w0 ∧ ((w2.2.length : Int) ≤ n5 ∧ n5 ≤ 4) ∧ (∀ r ∈ w2.2, DrR r) ∧ 0 ≤ n5) := poG trivial (an @zj (an @zS (an @zbQ (an @zcm trivial)))) trivial
theorem zaQ : SF zJc (U8 fun (w0 : El zJ) _ (w2 : El zN) _ _ _ (l4 : Li .str) (n5 : Int) => (0 ≤ n5 ∧ (4 : Int) ≤ (l4.length : Int) ∧ Cu w0 ∧ ((w2.2.length : Int) ≤ n5 ∧ n5 ≤ 4), (4 : Int) - n5)) := sfG trivial (an @zj (an @zS (an @zbQ (an @zcm trivial)))) trivial
abbrev zIb (a0 : El zJ) : Tr (El zN × El zJ × Unit) := .ck (zBZ a0 [(⟨#[102, 108, 111, 119]⟩ : ByteArray), (⟨#[115, 104, 105, 112]⟩ : ByteArray), (⟨#[120]⟩ : ByteArray)]) (let y1 := (zAF a0 [(⟨#[102, 108, 111, 119]⟩ : ByteArray), (⟨#[115, 104, 105, 112]⟩ : ByteArray), (⟨#[120]⟩ : ByteArray)]); .lp zJc (y1.2.1, ((⟨#[]⟩ : ByteArray), ([] : Li zG)), (y1.1, ([] : Li zG)), (), (), (), [(⟨#[114, 49]⟩ : ByteArray), (⟨#[114, 50]⟩ : ByteArray), (⟨#[114, 51]⟩ : ByteArray), (⟨#[114, 52]⟩ : ByteArray)], (0 : Int), ()) (fun _ => .bad) (fun t2 => .v (t2.2.2.1, t2.1, ())))
def zEC a0 := (zIb a0).val
@[simp] def zXG (a0 : El zJ) : Prop := Cu a0
abbrev zXq := gq [zCi] [.val true (.pr (.d .str) (.o (.d zG))), zCi] (U1 zXG) (U1 zEC)
theorem ziF : Ok zXq (U1 zIb) := okG (an zaQ (an zJ6 trivial)) (an @vA (an @x5 trivial)) trivial
theorem zQN {a0 : El zJ} (h : Cu a0) : Cu (zEC a0).2.1 := psG (T := zIb a0) (P := fun y => Cu y.2.1) (an zJ6 trivial) (an h (an @vA (an @x5 trivial))) trivial
theorem zQb {a0 : El zJ} (h : Cu a0) : ((zEC a0).1.2.length : Int) ≤ 4 ∧ ∀ r ∈ (zEC a0).1.2, DrR r := psG (T := zIb a0) (P := fun y => (y.1.2.length : Int) ≤ 4 ∧ ∀ r ∈ y.1.2, DrR r) (an zJ6 trivial) (an h (an @vA (an @x5 trivial))) trivial
def ziG := cn mo [zGm, vg, zm9] [zJc] 74 zXq Tryz.f74 (U1 zIb) ziF
abbrev zLG (a0 a1 a2 : Int) : Tr (Bool × Unit) := cond (decide (a0 ≥ a1)) (.v (decide (a0 ≤ a2), ())) (.v (false, ()))
def z6 a0 a1 a2 := (zLG a0 a1 a2).val
abbrev zrB := fd [vd .int, vd .int, vd .int] [vd .bool] (U3 z6)
def zAQ := cn mo [] [] 151 zrB Tryz.f151 (U3 zLG) (fun _ _ _ => by simp [zLG])
theorem zBK {x a b : Int} (h : (z6 x a b).1 = true) : a ≤ x ∧ x ≤ b := by
 simp only [z6, zLG, z0, zY] at h
 cases e : decide (x ≥ a) with
 | false => rw [e] at h; cases h
 | true =>
  rw [e] at h
  exact ⟨of_decide_eq_true e, of_decide_eq_true h⟩
abbrev zMK (a0 : Int) : Tr (El zF × Unit) := cond (!(z6 a0 0 1000000000).1) (.v (((([] : Li zD), (0 : Int)), (([] : Li zA), (([] : Li zC), (([] : Li zD), (([] : Li zP), ((0 : Int), (0 : Int))))))), ())) (.v (((([] : Li zD), (1 : Int)), (([] : Li zA), (([] : Li zC), (([] : Li zD), (([] : Li zP), ((1 : Int), a0)))))), ()))
def zQp a0 := (zMK a0).val
abbrev zjZ := gd [vd .int] [.val true (.pr (.pr (.o (.d zD)) (.d .int)) (.pr (.o (.d zA)) (.pr (.o (.d zC)) (.pr (.o (.d zD)) (.pr (.o (.d zP)) (.d (.pr .int .int)))))))] (U1 zQp)
theorem zQR {a0 : Int} : ((zQp a0).1.1.1.length : Int) ≤ 40 := psG (T := zMK a0) (P := fun y => (y.1.1.1.length : Int) ≤ 40) trivial (an @zBK trivial) trivial
def zju := cn mo [zAQ] [] 75 zjZ Tryz.f75 (U1 zMK) (fun _ _ _ => by simp [zMK])
abbrev zEE : LB := ⟨[0, 1, 3], ⟨30, [.d zJ, .pr (.d .str) (.o (.d zL)), .pr (.d .str) (.o (.d zL))], [(0, .pt 0 0), (2, .pt 1 0), (3, .pt 2 0), (4, vd .int), (5, vd .int)], []⟩, ⟨30, [.d zJ], [], []⟩, 0, U8 fun (w0 : El zJ) (w1 w2 : El zK) _ _ _ (n4 n5 : Int) => cond (decide (n5 < n4)) (.ck (zF3 w0) (.ck (((w2.2.length + [(vH w0).1].length : Nat) : Int) ≤ 16777216) (.ik (n5 + 1) (.v (.go ((vH w0).2.1, w1, (w2.1, (w2.2 ++ [(vH w0).1])), (), (), (), n4, (n5 + 1), ())))))) (.v (.brk (w0, w1, w2, (), (), (), n4, n5, ())))⟩
theorem zSj : PO zEE (fun _ _ => False) (U8 fun _ (w10 : El zK) _ _ _ _ (n40 : Int) _ => U8 fun (w0 : El zJ) (w1 w2 : El zK) _ _ _ (n4 n5 : Int) => w1 = w10 ∧ n4 = n40 ∧ Cu w0 ∧ (0 ≤ n4 ∧ n4 ≤ 6 ∧ 0 ≤ n5 ∧ n5 ≤ n4 ∧ (w2.2.length : Int) ≤ n5)) := poG trivial (an @zEJ trivial) trivial
theorem zec : SF zEE (U8 fun (w0 : El zJ) _ (w2 : El zK) _ _ _ (n4 n5 : Int) => (0 ≤ n5 ∧ Cu w0 ∧ (0 ≤ n4 ∧ n4 ≤ 6) ∧ (w2.2.length : Int) ≤ n5, n4 - n5)) := sfG trivial (an @zEJ trivial) trivial
abbrev zOp (a0 : El zJ) : Tr (El zK × El zJ × Unit) := .ck (zBZ a0 [(⟨#[111, 114, 100, 101, 114]⟩ : ByteArray), (⟨#[112, 97, 105, 100]⟩ : ByteArray), (⟨#[105, 116, 101, 109]⟩ : ByteArray), (⟨#[111, 114, 100, 101, 114]⟩ : ByteArray)]) (let y1 := (zAF a0 [(⟨#[111, 114, 100, 101, 114]⟩ : ByteArray), (⟨#[112, 97, 105, 100]⟩ : ByteArray), (⟨#[105, 116, 101, 109]⟩ : ByteArray), (⟨#[111, 114, 100, 101, 114]⟩ : ByteArray)]); let k1 := ((⟨#[]⟩ : ByteArray), ([] : Li zL)); let k2 := (y1.1, ([] : Li zL)); let k3 := vZ y1.2.1 12; let k4 := vL y1.2.1 12; cond (y1.1.toList == (⟨#[105, 116, 101, 109]⟩ : ByteArray).toList) (.ck k3 (let y2 := k4; cond y2.1 (.ck (yz y2.2.1 6) (let y3 := (zT y2.2.1 6); .lp zEE (y3.2.1, k1, k2, (), (), (), y3.1, (0 : Int), ()) (fun _ => .bad) (fun t4 => .v (t4.2.2.1, t4.1, ())))) (.lp zEE (y2.2.1, k1, k2, (), (), (), (2 : Int), (0 : Int), ()) (fun _ => .bad) (fun t3 => .v (t3.2.2.1, t3.1, ()))))) (.ck k3 (let y2 := k4; cond y2.1 (.ck (yz y2.2.1 6) (let y3 := (zT y2.2.1 6); .lp zEE (y3.2.1, k1, k2, (), (), (), y3.1, (0 : Int), ()) (fun _ => .bad) (fun t4 => .v (t4.2.2.1, t4.1, ())))) (.lp zEE (y2.2.1, k1, k2, (), (), (), (1 : Int), (0 : Int), ()) (fun _ => .bad) (fun t3 => .v (t3.2.2.1, t3.1, ()))))))
def zH6 a0 := (zOp a0).val
@[simp] def zTI (a0 : El zJ) : Prop := Cu a0
abbrev zbp := gq [zCi] [.val true (.pr (.d .str) (.o (.d zL))), zCi] (U1 zTI) (U1 zH6)
theorem zl2 : Ok zbp (U1 zOp) := okG (an zec (an zSj trivial)) (an @vA (an @x5 (an @xX (an @zj (an @zS trivial))))) trivial
theorem zm2 {a0 : El zJ} (h : Cu a0) : Cu (zH6 a0).2.1 := psG (T := zOp a0) (P := fun y => Cu y.2.1) (an zSj trivial) (an h (an @vA (an @x5 (an @xX (an @zj (an @zS trivial)))))) trivial
def zbh := cn mo [zGm, zDL, vg, zIQ] [zEE] 154 zbp Tryz.f154 (U1 zOp) zl2
abbrev zFL : LB := ⟨[], ⟨26, [], [(0, vd (.lst zL)), (1, vd (.lst zL)), (5, vd .int)], []⟩, ⟨26, [], [(4, vd .bool)], []⟩, 0, U3 fun (l0 l1 : Li zL) (n5 : Int) => cond (decide (n5 < (l0.length : Int))) (.ix n5 l0 (.ix n5 l1 (cond (!(((zB zL l0 n5).1 == (zB zL l1 n5).1) && (((zB zL l0 n5).2.1 == (zB zL l1 n5).2.1) && (((zB zL l0 n5).2.2.toList == (zB zL l1 n5).2.2.toList) && true)))) (.v (.ret (false, ()))) (.ik (n5 + 1) (.v (.go (l0, l1, (n5 + 1), ()))))))) (.v (.brk (l0, l1, n5, ())))⟩
def zTY (l0 l1 : Li zL) := rA (l := zFL) (L := l0) (fun i => (l0, l1, i, ())) (fun i x => bif (!((x.1 == (zB zL l1 (i : Int)).1) && ((x.2.1 == (zB zL l1 (i : Int)).2.1) && ((x.2.2.toList == (zB zL l1 (i : Int)).2.2.toList) && true)))) then false else true) (false, ())
theorem zTP : SF zFL (U3 fun (l0 l1 : Li zL) (n5 : Int) => (0 ≤ n5 ∧ (l0.length : Int) ≤ (l1.length : Int), (l0.length : Int) - n5)) := sfA
abbrev zGG (a0 a1 : Li zL) : Tr (Bool × Unit) := cond ((a0.length : Int) != (a1.length : Int)) (.v (false, ())) (.lp zFL (a0, a1, (0 : Int), ()) (fun r1 => .v (r1.1, ())) (fun _ => .v (true, ())))
def zDq a0 a1 := (zGG a0 a1).val
abbrev zP9 := fd [vd (.lst zL), vd (.lst zL)] [vd .bool] (U2 zDq)
theorem zZT : Ok zP9 (U2 zGG) := vN zTP
def zZf := cn mo [] [zFL] 288 zP9 Tryz.f288 (U2 zGG) zZT
def zP6 (a0 a1 : Li zL) := (by
 simp only [zDq, zGG, zY, z0, zq, ze]
 rewrite [zTY, z3]
 dsimp only : zDq a0 a1 = _)
abbrev zGh (a0 a1 : El zK) : Tr (Bool × Unit) := cond (a0.1.toList == a1.1.toList) (.v ((zDq a0.2 a1.2).1, ())) (.v (false, ()))
def zI a0 a1 := (zGh a0 a1).val
abbrev zhU := fd [va zK, va zK] [vd .bool] (U2 zI)
def zBm := cn mo [zZf] [] 199 zhU Tryz.f199 (U2 zGh) (fun _ _ _ => by simp [zGh])
abbrev zSf : LB := ⟨[], ⟨27, [.d zE, .d zK], [(2, .pt 0 0), (3, .pt 1 0), (5, vd .int)], []⟩, ⟨27, [], [(4, vd .int)], []⟩, 0, U5 fun (w0 : El zE) (w1 : El zK) _ _ (n5 : Int) => cond (decide (n5 < (w0.1.length : Int))) (.ix n5 w0.1 (cond (zI (zB zD w0.1 n5).2 w1).1 (.ix n5 w0.1 (.v (.ret ((zB zD w0.1 n5).1, ())))) (.ik (n5 + 1) (.v (.go (w0, w1, (), (), (n5 + 1), ())))))) (.v (.brk (w0, w1, (), (), n5, ())))⟩
def zkb (w0 : El zE) (w1 : El zK) := rS (l := zSf) (L := w0.1) (fun i => (w0, w1, (), (), i, ())) (fun i x => bif (zI x.2 w1).1 then (some (x.1, ())) else none)
theorem zip : SF zSf (U5 fun (w0 : El zE) _ _ _ (n5 : Int) => (0 ≤ n5, (w0.1.length : Int) - n5)) := sfA
abbrev zVm (a0 : El zE) (a1 : El zK) : Tr (Int × Unit) := .lp zSf (a0, a1, (), (), (0 : Int), ()) (fun r2 => .v (r2.1, ())) (fun _ => .v ((0 : Int), ()))
def zBr a0 a1 := (zVm a0 a1).val
abbrev zlI := fd [va zE, va zK] [vd .int] (U2 zBr)
theorem zrn : Ok zlI (U2 zVm) := vN zip
def zlE := cn mo [zBm] [zSf] 274 zlI Tryz.f274 (U2 zVm) zrn
def zlJ (a0 : El zE) (a1 : El zK) := (by
 simp only [zBr, zVm, zY, zq, ze]
 rewrite [zkb, xH]
 dsimp only : zBr a0 a1 = _)
abbrev zOj (a0 : El zK) : Tr (El zK × Unit) := .ck ((a0.2.length : Int) ≤ 16777216) (.v (a0, ()))
def yo a0 := (zOj a0).val
abbrev zcN := fd [va zK] [.val true (.pr (.d .str) (.o (.d zL)))] (U1 yo)
theorem znj : Ok zcN (U1 zOj) := okA
def zAp := cn mo [] [] 176 zcN Tryz.f176 (U1 zOj) znj
abbrev zGa (a0 : El zE) (a1 : El zK) : Tr (Int × El zE × Unit) := cond (decide ((zBr a0 a1).1 > (0 : Int))) (.v ((zBr a0 a1).1, a0, ())) (cond (decide ((a0.1.length : Int) ≥ 40)) (.v ((0 : Int), a0, ())) (cond (decide (a0.2 ≥ (1000000 : Int))) (.v ((0 : Int), a0, ())) (.ck (((a0.1.length + [(a0.2, (yo a1).1)].length : Nat) : Int) ≤ 16777216) (.ik (a0.2 + (1 : Int)) (let k1 := (a0.2 + (1 : Int)) - (1 : Int); .ik k1 (.v (k1, ((a0.1 ++ [(a0.2, (yo a1).1)]), (a0.2 + (1 : Int))), ())))))))
def zEo a0 a1 := (zGa a0 a1).val
abbrev zTj := gd [zhH, va zK] [vd .int, zhH] (U2 zEo)
theorem zhI : Ok zTj (U2 zGa) := okG trivial trivial trivial
theorem zT7 {a0 : El zE} {a1 : El zK} : (a0.1.length : Int) ≤ 40 → ((zEo a0 a1).2.1.1.length : Int) ≤ 40 := psG (T := zGa a0 a1) (P := fun y => (a0.1.length : Int) ≤ 40 → (y.2.1.1.length : Int) ≤ 40) trivial trivial trivial
def zTx := cn mo [zlE, zAp] [] 247 zTj Tryz.f247 (U2 zGa) zhI
abbrev zJs : LB := ⟨[], ⟨26, [], [(0, vd (.lst zC)), (3, vo zC), (4, vd .int)], []⟩, ⟨26, [], [], []⟩, 0, U3 fun (l0 l3 : Li zC) (n4 : Int) => cond (decide (n4 < (l0.length : Int))) (.ix n4 l0 (let y1 := (yo (zB zC l0 n4).1); let k1 := (y1.1, (zB zC l0 n4).2); .ck (((l3.length + [k1].length : Nat) : Int) ≤ 16777216) (.ik (n4 + 1) (.v (.go (l0, (l3 ++ [k1]), (n4 + 1), ())))))) (.v (.brk (l0, l3, n4, ())))⟩
def zP3 (l0 l3 : Li zC) := rF (l := zJs) (L := l0) (fun i (s : (Li zC)) => (l0, s, i, ())) (fun i x s => (s ++ [((yo x.1).1, x.2)])) l3
theorem zaW : SF zJs (U3 fun (l0 l3 : Li zC) (n4 : Int) => (0 ≤ n4 ∧ (l3.length : Int) ≤ n4, (l0.length : Int) - n4)) := sfA
abbrev zMT (a0 : Li zC) : Tr (Li zC × Unit) := .lp zJs (a0, ([] : Li zC), (0 : Int), ()) (fun _ => .bad) (fun t1 => .v (t1.2.1, ()))
def zEU a0 := (zMT a0).val
abbrev zYN := gd [vd (.lst zC)] [vo zC] (U1 zEU)
theorem zi6 : Ok zYN (U1 zMT) := zNF zaW zP3
def zYn := cn mo [zAp] [zJs] 97 zYN Tryz.f97 (U1 zMT) zi6
def zXz (a0 : Li zC) := (by
 simp only [zEU, zMT, zY, zq, ze]
 rewrite [zP3, xL]
 dsimp only : zEU a0 = _)
theorem zjQ (l : List _) : ((zEU l).1).length = l.length := by
 rw [zXz]; simp [vM]
abbrev zEI : LB := ⟨[], ⟨32, [], [(3, vo zC), (4, vd .int)], []⟩, ⟨32, [], [], []⟩, 0, U2 fun (l3 : Li zC) (n4 : Int) => cond (decide (n4 < (l3.length : Int))) (.ix n4 l3 (let k1 : Tr (St _ _) := .ix n4 l3 (.ik (n4 + 1) (.v (.go ((List.set l3 (Int.toNat n4) ((zB zC l3 n4).1, ((zB zC l3 n4).2.1, ((4 : Int), (zB zC l3 n4).2.2.2)))), (n4 + 1), ())))); cond ((zB zC l3 n4).2.2.1 == (1 : Int)) k1 (.ix n4 l3 (cond ((zB zC l3 n4).2.2.1 == (2 : Int)) k1 (.ik (n4 + 1) (.v (.go (l3, (n4 + 1), ())))))))) (.v (.brk (l3, n4, ())))⟩
theorem zdo : PO zEI (fun _ _ => False) (fun _ _ => True) := poA
theorem zcy : SF zEI (U2 fun (l3 : Li zC) (n4 : Int) => (0 ≤ n4, (l3.length : Int) - n4)) := sfA
abbrev zO9 (a0 : Li zC) : Tr (Li zC × Unit) := .lp zEI ((zEU a0).1, (0 : Int), ()) (fun _ => .bad) (fun t1 => .v (t1.1, ()))
def zFh a0 := (zO9 a0).val
abbrev zbv := gd [vd (.lst zC)] [vo zC] (U1 zFh)
theorem zm1 : Ok zbv (U1 zO9) := okG (an zcy (an zdo trivial)) (an @zjQ trivial) trivial
def zOo := cn mo [zYn] [zEI] 160 zbv Tryz.f160 (U1 zO9) zm1
abbrev zEX (a0 : Li zP) : Tr (El zK × Bool × Unit) := let k2 := (a0.length : Int); cond (k2 == (0 : Int)) (.v (((⟨#[]⟩ : ByteArray), ([] : Li zL)), false, ())) (let k1 := k2 - (1 : Int); .ik k1 (.ix k1 a0 (.v ((yo (zB zP a0 k1).2).1, true, ()))))
def xP a0 := (zEX a0).val
abbrev zUf := fd [vd (.lst zP)] [.val true (.pr (.d .str) (.o (.d zL))), vd .bool] (U1 xP)
theorem zg0 : Ok zUf (U1 zEX) := okG trivial trivial trivial
def zUu := cn mo [zAp] [] 255 zUf Tryz.f255 (U1 zEX) zg0
def zDH (a0 : El zF) (a1 : Int) : El zF × Unit := ((a0.1, (a0.2.1, ((zFh a0.2.2.1).1, (([] : Li zD), (a0.2.2.2.2.1, (a1, a0.2.2.2.2.2.2)))))), ())
abbrev zkC := gd [zEu, vd .int] [zEu] (U2 zDH)
theorem zQF {a0 : El zF} {a1 : Int} : (zDH a0 a1).1.1 = a0.1 := by
 have F := trivial
 unfold zDH
 simp (maxDischargeDepth := 12) [*]
def zYD := cv mo [zOo] 194 zkC Tryz.f194
abbrev zHR : LB := ⟨[1], ⟨37, [.d zK], [(0, vo zC), (2, vd .str), (3, vd .int), (5, .pt 0 0), (10, vd .int)], []⟩, ⟨37, [], [(8, vo zC), (9, vd .bool)], []⟩, 0, U6 fun (w0 : El zK) (l0 : Li zC) (s2 : ByteArray) (n3 : Int) _ (n10 : Int) => cond (decide (n10 < (l0.length : Int))) (.ix n10 l0 (cond (zI (zB zC l0 n10).1 w0).1 (.v (.ret (l0, true, ()))) (.ik (n10 + 1) (.v (.go (w0, l0, s2, n3, (), (n10 + 1), ())))))) (.v (.brk (w0, l0, s2, n3, (), n10, ())))⟩
def zNO (w0 : El zK) (l0 : Li zC) (s2 : ByteArray) (n3 : Int) := rA (l := zHR) (L := l0) (fun i => (w0, l0, s2, n3, (), i, ())) (fun i x => bif (zI x.1 w0).1 then false else true) (l0, true, ())
theorem zYZ : SF zHR (U6 fun _ (l0 : Li zC) _ _ _ (n10 : Int) => (0 ≤ n10, (l0.length : Int) - n10)) := sfA
abbrev zJW (a0 : Li zC) (a1 : El zK) (a2 : ByteArray) (a3 : Int) : Tr (Li zC × Bool × Unit) := .lp zHR (a1, a0, a2, a3, (), (0 : Int), ()) (fun r2 => .v (r2.1, r2.2.1, ())) (fun t1 => cond (decide (@GE.ge Int _ (t1.2.1.length : Int) (30 : Int))) (.v (t1.2.1, false, ())) (let k1 := ((yo t1.1).1, (t1.2.2.1, ((1 : Int), ((0 : Int), (t1.2.2.2.1, ((0 : Int), ((0 : Int), (⟨#[]⟩ : ByteArray)))))))); .ck (((t1.2.1.length + [k1].length : Nat) : Int) ≤ 16777216) (.v ((t1.2.1 ++ [k1]), true, ()))))
def zA4 a0 a1 a2 a3 := (zJW a0 a1 a2 a3).val
abbrev zTl := gd [vo zC, va zK, vd .str, vd .int] [vo zC, vd .bool] (U4 zA4)
theorem zhW : Ok zTl (U4 zJW) := zNF zYZ zNO
def zJX := cn mo [zBm, zAp] [zHR] 192 zTl Tryz.f192 (U4 zJW) zhW
abbrev zHU : LB := ⟨[0, 7], ⟨73, [.pr (.pr (.o (.d zD)) (.d .int)) (.pr (.o (.d zA)) (.pr (.o (.d zC)) (.pr (.o (.d zD)) (.pr (.o (.d zP)) (.d (.pr .int .int)))))), .pr (.d .str) (.o (.d zL))], [(0, .pt 0 0), (2, .pt 1 0), (4, vo zC), (5, vd .int)], []⟩, ⟨73, [.pr (.pr (.o (.d zD)) (.d .int)) (.pr (.o (.d zA)) (.pr (.o (.d zC)) (.pr (.o (.d zD)) (.pr (.o (.d zP)) (.d (.pr .int .int))))))], [], []⟩, 0, U6 fun (w0 : El zF) (w1 : El zK) _ _ (l4 : Li zC) (n5 : Int) => cond (decide (n5 < (w0.2.2.1.length : Int))) (.ix n5 w0.2.2.1 (let k1 := zB zC w0.2.2.1 n5; cond (!(zI k1.1 w1).1) (.ix n5 w0.2.2.1 (.ck (((l4.length + [k1].length : Nat) : Int) ≤ 16777216) (.ik (n5 + 1) (.v (.go (w0, w1, (), (), (l4 ++ [k1]), (n5 + 1), ())))))) (.ik (n5 + 1) (.v (.go (w0, w1, (), (), l4, (n5 + 1), ())))))) (.v (.brk (w0, w1, (), (), l4, n5, ())))⟩
def zIF (w0 : El zF) (w1 : El zK) (l4 : Li zC) := rF (l := zHU) (L := w0.2.2.1) (fun i (s : (Li zC)) => (w0, w1, (), (), s, i, ())) (fun i x s => bif (!(zI x.1 w1).1) then (s ++ [x]) else s) l4
theorem zYv : SF zHU (U6 fun (w0 : El zF) _ _ _ (l4 : Li zC) (n5 : Int) => (0 ≤ n5 ∧ (l4.length : Int) ≤ n5, (w0.2.2.1.length : Int) - n5)) := sfG trivial trivial trivial
abbrev zGp (a0 : El zF) : Tr (El zF × Unit) := let y1 := (xP a0.2.2.2.2.1); cond (!y1.2.1) (cond (a0.2.2.2.2.2.1 == (3 : Int)) (.v ((zDH a0 4).1, ())) (.v ((zDH a0 6).1, ()))) (.lp zHU (a0, y1.1, (), (), ([] : Li zC), (0 : Int), ()) (fun r5 => .v (r5.1, ())) (fun t2 => cond (decide (@GE.ge Int _ (t2.2.2.2.2.1.length : Int) (30 : Int))) (.v ((t2.1.1, (t2.1.2.1, ((zA4 ([] : Li zC) t2.2.1 (⟨#[]⟩ : ByteArray) t2.1.2.2.2.2.2.2).1, t2.1.2.2.2))), ())) (.v ((t2.1.1, (t2.1.2.1, ((zA4 t2.2.2.2.2.1 t2.2.1 (⟨#[]⟩ : ByteArray) t2.1.2.2.2.2.2.2).1, t2.1.2.2.2))), ()))))
def zCw a0 := (zGp a0).val
abbrev zUs := gd [zEu] [zEu] (U1 zCw)
theorem zhD : Ok zUs (U1 zGp) := okG (an zYv (an zIF trivial)) (an @zQF trivial) trivial
theorem zNe {a0 : El zF} : (zCw a0).1.1 = a0.1 := psG (T := zGp a0) (P := fun y => y.1.1 = a0.1) (an zIF trivial) (an @zQF trivial) trivial
def zOQ := cn mo [zUu, zYD, zBm, zJX] [zHU] 161 zUs Tryz.f161 (U1 zGp) zhD
def zd (a0 : El zF) (a1 : Int) : El zF × Unit := ((zCw (a0.1, (a0.2.1, ((zFh a0.2.2.1).1, (([] : Li zD), (a0.2.2.2.2.1, (a1, a0.2.2.2.2.2.2))))))).1, ())
abbrev zkD := gd [zEu, vd .int] [zEu] (U2 zd)
theorem zLQ {a0 : El zF} {a1 : Int} : (zd a0 a1).1.1 = a0.1 := by
 have F := (an @zNe trivial)
 unfold zd
 simp (maxDischargeDepth := 12) [*]
def zQ2 := cv mo [zOo, zOQ] 80 zkD Tryz.f80
abbrev zFM (a0 : El zF) (a1 : El zK) : Tr (El zF × Unit) := let k1 := zEo a0.1 a1; cond (k1.1 == (0 : Int)) (.v ((zd (k1.2.1, a0.2) (3 : Int)).1, ())) (.v ((k1.2.1, a0.2), ()))
def xB a0 a1 := (zFM a0 a1).val
@[simp] def zrv (a0 : El zF) (_a1 : El zK) : Prop := (a0.1.1.length : Int) ≤ 40
abbrev zdw := gd [zEu, va zK] [zEu] (U2 xB)
theorem zA0 {a0 : El zF} {a1 : El zK} (h : (a0.1.1.length : Int) ≤ 40) : ((xB a0 a1).1.1.1.length : Int) ≤ 40 := psG (T := zFM a0 a1) (P := fun y => (y.1.1.1.length : Int) ≤ 40) trivial (an h (an @zT7 (an @zLQ trivial))) trivial
def zDR := cn mo [zTx, zQ2] [] 153 zdw Tryz.f153 (U2 zFM) (fun _ _ _ => by simp [zFM])
abbrev zL0 : LB := ⟨[], ⟨26, [.d zL], [(0, vd (.lst zH)), (1, vd .str), (4, .pt 0 0), (6, vd .int)], []⟩, ⟨26, [.d zL], [(4, .pt 0 0), (5, vd .bool)], []⟩, 0, U5 fun (w0 : El zL) (l0 : Li zH) (s1 : ByteArray) _ (n6 : Int) => cond (decide (n6 < (l0.length : Int))) (.ix n6 l0 (cond ((zB zH l0 n6).1.toList == s1.toList) (.ix n6 l0 (.v (.ret ((zB zH l0 n6).2, (), true, ())))) (.ik (n6 + 1) (.v (.go (w0, l0, s1, (), (n6 + 1), ())))))) (.v (.brk (w0, l0, s1, (), n6, ())))⟩
def zd0 (w0 : El zL) (l0 : Li zH) (s1 : ByteArray) := rS (l := zL0) (L := l0) (fun i => (w0, l0, s1, (), i, ())) (fun i x => bif (x.1.toList == s1.toList) then (some (x.2, (), true, ())) else none)
theorem zeI : SF zL0 (U5 fun _ (l0 : Li zH) _ _ (n6 : Int) => (0 ≤ n6, (l0.length : Int) - n6)) := sfA
abbrev zPL (a0 : Li zH) (a1 : ByteArray) : Tr (El zL × Bool × Unit) := let k1 := ((0 : Int), ((0 : Int), (⟨#[]⟩ : ByteArray))); .lp zL0 (k1, a0, a1, (), (0 : Int), ()) (fun r1 => .v (r1.1, r1.2.2.1, ())) (fun _ => .v (k1, false, ()))
def xf a0 a1 := (zPL a0 a1).val
abbrev zcI := fd [vd (.lst zH), vd .str] [va zL, vd .bool] (U2 xf)
theorem zlu : Ok zcI (U2 zPL) := vN zeI
def zcU := cn mo [] [zL0] 393 zcI Tryz.f393 (U2 zPL) zlu
def zoC (a0 : Li zH) (a1 : ByteArray) := (by
 simp only [xf, zPL, zY, zq, ze]
 rewrite [zd0, xH]
 dsimp only : xf a0 a1 = _)
abbrev zAK : LB := ⟨[], ⟨102, [.d zM, .d zK], [(2, vd (.lst zH)), (3, .pt 0 0), (4, .pt 1 0), (8, vo zH), (9, vd .int)], []⟩, ⟨102, [], [(6, vo zH), (7, vd .bool)], []⟩, 0, U7 fun (w0 : El zM) (w1 : El zK) (l2 : Li zH) _ _ (l8 : Li zH) (n9 : Int) => cond (decide (n9 < (w0.2.1.length : Int))) (.ix n9 w0.2.1 (let k3 := zB yb w0.2.1 n9; let y1 := (xf l8 k3.2.1); let k4 : Tr (St _ _) := .ik (n9 + 1) (.v (.go (w0, w1, l2, (), (), l8, (n9 + 1), ()))); let k1 : Tr (St _ _) := cond (k3.1 == (1 : Int)) (cond (!y1.2.1) (.ix n9 w1.2 (let k6 := (k3.2.1, (zB zL w1.2 n9)); .ck (((l8.length + [k6].length : Nat) : Int) ≤ 16777216) (.ik (n9 + 1) (.v (.go (w0, w1, l2, (), (), (l8 ++ [k6]), (n9 + 1), ())))))) k4) k4; let k5 : Tr (St _ _) := .ck ((l2.length : Int) ≤ 16777216) (.v (.ret (l2, false, ()))); let k2 : Tr (St _ _) := cond (k3.1 == (1 : Int)) (cond y1.2.1 (.ix n9 w1.2 (cond (!((y1.1.1 == (zB zL w1.2 n9).1) && ((y1.1.2.1 == (zB zL w1.2 n9).2.1) && ((y1.1.2.2.toList == (zB zL w1.2 n9).2.2.toList) && true)))) k5 k1)) k1) k1; cond (k3.1 == (2 : Int)) (.ix n9 w1.2 (cond (!((k3.2.2.1 == (zB zL w1.2 n9).1) && ((k3.2.2.2.1 == (zB zL w1.2 n9).2.1) && ((k3.2.2.2.2.toList == (zB zL w1.2 n9).2.2.toList) && true)))) k5 k2)) k2)) (.v (.brk (w0, w1, l2, (), (), l8, n9, ())))⟩
theorem zWH : PO zAK (U7 fun _ _ (l20 : Li zH) _ _ _ _ => fun r => (r.1.length : Int) ≤ (l20.length : Int)) (U7 fun (w00 : El zM) (w10 : El zK) (l20 : Li zH) _ _ _ _ => U7 fun (w0 : El zM) (w1 : El zK) (l2 : Li zH) _ _ (l8 : Li zH) (n9 : Int) => w00 = w0 ∧ w10 = w1 ∧ l20 = l2 ∧ ((l8.length : Int) ≤ (l2.length : Int) + n9 ∧ n9 ≤ (w0.2.1.length : Int))) := poA
theorem zYF : SF zAK (U7 fun (w0 : El zM) (w1 : El zK) (l2 : Li zH) _ _ (l8 : Li zH) (n9 : Int) => (0 ≤ n9 ∧ (w0.2.1.length : Int) ≤ (w1.2.length : Int) ∧ (l8.length : Int) ≤ (l2.length : Int) + n9 ∧ (l2.length : Int) + (w0.2.1.length : Int) ≤ 16777216, (w0.2.1.length : Int) - n9)) := sfA
abbrev zDF (a0 : El zM) (a1 : El zK) (a2 : Li zH) : Tr (Li zH × Bool × Unit) := .ck ((a2.length : Int) ≤ 16777216) (cond (!(a0.1.toList == a1.1.toList)) (.v (a2, false, ())) (cond ((a0.2.1.length : Int) != (a1.2.length : Int)) (.v (a2, false, ())) (.lp zAK (a0, a1, a2, (), (), a2, (0 : Int), ()) (fun r3 => .v (r3.1, r3.2.1, ())) (fun t1 => .v (t1.2.2.2.2.2.1, true, ())))))
def zt a0 a1 a2 := (zDF a0 a1 a2).val
def zGj (a0 : El zM) (_a1 : El zK) (a2 : Li zH) : Prop := (a2.length : Int) + (a0.2.1.length : Int) ≤ 16777216
abbrev zUa := fq [va zM, va zK, vd (.lst zH)] [vo zH, vd .bool] (U3 zGj) (U3 zt)
theorem zfd : Ok zUa (U3 zDF) := by
 rintro ⟨(a0 : El zM), (a1 : El zK), (a2 : Li zH), ⟨⟩⟩ hw hp
 replace hp : zGj a0 a1 a2 := hp
 show (zDF a0 a1 a2).ok
 unfold zGj at hp
 unfold zDF
 refine zg ?_ ?_
 ·have _ : (a2.length : Int) ≤ 16777216 := vC (hw.2.2.1.1); first | omega | (simp <;> omega)
 ·refine yK (fun _ => trivial) (fun h1 => ?_)
  refine yK (fun _ => trivial) (fun h2 => ?_)
  replace h2 := zT9 h2
  refine zg ?_ ?_
  ·exact zYF _ ⟨by (dsimp only <;> first | omega | assumption | (simp <;> omega)), by (dsimp only <;> first | omega | assumption | (simp <;> omega)), by (dsimp only <;> first | omega | assumption | (simp <;> omega)), by (dsimp only <;> first | omega | assumption | (simp <;> omega))⟩
  ·simp
def zTm := cn mo [zcU] [zAK] 377 zUa Tryz.f377 (U3 zDF) zfd
theorem zgI (p : El zM) (f : El zK) (l : Li zH) : ((zt p f l).1.length : Int) ≤ (l.length : Int) + (p.2.1.length : Int) := by
 simp only [zt, zDF, z0, ze, zY, zq]
 cases h1 : (!(p.1.toList == f.1.toList)) with
 | true => show (l.length : Int) ≤ _; omega
 | false =>
  cases h2 : ((p.2.1.length : Int) != (f.2.length : Int)) with
  | true => show (l.length : Int) ≤ _; omega
  | false =>
   have := zWH (p, f, l, (), (), l, (0 : Int), ()) ⟨rfl, rfl, rfl, by dsimp only; constructor <;> omega⟩
   revert this
   cases (LB.run zAK (p, f, l, (), (), l, (0 : Int), ())) with
   | ret r => obtain ⟨r1, r2, ⟨⟩⟩ := r; intro h; have h : (r1.length : Int) ≤ (l.length : Int) := h; show (r1.length : Int) ≤ _; omega
   | brk t => obtain ⟨t0, t1, t2, ⟨⟩, ⟨⟩, t8, n, ⟨⟩⟩ := t; rintro ⟨rfl, rfl, rfl, h3, h4⟩; obtain ⟨n, rfl⟩ : ∃ y : Int, y = n := ⟨_, rfl⟩; replace h3 : (t8.length : Int) ≤ (l.length : Int) + n := h3; replace h4 : n ≤ (p.2.1.length : Int) := h4; show (t8.length : Int) ≤ _; omega
   | go t => obtain ⟨t0, t1, t2, ⟨⟩, ⟨⟩, t8, n, ⟨⟩⟩ := t; rintro ⟨rfl, rfl, rfl, h3, h4⟩; obtain ⟨n, rfl⟩ : ∃ y : Int, y = n := ⟨_, rfl⟩; replace h3 : (t8.length : Int) ≤ (l.length : Int) + n := h3; replace h4 : n ≤ (p.2.1.length : Int) := h4; show (t8.length : Int) ≤ _; omega
abbrev vS : LB := ⟨[], ⟨50, [.d zG, .d zE], [(2, vd (.lst zH)), (3, .pt 0 0), (4, .pt 1 0), (7, vd .int), (8, vd .int)], []⟩, ⟨50, [], [(6, vd .bool)], []⟩, 2, U7 fun (w0 : El zG) (w1 : El zE) (l2 : Li zH) _ _ (n7 n8 : Int) => let k2 := .brk (w0, w1, l2, (), (), n7, n8, ()); cond (decide (n8 < (w1.1.length : Int))) (.ix n7 w0.2.2.1 (let k1 := zB zM w0.2.2.1 n7; cond k1.2.2 (.ix n7 w0.2.2.1 (.ix n8 w1.1 (.ck (zGj k1 (zB zD w1.1 n8).2 l2) (cond (zt k1 (zB zD w1.1 n8).2 l2).2.1 (.v (.ret (true, ()))) (.ik (n8 + 1) (.v (.go (w0, w1, l2, (), (), n7, (n8 + 1), ())))))))) (.v k2))) (.v k2)⟩
theorem zZI : PO vS (fun _ _ => True) (U7 fun (w00 : El zG) (w10 : El zE) (l20 : Li zH) _ _ (n70 : Int) _ => U7 fun (w0 : El zG) (w1 : El zE) (l2 : Li zH) _ _ (n7 : Int) _ => w00 = w0 ∧ w10 = w1 ∧ l20 = l2 ∧ n70 = n7) := poA
theorem zZW : SF vS fun x : El zG × El zE × Li zH × Unit × Unit × Int × Int × Unit => (0 ≤ x.2.2.2.2.2.2.1 ∧ (0 ≤ x.2.2.2.2.2.1 ∧ x.2.2.2.2.2.1 < (x.1.2.2.1.length : Int)) ∧ (∀ p ∈ x.1.2.2.1, (x.2.2.1.length : Int) + (p.2.1.length : Int) ≤ 16777216), (x.2.1.1.length : Int) - x.2.2.2.2.2.2.1) := sfk (by
 rintro ⟨(w0 : El zG), (w1 : El zE), (l2 : Li zH), ⟨⟩, ⟨⟩, (n7 : Int), (n8 : Int), ⟨⟩⟩ hI hw
 obtain ⟨i0, i1, k0⟩ := hI
 dsimp only at i0 i1 k0
 have _ : -9223372036854775808 ≤ n7 ∧ n7 ≤ 9223372036854775807 := zAd hw.2.2.2.2.2.1
 have _ : (w1.1.length : Int) ≤ 16777216 := vC (hw.2.1.1.1)
 have _ : (w0.2.2.1.length : Int) ≤ 16777216 := vC (hw.1.2.2.1.1)
 simp [vS, U7, -Prod.forall]
 repeat' first | exact k0 _ (zV (by omega)) | assumption | intro _ | apply And.intro
 all_goals omega)
abbrev zDA : LB := ⟨[], ⟨50, [.d zG, .d zE], [(2, vd (.lst zH)), (3, .pt 0 0), (4, .pt 1 0), (7, vd .int)], []⟩, ⟨50, [], [(6, vd .bool)], []⟩, 0, U6 fun (w0 : El zG) (w1 : El zE) (l2 : Li zH) _ _ (n7 : Int) => cond (decide (n7 < (w0.2.2.1.length : Int))) (.lp vS (w0, w1, l2, (), (), n7, (0 : Int), ()) (fun r3 => .v (.ret (r3.1, ()))) (fun t1 => let k1 := t1.2.2.2.2.2.1 + (1 : Int); .ik k1 (.v (.go (t1.1, t1.2.1, t1.2.2.1, (), (), k1, ()))))) (.v (.brk (w0, w1, l2, (), (), n7, ())))⟩
theorem zZh : SF zDA fun x : El zG × El zE × Li zH × Unit × Unit × Int × Unit => (0 ≤ x.2.2.2.2.2.1 ∧ (∀ p ∈ x.1.2.2.1, (x.2.2.1.length : Int) + (p.2.1.length : Int) ≤ 16777216), (x.1.2.2.1.length : Int) - x.2.2.2.2.2.1) := sfk (by
 rintro ⟨(w0 : El zG), (w1 : El zE), (l2 : Li zH), ⟨⟩, ⟨⟩, (n7 : Int), ⟨⟩⟩ hI hw
 dsimp only [U6] at hI ⊢
 obtain ⟨i0, k0⟩ := hI
 have hb : (w0.2.2.1.length : Int) ≤ 16777216 := vC (hw.1.2.2.1.1)
 refine ⟨by omega, ?_⟩
 refine xI (fun h1 => ?_) (fun h1 => ?_)
 ·replace h1 : n7 < (w0.2.2.1.length : Int) := of_decide_eq_true h1
  refine z7 ?_ ?_
  ·exact zZW _ ⟨by (dsimp only <;> first | omega | assumption | (simp <;> omega)), by (dsimp only <;> first | omega | assumption | (simp <;> omega)), by (dsimp only <;> first | omega | assumption | (simp <;> omega))⟩
  ·refine zQi (zZI _ ⟨rfl, rfl, rfl, rfl⟩) (fun r _ => ?_) (fun t ht => ?_)
   ·obtain ⟨r3b6, ⟨⟩⟩ := r
    dsimp only
    exact trivial
   ·obtain ⟨t3w0, t3w1, t3l2, ⟨⟩, ⟨⟩, (t3n7 : Int), (t3n8 : Int), ⟨⟩⟩ := t
    dsimp only [U7] at ht ⊢
    obtain ⟨rfl, rfl, rfl, rfl⟩ := ht
    refine z7 ?_ ?_
    ·exact ink (by omega) (by omega)
    ·exact show (0 ≤ (n7 + 1) ∧ (∀ p ∈ w0.2.2.1, (l2.length : Int) + (p.2.1.length : Int) ≤ 16777216)) ∧ (w0.2.2.1.length : Int) - (n7 + 1) < (w0.2.2.1.length : Int) - n7 ∧ 0 < (w0.2.2.1.length : Int) - n7 from ⟨⟨by (first | omega | rfl | assumption | (simp <;> omega)), by (first | omega | rfl | assumption | (simp <;> omega))⟩, by (first | omega | (simp only [List.length_set]; omega)), by (first | omega | (simp only [List.length_set]; omega))⟩
 ·replace h1 : ¬ (n7 < (w0.2.2.1.length : Int)) := of_decide_eq_false h1
  exact trivial)
abbrev zFl (a0 : El zG) (a1 : El zE) (a2 : Li zH) : Tr (Bool × Unit) := .lp zDA (a0, a1, a2, (), (), (0 : Int), ()) (fun r4 => .v (r4.1, ())) (fun _ => .v (false, ()))
def zEG a0 a1 a2 := (zFl a0 a1 a2).val
def zLy (a0 : El zG) (_a1 : El zE) (a2 : Li zH) : Prop := ∀ p ∈ a0.2.2.1, (a2.length : Int) + (p.2.1.length : Int) ≤ 16777216
abbrev zWb := fq [va zG, va zE, vd (.lst zH)] [vd .bool] (U3 zLy) (U3 zEG)
theorem zki : Ok zWb (U3 zFl) := by
 rintro ⟨(a0 : El zG), (a1 : El zE), (a2 : Li zH), ⟨⟩⟩ hw hp
 replace hp : zLy a0 a1 a2 := hp
 show (zFl a0 a1 a2).ok
 unfold zLy at hp
 unfold zFl
 refine zg ?_ ?_
 ·exact zZh _ ⟨by (dsimp only <;> first | omega | rfl | assumption | (simp <;> omega)), by (dsimp only <;> first | omega | rfl | assumption | (simp <;> omega))⟩
 ·simp
def zjl := cn mo [zTm] [zDA, vS] 375 zWb Tryz.f375 (U3 zFl) zki
abbrev zOn (a0 : El yb) (a1 : Li zH) : Tr (El zL × Bool × Unit) := cond (a0.1 == (2 : Int)) (.v (a0.2.2, true, ())) (cond (a0.1 == (1 : Int)) (.v ((xf a1 a0.2.1).1, (xf a1 a0.2.1).2.1, ())) (.v (((0 : Int), ((0 : Int), (⟨#[]⟩ : ByteArray))), false, ())))
def zDT a0 a1 := (zOn a0 a1).val
abbrev znb := fd [va yb, vd (.lst zH)] [va zL, vd .bool] (U2 zDT)
def zcA := cn mo [zcU] [] 378 znb Tryz.f378 (U2 zOn) (fun _ _ _ => by simp [zOn])
abbrev zLI (a0 a1 : El zL) : Tr (Bool × Unit) := cond (a0.1 != a1.1) (.v (decide (a0.1 < a1.1), ())) (cond (a0.2.1 != a1.2.1) (.v (decide (a0.2.1 < a1.2.1), ())) (.v ((Op.bytesLess a0.2.2.toList a1.2.2.toList), ())))
def zMP a0 a1 := (zLI a0 a1).val
abbrev zh4 := fd [va zL, va zL] [vd .bool] (U2 zMP)
def ziQ := cn mo [] [] 399 zh4 Tryz.f399 (U2 zLI) (fun _ _ _ => by simp [zLI])
abbrev zSX (a0 : El z5) (a1 : Li zH) : Tr (Bool × Unit) := let k2 := zDT a0.2.1 a1; cond (!k2.2.1) (.v (false, ())) (let k3 := zDT a0.2.2 a1; cond (!k3.2.1) (.v (false, ())) (let k1 := (k2.1.1 == k3.1.1) && ((k2.1.2.1 == k3.1.2.1) && ((k2.1.2.2.toList == k3.1.2.2.toList) && true)); cond (a0.1 == (1 : Int)) (.v (k1, ())) (cond (a0.1 == (2 : Int)) (.v ((!k1), ())) (cond (a0.1 == (3 : Int)) (.v ((zMP k2.1 k3.1).1, ())) (.v (false, ()))))))
def zNW a0 a1 := (zSX a0 a1).val
abbrev zqi := fd [va z5, vd (.lst zH)] [vd .bool] (U2 zNW)
def zqV := cn mo [zcA, ziQ] [] 392 zqi Tryz.f392 (U2 zSX) (fun _ _ _ => by simp [zSX])
abbrev zJI : LB := ⟨[], ⟨19, [], [(0, vd (.lst z5)), (1, vd (.lst zH)), (5, vd .int)], []⟩, ⟨19, [], [(4, vd .bool)], []⟩, 0, U3 fun (l0 : Li z5) (l1 : Li zH) (n5 : Int) => cond (decide (n5 < (l0.length : Int))) (.ix n5 l0 (cond (!(zNW (zB z5 l0 n5) l1).1) (.v (.ret (false, ()))) (.ik (n5 + 1) (.v (.go (l0, l1, (n5 + 1), ())))))) (.v (.brk (l0, l1, n5, ())))⟩
def zZV (l0 : Li z5) (l1 : Li zH) := rA (l := zJI) (L := l0) (fun i => (l0, l1, i, ())) (fun i x => bif (!(zNW x l1).1) then false else true) (false, ())
theorem zZi : SF zJI (U3 fun (l0 : Li z5) _ (n5 : Int) => (0 ≤ n5, (l0.length : Int) - n5)) := sfA
abbrev zMF (a0 : Li z5) (a1 : Li zH) : Tr (Bool × Unit) := .lp zJI (a0, a1, (0 : Int), ()) (fun r2 => .v (r2.1, ())) (fun _ => .v (true, ()))
def zEL a0 a1 := (zMF a0 a1).val
abbrev zYt := fd [vd (.lst z5), vd (.lst zH)] [vd .bool] (U2 zEL)
theorem zkc : Ok zYt (U2 zMF) := vN zZi
def zie := cn mo [zqV] [zJI] 376 zYt Tryz.f376 (U2 zMF) zkc
def ziK (a0 : Li z5) (a1 : Li zH) := (by
 simp only [zEL, zMF, zY, zq, ze]
 rewrite [zZV, z3]
 dsimp only : zEL a0 a1 = _)
abbrev z4 (F : Li zA → El zG → El zE → Li .int → Li zH → Li zA × Unit) (Q : Li zA → El zG → El zE → Li .int → Li zH → Prop) : LB := ⟨[0, 2, 3], ⟨84, [.o (.d zA), .d zG, .d zE], [(0, .pt 0 0), (3, vd (.lst .int)), (4, vd (.lst zH)), (6, .pt 1 0), (7, .pt 2 0), (10, vd .int)], []⟩, ⟨84, [.o (.d zA)], [], []⟩, 0, U9 fun (w0 : Li zA) (w1 : El zG) (w2 : El zE) _ (l3 : Li .int) (l4 : Li zH) _ _ (n10 : Int) => cond (decide (n10 < (w2.1.length : Int))) (let k2 := (l3.length : Int); .ix k2 w1.2.2.1 (.ix n10 w2.1 (let k1 := zB zD w2.1 n10; .ck (zGj (zB zM w1.2.2.1 k2) k1.2 l4) (let y1 := (zt (zB zM w1.2.2.1 k2) k1.2 l4); cond y1.2.1 (.ck (k2 ≤ 16777216) (.ix n10 w2.1 (.ck (((l3.length + [k1.1].length : Nat) : Int) ≤ 16777216) (.ck (Q w0 w1 w2 (l3 ++ [k1.1]) y1.1) (.ik (n10 + 1) (.v (.go ((F w0 w1 w2 (l3 ++ [k1.1]) y1.1).1, w1, w2, (), l3, l4, (), (), (n10 + 1), ())))))))) (.ik (n10 + 1) (.v (.go (w0, w1, w2, (), l3, l4, (), (), (n10 + 1), ())))))))) (.v (.brk (w0, w1, w2, (), l3, l4, (), (), n10, ())))⟩
def xz (F : Li zA → El zG → El zE → Li .int → Li zH → Li zA × Unit) (Q : Li zA → El zG → El zE → Li .int → Li zH → Prop) (a0 : Li zA) (a1 : El zG) (a2 : El zE) (a3 : Li .int) (a4 : Li zH) : Tr (Li zA × Unit) := let k1 := (a3.length : Int); cond (k1 == (zc a1).1) (.ck (zLy a1 a2 a4) (cond (!(zEG a1 a2 a4).1) (cond (zEL a1.2.2.2.1 a4).1 (.ck (k1 ≤ 16777216) (.ck ((a4.length : Int) ≤ 16777216) (.ck (((a0.length + [((0 : Int), (a3, a4))].length : Nat) : Int) ≤ 16777216) (.v ((a0 ++ [((0 : Int), (a3, a4))]), ()))))) (.v (a0, ()))) (.v (a0, ())))) (.lp (z4 F Q) (a0, a1, a2, (), a3, a4, (), (), (0 : Int), ()) (fun r4 => .v (r4.1, ())) (fun t1 => .v (t1.1, ())))
def zEj : Nat → (Li zA → El zG → El zE → Li .int → Li zH → Li zA × Unit) × (Li zA → El zG → El zE → Li .int → Li zH → Prop)
 | 0 => (fun _ _ _ _ _ => default, fun _ _ _ _ _ => False)
 | n + 1 => (fun a0 a1 a2 a3 a4 => (xz (zEj n).1 (zEj n).2 a0 a1 a2 a3 a4).val, fun a0 a1 a2 a3 a4 => (xz (zEj n).1 (zEj n).2 a0 a1 a2 a3 a4).ok)
def ya (n : Nat) : Li zA → El zG → El zE → Li .int → Li zH → Li zA × Unit := (zEj n).1
def xQ (n : Nat) : Li zA → El zG → El zE → Li .int → Li zH → Prop := (zEj n).2
abbrev zIO (n : Nat) : FnD := ⟨[zrp, va zG, va zE, vd (.lst .int), vd (.lst zH)], [zrp], false, fun a => some (xQ n a.1 a.2.1 a.2.2.1 a.2.2.2.1 a.2.2.2.2.1), fun a => ya n a.1 a.2.1 a.2.2.1 a.2.2.2.1 a.2.2.2.2.1⟩
def zj7 (n : Nat) (ih : zKC Tryz.prog 347 (zIO n)) : List (Con Tryz.prog) := ⟨347, zIO n, ih⟩ :: [zGy, zjl, zie, zTm]
theorem zTt : ∀ n, zKC Tryz.prog 347 (zIO n)
 | 0 => ztN (by kernel_rfl) (fn := Tryz.f347) (by kernel_rfl) (c := (Tryz.f347.body.getD .skip)) (by kernel_rfl) (by kernel_rfl) fun _ h => h
 | n + 1 => zc0 mo g0 (zj7 n (zTt n)) [z4 (ya n) (xQ n)] (fn := Tryz.f347) (by kernel_rfl) (c := (Tryz.f347.body.getD .skip)) (by kernel_rfl) (by kernel_rfl) (zIO (n + 1)) (by kernel_rfl) ⟨lk, trivial⟩ (fun a _ h => okT (t' := xz (ya n) (xQ n) a.1 a.2.1 a.2.2.1 a.2.2.2.1 a.2.2.2.2.1) (by kernel_rfl) h rfl)
def zkN : Con Tryz.prog := ⟨347, zIO 64, zTt 64⟩
theorem zaO {F : Li zA → El zG → El zE → Li .int → Li zH → Li zA × Unit} {Q : Li zA → El zG → El zE → Li .int → Li zH → Prop} {r : El zG} {s : El zE} {ids : Li .int} {l : Li zH} {k : Nat}
  (hF : ∀ (w : Li zA) (x : Int) (y : Li zH), w.length + k ≤ 16777216 → (y.length : Int) ≤ 5 * (ids.length : Int) + 5 → Q w r s (ids ++ [x]) y ∧ (F w r s (ids ++ [x]) y).1.length ≤ w.length + k)
  (hpos : ids.length < r.2.2.1.length) (hargs : ∀ p ∈ r.2.2.1, p.2.1.length ≤ 5) (hl : l.length ≤ 5 * ids.length) (hids : ids.length ≤ 3) (hit : s.1.length ≤ 40) (w0 : Li zA) (h0 : w0.length + 40 * k ≤ 16777216) :
  LB.sf (z4 F Q) (w0, r, s, (), ids, l, (), (), (0 : Int), ()) ∧ (LB.run (z4 F Q) (w0, r, s, (), ids, l, (), (), (0 : Int), ())).all (fun t => t.1.length ≤ w0.length + 40 * k) (fun t => t.1.length ≤ w0.length + 40 * k) (fun t => t.1.length ≤ w0.length + 40 * k) := by
 have step : ∀ (w : Li zA) (n : Int), 0 ≤ n → n ≤ (s.1.length : Int) → w.length ≤ w0.length + n.toNat * k → ((z4 F Q).T (w, r, s, (), ids, l, (), (), n, ())).ok ∧
   St.all (fun (t : (z4 F Q).r.T) => (t.1 : Li zA).length ≤ w0.length + 40 * k) (fun (t : (z4 F Q).d.T) => (t.1 : Li zA).length ≤ w0.length + 40 * k) (fun y => n < (s.1.length : Int) ∧ ∃ w' : Li zA, y = (w', r, s, (), ids, l, (), (), (n + 1), ()) ∧ w'.length ≤ w0.length + (n + 1).toNat * k) ((z4 F Q).b (w, r, s, (), ids, l, (), (), n, ())) := by
  intro w n h1 h2 h3
  have hmem := zV (t := zM) (l := r.2.2.1) (i := (ids.length : Int)) (by omega)
  have ha := hargs _ hmem
  have key : n < (s.1.length : Int) → n.toNat * k + k ≤ 40 * k ∧ (n + 1).toNat * k = n.toNat * k + k := fun h => by
   constructor
   ·rw [← Nat.succ_mul]; exact Nat.mul_le_mul_right k (by omega)
   ·rw [show (n + 1).toNat = n.toNat + 1 by omega, Nat.succ_mul]
  have hm : ∀ x : El zK, ((((zt (zB zM r.2.2.1 (ids.length : Int)) x l).1.length : Nat)) : Int) ≤ 5 * (ids.length : Int) + 5 := fun x => by have := zgI (zB zM r.2.2.1 (ids.length : Int)) x l; omega
  constructor
  ·dsimp only [z4, U9, U12]
   refine yK (fun h => ?_) (fun _ => trivial)
   replace h : n < (s.1.length : Int) := of_decide_eq_true h
   obtain ⟨k1, k2⟩ := key h
   have hq := hF w (zB zD s.1 n).1 _ (by omega) (hm (zB zD s.1 n).2)
   refine zg ⟨by omega, by omega⟩ (zg ⟨h1, h⟩ (zg ?_ (yK (fun _ => zg ?_ (zg ⟨h1, h⟩ (zg ?_ (zg hq.1 (zg (ink (by omega) (by omega)) trivial))))) (fun _ => zg (ink (by omega) (by omega)) trivial))))
   ·show (l.length : Int) + ((zB zM r.2.2.1 (ids.length : Int)).2.1.length : Int) ≤ 16777216
    omega
   ·omega
   ·show (((ids.length + 1 : Nat)) : Int) ≤ 16777216
    omega
  ·simp only [LB.b, z4, U9, z0, ze, zY]
   refine zDu (fun h => ?_) (fun h => ?_)
   ·replace h : n < (s.1.length : Int) := of_decide_eq_true h
    obtain ⟨k1, k2⟩ := key h
    have hq := hF w (zB zD s.1 n).1 _ (by omega) (hm (zB zD s.1 n).2)
    refine zDu (fun _ => ?_) (fun _ => ?_)
    ·exact zNg ⟨h, _, rfl, by have := hq.2; omega⟩
    ·exact zNg ⟨h, _, rfl, by omega⟩
   ·refine zRR ?_
    have : n.toNat * k ≤ 40 * k := Nat.mul_le_mul_right k (by omega)
    show w.length ≤ _
    omega
 have I0 : ∃ (w : Li zA) (n : Int), (w0, r, s, (), ids, l, (), (), (0 : Int), ()) = ((w, r, s, (), ids, l, (), (), n, ()) : (z4 F Q).d.T) ∧ 0 ≤ n ∧ n ≤ (s.1.length : Int) ∧ w.length ≤ w0.length + n.toNat * k := ⟨w0, 0, rfl, by omega, by omega, by omega⟩
 constructor
 ·refine LB.safe' (l := z4 F Q) (fun x => ∃ (w : Li zA) (n : Int), x = (w, r, s, (), ids, l, (), (), n, ()) ∧ 0 ≤ n ∧ n ≤ (s.1.length : Int) ∧ w.length ≤ w0.length + n.toNat * k) (fun x => ((s.1.length : Int) - x.2.2.2.2.2.2.2.2.1).toNat) (fun x hx _ => ?_) I0 (fun _ => ?_)
  ·obtain ⟨w, n, rfl, h1, h2, h3⟩ := hx
   obtain ⟨g1, g2⟩ := step w n h1 h2 h3
   refine ⟨g1, ?_⟩
   show St.all _ _ _ ((z4 F Q).b (w, r, s, (), ids, l, (), (), n, ()))
   revert g2
   cases ((z4 F Q).b (w, r, s, (), ids, l, (), (), n, ())) with
   | ret t => intro _; exact trivial
   | brk t => intro _; exact trivial
   | go y =>
    rintro ⟨h4, w', rfl, h5⟩
    exact ⟨⟨w', n + 1, rfl, by omega, by omega, h5⟩, by show ((s.1.length : Int) - (n + 1)).toNat < ((s.1.length : Int) - n).toNat; omega⟩
  ·show ((s.1.length : Int) - 0).toNat < 18446744073709551616
   omega
 ·refine LB.post3 (l := z4 F Q) (fun x => ∃ (w : Li zA) (n : Int), x = (w, r, s, (), ids, l, (), (), n, ()) ∧ 0 ≤ n ∧ n ≤ (s.1.length : Int) ∧ w.length ≤ w0.length + n.toNat * k) (fun x hx => ?_) (fun x hx => ?_) I0
  ·obtain ⟨w, n, rfl, h1, h2, h3⟩ := hx
   obtain ⟨g1, g2⟩ := step w n h1 h2 h3
   show St.all _ _ _ ((z4 F Q).b (w, r, s, (), ids, l, (), (), n, ()))
   revert g2
   cases ((z4 F Q).b (w, r, s, (), ids, l, (), (), n, ())) with
   | ret t => intro h; exact h
   | brk t => intro h; exact h
   | go y =>
    rintro ⟨h4, w', rfl, h5⟩
    exact ⟨w', n + 1, rfl, by omega, by omega, h5⟩
  ·obtain ⟨w, n, rfl, h1, h2, h3⟩ := hx
   have : n.toNat * k ≤ 40 * k := Nat.mul_le_mul_right k (by omega)
   show w.length ≤ _
   omega
theorem zQE {r : El zG} {s : El zE} (hit : s.1.length ≤ 40) (hargs : ∀ p ∈ r.2.2.1, p.2.1.length ≤ 5) (hnp : (r.2.2.1.filter (fun p => !p.2.2)).length ≤ 3) : ∀ (n : Nat) (out : Li zA) (ids : Li .int) (l : Li zH), ids.length ≤ (r.2.2.1.filter (fun p => !p.2.2)).length → (r.2.2.1.filter (fun p => !p.2.2)).length - ids.length < n → l.length ≤ 5 * ids.length → out.length + 40 ^ ((r.2.2.1.filter (fun p => !p.2.2)).length - ids.length) ≤ 16777216 →
  xQ n out r s ids l ∧ (ya n out r s ids l).1.length ≤ out.length + 40 ^ ((r.2.2.1.filter (fun p => !p.2.2)).length - ids.length) := by
 intro n
 induction n with
 | zero => intro out ids l h1 h2; omega
 | succ n ih =>
  intro out ids l h1 h2 h3 h4
  skip
  by_cases he : ids.length = (r.2.2.1.filter (fun p => !p.2.2)).length
  ·have hc : ((ids.length : Int) == (zc r).1) = true := by rw [zGF]; simp [he]
   have hz : 40 ^ ((r.2.2.1.filter (fun p => !p.2.2)).length - ids.length) = 1 := by rw [he, Nat.sub_self]
   rw [hz] at h4 ⊢
   constructor
   ·show (xz (ya n) (xQ n) out r s ids l).ok
    dsimp only [xz]
    rw [hc]
    refine zg ?_ (yK (fun _ => yK (fun _ => zg ?_ (zg ?_ (zg ?_ trivial))) (fun _ => trivial)) (fun _ => trivial))
    ·intro p hp; have := hargs p hp; omega
    ·omega
    ·omega
    ·show (((out.length + 1 : Nat)) : Int) ≤ 16777216
     omega
   ·show (xz (ya n) (xQ n) out r s ids l).val.1.length ≤ _
    simp only [xz, z0, ze, zY, zq]
    rw [hc]
    show ((bif _ then _ else _ : Li zA × Unit)).1.length ≤ _
    cases (!(zEG r s l).1) with
    | false => show out.length ≤ _; omega
    | true =>
     cases (zEL r.2.2.2.1 l).1 with
     | false => show out.length ≤ _; omega
     | true => show (out ++ [((0 : Int), (ids, l))]).length ≤ _; simp
  ·have hlt : ids.length < (r.2.2.1.filter (fun p => !p.2.2)).length := by omega
   have hc : ((ids.length : Int) == (zc r).1) = false := by rw [zGF]; simp; omega
   have hd : (r.2.2.1.filter (fun p => !p.2.2)).length - ids.length = ((r.2.2.1.filter (fun p => !p.2.2)).length - (ids.length + 1)) + 1 := by omega
   have hp : 40 ^ ((r.2.2.1.filter (fun p => !p.2.2)).length - ids.length) = 40 * 40 ^ ((r.2.2.1.filter (fun p => !p.2.2)).length - (ids.length + 1)) := by rw [hd, Nat.pow_succ, Nat.mul_comm]
   rw [hp] at h4 ⊢
   have L := zaO (F := ya n) (Q := xQ n) (r := r) (s := s) (ids := ids) (l := l) (k := 40 ^ ((r.2.2.1.filter (fun p => !p.2.2)).length - (ids.length + 1))) (fun w x y hw hy => by
    have hl1 : (ids ++ [x]).length = ids.length + 1 := by simp
    have := ih w (ids ++ [x]) y (by omega) (by omega) (by omega) (by rw [hl1]; exact hw)
    rw [hl1] at this; exact this) (by have := List.length_filter_le (fun (p : El zM) => !p.2.2) r.2.2.1; omega) hargs h3 (by omega) hit out h4
   constructor
   ·show (xz (ya n) (xQ n) out r s ids l).ok
    dsimp only [xz]
    rw [hc]
    exact zg L.1 (zJ1 (zhB _) (fun _ _ => trivial) (fun _ _ => trivial))
   ·show (xz (ya n) (xQ n) out r s ids l).val.1.length ≤ _
    simp only [xz, z0, ze, zY, zq]
    rw [hc]
    have L2 := L.2
    revert L2
    cases (LB.run (z4 (ya n) (xQ n)) (out, r, s, (), ids, l, (), (), (0 : Int), ())) with
    | ret t => intro h; exact h
    | brk t => intro h; exact h
    | go t => intro h; exact h
theorem zfB {r : El zG} {s : El zE} (h1 : s.1.length ≤ 40) (h2 : ∀ p ∈ r.2.2.1, p.2.1.length ≤ 5) (h3 : (r.2.2.1.filter (fun p => !p.2.2)).length ≤ 3) : xQ 64 [] r s [] [] := by
 have hb : 40 ^ ((r.2.2.1.filter (fun p => !p.2.2)).length - 0) ≤ 64000 := Nat.le_trans (Nat.pow_le_pow_right (by decide) (show (r.2.2.1.filter (fun p => !p.2.2)).length - 0 ≤ 3 by omega)) (by decide)
 exact (zQE h1 h2 h3 64 [] [] [] (by simp) (by simp only [List.length_nil]; omega) (by simp) (by simp only [List.length_nil]; omega)).1
abbrev zII (a0 : El zG) (a1 : El zE) : Tr (Li zA × Unit) := .ck (xQ 64 ([] : Li zA) a0 a1 ([] : Li .int) ([] : Li zH)) (.v ((ya 64 ([] : Li zA) a0 a1 ([] : Li .int) ([] : Li zH)).1, ()))
def zGe a0 a1 := (zII a0 a1).val
def zRb (a0 : El zG) (a1 : El zE) : Prop := a1.1.length ≤ 40 ∧ (∀ p ∈ a0.2.2.1, p.2.1.length ≤ 5) ∧ (a0.2.2.1.filter (fun p => !p.2.2)).length ≤ 3
abbrev zgS := gq [va zG, va zE] [vo zA] (U2 zRb) (U2 zGe)
theorem zpk : Ok zgS (U2 zII) := by
 rintro ⟨(a0 : El zG), (a1 : El zE), ⟨⟩⟩ hw hp
 replace hp : zRb a0 a1 := hp
 show (zII a0 a1).ok
 unfold zRb at hp
 unfold zII
 refine zg ?_ ?_
 ·exact zfB hp.1 hp.2.1 hp.2.2
 ·simp
def zp3 := cn mo [zkN] [] 281 zgS Tryz.f281 (U2 zII) zpk
theorem zNs {r : El zG} {s : El zE} (h1 : s.1.length ≤ 40) (h2 : ∀ p ∈ r.2.2.1, p.2.1.length ≤ 5) (h3 : (r.2.2.1.filter (fun p => !p.2.2)).length ≤ 3) : ((zGe r s).1.length : Int) ≤ 64000 := by
 have hb : 40 ^ ((r.2.2.1.filter (fun p => !p.2.2)).length - 0) ≤ 64000 := Nat.le_trans (Nat.pow_le_pow_right (by decide) (show (r.2.2.1.filter (fun p => !p.2.2)).length - 0 ≤ 3 by omega)) (by decide)
 have := (zQE h1 h2 h3 64 [] [] [] (by simp) (by simp only [List.length_nil]; omega) (by simp) (by simp only [List.length_nil]; omega)).2
 simp only [List.length_nil] at this
 show ((ya 64 [] r s [] []).1.length : Int) ≤ 64000
 omega
abbrev zB3 : LB := ⟨[], ⟨43, [.d zN, .d zE], [(2, .pt 0 0), (3, .pt 1 0), (5, vo zA), (6, vd .int), (7, vo zA), (8, vd .int)], []⟩, ⟨43, [], [], []⟩, 2, U8 fun (w0 : El zN) (w1 : El zE) _ _ (l5 : Li zA) (n6 : Int) (l7 : Li zA) (n8 : Int) => cond (decide (n8 < (l7.length : Int))) (.ix n8 l7 (let k1 := List.set l7 (Int.toNat n8) (n6, (zB zA l7 n8).2); .ix n8 k1 (.ck (((l5.length + [(zB zA k1 n8)].length : Nat) : Int) ≤ 16777216) (.ik (n8 + 1) (.v (.go (w0, w1, (), (), (l5 ++ [(zB zA k1 n8)]), n6, k1, (n8 + 1), ()))))))) (.v (.brk (w0, w1, (), (), l5, n6, l7, n8, ())))⟩
theorem zeT : PO zB3 (fun _ _ => False) (U8 fun (w00 : El zN) (w10 : El zE) _ _ _ (n60 : Int) _ _ => U8 fun (w0 : El zN) (w1 : El zE) _ _ (l5 : Li zA) (n6 : Int) (l7 : Li zA) (n8 : Int) => w00 = w0 ∧ w10 = w1 ∧ n60 = n6 ∧ ((l5.length : Int) ≤ 64000 * n6 + n8 ∧ n8 ≤ (l7.length : Int) ∧ (l7.length : Int) ≤ 64000)) := poA
theorem zdr : PO zB3 (fun _ _ => False) (U8 fun (w00 : El zN) (w10 : El zE) _ _ _ (n60 : Int) _ _ => U8 fun (w0 : El zN) (w1 : El zE) _ _ _ (n6 : Int) _ _ => w00 = w0 ∧ w10 = w1 ∧ n60 = n6) := poA
theorem zed : SF zB3 (U8 fun _ _ _ _ (l5 : Li zA) (n6 : Int) (l7 : Li zA) (n8 : Int) => (0 ≤ n8 ∧ (l5.length : Int) ≤ 64000 * n6 + n8 ∧ (l7.length : Int) ≤ 64000 ∧ (0 ≤ n6 ∧ n6 < 12), (l7.length : Int) - n8)) := sfA
abbrev zBq : LB := ⟨[], ⟨43, [.d zN, .d zE], [(2, .pt 0 0), (3, .pt 1 0), (5, vo zA), (6, vd .int)], []⟩, ⟨43, [], [], []⟩, 0, U6 fun (w0 : El zN) (w1 : El zE) _ _ (l5 : Li zA) (n6 : Int) => cond (decide (n6 < (w0.2.length : Int))) (.ix n6 w0.2 (.ck (zRb (zB zG w0.2 n6) w1) (.lp zB3 (w0, w1, (), (), l5, n6, (zGe (zB zG w0.2 n6) w1).1, (0 : Int), ()) (fun _ => .v (.ret ())) (fun t1 => let k1 := t1.2.2.2.2.2.1 + (1 : Int); .ik k1 (.v (.go (t1.1, t1.2.1, (), (), t1.2.2.2.2.1, k1, ()))))))) (.v (.brk (w0, w1, (), (), l5, n6, ())))⟩
theorem zdi : PO zBq (fun _ _ => False) (U6 fun (w00 : El zN) (w10 : El zE) _ _ _ _ => U6 fun (w0 : El zN) (w1 : El zE) _ _ _ _ => w00 = w0 ∧ w10 = w1) := poB (by
 rintro ⟨w00, w10, ⟨⟩, ⟨⟩, l50, n60, ⟨⟩⟩ ⟨(w0 : El zN), (w1 : El zE), ⟨⟩, ⟨⟩, (l5 : Li zA), (n6 : Int), ⟨⟩⟩ hI
 dsimp only [U6] at hI ⊢
 obtain ⟨eq0, eq1⟩ := hI
 simp only [LB.b, zBq, U6, z0, ze, zY, zq]
 refine zDu (fun h1 => ?_) (fun h1 => ?_)
 ·replace h1 : n6 < (w0.2.length : Int) := of_decide_eq_true h1
  refine zVq (zdr _ ⟨rfl, rfl, rfl⟩) (fun _ h => h.elim) (fun t ht => ?_)
  obtain ⟨t2w0, t2w1, ⟨⟩, ⟨⟩, t2l5, (t2n6 : Int), t2l7, (t2n8 : Int), ⟨⟩⟩ := t
  dsimp only [U8] at ht ⊢
  obtain ⟨rfl, rfl, rfl⟩ := ht
  exact ⟨eq0, eq1⟩
 ·replace h1 : ¬ (n6 < (w0.2.length : Int)) := of_decide_eq_false h1
  exact ⟨eq0, eq1⟩)
theorem zc6 : SF zBq fun x : El zN × El zE × Unit × Unit × Li zA × Int × Unit => (0 ≤ x.2.2.2.2.2.1 ∧ (x.2.2.2.2.1.length : Int) ≤ 64000 * x.2.2.2.2.2.1 ∧ x.2.1.1.length ≤ 40 ∧ x.1.2.length ≤ 12 ∧ (∀ r ∈ x.1.2, (∀ p ∈ r.2.2.1, p.2.1.length ≤ 5) ∧ (r.2.2.1.filter (fun p => !p.2.2)).length ≤ 3), (x.1.2.length : Int) - x.2.2.2.2.2.1) := sfk (by
 rintro ⟨(w0 : El zN), (w1 : El zE), ⟨⟩, ⟨⟩, (l5 : Li zA), (n6 : Int), ⟨⟩⟩ hI hw
 dsimp only [U6] at hI ⊢
 obtain ⟨i0, k0, k1, k2, k3⟩ := hI
 have hb : (w0.2.length : Int) ≤ 16777216 := vC (hw.1.2.1)
 refine ⟨by omega, ?_⟩
 refine xI (fun h2 => ?_) (fun h2 => ?_)
 ·replace h2 : n6 < (w0.2.length : Int) := of_decide_eq_true h2
  refine z7 ?_ ?_
  ·first | omega | (simp <;> omega)
  ·refine z7 ?_ ?_
   ·exact ⟨k1, (k3 _ (zV (by omega))).1, (k3 _ (zV (by omega))).2⟩
   ·refine z7 ?_ ?_
    ·exact zed _ ⟨by (have _ := zNs (r := zB zG w0.2 n6) (s := w1) k1 (k3 _ (zV (by omega))).1 (k3 _ (zV (by omega))).2; dsimp only <;> first | omega | assumption | (simp <;> omega)), by (have _ := zNs (r := zB zG w0.2 n6) (s := w1) k1 (k3 _ (zV (by omega))).1 (k3 _ (zV (by omega))).2; dsimp only <;> first | omega | assumption | (simp <;> omega)), by (have _ := zNs (r := zB zG w0.2 n6) (s := w1) k1 (k3 _ (zV (by omega))).1 (k3 _ (zV (by omega))).2; dsimp only <;> first | omega | assumption | (simp <;> omega)), by (have _ := zNs (r := zB zG w0.2 n6) (s := w1) k1 (k3 _ (zV (by omega))).1 (k3 _ (zV (by omega))).2; dsimp only <;> first | omega | assumption | (simp <;> omega))⟩
    ·refine zQi (zeT _ ⟨rfl, rfl, rfl, by (have _ := zNs (r := zB zG w0.2 n6) (s := w1) k1 (k3 _ (zV (by omega))).1 (k3 _ (zV (by omega))).2; dsimp only; first | omega | rfl | assumption | (simp <;> omega) | (refine ⟨?_, ?_, ?_⟩ <;> first | omega | rfl | (simp <;> omega)) | (refine ⟨?_, ?_⟩ <;> first | omega | rfl | (simp <;> omega)))⟩) (fun _ h => h.elim) (fun t ht => ?_)
     obtain ⟨t2w0, t2w1, ⟨⟩, ⟨⟩, t2l5, (t2n6 : Int), t2l7, (t2n8 : Int), ⟨⟩⟩ := t
     dsimp only [U8] at ht ⊢
     obtain ⟨rfl, rfl, rfl, hth3⟩ := ht
     refine z7 ?_ ?_
     ·exact ink (by omega) (by omega)
     ·exact show (0 ≤ (n6 + 1) ∧ (t2l5.length : Int) ≤ 64000 * (n6 + 1) ∧ w1.1.length ≤ 40 ∧ w0.2.length ≤ 12 ∧ (∀ r ∈ w0.2, (∀ p ∈ r.2.2.1, p.2.1.length ≤ 5) ∧ (r.2.2.1.filter (fun p => !p.2.2)).length ≤ 3)) ∧ (w0.2.length : Int) - (n6 + 1) < (w0.2.length : Int) - n6 ∧ 0 < (w0.2.length : Int) - n6 from ⟨⟨by (first | omega | rfl | assumption | (simp <;> omega)), by (first | omega | rfl | assumption | (simp <;> omega)), by (first | omega | rfl | assumption | (simp <;> omega)), by (first | omega | rfl | assumption | (simp <;> omega)), by (first | omega | rfl | assumption | (simp <;> omega))⟩, by (first | omega | (simp only [List.length_set]; omega)), by (first | omega | (simp only [List.length_set]; omega))⟩
 ·replace h2 : ¬ (n6 < (w0.2.length : Int)) := of_decide_eq_false h2
  exact trivial)
abbrev zH7 (a0 : El zN) (a1 : El zE) : Tr (Li zA × Unit) := .lp zBq (a0, a1, (), (), ([] : Li zA), (0 : Int), ()) (fun _ => .bad) (fun t1 => .v (t1.2.2.2.2.1, ()))
def zHu a0 a1 := (zH7 a0 a1).val
def zOi (a0 : El zN) (a1 : El zE) : Prop := ztI a0 a1
abbrev zbz := gq [va zN, va zE] [vo zA] (U2 zOi) (U2 zHu)
theorem zm5 : Ok zbz (U2 zH7) := by
 rintro ⟨(a0 : El zN), (a1 : El zE), ⟨⟩⟩ hw hp
 replace hp : zOi a0 a1 := hp
 show (zH7 a0 a1).ok
 unfold zOi at hp
 obtain ⟨hp1, hp2, hp3⟩ := hp
 unfold zH7
 refine zg ?_ ?_
 ·exact zc6 _ ⟨by (dsimp only <;> first | omega | rfl | assumption | (simp <;> omega)), by (dsimp only <;> first | omega | rfl | assumption | (simp <;> omega)), by (dsimp only <;> first | omega | rfl | assumption | (simp <;> omega)), by (dsimp only <;> first | omega | rfl | assumption | (simp <;> omega)), by (dsimp only <;> first | omega | rfl | assumption | (simp <;> omega))⟩
 ·refine zJ1 (zdi _ ⟨rfl, rfl⟩) (fun _ h => h.elim) (fun t ht => ?_)
  obtain ⟨t3w0, t3w1, ⟨⟩, ⟨⟩, t3l5, (t3n6 : Int), ⟨⟩⟩ := t
  dsimp only [U6] at ht ⊢
  obtain ⟨rfl, rfl⟩ := ht
  trivial
def zn7 := cn mo [zp3] [zBq, zB3] 186 zbz Tryz.f186 (U2 zH7) zm5
abbrev zMp (a0 : El zN) (a1 : El zA) : Tr (Bool × Unit) := cond (decide (a1.1 ≥ (0 : Int))) (.v (decide (a1.1 < (a0.2.length : Int)), ())) (.v (false, ()))
def yO a0 a1 := (zMp a0 a1).val
abbrev zjb := fd [va zN, va zA] [vd .bool] (U2 yO)
def zK8 := cn mo [] [] 187 zjb Tryz.f187 (U2 zMp) (fun _ _ _ => by simp [zMp])
theorem zIl {d : El zN} {m : El zA} (h : (yO d m).1 = true) : 0 ≤ m.1 ∧ m.1 < (d.2.length : Int) := by
 simp only [yO, zMp, z0, zY] at h
 cases e : decide (m.1 ≥ (0 : Int)) with
 | false => rw [e] at h; cases h
 | true =>
  rw [e] at h
  exact ⟨of_decide_eq_true e, of_decide_eq_true h⟩
abbrev zJn : LB := ⟨[], ⟨26, [], [(0, vd (.lst .int)), (1, vd (.lst .int)), (5, vd .int)], []⟩, ⟨26, [], [(4, vd .bool)], []⟩, 0, U3 fun (l0 l1 : Li .int) (n5 : Int) => cond (decide (n5 < (l0.length : Int))) (.ix n5 l0 (.ix n5 l1 (cond ((zB .int l0 n5) != (zB .int l1 n5)) (.v (.ret (false, ()))) (.ik (n5 + 1) (.v (.go (l0, l1, (n5 + 1), ()))))))) (.v (.brk (l0, l1, n5, ())))⟩
def zZd (l0 l1 : Li .int) := rA (l := zJn) (L := l0) (fun i => (l0, l1, i, ())) (fun i x => bif (x != (zB .int l1 (i : Int))) then false else true) (false, ())
theorem zZ1 : SF zJn (U3 fun (l0 l1 : Li .int) (n5 : Int) => (0 ≤ n5 ∧ (l0.length : Int) ≤ (l1.length : Int), (l0.length : Int) - n5)) := sfA
abbrev zME (a0 a1 : Li .int) : Tr (Bool × Unit) := cond ((a0.length : Int) != (a1.length : Int)) (.v (false, ())) (.lp zJn (a0, a1, (0 : Int), ()) (fun r1 => .v (r1.1, ())) (fun _ => .v (true, ())))
def zIf a0 a1 := (zME a0 a1).val
abbrev zXS := fd [vd (.lst .int), vd (.lst .int)] [vd .bool] (U2 zIf)
theorem zhy : Ok zXS (U2 zME) := vN zZ1
def zjN := cn mo [] [zJn] 349 zXS Tryz.f349 (U2 zME) zhy
def zXE (a0 a1 : Li .int) := (by
 simp only [zIf, zME, zY, z0, zq, ze]
 rewrite [zZd, z3]
 dsimp only : zIf a0 a1 = _)
abbrev zFS (a0 a1 : El zA) : Tr (Bool × Unit) := cond (a0.1 == a1.1) (.v ((zIf a0.2.1 a1.2.1).1, ())) (.v (false, ()))
def vJ a0 a1 := (zFS a0 a1).val
abbrev zeV := fd [va zA, va zA] [vd .bool] (U2 vJ)
def zR2 := cn mo [zjN] [] 287 zeV Tryz.f287 (U2 zFS) (fun _ _ _ => by simp [zFS])
abbrev zHY : LB := ⟨[], ⟨18, [.d zA], [(0, vd (.lst zA)), (3, .pt 0 0), (5, vd .int)], []⟩, ⟨18, [], [(4, vd .bool)], []⟩, 0, U4 fun (w0 : El zA) (l0 : Li zA) _ (n5 : Int) => cond (decide (n5 < (l0.length : Int))) (.ix n5 l0 (cond (vJ (zB zA l0 n5) w0).1 (.v (.ret (true, ()))) (.ik (n5 + 1) (.v (.go (w0, l0, (), (n5 + 1), ())))))) (.v (.brk (w0, l0, (), n5, ())))⟩
def zXa (w0 : El zA) (l0 : Li zA) := rA (l := zHY) (L := l0) (fun i => (w0, l0, (), i, ())) (fun i x => bif (vJ x w0).1 then false else true) (true, ())
theorem zV7 : SF zHY (U4 fun _ (l0 : Li zA) _ (n5 : Int) => (0 ≤ n5, (l0.length : Int) - n5)) := sfA
abbrev zJu (a0 : Li zA) (a1 : El zA) : Tr (Bool × Unit) := .lp zHY (a1, a0, (), (0 : Int), ()) (fun r2 => .v (r2.1, ())) (fun _ => .v (false, ()))
def xZ a0 a1 := (zJu a0 a1).val
abbrev zT4 := fd [vd (.lst zA), va zA] [vd .bool] (U2 xZ)
theorem zgc : Ok zT4 (U2 zJu) := vN zV7
def zf6 := cn mo [zR2] [zHY] 278 zT4 Tryz.f278 (U2 zJu) zgc
def zTs (a0 : Li zA) (a1 : El zA) := (by
 simp only [xZ, zJu, zY, zq, ze]
 rewrite [zXa, z3]
 dsimp only : xZ a0 a1 = _)
abbrev zGS : LB := ⟨[], ⟨61, [.d zA, .d zA], [(2, .pt 0 0), (3, .pt 1 0), (5, vd .int)], []⟩, ⟨61, [], [(4, vd .bool)], []⟩, 1, U5 fun (w0 w1 : El zA) _ _ (n5 : Int) => cond (decide (n5 < (w0.2.1.length : Int))) (.ix n5 w0.2.1 (.ix n5 w1.2.1 (cond ((zB .int w0.2.1 n5) != (zB .int w1.2.1 n5)) (.ix n5 w0.2.1 (.ix n5 w1.2.1 (.v (.ret (decide ((zB .int w0.2.1 n5) < (zB .int w1.2.1 n5)), ()))))) (.ik (n5 + 1) (.v (.go (w0, w1, (), (), (n5 + 1), ()))))))) (.v (.brk (w0, w1, (), (), n5, ())))⟩
def zVT (w0 w1 : El zA) := rS (l := zGS) (L := w0.2.1) (fun i => (w0, w1, (), (), i, ())) (fun i x => bif (x != (zB .int w1.2.1 (i : Int))) then (some (decide (x < (zB .int w1.2.1 (i : Int))), ())) else none)
theorem zVU : SF zGS (U5 fun (w0 w1 : El zA) _ _ (n5 : Int) => (0 ≤ n5 ∧ (w0.2.1.length : Int) ≤ (w1.2.1.length : Int), (w0.2.1.length : Int) - n5)) := sfA
abbrev zHN (a0 a1 : El zA) : Tr (Bool × Unit) := cond (a0.1 != a1.1) (.v (decide (a0.1 < a1.1), ())) (let k1 := (a0.2.1.length : Int); let k2 := (a1.2.1.length : Int); cond (k1 != k2) (.v (decide (k1 < k2), ())) (.lp zGS (a0, a1, (), (), (0 : Int), ()) (fun r1 => .v (r1.1, ())) (fun _ => .v (false, ()))))
def zE6 a0 a1 := (zHN a0 a1).val
abbrev zRC := fd [va zA, va zA] [vd .bool] (U2 zE6)
theorem zdb : Ok zRC (U2 zHN) := vN zVU
def zeN := cn mo [] [zGS] 346 zRC Tryz.f346 (U2 zHN) zdb
def zdD (a0 a1 : El zA) := (by
 simp only [zE6, zHN, zY, z0, zq, ze]
 rewrite [zVT, xH]
 dsimp only : zE6 a0 a1 = _)
abbrev zHr (a0 : El zN) (a1 a2 : El zA) : Tr (Bool × Unit) := cond (!(yO a0 a1).1) (.v (false, ())) (cond (!(yO a0 a2).1) (.v (false, ())) (.ix a1.1 a0.2 (.ix a2.1 a0.2 (cond (decide ((zB zG a0.2 a1.1).2.1 > (zB zG a0.2 a2.1).2.1)) (.v (true, ())) (cond ((zB zG a0.2 a1.1).2.1 == (zB zG a0.2 a2.1).2.1) (.v ((zE6 a1 a2).1, ())) (.v (false, ())))))))
def zEh a0 a1 a2 := (zHr a0 a1 a2).val
abbrev zcB := fd [va zN, va zA, va zA] [vd .bool] (U3 zEh)
theorem znL : Ok zcB (U3 zHr) := by
 rintro ⟨(a0 : El zN), (a1 : El zA), (a2 : El zA), ⟨⟩⟩ hw hp
 show (zHr a0 a1 a2).ok
 unfold zHr
 refine yK (fun _ => trivial) (fun h1 => ?_)
 replace h1 := zAT h1
 replace h1 := zIl h1
 refine yK (fun _ => trivial) (fun h2 => ?_)
 replace h2 := zAT h2
 replace h2 := zIl h2
 refine zg ?_ ?_
 ·first | omega | (simp <;> omega)
 ·refine zg ?_ ?_
  ·first | omega | (simp <;> omega)
  ·simp
def zmW := cn mo [zK8, zeN] [] 279 zcB Tryz.f279 (U3 zHr) znL
abbrev zCG (a0 : El zA) : Tr (El zA × Unit) := .ck ((a0.2.1.length : Int) ≤ 16777216) (.ck ((a0.2.2.length : Int) ≤ 16777216) (.v (a0, ())))
def v9 a0 := (zCG a0).val
abbrev zMt := fd [va zA] [.val true (.pr (.d .int) (.pr (.o (.d .int)) (.o (.d zH))))] (U1 v9)
theorem zVf : Ok zMt (U1 zCG) := okA
def zMx := cn mo [] [] 280 zMt Tryz.f280 (U1 zCG) zVf
abbrev zDh : LB := ⟨[1, 0], ⟨56, [.pr (.d .int) (.pr (.o (.d .int)) (.o (.d zH))), .d zN], [(1, vd (.lst zA)), (2, vd (.lst zA)), (3, .pt 1 0), (6, .pt 0 0), (8, vd .int), (9, vd .int)], []⟩, ⟨56, [], [], []⟩, 0, U8 fun (w0 : El zA) (w1 : El zN) (l1 l2 : Li zA) _ _ (n8 n9 : Int) => cond (decide (n9 < (l1.length : Int))) (.ix n9 l1 (let k1 : Tr (St _ _) := .ik (n9 + 1) (.v (.go (w0, w1, l1, l2, (), (), n8, (n9 + 1), ()))); cond (yO w1 (zB zA l1 n9)).1 (.ix n9 l1 (cond (!(xZ l2 (zB zA l1 n9)).1) (let k2 : Tr (St _ _) := .ik (n9 + 1) (.v (.go (w0, w1, l1, l2, (), (), n9, (n9 + 1), ()))); cond (decide (n8 < 0)) k2 (.ix n9 l1 (.ix n8 l1 (cond (zEh w1 (zB zA l1 n9) (zB zA l1 n8)).1 k2 k1)))) k1)) k1)) (.v (.brk (w0, w1, l1, l2, (), (), n8, n9, ())))⟩
def zVh (w0 : El zA) (w1 : El zN) (l1 l2 : Li zA) (n8 : Int) := rF (l := zDh) (L := l1) (fun i (s : Int) => (w0, w1, l1, l2, (), (), s, i, ())) (fun i x s => bif (yO w1 x).1 then (bif (!(xZ l2 x).1) then (bif (decide (s < (0 : Int))) then (i : Int) else (bif (zEh w1 x (zB zA l1 s)).1 then (i : Int) else s)) else s) else s) n8
theorem zVQ : PO zDh (fun _ _ => False) (U8 fun (w00 : El zA) (w10 : El zN) (l10 l20 : Li zA) _ _ _ _ => U8 fun (w0 : El zA) (w1 : El zN) (l1 l2 : Li zA) _ _ (n8 n9 : Int) => w00 = w0 ∧ w10 = w1 ∧ l10 = l1 ∧ l20 = l2 ∧ (-1 ≤ n8 ∧ n8 < (l1.length : Int) ∧ 0 ≤ n9)) := poA
theorem zVO : SF zDh (U8 fun _ _ (l1 : Li zA) _ _ _ (n8 n9 : Int) => (0 ≤ n9 ∧ (-1 ≤ n8 ∧ n8 < (l1.length : Int)), (l1.length : Int) - n9)) := sfA
abbrev zDM (a0 : El zN) (a1 a2 : Li zA) : Tr (El zA × Bool × Unit) := let k1 := ((0 : Int), (([] : Li .int), ([] : Li zH))); .lp zDh (k1, a0, a1, a2, (), (), (-1 : Int), (0 : Int), ()) (fun _ => .bad) (fun t1 => cond (decide (@LT.lt Int _ t1.2.2.2.2.2.2.1 (0 : Int))) (.v (k1, false, ())) (.ix t1.2.2.2.2.2.2.1 t1.2.2.1 (.v ((v9 (zB zA t1.2.2.1 t1.2.2.2.2.2.2.1)).1, true, ()))))
def zFP a0 a1 a2 := (zDM a0 a1 a2).val
abbrev zSV := fd [va zN, vd (.lst zA), vd (.lst zA)] [.val true (.pr (.d .int) (.pr (.o (.d .int)) (.o (.d zH)))), vd .bool] (U3 zFP)
theorem zdf : Ok zSV (U3 zDM) := by
 rintro ⟨(a0 : El zN), (a1 : Li zA), (a2 : Li zA), ⟨⟩⟩ hw hp
 show (zDM a0 a1 a2).ok
 unfold zDM
 refine zg ?_ ?_
 ·exact zVO _ ⟨by (dsimp only <;> first | omega | assumption | (simp <;> omega)), by (dsimp only <;> first | omega | assumption | (simp <;> omega))⟩
 ·refine zJ1 (zVQ _ ⟨rfl, rfl, rfl, rfl, by (dsimp only; first | omega | rfl | assumption | (simp <;> omega) | (refine ⟨?_, ?_, ?_⟩ <;> first | omega | rfl | (simp <;> omega)) | (refine ⟨?_, ?_⟩ <;> first | omega | rfl | (simp <;> omega)))⟩) (fun _ h => h.elim) (fun t ht => ?_)
  obtain ⟨t5w0, t5w1, t5l1, t5l2, ⟨⟩, ⟨⟩, (t5n8 : Int), (t5n9 : Int), ⟨⟩⟩ := t
  dsimp only [U8] at ht ⊢
  obtain ⟨rfl, rfl, rfl, rfl, hth1⟩ := ht
  refine yK (fun _ => trivial) (fun h2 => ?_)
  replace h2 : ¬ (t5n8 < (0 : Int)) := of_decide_eq_false h2
  refine zg ?_ ?_
  ·show (0 ≤ t5n8 ∧ t5n8 < (a1.length : Int)); first | omega | (simp <;> omega)
  ·simp
def zeo := cn mo [zK8, zf6, zmW, zMx] [zDh] 185 zSV Tryz.f185 (U3 zDM) zdf
def zew (a0 : El zN) (a1 a2 : Li zA) := (by
 simp only [zFP, zDM, zY, z0, zq, ze]
 rewrite [zVh, xL]
 dsimp only : zFP a0 a1 a2 = _)
abbrev zFw (a0 : El zN) (a1 : El zF) : Tr (El zA × Bool × Unit) := .ck (zOi a0 a1.1) (let y1 := (zFP a0 (zHu a0 a1.1).1 a1.2.1); .v (y1.1, y1.2.1, ()))
def zBA a0 a1 := (zFw a0 a1).val
def zBx (a0 : El zN) (a1 : El zF) : Prop := ztI a0 a1.1
abbrev zWi := fq [va zN, va zF] [.val true (.pr (.d .int) (.pr (.o (.d .int)) (.o (.d zH)))), vd .bool] (U2 zBx) (U2 zBA)
theorem zjK : Ok zWi (U2 zFw) := by
 rintro ⟨(a0 : El zN), (a1 : El zF), ⟨⟩⟩ hw hp
 replace hp : zBx a0 a1 := hp
 show (zFw a0 a1).ok
 unfold zBx at hp
 unfold zFw
 refine zg ?_ ?_
 ·exact hp
 ·simp
def zQP := cn mo [zn7, zeo] [] 101 zWi Tryz.f101 (U2 zFw) zjK
theorem zhG {d : El zN} {x : El zF} (h : (d.2.length : Int) ≤ 4 ∧ ∀ r ∈ d.2, DrR r) (g : (x.1.1.length : Int) ≤ 40) : zBx d x := by
 refine ⟨by omega, by omega, fun r hr => ⟨fun p hp => ?_, (h.2 r hr).2.2.1⟩⟩
 have := (h.2 r hr).2.1 p hp
 omega
abbrev zJS (a0 : Int) : Tr (Bool × Unit) := .ik a0 (cond (z6 a0 97 122).1 (.v (true, ())) (.ik a0 (cond (z6 a0 48 57).1 (.v (true, ())) (.v ((a0 == (95 : Int)), ())))))
def vx a0 := (zJS a0).val
abbrev zUG := fd [vd .u8] [vd .bool] (U1 vx)
theorem zf4 : Ok zUG (U1 zJS) := okG trivial (an @zBK trivial) trivial
def zNm := cn mo [zAQ] [] 342 zUG Tryz.f342 (U1 zJS) zf4
abbrev zIJ : LB := ⟨[], ⟨30, [], [(0, vd .str), (3, vd .int)], []⟩, ⟨30, [], [(2, vd .bool)], []⟩, 0, U2 fun (s0 : ByteArray) (n3 : Int) => cond (decide (n3 < (s0.size : Int))) (.is n3 s0 (let k2 := ((bt s0 n3).toNat : Int); cond (!(vx k2).1) (.v (.ret (false, ()))) (let k1 : Tr (St _ _) := .ik (n3 + 1) (.v (.go (s0, (n3 + 1), ()))); cond (n3 == 0) (.is n3 s0 (.ik k2 (cond (!(z6 k2 97 122).1) (.v (.ret (false, ()))) k1))) k1))) (.v (.brk (s0, n3, ())))⟩
def zRz (s0 : ByteArray) := rAb (l := zIJ) (b := s0) (fun i => (s0, i, ())) (fun i x => bif (!(vx (x.toNat : Int)).1) then false else (bif ((i : Int) == 0) then (bif (!(z6 (x.toNat : Int) (97 : Int) (122 : Int)).1) then false else true) else true)) (false, ())
theorem zej : SF zIJ fun x : ByteArray × Int × Unit => (0 ≤ x.2.1, (x.1.size : Int) - x.2.1) := sfk (by
 rintro ⟨(s0 : ByteArray), (n3 : Int), ⟨⟩⟩ hI hw
 have _ : (s0.size : Int) ≤ 9223372036854775807 := zlR (hw.1)
 have _ := fun h : (z6 ((bt s0 n3).toNat : Int) (97 : Int) (122 : Int)).1 = true => zBK h
 have _ := zuh s0 n3
 simp [zIJ, U2] at hI ⊢
 repeat' first | intro _ | apply And.intro
 all_goals omega)
abbrev zOU (a0 : ByteArray) : Tr (Bool × Unit) := .lp zIJ (a0, (0 : Int), ()) (fun r3 => .v (r3.1, ())) (fun t1 => .v ((z6 (t1.1.size : Int) (1 : Int) (12 : Int)).1, ()))
def xV a0 := (zOU a0).val
abbrev za5 := fd [vd .str] [vd .bool] (U1 xV)
theorem zoN : Ok za5 (U1 zOU) := okG (an zej (an zRz trivial)) (an @zBK trivial) trivial
def zEV := cn mo [zNm, zAQ] [zIJ] 272 za5 Tryz.f272 (U1 zOU) zoN
def zbs (a0 : ByteArray) := (by
 simp only [xV, zOU, zY, zq, ze]
 rewrite [zRz, z3]
 dsimp only : xV a0 = _)
abbrev zLL (a0 : Int) : Tr (Bool × Unit) := .ik a0 (.v ((z6 a0 65 90).1, ()))
def zIp a0 := (zLL a0).val
abbrev zW5 := fd [vd .u8] [vd .bool] (U1 zIp)
theorem zkq : Ok zW5 (U1 zLL) := okG trivial (an @zBK trivial) trivial
def zkl := cn mo [zAQ] [] 401 zW5 Tryz.f401 (U1 zLL) zkq
abbrev zJG : LB := ⟨[], ⟨29, [], [(0, vd .str), (3, vd .int)], []⟩, ⟨29, [], [(2, vd .bool)], []⟩, 0, U2 fun (s0 : ByteArray) (n3 : Int) => cond (decide (n3 < (s0.size : Int))) (.is n3 s0 (let k1 : Tr (St _ _) := .ik (n3 + 1) (.v (.go (s0, (n3 + 1), ()))); cond (!(zIp ((bt s0 n3).toNat : Int)).1) (cond (n3 == 0) (.v (.ret (false, ()))) (.is n3 s0 (cond (!(vx ((bt s0 n3).toNat : Int)).1) (.v (.ret (false, ()))) k1))) k1)) (.v (.brk (s0, n3, ())))⟩
def zPz (s0 : ByteArray) := rAb (l := zJG) (b := s0) (fun i => (s0, i, ())) (fun i x => bif (!(zIp (x.toNat : Int)).1) then (bif ((i : Int) == 0) then false else (bif (!(vx (x.toNat : Int)).1) then false else true)) else true) (false, ())
theorem zZw : SF zJG (U2 fun (s0 : ByteArray) (n3 : Int) => (0 ≤ n3, (s0.size : Int) - n3)) := sfA
abbrev zMA (a0 : ByteArray) : Tr (Bool × Unit) := .lp zJG (a0, (0 : Int), ()) (fun r3 => .v (r3.1, ())) (fun t1 => .v ((z6 (t1.1.size : Int) (1 : Int) (12 : Int)).1, ()))
def zIk a0 := (zMA a0).val
abbrev zWq := fd [vd .str] [vd .bool] (U1 zIk)
theorem zkp : Ok zWq (U1 zMA) := okG (an zZw (an zPz trivial)) (an @zBK trivial) trivial
def zjC := cn mo [zkl, zNm, zAQ] [zJG] 397 zWq Tryz.f397 (U1 zMA) zkp
def zjP (a0 : ByteArray) := (by
 simp only [zIk, zMA, zY, zq, ze]
 rewrite [zPz, z3]
 dsimp only : zIk a0 = _)
abbrev zJk : LB := ⟨[], ⟨18, [], [(0, vd .str), (3, vd .int)], []⟩, ⟨18, [], [(2, vd .bool)], []⟩, 0, U2 fun (s0 : ByteArray) (n3 : Int) => cond (decide (n3 < (s0.size : Int))) (.is n3 s0 (cond (!(vx ((bt s0 n3).toNat : Int)).1) (.v (.ret (false, ()))) (.ik (n3 + 1) (.v (.go (s0, (n3 + 1), ())))))) (.v (.brk (s0, n3, ())))⟩
def zac (s0 : ByteArray) := rAb (l := zJk) (b := s0) (fun i => (s0, i, ())) (fun i x => bif (!(vx (x.toNat : Int)).1) then false else true) (false, ())
theorem zZA : SF zJk (U2 fun (s0 : ByteArray) (n3 : Int) => (0 ≤ n3, (s0.size : Int) - n3)) := sfA
abbrev zMa (a0 : ByteArray) : Tr (Bool × Unit) := .lp zJk (a0, (0 : Int), ()) (fun r2 => .v (r2.1, ())) (fun t1 => .v (decide (@LE.le Int _ (t1.1.size : Int) (20 : Int)), ()))
def zDE a0 := (zMa a0).val
abbrev zWr := fd [vd .str] [vd .bool] (U1 zDE)
theorem zjY : Ok zWr (U1 zMa) := vN zZA
def zkB := cn mo [zNm] [zJk] 374 zWr Tryz.f374 (U1 zMa) zjY
def zW7 (a0 : ByteArray) := (by
 simp only [zDE, zMa, zY, zq, ze]
 rewrite [zac, z3]
 dsimp only : zDE a0 = _)
abbrev zNU (a0 : El zL) : Tr (Bool × Unit) := cond (a0.1 == (1 : Int)) (cond (z6 a0.2.1 (-1000000000 : Int) (1000000000 : Int)).1 (.v ((a0.2.2.toList == (⟨#[]⟩ : ByteArray).toList), ())) (.v (false, ()))) (cond (a0.1 == (2 : Int)) (cond (zDE a0.2.2).1 (.v ((a0.2.1 == (0 : Int)), ())) (.v (false, ()))) (.v (false, ())))
def zAj a0 := (zNU a0).val
abbrev zpq := fd [va zL] [vd .bool] (U1 zAj)
def zSB := cn mo [zAQ, zkB] [] 345 zpq Tryz.f345 (U1 zNU) (fun _ _ _ => by simp [zNU])
abbrev zR6 (a0 : El yb) : Tr (Bool × Unit) := let k1 := (((a0.2.2.1 == (0 : Int)) && ((a0.2.2.2.1 == (0 : Int)) && ((a0.2.2.2.2.toList == (⟨#[]⟩ : ByteArray).toList) && true))), ()); cond (a0.1 == (1 : Int)) (cond (zIk a0.2.1).1 (.v k1) (.v (false, ()))) (let k2 := a0.2.1.toList == (⟨#[]⟩ : ByteArray).toList; cond (a0.1 == (2 : Int)) (cond (zAj a0.2.2).1 (.v (k2, ())) (.v (false, ()))) (cond (a0.1 == (3 : Int)) (cond k2 (.v k1) (.v (false, ()))) (.v (false, ()))))
def zGb a0 := (zR6 a0).val
abbrev zp1 := fd [va yb] [vd .bool] (U1 zGb)
def zXP := cn mo [zjC, zSB] [] 390 zp1 Tryz.f390 (U1 zR6) (fun _ _ _ => by simp [zR6])
abbrev zOe : LB := ⟨[], ⟨27, [.d zM], [(1, .pt 0 0), (3, vd .int)], []⟩, ⟨27, [], [(2, vd .bool)], []⟩, 0, U3 fun (w0 : El zM) _ (n3 : Int) => cond (decide (n3 < (w0.2.1.length : Int))) (.ix n3 w0.2.1 (cond (!(zGb (zB yb w0.2.1 n3)).1) (.v (.ret (false, ()))) (.ik (n3 + 1) (.v (.go (w0, (), (n3 + 1), ())))))) (.v (.brk (w0, (), n3, ())))⟩
def zfQ (w0 : El zM) := rA (l := zOe) (L := w0.2.1) (fun i => (w0, (), i, ())) (fun i x => bif (!(zGb x).1) then false else true) (false, ())
theorem zgN : SF zOe (U3 fun (w0 : El zM) _ (n3 : Int) => (0 ≤ n3, (w0.2.1.length : Int) - n3)) := sfA
abbrev zRO (a0 : El zM) : Tr (Bool × Unit) := .lp zOe (a0, (), (0 : Int), ()) (fun r2 => .v (r2.1, ())) (fun t1 => cond (xV t1.1.1).1 (.v (decide (@LE.le Int _ (t1.1.2.1.length : Int) (5 : Int)), ())) (.v (false, ())))
def zEx a0 := (zRO a0).val
abbrev ze6 := fd [va zM] [vd .bool] (U1 zEx)
theorem zqB : Ok ze6 (U1 zRO) := vN zgN
def zqP := cn mo [zXP, zEV] [zOe] 371 ze6 Tryz.f371 (U1 zRO) zqB
def zfl (a0 : El zM) := (by
 simp only [zEx, zRO, zY, z0, zq, ze]
 rewrite [zfQ, z3]
 dsimp only : zEx a0 = _)
theorem zpP {p : El zM} (h : (zEx p).1 = true) : p.2.1.length ≤ 5 := by
 rw [zfl] at h
 simp only [v7, zJy] at h
 have := of_decide_eq_true h.2.2
 omega
abbrev zMh : LB := ⟨[], ⟨60, [], [(0, vd (.lst zM)), (3, vd .int)], []⟩, ⟨60, [], [(2, vd .bool)], []⟩, 0, U2 fun (l0 : Li zM) (n3 : Int) => cond (decide (n3 < (l0.length : Int))) (let k3 : Tr (St _ _) := .ik (n3 + 1) (.v (.go (l0, (n3 + 1), ()))); let k1 : Tr (St _ _) := cond (decide (n3 > 0)) (.ik (n3 - 1) (.ix (n3 - 1) l0 (cond (zB zM l0 (n3 - 1)).2.2 (.ix n3 l0 (cond (!(zB zM l0 n3).2.2) (.v (.ret (false, ()))) k3)) k3))) k3; let k2 : Tr (St _ _) := .ix n3 l0 (cond (!(zEx (zB zM l0 n3)).1) (.v (.ret (false, ()))) (cond (n3 == 0) (.ix n3 l0 (cond (zB zM l0 n3).2.2 (.v (.ret (false, ()))) k1)) k1)); cond (decide (n3 > 2)) (.ix n3 l0 (cond (!(zB zM l0 n3).2.2) (.v (.ret (false, ()))) k2)) k2) (.v (.brk (l0, n3, ())))⟩
def zRj (l0 : Li zM) := rA (l := zMh) (L := l0) (fun i => (l0, i, ())) (fun i x => bif (decide ((i : Int) > 2)) then (bif (!x.2.2) then false else (bif (!(zEx x).1) then false else (bif ((i : Int) == 0) then (bif x.2.2 then false else (bif (decide ((i : Int) > 0)) then (bif (zB zM l0 ((i : Int) - 1)).2.2 then (bif (!x.2.2) then false else true) else true) else true)) else (bif (decide ((i : Int) > 0)) then (bif (zB zM l0 ((i : Int) - 1)).2.2 then (bif (!x.2.2) then false else true) else true) else true)))) else (bif (!(zEx x).1) then false else (bif ((i : Int) == 0) then (bif x.2.2 then false else (bif (decide ((i : Int) > 0)) then (bif (zB zM l0 ((i : Int) - 1)).2.2 then (bif (!x.2.2) then false else true) else true) else true)) else (bif (decide ((i : Int) > 0)) then (bif (zB zM l0 ((i : Int) - 1)).2.2 then (bif (!x.2.2) then false else true) else true) else true)))) (false, ())
theorem zeO : SF zMh (U2 fun (l0 : Li zM) (n3 : Int) => (0 ≤ n3, (l0.length : Int) - n3)) := sfA
abbrev zOV (a0 : Li zM) : Tr (Bool × Unit) := .lp zMh (a0, (0 : Int), ()) (fun r3 => .v (r3.1, ())) (fun t1 => .v ((z6 (t1.1.length : Int) (1 : Int) (6 : Int)).1, ()))
def zBb a0 := (zOV a0).val
abbrev zcn := fd [vd (.lst zM)] [vd .bool] (U1 zBb)
theorem zl0 : Ok zcn (U1 zOV) := okG (an zeO (an zRj trivial)) (an @zBK trivial) trivial
def zmN := cn mo [zqP, zAQ] [zMh] 339 zcn Tryz.f339 (U1 zOV) zl0
def zSt (a0 : Li zM) := (by
 simp only [zBb, zOV, zY, zq, ze]
 rewrite [zRj, z3]
 dsimp only : zBb a0 = _)
theorem znF {l : Li zM} (h : (zBb l).1 = true) : (∀ p ∈ l, p.2.1.length ≤ 5) ∧ (l.filter (fun p => !p.2.2)).length ≤ 3 := by
 rw [zSt] at h
 simp only [v7, zJy] at h
 obtain ⟨h3, _⟩ := h
 rw [zR] at h3
 have key : ∀ i p, l[i]? = some p → (zEx p).1 = true ∧ (2 < i → p.2.2 = true) := by
  intro i p hp
  have := h3 i p hp
  by_cases hi : 2 < i
  ·rw [decide_eq_true (show ((0 + i : Nat) : Int) > 2 by omega)] at this
   simp only [cond_true, zB1] at this
   exact ⟨zAT this.2.1, fun _ => zAT this.1⟩
  ·rw [decide_eq_false (show ¬ ((0 + i : Nat) : Int) > 2 by omega)] at this
   simp only [cond_false, zB1] at this
   exact ⟨zAT this.1, fun h => absurd h hi⟩
 constructor
 ·intro p hp
  obtain ⟨i, hi⟩ := List.mem_iff_getElem?.1 hp
  exact zpP (key i p hi).1
 ·have e : (l.drop 3).filter (fun p => !p.2.2) = [] := by
   rw [List.filter_eq_nil_iff]
   intro p hp
   obtain ⟨i, hi⟩ := List.mem_iff_getElem?.1 hp
   rw [List.getElem?_drop] at hi
   rw [(key _ p hi).2 (by omega)]; simp
  have : l.filter (fun p => !p.2.2) = (l.take 3).filter (fun p => !p.2.2) ++ (l.drop 3).filter (fun p => !p.2.2) := by rw [← List.filter_append, List.take_append_drop]
  rw [this, e, List.append_nil]
  have h1 := List.length_filter_le (fun (p : El zM) => !p.2.2) (l.take 3)
  have h2 := List.length_take_le 3 l
  omega
abbrev zO5 (a0 : El z5) : Tr (Bool × Unit) := cond (z6 a0.1 1 3).1 (cond (zGb a0.2.1).1 (cond (zGb a0.2.2).1 (cond (a0.2.1.1 != (3 : Int)) (.v ((a0.2.2.1 != (3 : Int)), ())) (.v (false, ()))) (.v (false, ()))) (.v (false, ()))) (.v (false, ()))
def zKS a0 := (zO5 a0).val
abbrev zni := fd [va z5] [vd .bool] (U1 zKS)
def znP := cn mo [zAQ, zXP] [] 372 zni Tryz.f372 (U1 zO5) (fun _ _ _ => by simp [zO5])
abbrev zJh : LB := ⟨[], ⟨41, [], [(0, vd (.lst z5)), (1, vd (.lst .str)), (5, vd .int)], []⟩, ⟨41, [], [(4, vd .bool)], []⟩, 0, U3 fun (l0 : Li z5) (l1 : Li .str) (n5 : Int) => cond (decide (n5 < (l0.length : Int))) (.ix n5 l0 (cond (!(zKS (zB z5 l0 n5)).1) (.v (.ret (false, ()))) (.ix n5 l0 (cond (!(xE (zB z5 l0 n5).2.1 l1).1) (.v (.ret (false, ()))) (.ix n5 l0 (cond (!(xE (zB z5 l0 n5).2.2 l1).1) (.v (.ret (false, ()))) (.ik (n5 + 1) (.v (.go (l0, l1, (n5 + 1), ())))))))))) (.v (.brk (l0, l1, n5, ())))⟩
def zZ4 (l0 : Li z5) (l1 : Li .str) := rA (l := zJh) (L := l0) (fun i => (l0, l1, i, ())) (fun i x => bif (!(zKS x).1) then false else (bif (!(xE x.2.1 l1).1) then false else (bif (!(xE x.2.2 l1).1) then false else true))) (false, ())
theorem zaJ : SF zJh (U3 fun (l0 : Li z5) _ (n5 : Int) => (0 ≤ n5, (l0.length : Int) - n5)) := sfA
abbrev zL5 (a0 : Li z5) (a1 : Li .str) : Tr (Bool × Unit) := .lp zJh (a0, a1, (0 : Int), ()) (fun r5 => .v (r5.1, ())) (fun t1 => .v (decide (@LE.le Int _ (t1.1.length : Int) (6 : Int)), ()))
def zF1 a0 a1 := (zL5 a0 a1).val
abbrev zVw := fd [vd (.lst z5), vd (.lst .str)] [vd .bool] (U2 zF1)
theorem zjM : Ok zVw (U2 zL5) := vN zaJ
def zkk := cn mo [znP, zQf] [zJh] 340 zVw Tryz.f340 (U2 zL5) zjM
def zic (a0 : Li z5) (a1 : Li .str) := (by
 simp only [zF1, zL5, zY, zq, ze]
 rewrite [zZ4, z3]
 dsimp only : zF1 a0 a1 = _)
abbrev zIy (a0 : El yb) : Tr (Bool × Unit) := cond (zGb a0).1 (.v ((a0.1 != (3 : Int)), ())) (.v (false, ()))
def zES a0 := (zIy a0).val
abbrev ziC := fd [va yb] [vd .bool] (U1 zES)
def zjx := cn mo [zXP] [] 402 ziC Tryz.f402 (U1 zIy) (fun _ _ _ => by simp [zIy])
abbrev zPF (a0 : El zo) : Tr (Bool × Unit) := cond (a0.1.toList == (⟨#[]⟩ : ByteArray).toList) (cond (zES a0.2.1).1 (.v (((a0.2.2.1 == (0 : Int)) && ((a0.2.2.2.1.toList == (⟨#[]⟩ : ByteArray).toList) && (((a0.2.2.2.2.1 == (0 : Int)) && ((a0.2.2.2.2.2.1 == (0 : Int)) && ((a0.2.2.2.2.2.2.toList == (⟨#[]⟩ : ByteArray).toList) && true))) && true))), ())) (.v (false, ()))) (let k1 : Tr _ := cond (zES a0.2.1).1 (.v ((zES a0.2.2).1, ())) (.v (false, ())); let k2 := a0.1.toList == (⟨#[43]⟩ : ByteArray).toList; cond k2 (cond k2 k1 (.v (false, ()))) (cond (a0.1.toList == (⟨#[45]⟩ : ByteArray).toList) k1 (.v (false, ()))))
def zK4 a0 := (zPF a0).val
abbrev znd := fd [va zo] [vd .bool] (U1 zK4)
def zmb := cn mo [zjx] [] 398 znd Tryz.f398 (U1 zPF) (fun _ _ _ => by simp [zPF])
abbrev zMo : LB := ⟨[], ⟨19, [], [(0, vd (.lst zo)), (3, vd .int)], []⟩, ⟨19, [], [(2, vd .bool)], []⟩, 0, U2 fun (l0 : Li zo) (n3 : Int) => cond (decide (n3 < (l0.length : Int))) (.ix n3 l0 (cond (!(zK4 (zB zo l0 n3)).1) (.v (.ret (false, ()))) (.ik (n3 + 1) (.v (.go (l0, (n3 + 1), ())))))) (.v (.brk (l0, n3, ())))⟩
def zc1 (l0 : Li zo) := rA (l := zMo) (L := l0) (fun i => (l0, i, ())) (fun i x => bif (!(zK4 x).1) then false else true) (false, ())
theorem zep : SF zMo (U2 fun (l0 : Li zo) (n3 : Int) => (0 ≤ n3, (l0.length : Int) - n3)) := sfA
abbrev zPM (a0 : Li zo) : Tr (Bool × Unit) := .lp zMo (a0, (0 : Int), ()) (fun r2 => .v (r2.1, ())) (fun t1 => .v (decide (@LE.le Int _ (t1.1.length : Int) (5 : Int)), ()))
def zKv a0 := (zPM a0).val
abbrev zbV := fd [vd (.lst zo)] [vd .bool] (U1 zKv)
theorem znX : Ok zbV (U1 zPM) := vN zep
def zm4 := cn mo [zmb] [zMo] 391 zbV Tryz.f391 (U1 zPM) znX
def zlx (a0 : Li zo) := (by
 simp only [zKv, zPM, zY, zq, ze]
 rewrite [zc1, z3]
 dsimp only : zKv a0 = _)
abbrev zNt (a0 : El zp) : Tr (Bool × Unit) := let k2 := a0.2.2.2.2.toList == (⟨#[]⟩ : ByteArray).toList; let k6 := a0.2.2.2.1 == (0 : Int); let k8 := zKv a0.2.2.1; let k3 : Tr _ := cond (xV a0.2.1).1 (cond k8.1 (cond k6 (cond k2 (.v (true, ())) (.v ((xV a0.2.2.2.2).1, ()))) (.v (false, ()))) (.v (false, ()))) (.v (false, ())); let k4 : Tr _ := cond (xV a0.2.1).1 (cond k8.1 (cond (z6 a0.2.2.2.1 0 100000).1 (.v (k2, ())) (.v (false, ()))) (.v (false, ()))) (.v (false, ())); let k5 : Tr _ := cond (xV a0.2.1).1 (cond k8.1 (cond k6 (.v (k2, ())) (.v (false, ()))) (.v (false, ()))) (.v (false, ())); let k1 : Tr _ := cond (a0.1 == (1 : Int)) k5 (cond (a0.1 == (3 : Int)) k3 (cond (a0.1 == (4 : Int)) k4 (cond (a0.1 == (2 : Int)) (.v (false, ())) (cond (a0.1 == (5 : Int)) (cond (a0.1 == (5 : Int)) (.v (false, ())) (.v (false, ()))) (cond (a0.1 == (6 : Int)) (.v (false, ())) (.v (false, ()))))))); cond (a0.2.1.toList == (⟨#[]⟩ : ByteArray).toList) (cond ((a0.2.2.1.length : Int) == 0) (cond (a0.1 == (1 : Int)) k5 (cond (a0.1 == (3 : Int)) k3 (cond (a0.1 == (4 : Int)) k4 (cond (a0.1 == (2 : Int)) (cond k2 (.v ((z6 a0.2.2.2.1 0 7).1, ())) (.v (false, ()))) (let k7 : Tr _ := cond k2 (.v (k6, ())) (.v (false, ())); cond (a0.1 == (5 : Int)) (cond (a0.1 == (5 : Int)) k7 (.v (false, ()))) (cond (a0.1 == (6 : Int)) k7 (.v (false, ())))))))) k1) k1
def zAb a0 := (zNt a0).val
abbrev zpe := fd [va zp] [vd .bool] (U1 zAb)
def zqY := cn mo [zEV, zm4, zAQ] [] 373 zpe Tryz.f373 (U1 zNt) (fun _ _ _ => by simp [zNt])
theorem zpo {x : El zp} (h : (zAb x).1 = true) (g : x.1 = (2 : Int)) : @LE.le Int _ 0 x.2.2.2.1 := by
 have e1 : (x.1 == (1 : Int)) = false := by rw [g]; rfl
 have e2 : (x.1 == (2 : Int)) = true := by rw [g]; rfl
 have e3 : (x.1 == (3 : Int)) = false := by rw [g]; rfl
 have e4 : (x.1 == (4 : Int)) = false := by rw [g]; rfl
 simp only [zAb, zNt, z0, zY, e1, e2, e3, e4, cond_true, cond_false] at h
 generalize (x.2.1.toList == (⟨#[]⟩ : ByteArray).toList) = A at h
 generalize ((x.2.2.1.length : Int) == 0) = B at h
 generalize (x.2.2.2.2.toList == (⟨#[]⟩ : ByteArray).toList) = C at h
 cases A <;> cases B <;> cases C <;> simp only [cond_true, cond_false] at h <;> first | exact (zBK h).1 | cases h
end
end Go.Proofs.YtkdidadegedmiaaGreat
