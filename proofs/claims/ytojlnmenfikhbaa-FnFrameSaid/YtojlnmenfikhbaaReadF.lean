/- ReadFrames, the program's and the reference's. -/
import Derived.Test.YtojlnmenfikhbaaFrM
import Derived.Test.YtojlnmenfikhbaaGetFrameS
namespace Go.Proofs.Ytojlnmenfikhbaa
open Go.RowKit
open Cel (rd own rd_len rd_one own_rd own_lt rd_below rd_mono own_keep)

theorem wpList_extC {α : Type} [Cel α] {P : Program} {w w0 w1 : World} {fp : List Nat} {l : List α} {v : Value} {ops : Array Oper} {rest : List Oper} {o : Oper} {a : Act} {Q : Exit → Act → World → Prop} (hgd : o.guard = none) (s x : Operand) (t : TypeId) {bytes : Nat}
    (ho : o.op = .call { callee := .builtin .append, args := #[s, x], argTypes := #[t, t] }) (hT : SlT P t (Cel.k α) bytes) (hs : a.eval s = v) (h : Ext fp w0 l v w1) (hb : Below w1.heap.size w1 w)
    {c g : Nat} {vs : List Value} {e : TypeId} (hx : a.eval x = .slice (some ⟨g, 0, none⟩) 1 c) (hg : w.heap.size = g) {y : α} {f : List Nat} (hy : own w vs y f) (hf : Fr w1.heap.size f)
    (hbytes : (l.length + 1) * bytes ≤ 140737488355328) (h63 : l.length + 1 ≤ maxLen)
    (K : ∀ a' c' w', Ext fp w0 (l ++ [y]) (.slice a' (l.length + 1) c') w' → wpList P ops Q rest (a.put o.dst (.slice a' (l.length + 1) c')) w') : wpList P ops Q (o :: rest) a (w.alloc (.cells vs.toArray e)) := by
  subst hg
  obtain ⟨r, h1, h2, h3, h4⟩ := h
  have hd : Fr 0 (r ++ f) := ⟨List.nodup_append.2 ⟨h2, hf.1, fun b hb1 b' hb2 e => by have := h1.lt b hb1; have := hf.2 b' hb2; omega⟩, fun _ _ => Nat.zero_le _⟩
  refine wpList_append1 (B := 0) (f := f) hgd s x t ho hT hs ((h1.below hb).alloc _) hx (news_alloc w vs e) (own_keep hy fun b hm => Below.heap_alloc w _ b (own_lt hy b hm)) hd (Nat.zero_le _) hbytes h63 ?_
  intro a' c' w' fp' g1 g2 g3 g4 g5
  refine K a' c' w' ⟨fp', g1, g2.1, fun b hb' => ?_, ((h4.trans (Chg.of_below hb)).alloc _).grown g3 fun k hk => h3 k (h1.block_mem hk)⟩
  rcases g5 b hb' with h5 | h5 | h5
  · exact h3 b h5
  · exact .inr (Nat.le_trans h4.size (hf.2 b h5))
  · right; subst h5; have := h4.size; have := hb.size; simp; omega

def readR (l : List UInt8) : Nat → Int → List FrameD × Int
  | 0, p => ([], p)
  | f + 1, p => match getF l p with
    | none => ([], p)
    | some (x, q) => (⟨x⟩ :: (readR l f q).1, (readR l f q).2)
def readF (l : List UInt8) : List FrameD × Int := readR l (l.length + 1) 0

theorem getR_next (l : List UInt8) (p : Nat) : ∀ f k m x, getR l p f k m = some x → (p : Int) < x.2 := by
  intro f
  induction f with
  | zero => intro k m x h; cases h
  | succ f ih =>
    intro k m x h
    rw [getR] at h
    split at h
    · split at h
      · exact ih _ _ _ h
      · split at h
        · cases h
        · obtain rfl := Option.some.inj h
          show (p : Int) < (p : Int) + k + 1; omega
    · cases h
theorem getF_next (l : List UInt8) (p : Int) (x : List UInt8) (q : Int) (h : getF l p = some (x, q)) : p < q ∧ q ≤ l.length ∧ p < l.length ∧ x.length ≤ 4000 := by
  unfold getF at h
  split at h
  · cases h
  · rename_i n r hN
    split at h
    · cases h
    · split at h
      · obtain ⟨rfl, rfl⟩ := Prod.mk.inj (Option.some.inj h)
        have hN' := hN
        unfold getN at hN'
        split at hN'
        · cases hN'
        · have := getR_next _ _ _ _ _ _ hN'
          refine ⟨by omega, by omega, by omega, ?_⟩
          simp only [part, List.length_take]; omega
      · cases h
theorem readR_none (l : List UInt8) (f : Nat) (p : Int) (h : getF l p = none) : readR l (f + 1) p = ([], p) := by rw [readR, h]
theorem readR_some (l : List UInt8) (f : Nat) (p : Int) (x : List UInt8) (q : Int) (h : getF l p = some (x, q)) : readR l (f + 1) p = (⟨x⟩ :: (readR l f q).1, (readR l f q).2) := by rw [readR, h]
theorem getF_end (l : List UInt8) (p : Int) (h : (l.length : Int) ≤ p) : getF l p = none := by
  cases e : getF l p with
  | none => rfl
  | some x => have := getF_next l p x.1 x.2 e; omega

def RetR (l : List UInt8) (w : World) (e : Ending) (w' : World) : Prop :=
  ∃ a c fp, e = .returned (.tuple #[.slice a (readF l).1.length c, .int .i64 (readF l).2]) ∧ OwnS w' (readF l).1 (.slice a (readF l).1.length c) fp ∧ Fr w.heap.size fp ∧ Below w.heap.size w w'
theorem RetR.mk {l : List UInt8} {w w' : World} {e : Ending} {L : List FrameD} {p : Int} (h : readF l = (L, p)) {a : Option Addr} {c : Nat} (he : e = .returned (.tuple #[.slice a L.length c, .int .i64 p])) (hE : Ext [] w L (.slice a L.length c) w') : RetR l w e w' := by
  obtain ⟨f', h1, h2, h3, h4⟩ := hE
  unfold RetR
  rw [h]
  exact ⟨a, c, f', he, h1, ⟨h2, fun b hb => by rcases h3 b hb with h | h; cases h; exact h⟩, h4.bel⟩
theorem sl50 : SlT Try.prog 50 1 24 := SlT.mk (z := .agg #[.slice none 0 0]) Try.underlying50 (by kernel_rfl) rfl

theorem implReadFrames_w (l : List UInt8) (v : Value) (w : World) (h : Sl w l v) (hlen : l.length ≤ 1099511627776) :
    Calls Try.prog 41 #[v] w (RetR l w) := by
  obtain ⟨a, c, rfl, hl, -⟩ := h.open
  obtain ⟨R, hR⟩ : ∃ R, readF l = R := ⟨_, rfl⟩
  go_enter Try.func41, Try.ntmps41
  go_wp2
  go_loopw [4, 5, 6, 7, 8] (fun out p _ _ _ wr => ∃ (L : List FrameD) (q : Int) (f : Nat) (a' : Option Addr) (c' : Nat), out = .slice a' L.length c' ∧ p = .int .i64 q ∧ Ext [] w L (.slice a' L.length c') wr ∧
    0 ≤ q ∧ q ≤ l.length ∧ (L.length : Int) ≤ q ∧ Hid ((L ++ (readR l f q).1, (readR l f q).2) = readF l) ∧ l.length < q + f) (fun _ p _ _ _ _ => l.length - (intOf p).toNat)
  case atStart => exact ⟨[], 0, l.length + 1, none, 0, rfl, rfl, ⟨[], OwnS.nil _, by simp, by simp, Chg.refl _ _⟩, by omega, by omega, by simp, rfl, by omega⟩
  case round =>
    obtain ⟨L, q, f, a', c', rfl, rfl, hE, h0, hq, hLq, hd, hf⟩ := hrel
    obtain ⟨f, rfl⟩ : ∃ g, f = g + 1 := ⟨f - 1, by omega⟩
    go_wp2_with fail
    refine (implGetFrame_w l _ q _ (h.to hE.chg.bel) ⟨by omega, by omega⟩ hlen).mono ?_
    rintro e w1 ⟨a1, c1, fp1, rfl, ho, hfr, hb1⟩
    cases hF : getF l q with
    | none =>
      have e1 : frB l q = [] := by unfold frB; rw [hF]
      have e2 : frN l q = q := by unfold frN; rw [hF]
      have hd2 : readF l = (L, q) := by rw [← hd.out, readR_none l f q hF]; simp
      replace hd2 := Lib.hid hd2
      simp only [e1, e2, Option.isSome]
      go_wp2
      refine ret_mk (.tuple #[.slice a' L.length c', .int .i64 q]) (by simp [results, Try.results41, go_sem, *]) rfl (RetR.mk hd2.out rfl (hE.via hb1))
    | some xq =>
      obtain ⟨x, q2⟩ := xq
      have e1 : frB l q = x := by unfold frB; rw [hF]
      have e2 : frN l q = q2 := by unfold frN; rw [hF]
      obtain ⟨n1, n2, n3, n4⟩ := getF_next l q x q2 hF
      have hd2 : ((L ++ [⟨x⟩]) ++ (readR l f q2).1, (readR l f q2).2) = readF l := by rw [← hd.out, readR_some l f q x q2 hF]; simp
      replace hd2 := Lib.hid hd2
      rw [e1] at ho
      simp only [e1, e2, Option.isSome]
      clear e1 e2 hF hd hR
      have hby : (L.length + 1) * 24 ≤ 140737488355328 := by omega
      have hml : L.length + 1 ≤ maxLen := by simp [maxLen]; omega
      have hy : own w1 [Value.slice a1 x.length c1] (⟨x⟩ : FrameD) fp1 := ⟨_, rfl, ho⟩
      go_wp2_with (at_builtin; go_loud (refine wpList_extC rfl _ _ _ rfl sl50 rfl hE hb1 rfl rfl hy hfr hby hml ?_); intro a2 c2 w2 hE2)
      go_roundw
      case rel => exact ⟨L ++ [⟨x⟩], q2, f, a2, c2, by simp, rfl, by simpa using hE2, by omega, by omega, by simp; omega, hd2, by omega⟩
      case measure => simp [intOf]; omega
theorem specReadFrames_w (l : List UInt8) (v : Value) (w : World) (h : Sl w l v) (hlen : l.length ≤ 1099511627776) :
    Calls Try.prog 50 #[v] w (RetR l w) := by
  obtain ⟨a, c, rfl, hl, -⟩ := h.open
  obtain ⟨R, hR⟩ : ∃ R, readF l = R := ⟨_, rfl⟩
  go_enter Try.func50, Try.ntmps50
  go_wp2
  go_loopw [4, 5, 6, 7, 8] (fun out p _ _ _ wr => ∃ (L : List FrameD) (q : Int) (f : Nat) (a' : Option Addr) (c' : Nat), out = .slice a' L.length c' ∧ p = .int .i64 q ∧ Ext [] w L (.slice a' L.length c') wr ∧
    0 ≤ q ∧ q ≤ l.length ∧ (L.length : Int) ≤ q ∧ Hid ((L ++ (readR l f q).1, (readR l f q).2) = readF l) ∧ l.length < q + f) (fun _ p _ _ _ _ => l.length - (intOf p).toNat)
  case atStart => exact ⟨[], 0, l.length + 1, some ⟨w.heap.size, 0, none⟩, 0, rfl, rfl, Ext.new (α := FrameD) w #[] 54 w.heap.size 0 rfl (by decide) (by simp), by omega, by omega, by simp, rfl, by omega⟩
  case round =>
    obtain ⟨L, q, f, a', c', rfl, rfl, hE, h0, hq, hLq, hd, hf⟩ := hrel
    obtain ⟨f, rfl⟩ : ∃ g, f = g + 1 := ⟨f - 1, by omega⟩
    by_cases hlt : q < l.length
    · go_wp2_with fail
      refine (specGetFrame_w l _ q _ (h.to hE.chg.bel) ⟨by omega, by omega⟩ hlen).mono ?_
      rintro e w1 ⟨a1, c1, fp1, rfl, ho, hfr, hb1⟩
      cases hF : getF l q with
      | none =>
        have e1 : frB l q = [] := by unfold frB; rw [hF]
        have e2 : frN l q = q := by unfold frN; rw [hF]
        have hd2 : readF l = (L, q) := by rw [← hd.out, readR_none l f q hF]; simp
        replace hd2 := Lib.hid hd2
        simp only [e1, e2, Option.isSome]
        go_wp2
        refine ret_mk (.tuple #[.slice a' L.length c', .int .i64 q]) (by simp [results, Try.results50, go_sem, *]) rfl (RetR.mk hd2.out rfl (hE.via hb1))
      | some xq =>
        obtain ⟨x, q2⟩ := xq
        have e1 : frB l q = x := by unfold frB; rw [hF]
        have e2 : frN l q = q2 := by unfold frN; rw [hF]
        obtain ⟨n1, n2, n3, n4⟩ := getF_next l q x q2 hF
        have hd2 : ((L ++ [⟨x⟩]) ++ (readR l f q2).1, (readR l f q2).2) = readF l := by rw [← hd.out, readR_some l f q x q2 hF]; simp
        replace hd2 := Lib.hid hd2
        rw [e1] at ho
        simp only [e1, e2, Option.isSome]
        clear e1 e2 hF hd hR
        have hby : (L.length + 1) * 24 ≤ 140737488355328 := by omega
        have hml : L.length + 1 ≤ maxLen := by simp [maxLen]; omega
        have hy : own w1 [Value.slice a1 x.length c1] (⟨x⟩ : FrameD) fp1 := ⟨_, rfl, ho⟩
        go_wp2_with (at_builtin; go_loud (refine wpList_extC rfl _ _ _ rfl sl50 rfl hE hb1 rfl rfl hy hfr hby hml ?_); intro a2 c2 w2 hE2)
        go_roundw
        case rel => exact ⟨L ++ [⟨x⟩], q2, f, a2, c2, by simp, rfl, by simpa using hE2, by omega, by omega, by simp; omega, hd2, by omega⟩
        case measure => simp [intOf]; omega
    · have hF := getF_end l q (by omega)
      have hd2 : readF l = (L, q) := by rw [← hd.out, readR_none l f q hF]; simp
      replace hd2 := Lib.hid hd2
      clear hd hR hF
      go_wp2
      refine ret_mk (.tuple #[.slice a' L.length c', .int .i64 q]) (by simp [results, Try.results50, go_sem, *]) rfl (RetR.mk hd2.out rfl hE)

theorem readR_bound (l : List UInt8) : ∀ f p, (readR l f p).1.length ≤ f ∧ sumB (readR l f p).1 ≤ 4000 * f := by
  intro f
  induction f with
  | zero => intro p; simp [readR, sumB]
  | succ f ih =>
    intro p
    cases h : getF l p with
    | none => rw [readR_none l f p h]; simp [sumB]
    | some x =>
      have h1 := ih x.2
      have h2 := (getF_next l p x.1 x.2 h).2.2.2
      rw [readR_some l f p x.1 x.2 h]
      simp only [List.length_cons, sumB]
      omega
theorem readF_bound (l : List UInt8) : (readF l).1.length ≤ l.length + 1 ∧ sumB (readF l).1 ≤ 4000 * (l.length + 1) := readR_bound l _ _
end Go.Proofs.Ytojlnmenfikhbaa
