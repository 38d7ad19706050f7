/- Pieces of work, books, turns: the program's and the reference's compute the same. -/
import Derived.Test.YthnilnggpbploaaGreatOk5
namespace Go.Proofs.YthnilnggpbploaaGreat
open Go.RowKit

theorem e_factOf (s : StoreD) (id : Int) : iFactOf_p s id = sFactOf_p s id := by
  unfold iFactOf_p sFactOf_p
  have h : iFactOf_p_b1 s id = sFactOf_p_b1 s id := rfl
  rw [h]
  cases rounds (sFactOf_p_b1 s id) s.Items.length () <;> rfl
theorem e_fired (d : DefD) (x : InstD) : ifiredOk_p d x = sl20Fired_p d x := by
  unfold ifiredOk_p sl20Fired_p
  have ha : ∀ k, ifiredOk_p_b1 d x k () = bif sl15Rule_p d (gt x.Fired k) && ((((gt x.Fired k).Binds.length : Nat) : Int) == 0) && ((((gt x.Fired k).Ids.length : Nat) : Int) == iPosCount_p (gt d.Rules (gt x.Fired k).Rule.toNat)) && allN (fun j => (sFactOf_p x.S (gt (gt x.Fired k).Ids j)).2) (gt x.Fired k).Ids.length then .go () else .ret false := by
    intro k
    unfold ifiredOk_p_b1
    rw [show ihasRule_p d (gt x.Fired k) = sl15Rule_p d (gt x.Fired k) from rfl, rounds_all (p := fun j => (sFactOf_p x.S (gt (gt x.Fired k).Ids j)).2) (fun j => by unfold ifiredOk_p_b2; rw [e_factOf])]
    generalize allN _ _ = A
    cases sl15Rule_p d (gt x.Fired k) <;> cases ((((gt x.Fired k).Binds.length : Nat) : Int) == 0) <;> cases ((((gt x.Fired k).Ids.length : Nat) : Int) == iPosCount_p (gt d.Rules (gt x.Fired k).Rule.toNat)) <;> cases A <;> rfl
  have hb : ∀ k, sl20Fired_p_b1 d x k () = bif sl15Rule_p d (gt x.Fired k) && ((((gt x.Fired k).Binds.length : Nat) : Int) == 0) && ((((gt x.Fired k).Ids.length : Nat) : Int) == iPosCount_p (gt d.Rules (gt x.Fired k).Rule.toNat)) && allN (fun j => (sFactOf_p x.S (gt (gt x.Fired k).Ids j)).2) (gt x.Fired k).Ids.length then .go () else .ret false := by
    intro k
    unfold sl20Fired_p_b1
    rw [e_count, rounds_all (p := fun j => (sFactOf_p x.S (gt (gt x.Fired k).Ids j)).2) (fun j => rfl)]
    generalize allN _ _ = A
    cases sl15Rule_p d (gt x.Fired k) <;> cases ((((gt x.Fired k).Binds.length : Nat) : Int) == 0) <;> cases ((((gt x.Fired k).Ids.length : Nat) : Int) == iPosCount_p (gt d.Rules (gt x.Fired k).Rule.toNat)) <;> cases A <;> rfl
  rw [rounds_all ha, rounds_all hb]
  have h2 : decide (x.Fired.length ≤ 1000) = !decide (1000 < x.Fired.length) := by rw [← decide_not]; apply decide_eq_decide.2; omega
  rw [h2]
  generalize allN _ _ = A
  cases decide (1000 < x.Fired.length) <;> cases A <;> rfl
theorem e_live (l : List TaskD) : slices_ContainsFunc_iTask_iisOpen_p l = sl20Live_p l := by
  unfold slices_ContainsFunc_iTask_iisOpen_p slices_IndexFunc_iTask_iisOpen_p sl20Live_p
  rw [rounds_find (c := fun k => iisOpen_p (gt l k)) (g := fun k => (k : Int)) (fun k => rfl),
    rounds_find (c := fun k => iisOpen_p (gt l k)) (g := fun _ => true) (fun k => by
      unfold sl20Live_p_b1 iisOpen_p; cases ((gt l k).State == 1) <;> cases ((gt l k).State == 2) <;> rfl)]
  cases firstB (fun k => iisOpen_p (gt l k)) l.length with
  | none => rfl
  | some k => simp
theorem e_inst (d : DefD) (x : InstD) : iInstOk_p d x = sInstOk_p d x := by
  unfold iInstOk_p sInstOk_p iisTime_p
  rw [e_def, e_store, e_tasks, e_timers, e_undos, e_fired, e_live]
  cases sDefOk_p d
  · rfl
  cases sStoreOk_p x.S
  · rfl
  cases sTasksOk_p x.Tasks
  · rfl
  cases sTimersOk_p x.Timers
  · rfl
  cases sUndosOk_p x.Undos
  · rfl
  cases inR x.State 1 6
  · rfl
  cases inR x.Now 0 1000000000
  · rfl
  cases sl20Fired_p d x
  · rfl
  have ht : (((x.Timers.length : Nat) : Int) == 0) = !decide (0 < x.Timers.length) := by
    rw [← decide_not, Bool.eq_iff_iff]; simp
  simp only [cond_true]
  rw [ht]
  unfold iEnded_p sEnded_p sl20Undoing_p
  by_cases h3 : x.State = 3
  · rw [h3]; rfl
  by_cases h5 : x.State = 5
  · rw [h5]; rfl
  have b3 : (x.State == 3) = false := by simpa using h3
  have b5 : (x.State == 5) = false := by simpa using h5
  rw [b3, b5]
  cases (x.State == 2) <;> cases (x.State == 4) <;> cases (x.State == 6) <;> cases decide (0 < x.Timers.length) <;> cases sl20Live_p x.Tasks <;> rfl
theorem e_defAt (b : BookD) (s : ByteArray) : iDefAt_p b s = sDefAt_p b s := by rw [iDefAt_eq, sDefAt_eq]
theorem e_workAt (b : BookD) (s : ByteArray) : iWorkAt_p b s = sWorkAt_p b s := by
  have h1 : iWorkAt_p b s = idxN (fun k => (gt b.Works k).Name.toList == s.toList) b.Works.length := by
    unfold iWorkAt_p slices_IndexFunc_iWork_iWorkAt_1_p
    exact idx_of fun k => by unfold slices_IndexFunc_iWork_iWorkAt_1_p_b1 iWorkAt_1_p; cases (gt b.Works k).Name.toList == s.toList <;> rfl
  have h2 : sWorkAt_p b s = idxN (fun k => (gt b.Works k).Name.toList == s.toList) b.Works.length := by
    unfold sWorkAt_p
    exact idx_of fun k => by unfold sWorkAt_p_b1; cases (gt b.Works k).Name.toList == s.toList <;> rfl
  rw [h1, h2]
theorem e_book (b : BookD) : iBookOk_p b = sBookOk_p b := by
  unfold iBookOk_p sBookOk_p iisTime_p
  have h1 : iBookOk_p_b1 b = sBookOk_p_b1 b := by
    funext k u
    unfold iBookOk_p_b1 sBookOk_p_b1
    rw [e_def, e_defAt]
  have h2 : iBookOk_p_b2 b = sBookOk_p_b2 b := by
    funext k u
    unfold iBookOk_p_b2 sBookOk_p_b2
    rw [e_name, e_workAt, e_defAt, e_inst]
    generalize sInstOk_p _ _ = I
    cases decide (sDefAt_p b (gt b.Works k).Def < 0) <;> cases sNameOk_p (gt b.Works k).Name <;> cases (sWorkAt_p b (gt b.Works k).Name == (k : Int)) <;> cases decide (b.Now < (gt b.Works k).X.Now) <;> cases I <;> rfl
  rw [h1, h2]
  cases rounds (sBookOk_p_b1 b) b.Defs.length () <;> cases rounds (sBookOk_p_b2 b) b.Works.length () <;> rfl
theorem e_turns (b : BookD) (i : Int) : iTurnsTo_p b i = sTurnsTo_p b i := by
  unfold iTurnsTo_p sTurnsTo_p
  rw [e_book]
  have h : (i - b.Ring + ((b.Works.length : Nat) : Int)) % ((b.Works.length : Nat) : Int) = (i + ((b.Works.length : Nat) : Int) - b.Ring % ((b.Works.length : Nat) : Int)) % ((b.Works.length : Nat) : Int) := by
    rw [Int.sub_emod (i + ((b.Works.length : Nat) : Int)) (b.Ring % _), Int.emod_emod, ← Int.sub_emod]
    congr 1; omega
  rw [h]
  cases decide (i < 0) <;> cases decide (((b.Works.length : Nat) : Int) ≤ i) <;> cases sBookOk_p b <;> rfl
end Go.Proofs.YthnilnggpbploaaGreat
