/- Where a definition stands: within bounds. -/
import Derived.Test.YthnilnggpbploaaGreatCmB4
import Derived.Test.YthnilnggpbploaaGreatCmS4
import Derived.Test.YthnilnggpbploaaGreatFind
namespace Go.Proofs.YthnilnggpbploaaGreat
open Go.RowKit

theorem iDefAt_eq (b : BookD) (s : ByteArray) : iDefAt_p b s = idxN (fun k => (gt b.Defs k).Name.toList == s.toList) b.Defs.length := by
  unfold iDefAt_p slices_IndexFunc_iDef_iDefAt_1_p
  exact idx_of fun k => by unfold slices_IndexFunc_iDef_iDefAt_1_p_b1 iDefAt_1_p; cases (gt b.Defs k).Name.toList == s.toList <;> rfl
theorem sDefAt_eq (b : BookD) (s : ByteArray) : sDefAt_p b s = idxN (fun k => (gt b.Defs k).Name.toList == s.toList) b.Defs.length := by
  unfold sDefAt_p
  exact idx_of fun k => by unfold sDefAt_p_b1; cases (gt b.Defs k).Name.toList == s.toList <;> rfl
theorem iDefAt_in (b : BookD) (s : ByteArray) : -1 ≤ iDefAt_p b s ∧ iDefAt_p b s < ((b.Defs.length : Nat) : Int) := by rw [iDefAt_eq]; exact idxN_in _ _
theorem sDefAt_in (b : BookD) (s : ByteArray) : -1 ≤ sDefAt_p b s ∧ sDefAt_p b s < ((b.Defs.length : Nat) : Int) := by rw [sDefAt_eq]; exact idxN_in _ _
end Go.Proofs.YthnilnggpbploaaGreat
