/- Functions that only read, walked (B). Printed by a program. -/
import Derived.Test.YthnilnggpbploaaGreatCmB3
namespace Go.Proofs.YthnilnggpbploaaGreat
open Go.RowKit
open Cel (rd own rd_len rd_one own_rd own_lt rd_below rd_mono own_keep)

-- impl.DefAt
def iDefAt_p (a0 : BookD) (a1 : ByteArray) : Int := (slices_IndexFunc_iDef_iDefAt_1_p a0.Defs a1)
set_option maxHeartbeats 1000000 in
set_option maxRecDepth 20000 in
theorem iDefAt_w (a0 : BookD) (a1 : ByteArray) (v0_0 : Value) (v0_1 : Value) (w : World) (s0_0 : Sl w a0.Defs v0_0) (s0_1 : Sl w a0.Works v0_1) :
    Calls Tryz.prog 83 #[.agg #[v0_0, v0_1, .int .i64 a0.Now, .int .i64 a0.Ring], .string a1] w (RetI (iDefAt_p a0 a1) w) := by
 obtain ⟨p0_0, c0_0, rfl, hl0_0, -, hk0_0, -⟩ := s0_0.open
 obtain ⟨p0_1, c0_1, rfl, hl0_1, -, hk0_1, -⟩ := s0_1.open
 obtain ⟨r, hr⟩ : ∃ r, iDefAt_p a0 a1 = r := ⟨_, rfl⟩
 rw [hr]
 replace hr := Lib.hid hr
 go_enter Tryz.func83, Tryz.ntmps83
 go_wp2_with fail
 refine (slices_IndexFunc_iDef_iDefAt_1_w a0.Defs a1 _ _ _ (s0_0.to (by simp (maxDischargeDepth := 9))) (by simp (maxDischargeDepth := 9))).mono ?_
 rintro e w3 ⟨rfl, hb3⟩
 have B3 := via (w0 := w) (by simp (maxDischargeDepth := 9)) hb3
 have Xbx1_3 : Bx w3 (w.heap.size) [.slice p0_0 a0.Defs.length c0_0, .slice p0_1 a0.Works.length c0_1, .int .i64 a0.Now, .int .i64 a0.Ring] := Bx.via (by simp (maxDischargeDepth := 9)) hb3
 have ⟨Xbx1_3k0, Xbx1_3k1, Xbx1_3k2, Xbx1_3k3⟩ := bx4 Xbx1_3
 have Xbx2_3 : Bx w3 (w.heap.size + 1) [.string a1] := Bx.via (by simp (maxDischargeDepth := 9)) hb3
 have Xbx2_3k0 := bx1 Xbx2_3
 obtain rfl : r = (slices_IndexFunc_iDef_iDefAt_1_p a0.Defs a1) := hr.out.symm.trans (by simp only [iDefAt_p])
 go_wp2
 go_ret
 exact ⟨by first | rfl | simp, (by simp (maxDischargeDepth := 9) [B3])⟩
end Go.Proofs.YthnilnggpbploaaGreat
