/- The program's data as structures of this proof's own; how they lie in cells. -/
import Derived.Test.YtojlnmenfikhbaaRows
import Derived.Test.YtojlnmenfikhbaaOpen
namespace Go.Proofs.Ytojlnmenfikhbaa
open Go.RowKit
open Cel (rd own rd_len rd_one own_rd own_lt rd_below rd_mono own_keep)

structure FileD where
  B : List UInt8
  Sure : Int
instance : Cel FileD := Cel.iso fun f => (f.B, f.Sure)
theorem rd_File {B : Nat} {w : World} {vs : List Value} {f : FileD} (h : rd B w vs f) : ∃ v, vs = [v, .int .i64 f.Sure] ∧ RdS B w f.B v ∧ In64 f.Sure := by
  obtain ⟨v1, v2, rfl, ⟨v, rfl, h1⟩, rfl, h2⟩ := h
  exact ⟨v, rfl, h1, h2⟩

theorem opnInt : Opn Try.prog 3 Int := opn_i64 Try.underlying3
theorem opnU8 : Opn Try.prog 5 UInt8 := opn_u8 Try.underlying5
theorem opnBytes : Opn Try.prog 22 (List UInt8) := opn_slice Try.underlying22 (by kernel_rfl) opnU8
theorem opnFile : Opn Try.prog 24 FileD :=
  opn_iso (fun f : FileD => (f.B, f.Sure)) (fun x => ⟨x.1, x.2⟩) (fun _ => rfl) (opn_struct Try.underlying24 (by kernel_rfl) (opnF_cons rfl (by kernel_rfl) opnBytes (opnF_one rfl (by kernel_rfl) opnInt)))

end Go.Proofs.Ytojlnmenfikhbaa
