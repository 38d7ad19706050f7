/-
  No cell of these rows narrows 'for every input' (looked for: loops, veiled, ifaces, maps, wideKeys, modest, calm, conditions, laid).
  DERIVED. THE GIVEN ROWS OF THIS SEAT. 3 by the template 'for every input the law returns true; each argument reads behind the call as it read before'; 0 by the template 'total and deterministic' (their statements: YtipbfgknaihifaaGreatTotals.lean).
  GIVEN WITH THE SEED: the statements are not yours to turn. If you find one false, say at which input.
  Laid BY PROGRAM, IN A SANDBOX (cutbox-rows.mjs): the forced cells as the released guide's own fill.sh prints them over the translation 4d4caed8fbbedf26… (all of the seat's roots in one cut). By AI agents, Wed Nov 11 2026. No macro, syntax, notation, axiom, sorry.
-/
import Derived.Test.YtipbfgknaihifaaGreatChecked
import GoSem.Claim
import GoSem.ClaimJoined
import GoSem.ClaimMapViews
import Derived.JoinedTies
import Derived.KernelRfl
namespace Go.Proofs.YtipbfgknaihifaaGreat
/- THE CELL 'sum', in the pinned program and in every row, IS THE sha256 OF THE DUMP (.gsa) THAT YtipbfgknaihifaaGreatProg.lean LOADS. Nothing in Lean hashes anything: it is a label: what it is worth is what the hold of that sum in a sandbox is worth. -/
noncomputable def Tryz.pinned : Pinned := { name := "ytipbfgknaihifaagreat", sum := "4d4caed8fbbedf26870fd63ee2b8992ad6c9fc11c8b9f1e17c5cbfd3b54eb3e4", checked := Tryz.checked }
namespace Rows
def none {H : Type} : Left H := { results := [], args := [] }

/-- 'laws.FnExactCanFire': WHATEVER THE INPUT: true; the input reads as it did. -/
def fnExactCanFireSpec : ChangeSpec := { name := "fnExactCanFire", fn := fun _ => fun
  | [d1, d2] => { results := [.lit (.bool true)], args := [d1, d2] }
  | _ => none }
def fnExactCanFireRow : OpenClaim := { program := "ytipbfgknaihifaagreat", sum := "4d4caed8fbbedf26870fd63ee2b8992ad6c9fc11c8b9f1e17c5cbfd3b54eb3e4", func := "loop.example/g00282/laws.FnExactCanFire", spec := "fnExactCanFire", unfollowed := true, recurses := true, apart := false }
def FnExactCanFireSaid : Prop := fnExactCanFireRow.holds Tryz.pinned (OpenSpec.ofChange fnExactCanFireSpec)

/-- ITS FALSE NEIGHBOUR: 'it returns false'. Refute it at one input. -/
def fnExactCanFireWrong : ChangeSpec := { name := "fnExactCanFire", fn := fun _ => fun
  | [d1, d2] => { results := [.lit (.bool false)], args := [d1, d2] }
  | _ => none }
def FnExactCanFireWrongFalsely : Prop := fnExactCanFireRow.holds Tryz.pinned (OpenSpec.ofChange fnExactCanFireWrong)

/-- 'laws.FnExactIdle': WHATEVER THE INPUT: true; the input reads as it did. -/
def fnExactIdleSpec : ChangeSpec := { name := "fnExactIdle", fn := fun _ => fun
  | [d] => { results := [.lit (.bool true)], args := [d] }
  | _ => none }
def fnExactIdleRow : OpenClaim := { program := "ytipbfgknaihifaagreat", sum := "4d4caed8fbbedf26870fd63ee2b8992ad6c9fc11c8b9f1e17c5cbfd3b54eb3e4", func := "loop.example/g00282/laws.FnExactIdle", spec := "fnExactIdle", unfollowed := true, recurses := true, apart := false }
def FnExactIdleSaid : Prop := fnExactIdleRow.holds Tryz.pinned (OpenSpec.ofChange fnExactIdleSpec)

/-- ITS FALSE NEIGHBOUR: 'it returns false'. Refute it at one input. -/
def fnExactIdleWrong : ChangeSpec := { name := "fnExactIdle", fn := fun _ => fun
  | [d] => { results := [.lit (.bool false)], args := [d] }
  | _ => none }
def FnExactIdleWrongFalsely : Prop := fnExactIdleRow.holds Tryz.pinned (OpenSpec.ofChange fnExactIdleWrong)

/-- 'laws.FnExactNextTurn': WHATEVER THE INPUT: true; the input reads as it did. -/
def fnExactNextTurnSpec : ChangeSpec := { name := "fnExactNextTurn", fn := fun _ => fun
  | [d] => { results := [.lit (.bool true)], args := [d] }
  | _ => none }
def fnExactNextTurnRow : OpenClaim := { program := "ytipbfgknaihifaagreat", sum := "4d4caed8fbbedf26870fd63ee2b8992ad6c9fc11c8b9f1e17c5cbfd3b54eb3e4", func := "loop.example/g00282/laws.FnExactNextTurn", spec := "fnExactNextTurn", unfollowed := true, recurses := true, apart := false }
def FnExactNextTurnSaid : Prop := fnExactNextTurnRow.holds Tryz.pinned (OpenSpec.ofChange fnExactNextTurnSpec)

/-- ITS FALSE NEIGHBOUR: 'it returns false'. Refute it at one input. -/
def fnExactNextTurnWrong : ChangeSpec := { name := "fnExactNextTurn", fn := fun _ => fun
  | [d] => { results := [.lit (.bool false)], args := [d] }
  | _ => none }
def FnExactNextTurnWrongFalsely : Prop := fnExactNextTurnRow.holds Tryz.pinned (OpenSpec.ofChange fnExactNextTurnWrong)

/- THE SECOND FORM. 'bulk': how many values and letters a reading holds, each counted each time it is reached (what is shared counts as often as it is met; a slice's spare places count too). A statement '..UptoSaid' is the law's where the arguments, and the package variables that the reading takes, are together of bulk at most 1048576: NARROWER than '..Said'. Prove '..Said' where nothing that the law and all that it calls make is longer than what came in: it says more and counts as full. Else prove '..UptoSaid'. A law counts once. -/
mutual
def uptoBulk {H : Type} : DataW H → Nat
  | .lit (.string bytes) => bytes.length + 1
  | .lit _ => 1
  | .nil => 1
  | .ptr d => uptoBulk d + 1
  | .slice elems spare => uptoBulkAll elems + uptoBulkAll spare + 1
  | .agg parts => uptoBulkAll parts + 1
  | .iface _ d => uptoBulk d + 1
  | .map entries => uptoBulkEntries entries + 1
  | .held _ => 1
def uptoBulkAll {H : Type} : List (DataW H) → Nat
  | [] => 0
  | d :: r => uptoBulk d + uptoBulkAll r
def uptoBulkEntries {H : Type} : List (Lit × DataW H) → Nat
  | [] => 0
  | x :: r => uptoBulkEntry x + uptoBulkEntries r
def uptoBulkEntry {H : Type} : Lit × DataW H → Nat
  | (.string bytes, d) => bytes.length + uptoBulk d + 1
  | (_, d) => uptoBulk d + 1
 end
def uptoSmall : (H : Type) → List (DataW H) → Bool := fun _ ds => decide (uptoBulkAll ds ≤ 1048576)
def OpenSpec.upto (s : _root_.Go.ChangeSpec) : _root_.Go.OpenSpec := { _root_.Go.OpenSpec.ofChange s with cond := some uptoSmall }

/-- 'laws.FnExactCanFire', WHERE WHAT IT READS IS OF BULK AT MOST 1048576: true; the input reads as it did. -/
def fnExactCanFireUptoRow : OpenClaim := { program := "ytipbfgknaihifaagreat", sum := "4d4caed8fbbedf26870fd63ee2b8992ad6c9fc11c8b9f1e17c5cbfd3b54eb3e4", func := "loop.example/g00282/laws.FnExactCanFire", spec := "fnExactCanFire", unfollowed := true, recurses := true, apart := false, narrowed := true }
def FnExactCanFireUptoSaid : Prop := fnExactCanFireUptoRow.holds Tryz.pinned (OpenSpec.upto fnExactCanFireSpec)

/-- 'laws.FnExactIdle', WHERE WHAT IT READS IS OF BULK AT MOST 1048576: true; the input reads as it did. -/
def fnExactIdleUptoRow : OpenClaim := { program := "ytipbfgknaihifaagreat", sum := "4d4caed8fbbedf26870fd63ee2b8992ad6c9fc11c8b9f1e17c5cbfd3b54eb3e4", func := "loop.example/g00282/laws.FnExactIdle", spec := "fnExactIdle", unfollowed := true, recurses := true, apart := false, narrowed := true }
def FnExactIdleUptoSaid : Prop := fnExactIdleUptoRow.holds Tryz.pinned (OpenSpec.upto fnExactIdleSpec)

/-- 'laws.FnExactNextTurn', WHERE WHAT IT READS IS OF BULK AT MOST 1048576: true; the input reads as it did. -/
def fnExactNextTurnUptoRow : OpenClaim := { program := "ytipbfgknaihifaagreat", sum := "4d4caed8fbbedf26870fd63ee2b8992ad6c9fc11c8b9f1e17c5cbfd3b54eb3e4", func := "loop.example/g00282/laws.FnExactNextTurn", spec := "fnExactNextTurn", unfollowed := true, recurses := true, apart := false, narrowed := true }
def FnExactNextTurnUptoSaid : Prop := fnExactNextTurnUptoRow.holds Tryz.pinned (OpenSpec.upto fnExactNextTurnSpec)

end Rows
end Go.Proofs.YtipbfgknaihifaaGreat
