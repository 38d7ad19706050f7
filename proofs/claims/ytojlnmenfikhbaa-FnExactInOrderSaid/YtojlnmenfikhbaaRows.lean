/-
  No cell of these rows narrows 'for every input' (looked for: loops, veiled, ifaces, maps, wideKeys, modest, calm, conditions, laid).
  DERIVED. THE GIVEN ROWS OF THIS SEAT. 12 by the template 'for every input the law returns true; each argument reads behind the call as it read before'; 0 by the template 'total and deterministic' (their statements: YtojlnmenfikhbaaTotals.lean).
  GIVEN WITH THE SEED: the statements are not yours to turn. If you find one false, say at which input.
  Laid BY PROGRAM, IN A SANDBOX (cutbox-rows.mjs): the forced cells as the released guide's own fill.sh prints them over the translation d79e566d13c1f78a… (all of the seat's roots in one cut). By AI agents, Wed Nov 11 2026. No macro, syntax, notation, axiom, sorry.
-/
import Derived.Test.YtojlnmenfikhbaaChecked
import GoSem.Claim
import GoSem.ClaimJoined
import GoSem.ClaimMapViews
import Derived.JoinedTies
import Derived.KernelRfl
namespace Go.Proofs.Ytojlnmenfikhbaa
/- THE CELL 'sum', in the pinned program and in every row, IS THE sha256 OF THE DUMP (.gsa) THAT YtojlnmenfikhbaaProg.lean LOADS. Nothing in Lean hashes anything: it is a label: what it is worth is what the hold of that sum in a sandbox is worth. -/
noncomputable def Try.pinned : Pinned := { name := "ytojlnmenfikhbaa", sum := "d79e566d13c1f78a622f38b313d579c1b73e98dd0cb5f26f21e8115d678b2b27", checked := Try.checked }
namespace Rows
def none {H : Type} : Left H := { results := [], args := [] }

/-- 'laws.FnExactFileOk': WHATEVER THE INPUT: true; the input reads as it did. -/
def fnExactFileOkSpec : ChangeSpec := { name := "fnExactFileOk", fn := fun _ => fun
  | [d] => { results := [.lit (.bool true)], args := [d] }
  | _ => none }
def fnExactFileOkRow : OpenClaim := { program := "ytojlnmenfikhbaa", sum := "d79e566d13c1f78a622f38b313d579c1b73e98dd0cb5f26f21e8115d678b2b27", func := "loop.example/g00282/laws.FnExactFileOk", spec := "fnExactFileOk", apart := false }
def FnExactFileOkSaid : Prop := fnExactFileOkRow.holds Try.pinned (OpenSpec.ofChange fnExactFileOkSpec)

/-- ITS FALSE NEIGHBOUR: 'it returns false'. Refute it at one input. -/
def fnExactFileOkWrong : ChangeSpec := { name := "fnExactFileOk", fn := fun _ => fun
  | [d] => { results := [.lit (.bool false)], args := [d] }
  | _ => none }
def FnExactFileOkWrongFalsely : Prop := fnExactFileOkRow.holds Try.pinned (OpenSpec.ofChange fnExactFileOkWrong)

/-- 'laws.FnExactSureFile': WHATEVER THE INPUT: true; the input reads as it did. -/
def fnExactSureFileSpec : ChangeSpec := { name := "fnExactSureFile", fn := fun _ => fun
  | [d] => { results := [.lit (.bool true)], args := [d] }
  | _ => none }
def fnExactSureFileRow : OpenClaim := { program := "ytojlnmenfikhbaa", sum := "d79e566d13c1f78a622f38b313d579c1b73e98dd0cb5f26f21e8115d678b2b27", func := "loop.example/g00282/laws.FnExactSureFile", spec := "fnExactSureFile", apart := false }
def FnExactSureFileSaid : Prop := fnExactSureFileRow.holds Try.pinned (OpenSpec.ofChange fnExactSureFileSpec)

/-- ITS FALSE NEIGHBOUR: 'it returns false'. Refute it at one input. -/
def fnExactSureFileWrong : ChangeSpec := { name := "fnExactSureFile", fn := fun _ => fun
  | [d] => { results := [.lit (.bool false)], args := [d] }
  | _ => none }
def FnExactSureFileWrongFalsely : Prop := fnExactSureFileRow.holds Try.pinned (OpenSpec.ofChange fnExactSureFileWrong)

/-- 'laws.FnExactAppendFile': WHATEVER THE INPUT: true; the input reads as it did. -/
def fnExactAppendFileSpec : ChangeSpec := { name := "fnExactAppendFile", fn := fun _ => fun
  | [d1, d2] => { results := [.lit (.bool true)], args := [d1, d2] }
  | _ => none }
def fnExactAppendFileRow : OpenClaim := { program := "ytojlnmenfikhbaa", sum := "d79e566d13c1f78a622f38b313d579c1b73e98dd0cb5f26f21e8115d678b2b27", func := "loop.example/g00282/laws.FnExactAppendFile", spec := "fnExactAppendFile", apart := false }
def FnExactAppendFileSaid : Prop := fnExactAppendFileRow.holds Try.pinned (OpenSpec.ofChange fnExactAppendFileSpec)

/-- ITS FALSE NEIGHBOUR: 'it returns false'. Refute it at one input. -/
def fnExactAppendFileWrong : ChangeSpec := { name := "fnExactAppendFile", fn := fun _ => fun
  | [d1, d2] => { results := [.lit (.bool false)], args := [d1, d2] }
  | _ => none }
def FnExactAppendFileWrongFalsely : Prop := fnExactAppendFileRow.holds Try.pinned (OpenSpec.ofChange fnExactAppendFileWrong)

/-- 'laws.FnExactFallFile': WHATEVER THE INPUT: true; the input reads as it did. -/
def fnExactFallFileSpec : ChangeSpec := { name := "fnExactFallFile", fn := fun _ => fun
  | [d1, d2] => { results := [.lit (.bool true)], args := [d1, d2] }
  | _ => none }
def fnExactFallFileRow : OpenClaim := { program := "ytojlnmenfikhbaa", sum := "d79e566d13c1f78a622f38b313d579c1b73e98dd0cb5f26f21e8115d678b2b27", func := "loop.example/g00282/laws.FnExactFallFile", spec := "fnExactFallFile", apart := false }
def FnExactFallFileSaid : Prop := fnExactFallFileRow.holds Try.pinned (OpenSpec.ofChange fnExactFallFileSpec)

/-- ITS FALSE NEIGHBOUR: 'it returns false'. Refute it at one input. -/
def fnExactFallFileWrong : ChangeSpec := { name := "fnExactFallFile", fn := fun _ => fun
  | [d1, d2] => { results := [.lit (.bool false)], args := [d1, d2] }
  | _ => none }
def FnExactFallFileWrongFalsely : Prop := fnExactFallFileRow.holds Try.pinned (OpenSpec.ofChange fnExactFallFileWrong)

/-- 'laws.FnExactPutFrame': WHATEVER THE INPUT: true; the input reads as it did. -/
def fnExactPutFrameSpec : ChangeSpec := { name := "fnExactPutFrame", fn := fun _ => fun
  | [d1, d2] => { results := [.lit (.bool true)], args := [d1, d2] }
  | _ => none }
def fnExactPutFrameRow : OpenClaim := { program := "ytojlnmenfikhbaa", sum := "d79e566d13c1f78a622f38b313d579c1b73e98dd0cb5f26f21e8115d678b2b27", func := "loop.example/g00282/laws.FnExactPutFrame", spec := "fnExactPutFrame", apart := false }
def FnExactPutFrameSaid : Prop := fnExactPutFrameRow.holds Try.pinned (OpenSpec.ofChange fnExactPutFrameSpec)

/-- ITS FALSE NEIGHBOUR: 'it returns false'. Refute it at one input. -/
def fnExactPutFrameWrong : ChangeSpec := { name := "fnExactPutFrame", fn := fun _ => fun
  | [d1, d2] => { results := [.lit (.bool false)], args := [d1, d2] }
  | _ => none }
def FnExactPutFrameWrongFalsely : Prop := fnExactPutFrameRow.holds Try.pinned (OpenSpec.ofChange fnExactPutFrameWrong)

/-- 'laws.FnFiles': WHATEVER THE INPUT: true; the input reads as it did. -/
def fnFilesSpec : ChangeSpec := { name := "fnFiles", fn := fun _ => fun
  | [d] => { results := [.lit (.bool true)], args := [d] }
  | _ => none }
def fnFilesRow : OpenClaim := { program := "ytojlnmenfikhbaa", sum := "d79e566d13c1f78a622f38b313d579c1b73e98dd0cb5f26f21e8115d678b2b27", func := "loop.example/g00282/laws.FnFiles", spec := "fnFiles", apart := false }
def FnFilesSaid : Prop := fnFilesRow.holds Try.pinned (OpenSpec.ofChange fnFilesSpec)

/-- ITS FALSE NEIGHBOUR: 'it returns false'. Refute it at one input. -/
def fnFilesWrong : ChangeSpec := { name := "fnFiles", fn := fun _ => fun
  | [d] => { results := [.lit (.bool false)], args := [d] }
  | _ => none }
def FnFilesWrongFalsely : Prop := fnFilesRow.holds Try.pinned (OpenSpec.ofChange fnFilesWrong)

/-- 'laws.FnExactGetFrame': WHATEVER THE INPUT: true; the input reads as it did. -/
def fnExactGetFrameSpec : ChangeSpec := { name := "fnExactGetFrame", fn := fun _ => fun
  | [d1, d2] => { results := [.lit (.bool true)], args := [d1, d2] }
  | _ => none }
def fnExactGetFrameRow : OpenClaim := { program := "ytojlnmenfikhbaa", sum := "d79e566d13c1f78a622f38b313d579c1b73e98dd0cb5f26f21e8115d678b2b27", func := "loop.example/g00282/laws.FnExactGetFrame", spec := "fnExactGetFrame", apart := false }
def FnExactGetFrameSaid : Prop := fnExactGetFrameRow.holds Try.pinned (OpenSpec.ofChange fnExactGetFrameSpec)

/-- ITS FALSE NEIGHBOUR: 'it returns false'. Refute it at one input. -/
def fnExactGetFrameWrong : ChangeSpec := { name := "fnExactGetFrame", fn := fun _ => fun
  | [d1, d2] => { results := [.lit (.bool false)], args := [d1, d2] }
  | _ => none }
def FnExactGetFrameWrongFalsely : Prop := fnExactGetFrameRow.holds Try.pinned (OpenSpec.ofChange fnExactGetFrameWrong)

/-- 'laws.FnFrames': WHATEVER THE INPUT: true; the input reads as it did. -/
def fnFramesSpec : ChangeSpec := { name := "fnFrames", fn := fun _ => fun
  | [d] => { results := [.lit (.bool true)], args := [d] }
  | _ => none }
def fnFramesRow : OpenClaim := { program := "ytojlnmenfikhbaa", sum := "d79e566d13c1f78a622f38b313d579c1b73e98dd0cb5f26f21e8115d678b2b27", func := "loop.example/g00282/laws.FnFrames", spec := "fnFrames", apart := false }
def FnFramesSaid : Prop := fnFramesRow.holds Try.pinned (OpenSpec.ofChange fnFramesSpec)

/-- ITS FALSE NEIGHBOUR: 'it returns false'. Refute it at one input. -/
def fnFramesWrong : ChangeSpec := { name := "fnFrames", fn := fun _ => fun
  | [d] => { results := [.lit (.bool false)], args := [d] }
  | _ => none }
def FnFramesWrongFalsely : Prop := fnFramesRow.holds Try.pinned (OpenSpec.ofChange fnFramesWrong)

/-- 'laws.FnExactTriesOf': WHATEVER THE INPUT: true; the input reads as it did. -/
def fnExactTriesOfSpec : ChangeSpec := { name := "fnExactTriesOf", fn := fun _ => fun
  | [d1, d2, d3] => { results := [.lit (.bool true)], args := [d1, d2, d3] }
  | _ => none }
def fnExactTriesOfRow : OpenClaim := { program := "ytojlnmenfikhbaa", sum := "d79e566d13c1f78a622f38b313d579c1b73e98dd0cb5f26f21e8115d678b2b27", func := "loop.example/g00282/laws.FnExactTriesOf", spec := "fnExactTriesOf", apart := false }
def FnExactTriesOfSaid : Prop := fnExactTriesOfRow.holds Try.pinned (OpenSpec.ofChange fnExactTriesOfSpec)

/-- ITS FALSE NEIGHBOUR: 'it returns false'. Refute it at one input. -/
def fnExactTriesOfWrong : ChangeSpec := { name := "fnExactTriesOf", fn := fun _ => fun
  | [d1, d2, d3] => { results := [.lit (.bool false)], args := [d1, d2, d3] }
  | _ => none }
def FnExactTriesOfWrongFalsely : Prop := fnExactTriesOfRow.holds Try.pinned (OpenSpec.ofChange fnExactTriesOfWrong)

/-- 'laws.FnExactInOrder': WHATEVER THE INPUT: true; the input reads as it did. -/
def fnExactInOrderSpec : ChangeSpec := { name := "fnExactInOrder", fn := fun _ => fun
  | [d] => { results := [.lit (.bool true)], args := [d] }
  | _ => none }
def fnExactInOrderRow : OpenClaim := { program := "ytojlnmenfikhbaa", sum := "d79e566d13c1f78a622f38b313d579c1b73e98dd0cb5f26f21e8115d678b2b27", func := "loop.example/g00282/laws.FnExactInOrder", spec := "fnExactInOrder", apart := false }
def FnExactInOrderSaid : Prop := fnExactInOrderRow.holds Try.pinned (OpenSpec.ofChange fnExactInOrderSpec)

/-- ITS FALSE NEIGHBOUR: 'it returns false'. Refute it at one input. -/
def fnExactInOrderWrong : ChangeSpec := { name := "fnExactInOrder", fn := fun _ => fun
  | [d] => { results := [.lit (.bool false)], args := [d] }
  | _ => none }
def FnExactInOrderWrongFalsely : Prop := fnExactInOrderRow.holds Try.pinned (OpenSpec.ofChange fnExactInOrderWrong)

/-- 'laws.FnExactReadFrames': WHATEVER THE INPUT: true; the input reads as it did. -/
def fnExactReadFramesSpec : ChangeSpec := { name := "fnExactReadFrames", fn := fun _ => fun
  | [d] => { results := [.lit (.bool true)], args := [d] }
  | _ => none }
def fnExactReadFramesRow : OpenClaim := { program := "ytojlnmenfikhbaa", sum := "d79e566d13c1f78a622f38b313d579c1b73e98dd0cb5f26f21e8115d678b2b27", func := "loop.example/g00282/laws.FnExactReadFrames", spec := "fnExactReadFrames", apart := false }
def FnExactReadFramesSaid : Prop := fnExactReadFramesRow.holds Try.pinned (OpenSpec.ofChange fnExactReadFramesSpec)

/-- ITS FALSE NEIGHBOUR: 'it returns false'. Refute it at one input. -/
def fnExactReadFramesWrong : ChangeSpec := { name := "fnExactReadFrames", fn := fun _ => fun
  | [d] => { results := [.lit (.bool false)], args := [d] }
  | _ => none }
def FnExactReadFramesWrongFalsely : Prop := fnExactReadFramesRow.holds Try.pinned (OpenSpec.ofChange fnExactReadFramesWrong)

/-- 'laws.FnFrame': WHATEVER THE INPUT: true; the input reads as it did. -/
def fnFrameSpec : ChangeSpec := { name := "fnFrame", fn := fun _ => fun
  | [d] => { results := [.lit (.bool true)], args := [d] }
  | _ => none }
def fnFrameRow : OpenClaim := { program := "ytojlnmenfikhbaa", sum := "d79e566d13c1f78a622f38b313d579c1b73e98dd0cb5f26f21e8115d678b2b27", func := "loop.example/g00282/laws.FnFrame", spec := "fnFrame", apart := false }
def FnFrameSaid : Prop := fnFrameRow.holds Try.pinned (OpenSpec.ofChange fnFrameSpec)

/-- ITS FALSE NEIGHBOUR: 'it returns false'. Refute it at one input. -/
def fnFrameWrong : ChangeSpec := { name := "fnFrame", fn := fun _ => fun
  | [d] => { results := [.lit (.bool false)], args := [d] }
  | _ => none }
def FnFrameWrongFalsely : Prop := fnFrameRow.holds Try.pinned (OpenSpec.ofChange fnFrameWrong)

/- THE SECOND FORM. 'bulk': how many values and letters a reading holds, each counted each time it is reached (what is shared counts as often as it is met; a slice's spare places count too). A statement '..UptoSaid' is the law's where the arguments, and the package variables that the reading takes, are together of bulk at most 1048576: NARROWER than '..Said'. Prove '..Said' where nothing that the law and all that it calls make is longer than what came in: it says more and counts as full. Else prove '..UptoSaid'. A law counts once. -/
mutual
def uptoBulk {H : Type} : DataW H → Nat
  | .lit (.string bytes) => bytes.length + 1
  | .lit _ => 1
  | .nil => 1
  | .ptr d => uptoBulk d + 1
  | .slice elems spare => uptoBulkAll elems + uptoBulkAll spare + 1
  | .agg parts => uptoBulkAll parts + 1
  | .iface _ d => uptoBulk d + 1
  | .map entries => uptoBulkEntries entries + 1
  | .held _ => 1
def uptoBulkAll {H : Type} : List (DataW H) → Nat
  | [] => 0
  | d :: r => uptoBulk d + uptoBulkAll r
def uptoBulkEntries {H : Type} : List (Lit × DataW H) → Nat
  | [] => 0
  | x :: r => uptoBulkEntry x + uptoBulkEntries r
def uptoBulkEntry {H : Type} : Lit × DataW H → Nat
  | (.string bytes, d) => bytes.length + uptoBulk d + 1
  | (_, d) => uptoBulk d + 1
 end
def uptoSmall : (H : Type) → List (DataW H) → Bool := fun _ ds => decide (uptoBulkAll ds ≤ 1048576)
def OpenSpec.upto (s : _root_.Go.ChangeSpec) : _root_.Go.OpenSpec := { _root_.Go.OpenSpec.ofChange s with cond := some uptoSmall }

/-- 'laws.FnExactFileOk', WHERE WHAT IT READS IS OF BULK AT MOST 1048576: true; the input reads as it did. -/
def fnExactFileOkUptoRow : OpenClaim := { program := "ytojlnmenfikhbaa", sum := "d79e566d13c1f78a622f38b313d579c1b73e98dd0cb5f26f21e8115d678b2b27", func := "loop.example/g00282/laws.FnExactFileOk", spec := "fnExactFileOk", apart := false, narrowed := true }
def FnExactFileOkUptoSaid : Prop := fnExactFileOkUptoRow.holds Try.pinned (OpenSpec.upto fnExactFileOkSpec)

/-- 'laws.FnExactSureFile', WHERE WHAT IT READS IS OF BULK AT MOST 1048576: true; the input reads as it did. -/
def fnExactSureFileUptoRow : OpenClaim := { program := "ytojlnmenfikhbaa", sum := "d79e566d13c1f78a622f38b313d579c1b73e98dd0cb5f26f21e8115d678b2b27", func := "loop.example/g00282/laws.FnExactSureFile", spec := "fnExactSureFile", apart := false, narrowed := true }
def FnExactSureFileUptoSaid : Prop := fnExactSureFileUptoRow.holds Try.pinned (OpenSpec.upto fnExactSureFileSpec)

/-- 'laws.FnExactAppendFile', WHERE WHAT IT READS IS OF BULK AT MOST 1048576: true; the input reads as it did. -/
def fnExactAppendFileUptoRow : OpenClaim := { program := "ytojlnmenfikhbaa", sum := "d79e566d13c1f78a622f38b313d579c1b73e98dd0cb5f26f21e8115d678b2b27", func := "loop.example/g00282/laws.FnExactAppendFile", spec := "fnExactAppendFile", apart := false, narrowed := true }
def FnExactAppendFileUptoSaid : Prop := fnExactAppendFileUptoRow.holds Try.pinned (OpenSpec.upto fnExactAppendFileSpec)

/-- 'laws.FnExactFallFile', WHERE WHAT IT READS IS OF BULK AT MOST 1048576: true; the input reads as it did. -/
def fnExactFallFileUptoRow : OpenClaim := { program := "ytojlnmenfikhbaa", sum := "d79e566d13c1f78a622f38b313d579c1b73e98dd0cb5f26f21e8115d678b2b27", func := "loop.example/g00282/laws.FnExactFallFile", spec := "fnExactFallFile", apart := false, narrowed := true }
def FnExactFallFileUptoSaid : Prop := fnExactFallFileUptoRow.holds Try.pinned (OpenSpec.upto fnExactFallFileSpec)

/-- 'laws.FnExactPutFrame', WHERE WHAT IT READS IS OF BULK AT MOST 1048576: true; the input reads as it did. -/
def fnExactPutFrameUptoRow : OpenClaim := { program := "ytojlnmenfikhbaa", sum := "d79e566d13c1f78a622f38b313d579c1b73e98dd0cb5f26f21e8115d678b2b27", func := "loop.example/g00282/laws.FnExactPutFrame", spec := "fnExactPutFrame", apart := false, narrowed := true }
def FnExactPutFrameUptoSaid : Prop := fnExactPutFrameUptoRow.holds Try.pinned (OpenSpec.upto fnExactPutFrameSpec)

/-- 'laws.FnFiles', WHERE WHAT IT READS IS OF BULK AT MOST 1048576: true; the input reads as it did. -/
def fnFilesUptoRow : OpenClaim := { program := "ytojlnmenfikhbaa", sum := "d79e566d13c1f78a622f38b313d579c1b73e98dd0cb5f26f21e8115d678b2b27", func := "loop.example/g00282/laws.FnFiles", spec := "fnFiles", apart := false, narrowed := true }
def FnFilesUptoSaid : Prop := fnFilesUptoRow.holds Try.pinned (OpenSpec.upto fnFilesSpec)

/-- 'laws.FnExactGetFrame', WHERE WHAT IT READS IS OF BULK AT MOST 1048576: true; the input reads as it did. -/
def fnExactGetFrameUptoRow : OpenClaim := { program := "ytojlnmenfikhbaa", sum := "d79e566d13c1f78a622f38b313d579c1b73e98dd0cb5f26f21e8115d678b2b27", func := "loop.example/g00282/laws.FnExactGetFrame", spec := "fnExactGetFrame", apart := false, narrowed := true }
def FnExactGetFrameUptoSaid : Prop := fnExactGetFrameUptoRow.holds Try.pinned (OpenSpec.upto fnExactGetFrameSpec)

/-- 'laws.FnFrames', WHERE WHAT IT READS IS OF BULK AT MOST 1048576: true; the input reads as it did. -/
def fnFramesUptoRow : OpenClaim := { program := "ytojlnmenfikhbaa", sum := "d79e566d13c1f78a622f38b313d579c1b73e98dd0cb5f26f21e8115d678b2b27", func := "loop.example/g00282/laws.FnFrames", spec := "fnFrames", apart := false, narrowed := true }
def FnFramesUptoSaid : Prop := fnFramesUptoRow.holds Try.pinned (OpenSpec.upto fnFramesSpec)

/-- 'laws.FnExactTriesOf', WHERE WHAT IT READS IS OF BULK AT MOST 1048576: true; the input reads as it did. -/
def fnExactTriesOfUptoRow : OpenClaim := { program := "ytojlnmenfikhbaa", sum := "d79e566d13c1f78a622f38b313d579c1b73e98dd0cb5f26f21e8115d678b2b27", func := "loop.example/g00282/laws.FnExactTriesOf", spec := "fnExactTriesOf", apart := false, narrowed := true }
def FnExactTriesOfUptoSaid : Prop := fnExactTriesOfUptoRow.holds Try.pinned (OpenSpec.upto fnExactTriesOfSpec)

/-- 'laws.FnExactInOrder', WHERE WHAT IT READS IS OF BULK AT MOST 1048576: true; the input reads as it did. -/
def fnExactInOrderUptoRow : OpenClaim := { program := "ytojlnmenfikhbaa", sum := "d79e566d13c1f78a622f38b313d579c1b73e98dd0cb5f26f21e8115d678b2b27", func := "loop.example/g00282/laws.FnExactInOrder", spec := "fnExactInOrder", apart := false, narrowed := true }
def FnExactInOrderUptoSaid : Prop := fnExactInOrderUptoRow.holds Try.pinned (OpenSpec.upto fnExactInOrderSpec)

/-- 'laws.FnExactReadFrames', WHERE WHAT IT READS IS OF BULK AT MOST 1048576: true; the input reads as it did. -/
def fnExactReadFramesUptoRow : OpenClaim := { program := "ytojlnmenfikhbaa", sum := "d79e566d13c1f78a622f38b313d579c1b73e98dd0cb5f26f21e8115d678b2b27", func := "loop.example/g00282/laws.FnExactReadFrames", spec := "fnExactReadFrames", apart := false, narrowed := true }
def FnExactReadFramesUptoSaid : Prop := fnExactReadFramesUptoRow.holds Try.pinned (OpenSpec.upto fnExactReadFramesSpec)

/-- 'laws.FnFrame', WHERE WHAT IT READS IS OF BULK AT MOST 1048576: true; the input reads as it did. -/
def fnFrameUptoRow : OpenClaim := { program := "ytojlnmenfikhbaa", sum := "d79e566d13c1f78a622f38b313d579c1b73e98dd0cb5f26f21e8115d678b2b27", func := "loop.example/g00282/laws.FnFrame", spec := "fnFrame", apart := false, narrowed := true }
def FnFrameUptoSaid : Prop := fnFrameUptoRow.holds Try.pinned (OpenSpec.upto fnFrameSpec)

end Rows
end Go.Proofs.Ytojlnmenfikhbaa
