/-
  No cell of these rows narrows 'for every input' (looked for: loops, veiled, ifaces, maps, wideKeys, modest, calm, conditions, laid).
  DERIVED. THE GIVEN ROWS OF THIS SEAT. 12 by the template 'for every input the law returns true; each argument reads behind the call as it read before'; 0 by the template 'total and deterministic' (their statements: YtpkhoanaifpopaaTotals.lean).
  GIVEN WITH THE SEED: the statements are not yours to turn. If you find one false, say at which input.
  Laid BY PROGRAM, IN A SANDBOX (cutbox-rows.mjs): the forced cells as the released guide's own fill.sh prints them over the translation e30c64f3e3caaa98… (all of the seat's roots in one cut). By AI agents, Wed Nov 11 2026. No macro, syntax, notation, axiom, sorry.
-/
import Derived.Test.YtpkhoanaifpopaaChecked
import GoSem.Claim
import GoSem.ClaimJoined
import GoSem.ClaimMapViews
import Derived.JoinedTies
import Derived.KernelRfl
namespace Go.Proofs.Ytpkhoanaifpopaa
/- THE CELL 'sum', in the pinned program and in every row, IS THE sha256 OF THE DUMP (.gsa) THAT YtpkhoanaifpopaaProg.lean LOADS. Nothing in Lean hashes anything: it is a label: what it is worth is what the hold of that sum in a sandbox is worth. -/
noncomputable def Try.pinned : Pinned := { name := "ytpkhoanaifpopaa", sum := "e30c64f3e3caaa982516a29a2fb365fbfa71cbdbe6d434b684922eb6840dde71", checked := Try.checked }
namespace Rows
def none {H : Type} : Left H := { results := [], args := [] }

/-- 'laws.FnExactRunsOk': WHATEVER THE INPUT: true; the input reads as it did. -/
def fnExactRunsOkSpec : ChangeSpec := { name := "fnExactRunsOk", fn := fun _ => fun
  | [d1, d2] => { results := [.lit (.bool true)], args := [d1, d2] }
  | _ => none }
def fnExactRunsOkRow : OpenClaim := { program := "ytpkhoanaifpopaa", sum := "e30c64f3e3caaa982516a29a2fb365fbfa71cbdbe6d434b684922eb6840dde71", func := "loop.example/g00109/laws.FnExactRunsOk", spec := "fnExactRunsOk", apart := false }
def FnExactRunsOkSaid : Prop := fnExactRunsOkRow.holds Try.pinned (OpenSpec.ofChange fnExactRunsOkSpec)

/-- ITS FALSE NEIGHBOUR: 'it returns false'. Refute it at one input. -/
def fnExactRunsOkWrong : ChangeSpec := { name := "fnExactRunsOk", fn := fun _ => fun
  | [d1, d2] => { results := [.lit (.bool false)], args := [d1, d2] }
  | _ => none }
def FnExactRunsOkWrongFalsely : Prop := fnExactRunsOkRow.holds Try.pinned (OpenSpec.ofChange fnExactRunsOkWrong)

/-- 'laws.FnExactAllowed': WHATEVER THE INPUT: true; the input reads as it did. -/
def fnExactAllowedSpec : ChangeSpec := { name := "fnExactAllowed", fn := fun _ => fun
  | [d1, d2] => { results := [.lit (.bool true)], args := [d1, d2] }
  | _ => none }
def fnExactAllowedRow : OpenClaim := { program := "ytpkhoanaifpopaa", sum := "e30c64f3e3caaa982516a29a2fb365fbfa71cbdbe6d434b684922eb6840dde71", func := "loop.example/g00109/laws.FnExactAllowed", spec := "fnExactAllowed", apart := false }
def FnExactAllowedSaid : Prop := fnExactAllowedRow.holds Try.pinned (OpenSpec.ofChange fnExactAllowedSpec)

/-- ITS FALSE NEIGHBOUR: 'it returns false'. Refute it at one input. -/
def fnExactAllowedWrong : ChangeSpec := { name := "fnExactAllowed", fn := fun _ => fun
  | [d1, d2] => { results := [.lit (.bool false)], args := [d1, d2] }
  | _ => none }
def FnExactAllowedWrongFalsely : Prop := fnExactAllowedRow.holds Try.pinned (OpenSpec.ofChange fnExactAllowedWrong)

/-- 'laws.FnExactPeek': WHATEVER THE INPUT: true; the input reads as it did. -/
def fnExactPeekSpec : ChangeSpec := { name := "fnExactPeek", fn := fun _ => fun
  | [d1, d2, d3] => { results := [.lit (.bool true)], args := [d1, d2, d3] }
  | _ => none }
def fnExactPeekRow : OpenClaim := { program := "ytpkhoanaifpopaa", sum := "e30c64f3e3caaa982516a29a2fb365fbfa71cbdbe6d434b684922eb6840dde71", func := "loop.example/g00109/laws.FnExactPeek", spec := "fnExactPeek", apart := false }
def FnExactPeekSaid : Prop := fnExactPeekRow.holds Try.pinned (OpenSpec.ofChange fnExactPeekSpec)

/-- ITS FALSE NEIGHBOUR: 'it returns false'. Refute it at one input. -/
def fnExactPeekWrong : ChangeSpec := { name := "fnExactPeek", fn := fun _ => fun
  | [d1, d2, d3] => { results := [.lit (.bool false)], args := [d1, d2, d3] }
  | _ => none }
def FnExactPeekWrongFalsely : Prop := fnExactPeekRow.holds Try.pinned (OpenSpec.ofChange fnExactPeekWrong)

/-- 'laws.FnExactBestRun': WHATEVER THE INPUT: true; the input reads as it did. -/
def fnExactBestRunSpec : ChangeSpec := { name := "fnExactBestRun", fn := fun _ => fun
  | [d1, d2] => { results := [.lit (.bool true)], args := [d1, d2] }
  | _ => none }
def fnExactBestRunRow : OpenClaim := { program := "ytpkhoanaifpopaa", sum := "e30c64f3e3caaa982516a29a2fb365fbfa71cbdbe6d434b684922eb6840dde71", func := "loop.example/g00109/laws.FnExactBestRun", spec := "fnExactBestRun", apart := false }
def FnExactBestRunSaid : Prop := fnExactBestRunRow.holds Try.pinned (OpenSpec.ofChange fnExactBestRunSpec)

/-- ITS FALSE NEIGHBOUR: 'it returns false'. Refute it at one input. -/
def fnExactBestRunWrong : ChangeSpec := { name := "fnExactBestRun", fn := fun _ => fun
  | [d1, d2] => { results := [.lit (.bool false)], args := [d1, d2] }
  | _ => none }
def FnExactBestRunWrongFalsely : Prop := fnExactBestRunRow.holds Try.pinned (OpenSpec.ofChange fnExactBestRunWrong)

/-- 'laws.FnMemory': WHATEVER THE INPUT: true; the input reads as it did. -/
def fnMemorySpec : ChangeSpec := { name := "fnMemory", fn := fun _ => fun
  | [d] => { results := [.lit (.bool true)], args := [d] }
  | _ => none }
def fnMemoryRow : OpenClaim := { program := "ytpkhoanaifpopaa", sum := "e30c64f3e3caaa982516a29a2fb365fbfa71cbdbe6d434b684922eb6840dde71", func := "loop.example/g00109/laws.FnMemory", spec := "fnMemory", apart := false }
def FnMemorySaid : Prop := fnMemoryRow.holds Try.pinned (OpenSpec.ofChange fnMemorySpec)

/-- ITS FALSE NEIGHBOUR: 'it returns false'. Refute it at one input. -/
def fnMemoryWrong : ChangeSpec := { name := "fnMemory", fn := fun _ => fun
  | [d] => { results := [.lit (.bool false)], args := [d] }
  | _ => none }
def FnMemoryWrongFalsely : Prop := fnMemoryRow.holds Try.pinned (OpenSpec.ofChange fnMemoryWrong)

/-- 'laws.FnExactSlotsOk': WHATEVER THE INPUT: true; the input reads as it did. -/
def fnExactSlotsOkSpec : ChangeSpec := { name := "fnExactSlotsOk", fn := fun _ => fun
  | [d] => { results := [.lit (.bool true)], args := [d] }
  | _ => none }
def fnExactSlotsOkRow : OpenClaim := { program := "ytpkhoanaifpopaa", sum := "e30c64f3e3caaa982516a29a2fb365fbfa71cbdbe6d434b684922eb6840dde71", func := "loop.example/g00109/laws.FnExactSlotsOk", spec := "fnExactSlotsOk", apart := false }
def FnExactSlotsOkSaid : Prop := fnExactSlotsOkRow.holds Try.pinned (OpenSpec.ofChange fnExactSlotsOkSpec)

/-- ITS FALSE NEIGHBOUR: 'it returns false'. Refute it at one input. -/
def fnExactSlotsOkWrong : ChangeSpec := { name := "fnExactSlotsOk", fn := fun _ => fun
  | [d] => { results := [.lit (.bool false)], args := [d] }
  | _ => none }
def FnExactSlotsOkWrongFalsely : Prop := fnExactSlotsOkRow.holds Try.pinned (OpenSpec.ofChange fnExactSlotsOkWrong)

/-- 'laws.FnExactSlabsOk': WHATEVER THE INPUT: true; the input reads as it did. -/
def fnExactSlabsOkSpec : ChangeSpec := { name := "fnExactSlabsOk", fn := fun _ => fun
  | [d] => { results := [.lit (.bool true)], args := [d] }
  | _ => none }
def fnExactSlabsOkRow : OpenClaim := { program := "ytpkhoanaifpopaa", sum := "e30c64f3e3caaa982516a29a2fb365fbfa71cbdbe6d434b684922eb6840dde71", func := "loop.example/g00109/laws.FnExactSlabsOk", spec := "fnExactSlabsOk", apart := false }
def FnExactSlabsOkSaid : Prop := fnExactSlabsOkRow.holds Try.pinned (OpenSpec.ofChange fnExactSlabsOkSpec)

/-- ITS FALSE NEIGHBOUR: 'it returns false'. Refute it at one input. -/
def fnExactSlabsOkWrong : ChangeSpec := { name := "fnExactSlabsOk", fn := fun _ => fun
  | [d] => { results := [.lit (.bool false)], args := [d] }
  | _ => none }
def FnExactSlabsOkWrongFalsely : Prop := fnExactSlabsOkRow.holds Try.pinned (OpenSpec.ofChange fnExactSlabsOkWrong)

/-- 'laws.FnEntries': WHATEVER THE INPUT: true; the input reads as it did. -/
def fnEntriesSpec : ChangeSpec := { name := "fnEntries", fn := fun _ => fun
  | [d] => { results := [.lit (.bool true)], args := [d] }
  | _ => none }
def fnEntriesRow : OpenClaim := { program := "ytpkhoanaifpopaa", sum := "e30c64f3e3caaa982516a29a2fb365fbfa71cbdbe6d434b684922eb6840dde71", func := "loop.example/g00109/laws.FnEntries", spec := "fnEntries", apart := false }
def FnEntriesSaid : Prop := fnEntriesRow.holds Try.pinned (OpenSpec.ofChange fnEntriesSpec)

/-- ITS FALSE NEIGHBOUR: 'it returns false'. Refute it at one input. -/
def fnEntriesWrong : ChangeSpec := { name := "fnEntries", fn := fun _ => fun
  | [d] => { results := [.lit (.bool false)], args := [d] }
  | _ => none }
def FnEntriesWrongFalsely : Prop := fnEntriesRow.holds Try.pinned (OpenSpec.ofChange fnEntriesWrong)

/-- 'laws.FnExactFreeFrames': WHATEVER THE INPUT: true; the input reads as it did. -/
def fnExactFreeFramesSpec : ChangeSpec := { name := "fnExactFreeFrames", fn := fun _ => fun
  | [d1, d2] => { results := [.lit (.bool true)], args := [d1, d2] }
  | _ => none }
def fnExactFreeFramesRow : OpenClaim := { program := "ytpkhoanaifpopaa", sum := "e30c64f3e3caaa982516a29a2fb365fbfa71cbdbe6d434b684922eb6840dde71", func := "loop.example/g00109/laws.FnExactFreeFrames", spec := "fnExactFreeFrames", apart := false }
def FnExactFreeFramesSaid : Prop := fnExactFreeFramesRow.holds Try.pinned (OpenSpec.ofChange fnExactFreeFramesSpec)

/-- ITS FALSE NEIGHBOUR: 'it returns false'. Refute it at one input. -/
def fnExactFreeFramesWrong : ChangeSpec := { name := "fnExactFreeFrames", fn := fun _ => fun
  | [d1, d2] => { results := [.lit (.bool false)], args := [d1, d2] }
  | _ => none }
def FnExactFreeFramesWrongFalsely : Prop := fnExactFreeFramesRow.holds Try.pinned (OpenSpec.ofChange fnExactFreeFramesWrong)

/-- 'laws.FnExactClearFrame': WHATEVER THE INPUT: true; the input reads as it did. -/
def fnExactClearFrameSpec : ChangeSpec := { name := "fnExactClearFrame", fn := fun _ => fun
  | [d1, d2] => { results := [.lit (.bool true)], args := [d1, d2] }
  | _ => none }
def fnExactClearFrameRow : OpenClaim := { program := "ytpkhoanaifpopaa", sum := "e30c64f3e3caaa982516a29a2fb365fbfa71cbdbe6d434b684922eb6840dde71", func := "loop.example/g00109/laws.FnExactClearFrame", spec := "fnExactClearFrame", apart := false }
def FnExactClearFrameSaid : Prop := fnExactClearFrameRow.holds Try.pinned (OpenSpec.ofChange fnExactClearFrameSpec)

/-- ITS FALSE NEIGHBOUR: 'it returns false'. Refute it at one input. -/
def fnExactClearFrameWrong : ChangeSpec := { name := "fnExactClearFrame", fn := fun _ => fun
  | [d1, d2] => { results := [.lit (.bool false)], args := [d1, d2] }
  | _ => none }
def FnExactClearFrameWrongFalsely : Prop := fnExactClearFrameRow.holds Try.pinned (OpenSpec.ofChange fnExactClearFrameWrong)

/-- 'laws.FnExactCopyFrame': WHATEVER THE INPUT: true; the input reads as it did. -/
def fnExactCopyFrameSpec : ChangeSpec := { name := "fnExactCopyFrame", fn := fun _ => fun
  | [d1, d2, d3] => { results := [.lit (.bool true)], args := [d1, d2, d3] }
  | _ => none }
def fnExactCopyFrameRow : OpenClaim := { program := "ytpkhoanaifpopaa", sum := "e30c64f3e3caaa982516a29a2fb365fbfa71cbdbe6d434b684922eb6840dde71", func := "loop.example/g00109/laws.FnExactCopyFrame", spec := "fnExactCopyFrame", apart := false }
def FnExactCopyFrameSaid : Prop := fnExactCopyFrameRow.holds Try.pinned (OpenSpec.ofChange fnExactCopyFrameSpec)

/-- ITS FALSE NEIGHBOUR: 'it returns false'. Refute it at one input. -/
def fnExactCopyFrameWrong : ChangeSpec := { name := "fnExactCopyFrame", fn := fun _ => fun
  | [d1, d2, d3] => { results := [.lit (.bool false)], args := [d1, d2, d3] }
  | _ => none }
def FnExactCopyFrameWrongFalsely : Prop := fnExactCopyFrameRow.holds Try.pinned (OpenSpec.ofChange fnExactCopyFrameWrong)

/-- 'laws.FnExactPoke': WHATEVER THE INPUT: true; the input reads as it did. -/
def fnExactPokeSpec : ChangeSpec := { name := "fnExactPoke", fn := fun _ => fun
  | [d1, d2, d3, d4] => { results := [.lit (.bool true)], args := [d1, d2, d3, d4] }
  | _ => none }
def fnExactPokeRow : OpenClaim := { program := "ytpkhoanaifpopaa", sum := "e30c64f3e3caaa982516a29a2fb365fbfa71cbdbe6d434b684922eb6840dde71", func := "loop.example/g00109/laws.FnExactPoke", spec := "fnExactPoke", apart := false }
def FnExactPokeSaid : Prop := fnExactPokeRow.holds Try.pinned (OpenSpec.ofChange fnExactPokeSpec)

/-- ITS FALSE NEIGHBOUR: 'it returns false'. Refute it at one input. -/
def fnExactPokeWrong : ChangeSpec := { name := "fnExactPoke", fn := fun _ => fun
  | [d1, d2, d3, d4] => { results := [.lit (.bool false)], args := [d1, d2, d3, d4] }
  | _ => none }
def FnExactPokeWrongFalsely : Prop := fnExactPokeRow.holds Try.pinned (OpenSpec.ofChange fnExactPokeWrong)

/- THE SECOND FORM. 'bulk': how many values and letters a reading holds, each counted each time it is reached (what is shared counts as often as it is met; a slice's spare places count too). A statement '..UptoSaid' is the law's where the arguments, and the package variables that the reading takes, are together of bulk at most 1048576: NARROWER than '..Said'. Prove '..Said' where nothing that the law and all that it calls make is longer than what came in: it says more and counts as full. Else prove '..UptoSaid'. A law counts once. -/
mutual
def uptoBulk {H : Type} : DataW H → Nat
  | .lit (.string bytes) => bytes.length + 1
  | .lit _ => 1
  | .nil => 1
  | .ptr d => uptoBulk d + 1
  | .slice elems spare => uptoBulkAll elems + uptoBulkAll spare + 1
  | .agg parts => uptoBulkAll parts + 1
  | .iface _ d => uptoBulk d + 1
  | .map entries => uptoBulkEntries entries + 1
  | .held _ => 1
def uptoBulkAll {H : Type} : List (DataW H) → Nat
  | [] => 0
  | d :: r => uptoBulk d + uptoBulkAll r
def uptoBulkEntries {H : Type} : List (Lit × DataW H) → Nat
  | [] => 0
  | x :: r => uptoBulkEntry x + uptoBulkEntries r
def uptoBulkEntry {H : Type} : Lit × DataW H → Nat
  | (.string bytes, d) => bytes.length + uptoBulk d + 1
  | (_, d) => uptoBulk d + 1
 end
def uptoSmall : (H : Type) → List (DataW H) → Bool := fun _ ds => decide (uptoBulkAll ds ≤ 1048576)
def OpenSpec.upto (s : _root_.Go.ChangeSpec) : _root_.Go.OpenSpec := { _root_.Go.OpenSpec.ofChange s with cond := some uptoSmall }

/-- 'laws.FnExactRunsOk', WHERE WHAT IT READS IS OF BULK AT MOST 1048576: true; the input reads as it did. -/
def fnExactRunsOkUptoRow : OpenClaim := { program := "ytpkhoanaifpopaa", sum := "e30c64f3e3caaa982516a29a2fb365fbfa71cbdbe6d434b684922eb6840dde71", func := "loop.example/g00109/laws.FnExactRunsOk", spec := "fnExactRunsOk", apart := false, narrowed := true }
def FnExactRunsOkUptoSaid : Prop := fnExactRunsOkUptoRow.holds Try.pinned (OpenSpec.upto fnExactRunsOkSpec)

/-- 'laws.FnExactAllowed', WHERE WHAT IT READS IS OF BULK AT MOST 1048576: true; the input reads as it did. -/
def fnExactAllowedUptoRow : OpenClaim := { program := "ytpkhoanaifpopaa", sum := "e30c64f3e3caaa982516a29a2fb365fbfa71cbdbe6d434b684922eb6840dde71", func := "loop.example/g00109/laws.FnExactAllowed", spec := "fnExactAllowed", apart := false, narrowed := true }
def FnExactAllowedUptoSaid : Prop := fnExactAllowedUptoRow.holds Try.pinned (OpenSpec.upto fnExactAllowedSpec)

/-- 'laws.FnExactPeek', WHERE WHAT IT READS IS OF BULK AT MOST 1048576: true; the input reads as it did. -/
def fnExactPeekUptoRow : OpenClaim := { program := "ytpkhoanaifpopaa", sum := "e30c64f3e3caaa982516a29a2fb365fbfa71cbdbe6d434b684922eb6840dde71", func := "loop.example/g00109/laws.FnExactPeek", spec := "fnExactPeek", apart := false, narrowed := true }
def FnExactPeekUptoSaid : Prop := fnExactPeekUptoRow.holds Try.pinned (OpenSpec.upto fnExactPeekSpec)

/-- 'laws.FnExactBestRun', WHERE WHAT IT READS IS OF BULK AT MOST 1048576: true; the input reads as it did. -/
def fnExactBestRunUptoRow : OpenClaim := { program := "ytpkhoanaifpopaa", sum := "e30c64f3e3caaa982516a29a2fb365fbfa71cbdbe6d434b684922eb6840dde71", func := "loop.example/g00109/laws.FnExactBestRun", spec := "fnExactBestRun", apart := false, narrowed := true }
def FnExactBestRunUptoSaid : Prop := fnExactBestRunUptoRow.holds Try.pinned (OpenSpec.upto fnExactBestRunSpec)

/-- 'laws.FnMemory', WHERE WHAT IT READS IS OF BULK AT MOST 1048576: true; the input reads as it did. -/
def fnMemoryUptoRow : OpenClaim := { program := "ytpkhoanaifpopaa", sum := "e30c64f3e3caaa982516a29a2fb365fbfa71cbdbe6d434b684922eb6840dde71", func := "loop.example/g00109/laws.FnMemory", spec := "fnMemory", apart := false, narrowed := true }
def FnMemoryUptoSaid : Prop := fnMemoryUptoRow.holds Try.pinned (OpenSpec.upto fnMemorySpec)

/-- 'laws.FnExactSlotsOk', WHERE WHAT IT READS IS OF BULK AT MOST 1048576: true; the input reads as it did. -/
def fnExactSlotsOkUptoRow : OpenClaim := { program := "ytpkhoanaifpopaa", sum := "e30c64f3e3caaa982516a29a2fb365fbfa71cbdbe6d434b684922eb6840dde71", func := "loop.example/g00109/laws.FnExactSlotsOk", spec := "fnExactSlotsOk", apart := false, narrowed := true }
def FnExactSlotsOkUptoSaid : Prop := fnExactSlotsOkUptoRow.holds Try.pinned (OpenSpec.upto fnExactSlotsOkSpec)

/-- 'laws.FnExactSlabsOk', WHERE WHAT IT READS IS OF BULK AT MOST 1048576: true; the input reads as it did. -/
def fnExactSlabsOkUptoRow : OpenClaim := { program := "ytpkhoanaifpopaa", sum := "e30c64f3e3caaa982516a29a2fb365fbfa71cbdbe6d434b684922eb6840dde71", func := "loop.example/g00109/laws.FnExactSlabsOk", spec := "fnExactSlabsOk", apart := false, narrowed := true }
def FnExactSlabsOkUptoSaid : Prop := fnExactSlabsOkUptoRow.holds Try.pinned (OpenSpec.upto fnExactSlabsOkSpec)

/-- 'laws.FnEntries', WHERE WHAT IT READS IS OF BULK AT MOST 1048576: true; the input reads as it did. -/
def fnEntriesUptoRow : OpenClaim := { program := "ytpkhoanaifpopaa", sum := "e30c64f3e3caaa982516a29a2fb365fbfa71cbdbe6d434b684922eb6840dde71", func := "loop.example/g00109/laws.FnEntries", spec := "fnEntries", apart := false, narrowed := true }
def FnEntriesUptoSaid : Prop := fnEntriesUptoRow.holds Try.pinned (OpenSpec.upto fnEntriesSpec)

/-- 'laws.FnExactFreeFrames', WHERE WHAT IT READS IS OF BULK AT MOST 1048576: true; the input reads as it did. -/
def fnExactFreeFramesUptoRow : OpenClaim := { program := "ytpkhoanaifpopaa", sum := "e30c64f3e3caaa982516a29a2fb365fbfa71cbdbe6d434b684922eb6840dde71", func := "loop.example/g00109/laws.FnExactFreeFrames", spec := "fnExactFreeFrames", apart := false, narrowed := true }
def FnExactFreeFramesUptoSaid : Prop := fnExactFreeFramesUptoRow.holds Try.pinned (OpenSpec.upto fnExactFreeFramesSpec)

/-- 'laws.FnExactClearFrame', WHERE WHAT IT READS IS OF BULK AT MOST 1048576: true; the input reads as it did. -/
def fnExactClearFrameUptoRow : OpenClaim := { program := "ytpkhoanaifpopaa", sum := "e30c64f3e3caaa982516a29a2fb365fbfa71cbdbe6d434b684922eb6840dde71", func := "loop.example/g00109/laws.FnExactClearFrame", spec := "fnExactClearFrame", apart := false, narrowed := true }
def FnExactClearFrameUptoSaid : Prop := fnExactClearFrameUptoRow.holds Try.pinned (OpenSpec.upto fnExactClearFrameSpec)

/-- 'laws.FnExactCopyFrame', WHERE WHAT IT READS IS OF BULK AT MOST 1048576: true; the input reads as it did. -/
def fnExactCopyFrameUptoRow : OpenClaim := { program := "ytpkhoanaifpopaa", sum := "e30c64f3e3caaa982516a29a2fb365fbfa71cbdbe6d434b684922eb6840dde71", func := "loop.example/g00109/laws.FnExactCopyFrame", spec := "fnExactCopyFrame", apart := false, narrowed := true }
def FnExactCopyFrameUptoSaid : Prop := fnExactCopyFrameUptoRow.holds Try.pinned (OpenSpec.upto fnExactCopyFrameSpec)

/-- 'laws.FnExactPoke', WHERE WHAT IT READS IS OF BULK AT MOST 1048576: true; the input reads as it did. -/
def fnExactPokeUptoRow : OpenClaim := { program := "ytpkhoanaifpopaa", sum := "e30c64f3e3caaa982516a29a2fb365fbfa71cbdbe6d434b684922eb6840dde71", func := "loop.example/g00109/laws.FnExactPoke", spec := "fnExactPoke", apart := false, narrowed := true }
def FnExactPokeUptoSaid : Prop := fnExactPokeUptoRow.holds Try.pinned (OpenSpec.upto fnExactPokeSpec)

end Rows
end Go.Proofs.Ytpkhoanaifpopaa
