/-
  No cell of these rows narrows 'for every input' (looked for: loops, veiled, ifaces, maps, wideKeys, modest, calm, conditions, laid).
  DERIVED. THE GIVEN ROWS OF THIS SEAT. 7 by the template 'for every input the law returns true; each argument reads behind the call as it read before'; 0 by the template 'total and deterministic' (their statements: YtbkahdpmpmalhaaTotals.lean).
  GIVEN WITH THE SEED: the statements are not yours to turn. If you find one false, say at which input.
  Laid BY PROGRAM, IN A SANDBOX (cutbox-rows.mjs): the forced cells as the released guide's own fill.sh prints them over the translation 7615fcad2ed7bc13… (all of the seat's roots in one cut). By AI agents, Wed Nov 11 2026. No macro, syntax, notation, axiom, sorry.
-/
import Derived.Test.YtbkahdpmpmalhaaChecked
import GoSem.Claim
import GoSem.ClaimJoined
import GoSem.ClaimMapViews
import Derived.JoinedTies
import Derived.KernelRfl
namespace Go.Proofs.Ytbkahdpmpmalhaa
/- THE CELL 'sum', in the pinned program and in every row, IS THE sha256 OF THE DUMP (.gsa) THAT YtbkahdpmpmalhaaProg.lean LOADS. Nothing in Lean hashes anything: it is a label: what it is worth is what the hold of that sum in a sandbox is worth. -/
noncomputable def Try.pinned : Pinned := { name := "ytbkahdpmpmalhaa", sum := "7615fcad2ed7bc13705fe4eff73232d82149928e89da4824b9d717b43ffdc989", checked := Try.checked }
namespace Rows
def none {H : Type} : Left H := { results := [], args := [] }

/-- 'laws.FnExactGivePart': WHATEVER THE INPUT: true; the input reads as it did. -/
def fnExactGivePartSpec : ChangeSpec := { name := "fnExactGivePart", fn := fun _ => fun
  | [d1, d2, d3] => { results := [.lit (.bool true)], args := [d1, d2, d3] }
  | _ => none }
def fnExactGivePartRow : OpenClaim := { program := "ytbkahdpmpmalhaa", sum := "7615fcad2ed7bc13705fe4eff73232d82149928e89da4824b9d717b43ffdc989", func := "loop.example/g00109/laws.FnExactGivePart", spec := "fnExactGivePart", apart := false }
def FnExactGivePartSaid : Prop := fnExactGivePartRow.holds Try.pinned (OpenSpec.ofChange fnExactGivePartSpec)

/-- ITS FALSE NEIGHBOUR: 'it returns false'. Refute it at one input. -/
def fnExactGivePartWrong : ChangeSpec := { name := "fnExactGivePart", fn := fun _ => fun
  | [d1, d2, d3] => { results := [.lit (.bool false)], args := [d1, d2, d3] }
  | _ => none }
def FnExactGivePartWrongFalsely : Prop := fnExactGivePartRow.holds Try.pinned (OpenSpec.ofChange fnExactGivePartWrong)

/-- 'laws.FnParts': WHATEVER THE INPUT: true; the input reads as it did. -/
def fnPartsSpec : ChangeSpec := { name := "fnParts", fn := fun _ => fun
  | [d] => { results := [.lit (.bool true)], args := [d] }
  | _ => none }
def fnPartsRow : OpenClaim := { program := "ytbkahdpmpmalhaa", sum := "7615fcad2ed7bc13705fe4eff73232d82149928e89da4824b9d717b43ffdc989", func := "loop.example/g00109/laws.FnParts", spec := "fnParts", inPlace := ["slices.overlaps[loop.example/g00109/impl.Slab]"], apart := false }
def FnPartsSaid : Prop := fnPartsRow.holds Try.pinned (OpenSpec.ofChange fnPartsSpec)

/-- ITS FALSE NEIGHBOUR: 'it returns false'. Refute it at one input. -/
def fnPartsWrong : ChangeSpec := { name := "fnParts", fn := fun _ => fun
  | [d] => { results := [.lit (.bool false)], args := [d] }
  | _ => none }
def FnPartsWrongFalsely : Prop := fnPartsRow.holds Try.pinned (OpenSpec.ofChange fnPartsWrong)

/-- 'laws.FnExactAddSlab': WHATEVER THE INPUT: true; the input reads as it did. -/
def fnExactAddSlabSpec : ChangeSpec := { name := "fnExactAddSlab", fn := fun _ => fun
  | [d1, d2, d3] => { results := [.lit (.bool true)], args := [d1, d2, d3] }
  | _ => none }
def fnExactAddSlabRow : OpenClaim := { program := "ytbkahdpmpmalhaa", sum := "7615fcad2ed7bc13705fe4eff73232d82149928e89da4824b9d717b43ffdc989", func := "loop.example/g00109/laws.FnExactAddSlab", spec := "fnExactAddSlab", inPlace := ["slices.overlaps[loop.example/g00109/impl.Slab]"], apart := false }
def FnExactAddSlabSaid : Prop := fnExactAddSlabRow.holds Try.pinned (OpenSpec.ofChange fnExactAddSlabSpec)

/-- ITS FALSE NEIGHBOUR: 'it returns false'. Refute it at one input. -/
def fnExactAddSlabWrong : ChangeSpec := { name := "fnExactAddSlab", fn := fun _ => fun
  | [d1, d2, d3] => { results := [.lit (.bool false)], args := [d1, d2, d3] }
  | _ => none }
def FnExactAddSlabWrongFalsely : Prop := fnExactAddSlabRow.holds Try.pinned (OpenSpec.ofChange fnExactAddSlabWrong)

/-- 'laws.FnExactCountOf': WHATEVER THE INPUT: true; the input reads as it did. -/
def fnExactCountOfSpec : ChangeSpec := { name := "fnExactCountOf", fn := fun _ => fun
  | [d1, d2] => { results := [.lit (.bool true)], args := [d1, d2] }
  | _ => none }
def fnExactCountOfRow : OpenClaim := { program := "ytbkahdpmpmalhaa", sum := "7615fcad2ed7bc13705fe4eff73232d82149928e89da4824b9d717b43ffdc989", func := "loop.example/g00109/laws.FnExactCountOf", spec := "fnExactCountOf", apart := false }
def FnExactCountOfSaid : Prop := fnExactCountOfRow.holds Try.pinned (OpenSpec.ofChange fnExactCountOfSpec)

/-- ITS FALSE NEIGHBOUR: 'it returns false'. Refute it at one input. -/
def fnExactCountOfWrong : ChangeSpec := { name := "fnExactCountOf", fn := fun _ => fun
  | [d1, d2] => { results := [.lit (.bool false)], args := [d1, d2] }
  | _ => none }
def FnExactCountOfWrongFalsely : Prop := fnExactCountOfRow.holds Try.pinned (OpenSpec.ofChange fnExactCountOfWrong)

/-- 'laws.FnExactMachineNew': WHATEVER THE INPUT: true; the input reads as it did. -/
def fnExactMachineNewSpec : ChangeSpec := { name := "fnExactMachineNew", fn := fun _ => fun
  | [d1, d2] => { results := [.lit (.bool true)], args := [d1, d2] }
  | _ => none }
def fnExactMachineNewRow : OpenClaim := { program := "ytbkahdpmpmalhaa", sum := "7615fcad2ed7bc13705fe4eff73232d82149928e89da4824b9d717b43ffdc989", func := "loop.example/g00109/laws.FnExactMachineNew", spec := "fnExactMachineNew", apart := false }
def FnExactMachineNewSaid : Prop := fnExactMachineNewRow.holds Try.pinned (OpenSpec.ofChange fnExactMachineNewSpec)

/-- ITS FALSE NEIGHBOUR: 'it returns false'. Refute it at one input. -/
def fnExactMachineNewWrong : ChangeSpec := { name := "fnExactMachineNew", fn := fun _ => fun
  | [d1, d2] => { results := [.lit (.bool false)], args := [d1, d2] }
  | _ => none }
def FnExactMachineNewWrongFalsely : Prop := fnExactMachineNewRow.holds Try.pinned (OpenSpec.ofChange fnExactMachineNewWrong)

/-- 'laws.FnExactEntryAt': WHATEVER THE INPUT: true; the input reads as it did. -/
def fnExactEntryAtSpec : ChangeSpec := { name := "fnExactEntryAt", fn := fun _ => fun
  | [d1, d2, d3] => { results := [.lit (.bool true)], args := [d1, d2, d3] }
  | _ => none }
def fnExactEntryAtRow : OpenClaim := { program := "ytbkahdpmpmalhaa", sum := "7615fcad2ed7bc13705fe4eff73232d82149928e89da4824b9d717b43ffdc989", func := "loop.example/g00109/laws.FnExactEntryAt", spec := "fnExactEntryAt", apart := false }
def FnExactEntryAtSaid : Prop := fnExactEntryAtRow.holds Try.pinned (OpenSpec.ofChange fnExactEntryAtSpec)

/-- ITS FALSE NEIGHBOUR: 'it returns false'. Refute it at one input. -/
def fnExactEntryAtWrong : ChangeSpec := { name := "fnExactEntryAt", fn := fun _ => fun
  | [d1, d2, d3] => { results := [.lit (.bool false)], args := [d1, d2, d3] }
  | _ => none }
def FnExactEntryAtWrongFalsely : Prop := fnExactEntryAtRow.holds Try.pinned (OpenSpec.ofChange fnExactEntryAtWrong)

/-- 'laws.FnExactTablesOf': WHATEVER THE INPUT: true; the input reads as it did. -/
def fnExactTablesOfSpec : ChangeSpec := { name := "fnExactTablesOf", fn := fun _ => fun
  | [d1, d2] => { results := [.lit (.bool true)], args := [d1, d2] }
  | _ => none }
def fnExactTablesOfRow : OpenClaim := { program := "ytbkahdpmpmalhaa", sum := "7615fcad2ed7bc13705fe4eff73232d82149928e89da4824b9d717b43ffdc989", func := "loop.example/g00109/laws.FnExactTablesOf", spec := "fnExactTablesOf", recurses := true, apart := false }
def FnExactTablesOfSaid : Prop := fnExactTablesOfRow.holds Try.pinned (OpenSpec.ofChange fnExactTablesOfSpec)

/-- ITS FALSE NEIGHBOUR: 'it returns false'. Refute it at one input. -/
def fnExactTablesOfWrong : ChangeSpec := { name := "fnExactTablesOf", fn := fun _ => fun
  | [d1, d2] => { results := [.lit (.bool false)], args := [d1, d2] }
  | _ => none }
def FnExactTablesOfWrongFalsely : Prop := fnExactTablesOfRow.holds Try.pinned (OpenSpec.ofChange fnExactTablesOfWrong)

/- THE SECOND FORM. 'bulk': how many values and letters a reading holds, each counted each time it is reached (what is shared counts as often as it is met; a slice's spare places count too). A statement '..UptoSaid' is the law's where the arguments, and the package variables that the reading takes, are together of bulk at most 1048576: NARROWER than '..Said'. Prove '..Said' where nothing that the law and all that it calls make is longer than what came in: it says more and counts as full. Else prove '..UptoSaid'. A law counts once. -/
mutual
def uptoBulk {H : Type} : DataW H → Nat
  | .lit (.string bytes) => bytes.length + 1
  | .lit _ => 1
  | .nil => 1
  | .ptr d => uptoBulk d + 1
  | .slice elems spare => uptoBulkAll elems + uptoBulkAll spare + 1
  | .agg parts => uptoBulkAll parts + 1
  | .iface _ d => uptoBulk d + 1
  | .map entries => uptoBulkEntries entries + 1
  | .held _ => 1
def uptoBulkAll {H : Type} : List (DataW H) → Nat
  | [] => 0
  | d :: r => uptoBulk d + uptoBulkAll r
def uptoBulkEntries {H : Type} : List (Lit × DataW H) → Nat
  | [] => 0
  | x :: r => uptoBulkEntry x + uptoBulkEntries r
def uptoBulkEntry {H : Type} : Lit × DataW H → Nat
  | (.string bytes, d) => bytes.length + uptoBulk d + 1
  | (_, d) => uptoBulk d + 1
 end
def uptoSmall : (H : Type) → List (DataW H) → Bool := fun _ ds => decide (uptoBulkAll ds ≤ 1048576)
def OpenSpec.upto (s : _root_.Go.ChangeSpec) : _root_.Go.OpenSpec := { _root_.Go.OpenSpec.ofChange s with cond := some uptoSmall }

/-- 'laws.FnExactGivePart', WHERE WHAT IT READS IS OF BULK AT MOST 1048576: true; the input reads as it did. -/
def fnExactGivePartUptoRow : OpenClaim := { program := "ytbkahdpmpmalhaa", sum := "7615fcad2ed7bc13705fe4eff73232d82149928e89da4824b9d717b43ffdc989", func := "loop.example/g00109/laws.FnExactGivePart", spec := "fnExactGivePart", apart := false, narrowed := true }
def FnExactGivePartUptoSaid : Prop := fnExactGivePartUptoRow.holds Try.pinned (OpenSpec.upto fnExactGivePartSpec)

/-- 'laws.FnParts', WHERE WHAT IT READS IS OF BULK AT MOST 1048576: true; the input reads as it did. -/
def fnPartsUptoRow : OpenClaim := { program := "ytbkahdpmpmalhaa", sum := "7615fcad2ed7bc13705fe4eff73232d82149928e89da4824b9d717b43ffdc989", func := "loop.example/g00109/laws.FnParts", spec := "fnParts", inPlace := ["slices.overlaps[loop.example/g00109/impl.Slab]"], apart := false, narrowed := true }
def FnPartsUptoSaid : Prop := fnPartsUptoRow.holds Try.pinned (OpenSpec.upto fnPartsSpec)

/-- 'laws.FnExactAddSlab', WHERE WHAT IT READS IS OF BULK AT MOST 1048576: true; the input reads as it did. -/
def fnExactAddSlabUptoRow : OpenClaim := { program := "ytbkahdpmpmalhaa", sum := "7615fcad2ed7bc13705fe4eff73232d82149928e89da4824b9d717b43ffdc989", func := "loop.example/g00109/laws.FnExactAddSlab", spec := "fnExactAddSlab", inPlace := ["slices.overlaps[loop.example/g00109/impl.Slab]"], apart := false, narrowed := true }
def FnExactAddSlabUptoSaid : Prop := fnExactAddSlabUptoRow.holds Try.pinned (OpenSpec.upto fnExactAddSlabSpec)

/-- 'laws.FnExactCountOf', WHERE WHAT IT READS IS OF BULK AT MOST 1048576: true; the input reads as it did. -/
def fnExactCountOfUptoRow : OpenClaim := { program := "ytbkahdpmpmalhaa", sum := "7615fcad2ed7bc13705fe4eff73232d82149928e89da4824b9d717b43ffdc989", func := "loop.example/g00109/laws.FnExactCountOf", spec := "fnExactCountOf", apart := false, narrowed := true }
def FnExactCountOfUptoSaid : Prop := fnExactCountOfUptoRow.holds Try.pinned (OpenSpec.upto fnExactCountOfSpec)

/-- 'laws.FnExactMachineNew', WHERE WHAT IT READS IS OF BULK AT MOST 1048576: true; the input reads as it did. -/
def fnExactMachineNewUptoRow : OpenClaim := { program := "ytbkahdpmpmalhaa", sum := "7615fcad2ed7bc13705fe4eff73232d82149928e89da4824b9d717b43ffdc989", func := "loop.example/g00109/laws.FnExactMachineNew", spec := "fnExactMachineNew", apart := false, narrowed := true }
def FnExactMachineNewUptoSaid : Prop := fnExactMachineNewUptoRow.holds Try.pinned (OpenSpec.upto fnExactMachineNewSpec)

/-- 'laws.FnExactEntryAt', WHERE WHAT IT READS IS OF BULK AT MOST 1048576: true; the input reads as it did. -/
def fnExactEntryAtUptoRow : OpenClaim := { program := "ytbkahdpmpmalhaa", sum := "7615fcad2ed7bc13705fe4eff73232d82149928e89da4824b9d717b43ffdc989", func := "loop.example/g00109/laws.FnExactEntryAt", spec := "fnExactEntryAt", apart := false, narrowed := true }
def FnExactEntryAtUptoSaid : Prop := fnExactEntryAtUptoRow.holds Try.pinned (OpenSpec.upto fnExactEntryAtSpec)

/-- 'laws.FnExactTablesOf', WHERE WHAT IT READS IS OF BULK AT MOST 1048576: true; the input reads as it did. -/
def fnExactTablesOfUptoRow : OpenClaim := { program := "ytbkahdpmpmalhaa", sum := "7615fcad2ed7bc13705fe4eff73232d82149928e89da4824b9d717b43ffdc989", func := "loop.example/g00109/laws.FnExactTablesOf", spec := "fnExactTablesOf", recurses := true, apart := false, narrowed := true }
def FnExactTablesOfUptoSaid : Prop := fnExactTablesOfUptoRow.holds Try.pinned (OpenSpec.upto fnExactTablesOfSpec)

end Rows
end Go.Proofs.Ytbkahdpmpmalhaa
