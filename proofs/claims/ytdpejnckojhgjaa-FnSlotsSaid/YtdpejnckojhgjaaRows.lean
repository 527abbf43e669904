/-
  No cell of these rows narrows 'for every input' (looked for: loops, veiled, ifaces, maps, wideKeys, modest, calm, conditions, laid).
  DERIVED. THE GIVEN ROWS OF THIS SEAT. 12 by the template 'for every input the law returns true; each argument reads behind the call as it read before'; 0 by the template 'total and deterministic' (their statements: YtdpejnckojhgjaaTotals.lean).
  GIVEN WITH THE SEED: the statements are not yours to turn. If you find one false, say at which input.
  Laid BY PROGRAM, IN A SANDBOX (cutbox-rows.mjs): the forced cells as the released guide's own fill.sh prints them over the translation 19330e9733be6c36… (all of the seat's roots in one cut). By AI agents, Wed Nov 11 2026. No macro, syntax, notation, axiom, sorry.
-/
import Derived.Test.YtdpejnckojhgjaaChecked
import GoSem.Claim
import GoSem.ClaimJoined
import GoSem.ClaimMapViews
import Derived.JoinedTies
import Derived.KernelRfl
namespace Go.Proofs.Ytdpejnckojhgjaa
/- THE CELL 'sum', in the pinned program and in every row, IS THE sha256 OF THE DUMP (.gsa) THAT YtdpejnckojhgjaaProg.lean LOADS. Nothing in Lean hashes anything: it is a label: what it is worth is what the hold of that sum in a sandbox is worth. -/
noncomputable def Try.pinned : Pinned := { name := "ytdpejnckojhgjaa", sum := "19330e9733be6c36ce1a414c14c159917882c57566a4120c7df74bc091866998", checked := Try.checked }
namespace Rows
def none {H : Type} : Left H := { results := [], args := [] }

/-- 'laws.FnExactAllRuns': WHATEVER THE INPUT: true; the input reads as it did. -/
def fnExactAllRunsSpec : ChangeSpec := { name := "fnExactAllRuns", fn := fun _ => fun
  | [d1, d2] => { results := [.lit (.bool true)], args := [d1, d2] }
  | _ => none }
def fnExactAllRunsRow : OpenClaim := { program := "ytdpejnckojhgjaa", sum := "19330e9733be6c36ce1a414c14c159917882c57566a4120c7df74bc091866998", func := "loop.example/g00109/laws.FnExactAllRuns", spec := "fnExactAllRuns", apart := false }
def FnExactAllRunsSaid : Prop := fnExactAllRunsRow.holds Try.pinned (OpenSpec.ofChange fnExactAllRunsSpec)

/-- ITS FALSE NEIGHBOUR: 'it returns false'. Refute it at one input. -/
def fnExactAllRunsWrong : ChangeSpec := { name := "fnExactAllRuns", fn := fun _ => fun
  | [d1, d2] => { results := [.lit (.bool false)], args := [d1, d2] }
  | _ => none }
def FnExactAllRunsWrongFalsely : Prop := fnExactAllRunsRow.holds Try.pinned (OpenSpec.ofChange fnExactAllRunsWrong)

/-- 'laws.FnExactCutRegions': WHATEVER THE INPUT: true; the input reads as it did. -/
def fnExactCutRegionsSpec : ChangeSpec := { name := "fnExactCutRegions", fn := fun _ => fun
  | [d1, d2, d3] => { results := [.lit (.bool true)], args := [d1, d2, d3] }
  | _ => none }
def fnExactCutRegionsRow : OpenClaim := { program := "ytdpejnckojhgjaa", sum := "19330e9733be6c36ce1a414c14c159917882c57566a4120c7df74bc091866998", func := "loop.example/g00109/laws.FnExactCutRegions", spec := "fnExactCutRegions", apart := false }
def FnExactCutRegionsSaid : Prop := fnExactCutRegionsRow.holds Try.pinned (OpenSpec.ofChange fnExactCutRegionsSpec)

/-- ITS FALSE NEIGHBOUR: 'it returns false'. Refute it at one input. -/
def fnExactCutRegionsWrong : ChangeSpec := { name := "fnExactCutRegions", fn := fun _ => fun
  | [d1, d2, d3] => { results := [.lit (.bool false)], args := [d1, d2, d3] }
  | _ => none }
def FnExactCutRegionsWrongFalsely : Prop := fnExactCutRegionsRow.holds Try.pinned (OpenSpec.ofChange fnExactCutRegionsWrong)

/-- 'laws.FnGreat': WHATEVER THE INPUT: true; the input reads as it did. -/
def fnGreatSpec : ChangeSpec := { name := "fnGreat", fn := fun _ => fun
  | [d] => { results := [.lit (.bool true)], args := [d] }
  | _ => none }
def fnGreatRow : OpenClaim := { program := "ytdpejnckojhgjaa", sum := "19330e9733be6c36ce1a414c14c159917882c57566a4120c7df74bc091866998", func := "loop.example/g00109/laws.FnGreat", spec := "fnGreat", apart := false }
def FnGreatSaid : Prop := fnGreatRow.holds Try.pinned (OpenSpec.ofChange fnGreatSpec)

/-- ITS FALSE NEIGHBOUR: 'it returns false'. Refute it at one input. -/
def fnGreatWrong : ChangeSpec := { name := "fnGreat", fn := fun _ => fun
  | [d] => { results := [.lit (.bool false)], args := [d] }
  | _ => none }
def FnGreatWrongFalsely : Prop := fnGreatRow.holds Try.pinned (OpenSpec.ofChange fnGreatWrong)

/-- 'laws.FnExactMoreOf': WHATEVER THE INPUT: true; the input reads as it did. -/
def fnExactMoreOfSpec : ChangeSpec := { name := "fnExactMoreOf", fn := fun _ => fun
  | [d1, d2] => { results := [.lit (.bool true)], args := [d1, d2] }
  | _ => none }
def fnExactMoreOfRow : OpenClaim := { program := "ytdpejnckojhgjaa", sum := "19330e9733be6c36ce1a414c14c159917882c57566a4120c7df74bc091866998", func := "loop.example/g00109/laws.FnExactMoreOf", spec := "fnExactMoreOf", apart := false }
def FnExactMoreOfSaid : Prop := fnExactMoreOfRow.holds Try.pinned (OpenSpec.ofChange fnExactMoreOfSpec)

/-- ITS FALSE NEIGHBOUR: 'it returns false'. Refute it at one input. -/
def fnExactMoreOfWrong : ChangeSpec := { name := "fnExactMoreOf", fn := fun _ => fun
  | [d1, d2] => { results := [.lit (.bool false)], args := [d1, d2] }
  | _ => none }
def FnExactMoreOfWrongFalsely : Prop := fnExactMoreOfRow.holds Try.pinned (OpenSpec.ofChange fnExactMoreOfWrong)

/-- 'laws.FnSlots': WHATEVER THE INPUT: true; the input reads as it did. -/
def fnSlotsSpec : ChangeSpec := { name := "fnSlots", fn := fun _ => fun
  | [d] => { results := [.lit (.bool true)], args := [d] }
  | _ => none }
def fnSlotsRow : OpenClaim := { program := "ytdpejnckojhgjaa", sum := "19330e9733be6c36ce1a414c14c159917882c57566a4120c7df74bc091866998", func := "loop.example/g00109/laws.FnSlots", spec := "fnSlots", apart := false }
def FnSlotsSaid : Prop := fnSlotsRow.holds Try.pinned (OpenSpec.ofChange fnSlotsSpec)

/-- ITS FALSE NEIGHBOUR: 'it returns false'. Refute it at one input. -/
def fnSlotsWrong : ChangeSpec := { name := "fnSlots", fn := fun _ => fun
  | [d] => { results := [.lit (.bool false)], args := [d] }
  | _ => none }
def FnSlotsWrongFalsely : Prop := fnSlotsRow.holds Try.pinned (OpenSpec.ofChange fnSlotsWrong)

/-- 'laws.FnExactChangeRegions': WHATEVER THE INPUT: true; the input reads as it did. -/
def fnExactChangeRegionsSpec : ChangeSpec := { name := "fnExactChangeRegions", fn := fun _ => fun
  | [d1, d2, d3, d4] => { results := [.lit (.bool true)], args := [d1, d2, d3, d4] }
  | _ => none }
def fnExactChangeRegionsRow : OpenClaim := { program := "ytdpejnckojhgjaa", sum := "19330e9733be6c36ce1a414c14c159917882c57566a4120c7df74bc091866998", func := "loop.example/g00109/laws.FnExactChangeRegions", spec := "fnExactChangeRegions", apart := false }
def FnExactChangeRegionsSaid : Prop := fnExactChangeRegionsRow.holds Try.pinned (OpenSpec.ofChange fnExactChangeRegionsSpec)

/-- ITS FALSE NEIGHBOUR: 'it returns false'. Refute it at one input. -/
def fnExactChangeRegionsWrong : ChangeSpec := { name := "fnExactChangeRegions", fn := fun _ => fun
  | [d1, d2, d3, d4] => { results := [.lit (.bool false)], args := [d1, d2, d3, d4] }
  | _ => none }
def FnExactChangeRegionsWrongFalsely : Prop := fnExactChangeRegionsRow.holds Try.pinned (OpenSpec.ofChange fnExactChangeRegionsWrong)

/-- 'laws.FnExactPutRegion': WHATEVER THE INPUT: true; the input reads as it did. -/
def fnExactPutRegionSpec : ChangeSpec := { name := "fnExactPutRegion", fn := fun _ => fun
  | [d1, d2] => { results := [.lit (.bool true)], args := [d1, d2] }
  | _ => none }
def fnExactPutRegionRow : OpenClaim := { program := "ytdpejnckojhgjaa", sum := "19330e9733be6c36ce1a414c14c159917882c57566a4120c7df74bc091866998", func := "loop.example/g00109/laws.FnExactPutRegion", spec := "fnExactPutRegion", apart := false }
def FnExactPutRegionSaid : Prop := fnExactPutRegionRow.holds Try.pinned (OpenSpec.ofChange fnExactPutRegionSpec)

/-- ITS FALSE NEIGHBOUR: 'it returns false'. Refute it at one input. -/
def fnExactPutRegionWrong : ChangeSpec := { name := "fnExactPutRegion", fn := fun _ => fun
  | [d1, d2] => { results := [.lit (.bool false)], args := [d1, d2] }
  | _ => none }
def FnExactPutRegionWrongFalsely : Prop := fnExactPutRegionRow.holds Try.pinned (OpenSpec.ofChange fnExactPutRegionWrong)

/-- 'laws.FnExactPutAside': WHATEVER THE INPUT: true; the input reads as it did. -/
def fnExactPutAsideSpec : ChangeSpec := { name := "fnExactPutAside", fn := fun _ => fun
  | [d1, d2, d3] => { results := [.lit (.bool true)], args := [d1, d2, d3] }
  | _ => none }
def fnExactPutAsideRow : OpenClaim := { program := "ytdpejnckojhgjaa", sum := "19330e9733be6c36ce1a414c14c159917882c57566a4120c7df74bc091866998", func := "loop.example/g00109/laws.FnExactPutAside", spec := "fnExactPutAside", apart := false }
def FnExactPutAsideSaid : Prop := fnExactPutAsideRow.holds Try.pinned (OpenSpec.ofChange fnExactPutAsideSpec)

/-- ITS FALSE NEIGHBOUR: 'it returns false'. Refute it at one input. -/
def fnExactPutAsideWrong : ChangeSpec := { name := "fnExactPutAside", fn := fun _ => fun
  | [d1, d2, d3] => { results := [.lit (.bool false)], args := [d1, d2, d3] }
  | _ => none }
def FnExactPutAsideWrongFalsely : Prop := fnExactPutAsideRow.holds Try.pinned (OpenSpec.ofChange fnExactPutAsideWrong)

/-- 'laws.FnExactLessOf': WHATEVER THE INPUT: true; the input reads as it did. -/
def fnExactLessOfSpec : ChangeSpec := { name := "fnExactLessOf", fn := fun _ => fun
  | [d1, d2] => { results := [.lit (.bool true)], args := [d1, d2] }
  | _ => none }
def fnExactLessOfRow : OpenClaim := { program := "ytdpejnckojhgjaa", sum := "19330e9733be6c36ce1a414c14c159917882c57566a4120c7df74bc091866998", func := "loop.example/g00109/laws.FnExactLessOf", spec := "fnExactLessOf", apart := false }
def FnExactLessOfSaid : Prop := fnExactLessOfRow.holds Try.pinned (OpenSpec.ofChange fnExactLessOfSpec)

/-- ITS FALSE NEIGHBOUR: 'it returns false'. Refute it at one input. -/
def fnExactLessOfWrong : ChangeSpec := { name := "fnExactLessOf", fn := fun _ => fun
  | [d1, d2] => { results := [.lit (.bool false)], args := [d1, d2] }
  | _ => none }
def FnExactLessOfWrongFalsely : Prop := fnExactLessOfRow.holds Try.pinned (OpenSpec.ofChange fnExactLessOfWrong)

/-- 'laws.FnExactTakePart': WHATEVER THE INPUT: true; the input reads as it did. -/
def fnExactTakePartSpec : ChangeSpec := { name := "fnExactTakePart", fn := fun _ => fun
  | [d1, d2] => { results := [.lit (.bool true)], args := [d1, d2] }
  | _ => none }
def fnExactTakePartRow : OpenClaim := { program := "ytdpejnckojhgjaa", sum := "19330e9733be6c36ce1a414c14c159917882c57566a4120c7df74bc091866998", func := "loop.example/g00109/laws.FnExactTakePart", spec := "fnExactTakePart", apart := false }
def FnExactTakePartSaid : Prop := fnExactTakePartRow.holds Try.pinned (OpenSpec.ofChange fnExactTakePartSpec)

/-- ITS FALSE NEIGHBOUR: 'it returns false'. Refute it at one input. -/
def fnExactTakePartWrong : ChangeSpec := { name := "fnExactTakePart", fn := fun _ => fun
  | [d1, d2] => { results := [.lit (.bool false)], args := [d1, d2] }
  | _ => none }
def FnExactTakePartWrongFalsely : Prop := fnExactTakePartRow.holds Try.pinned (OpenSpec.ofChange fnExactTakePartWrong)

/-- 'laws.FnRegions': WHATEVER THE INPUT: true; the input reads as it did. -/
def fnRegionsSpec : ChangeSpec := { name := "fnRegions", fn := fun _ => fun
  | [d] => { results := [.lit (.bool true)], args := [d] }
  | _ => none }
def fnRegionsRow : OpenClaim := { program := "ytdpejnckojhgjaa", sum := "19330e9733be6c36ce1a414c14c159917882c57566a4120c7df74bc091866998", func := "loop.example/g00109/laws.FnRegions", spec := "fnRegions", apart := false }
def FnRegionsSaid : Prop := fnRegionsRow.holds Try.pinned (OpenSpec.ofChange fnRegionsSpec)

/-- ITS FALSE NEIGHBOUR: 'it returns false'. Refute it at one input. -/
def fnRegionsWrong : ChangeSpec := { name := "fnRegions", fn := fun _ => fun
  | [d] => { results := [.lit (.bool false)], args := [d] }
  | _ => none }
def FnRegionsWrongFalsely : Prop := fnRegionsRow.holds Try.pinned (OpenSpec.ofChange fnRegionsWrong)

/-- 'laws.FnExactTakeRun': WHATEVER THE INPUT: true; the input reads as it did. -/
def fnExactTakeRunSpec : ChangeSpec := { name := "fnExactTakeRun", fn := fun _ => fun
  | [d1, d2, d3] => { results := [.lit (.bool true)], args := [d1, d2, d3] }
  | _ => none }
def fnExactTakeRunRow : OpenClaim := { program := "ytdpejnckojhgjaa", sum := "19330e9733be6c36ce1a414c14c159917882c57566a4120c7df74bc091866998", func := "loop.example/g00109/laws.FnExactTakeRun", spec := "fnExactTakeRun", apart := false }
def FnExactTakeRunSaid : Prop := fnExactTakeRunRow.holds Try.pinned (OpenSpec.ofChange fnExactTakeRunSpec)

/-- ITS FALSE NEIGHBOUR: 'it returns false'. Refute it at one input. -/
def fnExactTakeRunWrong : ChangeSpec := { name := "fnExactTakeRun", fn := fun _ => fun
  | [d1, d2, d3] => { results := [.lit (.bool false)], args := [d1, d2, d3] }
  | _ => none }
def FnExactTakeRunWrongFalsely : Prop := fnExactTakeRunRow.holds Try.pinned (OpenSpec.ofChange fnExactTakeRunWrong)

/- THE SECOND FORM. 'bulk': how many values and letters a reading holds, each counted each time it is reached (what is shared counts as often as it is met; a slice's spare places count too). A statement '..UptoSaid' is the law's where the arguments, and the package variables that the reading takes, are together of bulk at most 1048576: NARROWER than '..Said'. Prove '..Said' where nothing that the law and all that it calls make is longer than what came in: it says more and counts as full. Else prove '..UptoSaid'. A law counts once. -/
mutual
def uptoBulk {H : Type} : DataW H → Nat
  | .lit (.string bytes) => bytes.length + 1
  | .lit _ => 1
  | .nil => 1
  | .ptr d => uptoBulk d + 1
  | .slice elems spare => uptoBulkAll elems + uptoBulkAll spare + 1
  | .agg parts => uptoBulkAll parts + 1
  | .iface _ d => uptoBulk d + 1
  | .map entries => uptoBulkEntries entries + 1
  | .held _ => 1
def uptoBulkAll {H : Type} : List (DataW H) → Nat
  | [] => 0
  | d :: r => uptoBulk d + uptoBulkAll r
def uptoBulkEntries {H : Type} : List (Lit × DataW H) → Nat
  | [] => 0
  | x :: r => uptoBulkEntry x + uptoBulkEntries r
def uptoBulkEntry {H : Type} : Lit × DataW H → Nat
  | (.string bytes, d) => bytes.length + uptoBulk d + 1
  | (_, d) => uptoBulk d + 1
 end
def uptoSmall : (H : Type) → List (DataW H) → Bool := fun _ ds => decide (uptoBulkAll ds ≤ 1048576)
def OpenSpec.upto (s : _root_.Go.ChangeSpec) : _root_.Go.OpenSpec := { _root_.Go.OpenSpec.ofChange s with cond := some uptoSmall }

/-- 'laws.FnExactAllRuns', WHERE WHAT IT READS IS OF BULK AT MOST 1048576: true; the input reads as it did. -/
def fnExactAllRunsUptoRow : OpenClaim := { program := "ytdpejnckojhgjaa", sum := "19330e9733be6c36ce1a414c14c159917882c57566a4120c7df74bc091866998", func := "loop.example/g00109/laws.FnExactAllRuns", spec := "fnExactAllRuns", apart := false, narrowed := true }
def FnExactAllRunsUptoSaid : Prop := fnExactAllRunsUptoRow.holds Try.pinned (OpenSpec.upto fnExactAllRunsSpec)

/-- 'laws.FnExactCutRegions', WHERE WHAT IT READS IS OF BULK AT MOST 1048576: true; the input reads as it did. -/
def fnExactCutRegionsUptoRow : OpenClaim := { program := "ytdpejnckojhgjaa", sum := "19330e9733be6c36ce1a414c14c159917882c57566a4120c7df74bc091866998", func := "loop.example/g00109/laws.FnExactCutRegions", spec := "fnExactCutRegions", apart := false, narrowed := true }
def FnExactCutRegionsUptoSaid : Prop := fnExactCutRegionsUptoRow.holds Try.pinned (OpenSpec.upto fnExactCutRegionsSpec)

/-- 'laws.FnGreat', WHERE WHAT IT READS IS OF BULK AT MOST 1048576: true; the input reads as it did. -/
def fnGreatUptoRow : OpenClaim := { program := "ytdpejnckojhgjaa", sum := "19330e9733be6c36ce1a414c14c159917882c57566a4120c7df74bc091866998", func := "loop.example/g00109/laws.FnGreat", spec := "fnGreat", apart := false, narrowed := true }
def FnGreatUptoSaid : Prop := fnGreatUptoRow.holds Try.pinned (OpenSpec.upto fnGreatSpec)

/-- 'laws.FnExactMoreOf', WHERE WHAT IT READS IS OF BULK AT MOST 1048576: true; the input reads as it did. -/
def fnExactMoreOfUptoRow : OpenClaim := { program := "ytdpejnckojhgjaa", sum := "19330e9733be6c36ce1a414c14c159917882c57566a4120c7df74bc091866998", func := "loop.example/g00109/laws.FnExactMoreOf", spec := "fnExactMoreOf", apart := false, narrowed := true }
def FnExactMoreOfUptoSaid : Prop := fnExactMoreOfUptoRow.holds Try.pinned (OpenSpec.upto fnExactMoreOfSpec)

/-- 'laws.FnSlots', WHERE WHAT IT READS IS OF BULK AT MOST 1048576: true; the input reads as it did. -/
def fnSlotsUptoRow : OpenClaim := { program := "ytdpejnckojhgjaa", sum := "19330e9733be6c36ce1a414c14c159917882c57566a4120c7df74bc091866998", func := "loop.example/g00109/laws.FnSlots", spec := "fnSlots", apart := false, narrowed := true }
def FnSlotsUptoSaid : Prop := fnSlotsUptoRow.holds Try.pinned (OpenSpec.upto fnSlotsSpec)

/-- 'laws.FnExactChangeRegions', WHERE WHAT IT READS IS OF BULK AT MOST 1048576: true; the input reads as it did. -/
def fnExactChangeRegionsUptoRow : OpenClaim := { program := "ytdpejnckojhgjaa", sum := "19330e9733be6c36ce1a414c14c159917882c57566a4120c7df74bc091866998", func := "loop.example/g00109/laws.FnExactChangeRegions", spec := "fnExactChangeRegions", apart := false, narrowed := true }
def FnExactChangeRegionsUptoSaid : Prop := fnExactChangeRegionsUptoRow.holds Try.pinned (OpenSpec.upto fnExactChangeRegionsSpec)

/-- 'laws.FnExactPutRegion', WHERE WHAT IT READS IS OF BULK AT MOST 1048576: true; the input reads as it did. -/
def fnExactPutRegionUptoRow : OpenClaim := { program := "ytdpejnckojhgjaa", sum := "19330e9733be6c36ce1a414c14c159917882c57566a4120c7df74bc091866998", func := "loop.example/g00109/laws.FnExactPutRegion", spec := "fnExactPutRegion", apart := false, narrowed := true }
def FnExactPutRegionUptoSaid : Prop := fnExactPutRegionUptoRow.holds Try.pinned (OpenSpec.upto fnExactPutRegionSpec)

/-- 'laws.FnExactPutAside', WHERE WHAT IT READS IS OF BULK AT MOST 1048576: true; the input reads as it did. -/
def fnExactPutAsideUptoRow : OpenClaim := { program := "ytdpejnckojhgjaa", sum := "19330e9733be6c36ce1a414c14c159917882c57566a4120c7df74bc091866998", func := "loop.example/g00109/laws.FnExactPutAside", spec := "fnExactPutAside", apart := false, narrowed := true }
def FnExactPutAsideUptoSaid : Prop := fnExactPutAsideUptoRow.holds Try.pinned (OpenSpec.upto fnExactPutAsideSpec)

/-- 'laws.FnExactLessOf', WHERE WHAT IT READS IS OF BULK AT MOST 1048576: true; the input reads as it did. -/
def fnExactLessOfUptoRow : OpenClaim := { program := "ytdpejnckojhgjaa", sum := "19330e9733be6c36ce1a414c14c159917882c57566a4120c7df74bc091866998", func := "loop.example/g00109/laws.FnExactLessOf", spec := "fnExactLessOf", apart := false, narrowed := true }
def FnExactLessOfUptoSaid : Prop := fnExactLessOfUptoRow.holds Try.pinned (OpenSpec.upto fnExactLessOfSpec)

/-- 'laws.FnExactTakePart', WHERE WHAT IT READS IS OF BULK AT MOST 1048576: true; the input reads as it did. -/
def fnExactTakePartUptoRow : OpenClaim := { program := "ytdpejnckojhgjaa", sum := "19330e9733be6c36ce1a414c14c159917882c57566a4120c7df74bc091866998", func := "loop.example/g00109/laws.FnExactTakePart", spec := "fnExactTakePart", apart := false, narrowed := true }
def FnExactTakePartUptoSaid : Prop := fnExactTakePartUptoRow.holds Try.pinned (OpenSpec.upto fnExactTakePartSpec)

/-- 'laws.FnRegions', WHERE WHAT IT READS IS OF BULK AT MOST 1048576: true; the input reads as it did. -/
def fnRegionsUptoRow : OpenClaim := { program := "ytdpejnckojhgjaa", sum := "19330e9733be6c36ce1a414c14c159917882c57566a4120c7df74bc091866998", func := "loop.example/g00109/laws.FnRegions", spec := "fnRegions", apart := false, narrowed := true }
def FnRegionsUptoSaid : Prop := fnRegionsUptoRow.holds Try.pinned (OpenSpec.upto fnRegionsSpec)

/-- 'laws.FnExactTakeRun', WHERE WHAT IT READS IS OF BULK AT MOST 1048576: true; the input reads as it did. -/
def fnExactTakeRunUptoRow : OpenClaim := { program := "ytdpejnckojhgjaa", sum := "19330e9733be6c36ce1a414c14c159917882c57566a4120c7df74bc091866998", func := "loop.example/g00109/laws.FnExactTakeRun", spec := "fnExactTakeRun", apart := false, narrowed := true }
def FnExactTakeRunUptoSaid : Prop := fnExactTakeRunUptoRow.holds Try.pinned (OpenSpec.upto fnExactTakeRunSpec)

end Rows
end Go.Proofs.Ytdpejnckojhgjaa
