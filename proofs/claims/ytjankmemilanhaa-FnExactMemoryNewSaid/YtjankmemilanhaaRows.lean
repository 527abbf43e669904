/-
  No cell of these rows narrows 'for every input' (looked for: loops, veiled, ifaces, maps, wideKeys, modest, calm, conditions, laid).
  DERIVED. THE GIVEN ROWS OF THIS SEAT. 12 by the template 'for every input the law returns true; each argument reads behind the call as it read before'; 0 by the template 'total and deterministic' (their statements: YtjankmemilanhaaTotals.lean).
  GIVEN WITH THE SEED: the statements are not yours to turn. If you find one false, say at which input.
  Laid BY PROGRAM, IN A SANDBOX (cutbox-rows.mjs): the forced cells as the released guide's own fill.sh prints them over the translation 2eaaac385342337c… (all of the seat's roots in one cut). By AI agents, Wed Nov 11 2026. No macro, syntax, notation, axiom, sorry.
-/
import Derived.Test.YtjankmemilanhaaChecked
import GoSem.Claim
import GoSem.ClaimJoined
import GoSem.ClaimMapViews
import Derived.JoinedTies
import Derived.KernelRfl
namespace Go.Proofs.Ytjankmemilanhaa
/- THE CELL 'sum', in the pinned program and in every row, IS THE sha256 OF THE DUMP (.gsa) THAT YtjankmemilanhaaProg.lean LOADS. Nothing in Lean hashes anything: it is a label: what it is worth is what the hold of that sum in a sandbox is worth. -/
noncomputable def Try.pinned : Pinned := { name := "ytjankmemilanhaa", sum := "2eaaac385342337c3415542ac97fae208e9c2eba45843ff16a0a4fa152fb8d9b", checked := Try.checked }
namespace Rows
def none {H : Type} : Left H := { results := [], args := [] }

/-- 'laws.FnExactConstants': WHATEVER THE INPUT: true; the input reads as it did. -/
def fnExactConstantsSpec : ChangeSpec := { name := "fnExactConstants", fn := fun _ => fun
  | [] => { results := [.lit (.bool true)], args := [] }
  | _ => none }
def fnExactConstantsRow : OpenClaim := { program := "ytjankmemilanhaa", sum := "2eaaac385342337c3415542ac97fae208e9c2eba45843ff16a0a4fa152fb8d9b", func := "loop.example/g00109/laws.FnExactConstants", spec := "fnExactConstants", apart := false }
def FnExactConstantsSaid : Prop := fnExactConstantsRow.holds Try.pinned (OpenSpec.ofChange fnExactConstantsSpec)

/-- ITS FALSE NEIGHBOUR: 'it returns false'. Refute it at one input. -/
def fnExactConstantsWrong : ChangeSpec := { name := "fnExactConstants", fn := fun _ => fun
  | [] => { results := [.lit (.bool false)], args := [] }
  | _ => none }
def FnExactConstantsWrongFalsely : Prop := fnExactConstantsRow.holds Try.pinned (OpenSpec.ofChange fnExactConstantsWrong)

/-- 'laws.FnExactTablePath': WHATEVER THE INPUT: true; the input reads as it did. -/
def fnExactTablePathSpec : ChangeSpec := { name := "fnExactTablePath", fn := fun _ => fun
  | [d] => { results := [.lit (.bool true)], args := [d] }
  | _ => none }
def fnExactTablePathRow : OpenClaim := { program := "ytjankmemilanhaa", sum := "2eaaac385342337c3415542ac97fae208e9c2eba45843ff16a0a4fa152fb8d9b", func := "loop.example/g00109/laws.FnExactTablePath", spec := "fnExactTablePath", apart := false }
def FnExactTablePathSaid : Prop := fnExactTablePathRow.holds Try.pinned (OpenSpec.ofChange fnExactTablePathSpec)

/-- ITS FALSE NEIGHBOUR: 'it returns false'. Refute it at one input. -/
def fnExactTablePathWrong : ChangeSpec := { name := "fnExactTablePath", fn := fun _ => fun
  | [d] => { results := [.lit (.bool false)], args := [d] }
  | _ => none }
def FnExactTablePathWrongFalsely : Prop := fnExactTablePathRow.holds Try.pinned (OpenSpec.ofChange fnExactTablePathWrong)

/-- 'laws.FnExactSizeFor': WHATEVER THE INPUT: true; the input reads as it did. -/
def fnExactSizeForSpec : ChangeSpec := { name := "fnExactSizeFor", fn := fun _ => fun
  | [d] => { results := [.lit (.bool true)], args := [d] }
  | _ => none }
def fnExactSizeForRow : OpenClaim := { program := "ytjankmemilanhaa", sum := "2eaaac385342337c3415542ac97fae208e9c2eba45843ff16a0a4fa152fb8d9b", func := "loop.example/g00109/laws.FnExactSizeFor", spec := "fnExactSizeFor", apart := false }
def FnExactSizeForSaid : Prop := fnExactSizeForRow.holds Try.pinned (OpenSpec.ofChange fnExactSizeForSpec)

/-- ITS FALSE NEIGHBOUR: 'it returns false'. Refute it at one input. -/
def fnExactSizeForWrong : ChangeSpec := { name := "fnExactSizeFor", fn := fun _ => fun
  | [d] => { results := [.lit (.bool false)], args := [d] }
  | _ => none }
def FnExactSizeForWrongFalsely : Prop := fnExactSizeForRow.holds Try.pinned (OpenSpec.ofChange fnExactSizeForWrong)

/-- 'laws.FnExactEntryOk': WHATEVER THE INPUT: true; the input reads as it did. -/
def fnExactEntryOkSpec : ChangeSpec := { name := "fnExactEntryOk", fn := fun _ => fun
  | [d] => { results := [.lit (.bool true)], args := [d] }
  | _ => none }
def fnExactEntryOkRow : OpenClaim := { program := "ytjankmemilanhaa", sum := "2eaaac385342337c3415542ac97fae208e9c2eba45843ff16a0a4fa152fb8d9b", func := "loop.example/g00109/laws.FnExactEntryOk", spec := "fnExactEntryOk", apart := false }
def FnExactEntryOkSaid : Prop := fnExactEntryOkRow.holds Try.pinned (OpenSpec.ofChange fnExactEntryOkSpec)

/-- ITS FALSE NEIGHBOUR: 'it returns false'. Refute it at one input. -/
def fnExactEntryOkWrong : ChangeSpec := { name := "fnExactEntryOk", fn := fun _ => fun
  | [d] => { results := [.lit (.bool false)], args := [d] }
  | _ => none }
def FnExactEntryOkWrongFalsely : Prop := fnExactEntryOkRow.holds Try.pinned (OpenSpec.ofChange fnExactEntryOkWrong)

/-- 'laws.FnExactDecimal': WHATEVER THE INPUT: true; the input reads as it did. -/
def fnExactDecimalSpec : ChangeSpec := { name := "fnExactDecimal", fn := fun _ => fun
  | [d] => { results := [.lit (.bool true)], args := [d] }
  | _ => none }
def fnExactDecimalRow : OpenClaim := { program := "ytjankmemilanhaa", sum := "2eaaac385342337c3415542ac97fae208e9c2eba45843ff16a0a4fa152fb8d9b", func := "loop.example/g00109/laws.FnExactDecimal", spec := "fnExactDecimal", apart := false }
def FnExactDecimalSaid : Prop := fnExactDecimalRow.holds Try.pinned (OpenSpec.ofChange fnExactDecimalSpec)

/-- ITS FALSE NEIGHBOUR: 'it returns false'. Refute it at one input. -/
def fnExactDecimalWrong : ChangeSpec := { name := "fnExactDecimal", fn := fun _ => fun
  | [d] => { results := [.lit (.bool false)], args := [d] }
  | _ => none }
def FnExactDecimalWrongFalsely : Prop := fnExactDecimalRow.holds Try.pinned (OpenSpec.ofChange fnExactDecimalWrong)

/-- 'laws.FnExactEntryWord': WHATEVER THE INPUT: true; the input reads as it did. -/
def fnExactEntryWordSpec : ChangeSpec := { name := "fnExactEntryWord", fn := fun _ => fun
  | [d] => { results := [.lit (.bool true)], args := [d] }
  | _ => none }
def fnExactEntryWordRow : OpenClaim := { program := "ytjankmemilanhaa", sum := "2eaaac385342337c3415542ac97fae208e9c2eba45843ff16a0a4fa152fb8d9b", func := "loop.example/g00109/laws.FnExactEntryWord", spec := "fnExactEntryWord", apart := false }
def FnExactEntryWordSaid : Prop := fnExactEntryWordRow.holds Try.pinned (OpenSpec.ofChange fnExactEntryWordSpec)

/-- ITS FALSE NEIGHBOUR: 'it returns false'. Refute it at one input. -/
def fnExactEntryWordWrong : ChangeSpec := { name := "fnExactEntryWord", fn := fun _ => fun
  | [d] => { results := [.lit (.bool false)], args := [d] }
  | _ => none }
def FnExactEntryWordWrongFalsely : Prop := fnExactEntryWordRow.holds Try.pinned (OpenSpec.ofChange fnExactEntryWordWrong)

/-- 'laws.FnExactRegionsOk': WHATEVER THE INPUT: true; the input reads as it did. -/
def fnExactRegionsOkSpec : ChangeSpec := { name := "fnExactRegionsOk", fn := fun _ => fun
  | [d] => { results := [.lit (.bool true)], args := [d] }
  | _ => none }
def fnExactRegionsOkRow : OpenClaim := { program := "ytjankmemilanhaa", sum := "2eaaac385342337c3415542ac97fae208e9c2eba45843ff16a0a4fa152fb8d9b", func := "loop.example/g00109/laws.FnExactRegionsOk", spec := "fnExactRegionsOk", apart := false }
def FnExactRegionsOkSaid : Prop := fnExactRegionsOkRow.holds Try.pinned (OpenSpec.ofChange fnExactRegionsOkSpec)

/-- ITS FALSE NEIGHBOUR: 'it returns false'. Refute it at one input. -/
def fnExactRegionsOkWrong : ChangeSpec := { name := "fnExactRegionsOk", fn := fun _ => fun
  | [d] => { results := [.lit (.bool false)], args := [d] }
  | _ => none }
def FnExactRegionsOkWrongFalsely : Prop := fnExactRegionsOkRow.holds Try.pinned (OpenSpec.ofChange fnExactRegionsOkWrong)

/-- 'laws.FnExactReadDecimal': WHATEVER THE INPUT: true; the input reads as it did. -/
def fnExactReadDecimalSpec : ChangeSpec := { name := "fnExactReadDecimal", fn := fun _ => fun
  | [d] => { results := [.lit (.bool true)], args := [d] }
  | _ => none }
def fnExactReadDecimalRow : OpenClaim := { program := "ytjankmemilanhaa", sum := "2eaaac385342337c3415542ac97fae208e9c2eba45843ff16a0a4fa152fb8d9b", func := "loop.example/g00109/laws.FnExactReadDecimal", spec := "fnExactReadDecimal", apart := false }
def FnExactReadDecimalSaid : Prop := fnExactReadDecimalRow.holds Try.pinned (OpenSpec.ofChange fnExactReadDecimalSpec)

/-- ITS FALSE NEIGHBOUR: 'it returns false'. Refute it at one input. -/
def fnExactReadDecimalWrong : ChangeSpec := { name := "fnExactReadDecimal", fn := fun _ => fun
  | [d] => { results := [.lit (.bool false)], args := [d] }
  | _ => none }
def FnExactReadDecimalWrongFalsely : Prop := fnExactReadDecimalRow.holds Try.pinned (OpenSpec.ofChange fnExactReadDecimalWrong)

/-- 'laws.FnNumbers': WHATEVER THE INPUT: true; the input reads as it did. -/
def fnNumbersSpec : ChangeSpec := { name := "fnNumbers", fn := fun _ => fun
  | [d] => { results := [.lit (.bool true)], args := [d] }
  | _ => none }
def fnNumbersRow : OpenClaim := { program := "ytjankmemilanhaa", sum := "2eaaac385342337c3415542ac97fae208e9c2eba45843ff16a0a4fa152fb8d9b", func := "loop.example/g00109/laws.FnNumbers", spec := "fnNumbers", apart := false }
def FnNumbersSaid : Prop := fnNumbersRow.holds Try.pinned (OpenSpec.ofChange fnNumbersSpec)

/-- ITS FALSE NEIGHBOUR: 'it returns false'. Refute it at one input. -/
def fnNumbersWrong : ChangeSpec := { name := "fnNumbers", fn := fun _ => fun
  | [d] => { results := [.lit (.bool false)], args := [d] }
  | _ => none }
def FnNumbersWrongFalsely : Prop := fnNumbersRow.holds Try.pinned (OpenSpec.ofChange fnNumbersWrong)

/-- 'laws.FnExactMemoryNew': WHATEVER THE INPUT: true; the input reads as it did. -/
def fnExactMemoryNewSpec : ChangeSpec := { name := "fnExactMemoryNew", fn := fun _ => fun
  | [d] => { results := [.lit (.bool true)], args := [d] }
  | _ => none }
def fnExactMemoryNewRow : OpenClaim := { program := "ytjankmemilanhaa", sum := "2eaaac385342337c3415542ac97fae208e9c2eba45843ff16a0a4fa152fb8d9b", func := "loop.example/g00109/laws.FnExactMemoryNew", spec := "fnExactMemoryNew", apart := false }
def FnExactMemoryNewSaid : Prop := fnExactMemoryNewRow.holds Try.pinned (OpenSpec.ofChange fnExactMemoryNewSpec)

/-- ITS FALSE NEIGHBOUR: 'it returns false'. Refute it at one input. -/
def fnExactMemoryNewWrong : ChangeSpec := { name := "fnExactMemoryNew", fn := fun _ => fun
  | [d] => { results := [.lit (.bool false)], args := [d] }
  | _ => none }
def FnExactMemoryNewWrongFalsely : Prop := fnExactMemoryNewRow.holds Try.pinned (OpenSpec.ofChange fnExactMemoryNewWrong)

/-- 'laws.FnExactMemoryOk': WHATEVER THE INPUT: true; the input reads as it did. -/
def fnExactMemoryOkSpec : ChangeSpec := { name := "fnExactMemoryOk", fn := fun _ => fun
  | [d] => { results := [.lit (.bool true)], args := [d] }
  | _ => none }
def fnExactMemoryOkRow : OpenClaim := { program := "ytjankmemilanhaa", sum := "2eaaac385342337c3415542ac97fae208e9c2eba45843ff16a0a4fa152fb8d9b", func := "loop.example/g00109/laws.FnExactMemoryOk", spec := "fnExactMemoryOk", apart := false }
def FnExactMemoryOkSaid : Prop := fnExactMemoryOkRow.holds Try.pinned (OpenSpec.ofChange fnExactMemoryOkSpec)

/-- ITS FALSE NEIGHBOUR: 'it returns false'. Refute it at one input. -/
def fnExactMemoryOkWrong : ChangeSpec := { name := "fnExactMemoryOk", fn := fun _ => fun
  | [d] => { results := [.lit (.bool false)], args := [d] }
  | _ => none }
def FnExactMemoryOkWrongFalsely : Prop := fnExactMemoryOkRow.holds Try.pinned (OpenSpec.ofChange fnExactMemoryOkWrong)

/-- 'laws.FnExactReadEntry': WHATEVER THE INPUT: true; the input reads as it did. -/
def fnExactReadEntrySpec : ChangeSpec := { name := "fnExactReadEntry", fn := fun _ => fun
  | [d] => { results := [.lit (.bool true)], args := [d] }
  | _ => none }
def fnExactReadEntryRow : OpenClaim := { program := "ytjankmemilanhaa", sum := "2eaaac385342337c3415542ac97fae208e9c2eba45843ff16a0a4fa152fb8d9b", func := "loop.example/g00109/laws.FnExactReadEntry", spec := "fnExactReadEntry", apart := false }
def FnExactReadEntrySaid : Prop := fnExactReadEntryRow.holds Try.pinned (OpenSpec.ofChange fnExactReadEntrySpec)

/-- ITS FALSE NEIGHBOUR: 'it returns false'. Refute it at one input. -/
def fnExactReadEntryWrong : ChangeSpec := { name := "fnExactReadEntry", fn := fun _ => fun
  | [d] => { results := [.lit (.bool false)], args := [d] }
  | _ => none }
def FnExactReadEntryWrongFalsely : Prop := fnExactReadEntryRow.holds Try.pinned (OpenSpec.ofChange fnExactReadEntryWrong)

/- THE SECOND FORM. 'bulk': how many values and letters a reading holds, each counted each time it is reached (what is shared counts as often as it is met; a slice's spare places count too). A statement '..UptoSaid' is the law's where the arguments, and the package variables that the reading takes, are together of bulk at most 1048576: NARROWER than '..Said'. Prove '..Said' where nothing that the law and all that it calls make is longer than what came in: it says more and counts as full. Else prove '..UptoSaid'. A law counts once. -/
mutual
def uptoBulk {H : Type} : DataW H → Nat
  | .lit (.string bytes) => bytes.length + 1
  | .lit _ => 1
  | .nil => 1
  | .ptr d => uptoBulk d + 1
  | .slice elems spare => uptoBulkAll elems + uptoBulkAll spare + 1
  | .agg parts => uptoBulkAll parts + 1
  | .iface _ d => uptoBulk d + 1
  | .map entries => uptoBulkEntries entries + 1
  | .held _ => 1
def uptoBulkAll {H : Type} : List (DataW H) → Nat
  | [] => 0
  | d :: r => uptoBulk d + uptoBulkAll r
def uptoBulkEntries {H : Type} : List (Lit × DataW H) → Nat
  | [] => 0
  | x :: r => uptoBulkEntry x + uptoBulkEntries r
def uptoBulkEntry {H : Type} : Lit × DataW H → Nat
  | (.string bytes, d) => bytes.length + uptoBulk d + 1
  | (_, d) => uptoBulk d + 1
 end
def uptoSmall : (H : Type) → List (DataW H) → Bool := fun _ ds => decide (uptoBulkAll ds ≤ 1048576)
def OpenSpec.upto (s : _root_.Go.ChangeSpec) : _root_.Go.OpenSpec := { _root_.Go.OpenSpec.ofChange s with cond := some uptoSmall }

/-- 'laws.FnExactConstants', WHERE WHAT IT READS IS OF BULK AT MOST 1048576: true; the input reads as it did. -/
def fnExactConstantsUptoRow : OpenClaim := { program := "ytjankmemilanhaa", sum := "2eaaac385342337c3415542ac97fae208e9c2eba45843ff16a0a4fa152fb8d9b", func := "loop.example/g00109/laws.FnExactConstants", spec := "fnExactConstants", apart := false, narrowed := true }
def FnExactConstantsUptoSaid : Prop := fnExactConstantsUptoRow.holds Try.pinned (OpenSpec.upto fnExactConstantsSpec)

/-- 'laws.FnExactTablePath', WHERE WHAT IT READS IS OF BULK AT MOST 1048576: true; the input reads as it did. -/
def fnExactTablePathUptoRow : OpenClaim := { program := "ytjankmemilanhaa", sum := "2eaaac385342337c3415542ac97fae208e9c2eba45843ff16a0a4fa152fb8d9b", func := "loop.example/g00109/laws.FnExactTablePath", spec := "fnExactTablePath", apart := false, narrowed := true }
def FnExactTablePathUptoSaid : Prop := fnExactTablePathUptoRow.holds Try.pinned (OpenSpec.upto fnExactTablePathSpec)

/-- 'laws.FnExactSizeFor', WHERE WHAT IT READS IS OF BULK AT MOST 1048576: true; the input reads as it did. -/
def fnExactSizeForUptoRow : OpenClaim := { program := "ytjankmemilanhaa", sum := "2eaaac385342337c3415542ac97fae208e9c2eba45843ff16a0a4fa152fb8d9b", func := "loop.example/g00109/laws.FnExactSizeFor", spec := "fnExactSizeFor", apart := false, narrowed := true }
def FnExactSizeForUptoSaid : Prop := fnExactSizeForUptoRow.holds Try.pinned (OpenSpec.upto fnExactSizeForSpec)

/-- 'laws.FnExactEntryOk', WHERE WHAT IT READS IS OF BULK AT MOST 1048576: true; the input reads as it did. -/
def fnExactEntryOkUptoRow : OpenClaim := { program := "ytjankmemilanhaa", sum := "2eaaac385342337c3415542ac97fae208e9c2eba45843ff16a0a4fa152fb8d9b", func := "loop.example/g00109/laws.FnExactEntryOk", spec := "fnExactEntryOk", apart := false, narrowed := true }
def FnExactEntryOkUptoSaid : Prop := fnExactEntryOkUptoRow.holds Try.pinned (OpenSpec.upto fnExactEntryOkSpec)

/-- 'laws.FnExactDecimal', WHERE WHAT IT READS IS OF BULK AT MOST 1048576: true; the input reads as it did. -/
def fnExactDecimalUptoRow : OpenClaim := { program := "ytjankmemilanhaa", sum := "2eaaac385342337c3415542ac97fae208e9c2eba45843ff16a0a4fa152fb8d9b", func := "loop.example/g00109/laws.FnExactDecimal", spec := "fnExactDecimal", apart := false, narrowed := true }
def FnExactDecimalUptoSaid : Prop := fnExactDecimalUptoRow.holds Try.pinned (OpenSpec.upto fnExactDecimalSpec)

/-- 'laws.FnExactEntryWord', WHERE WHAT IT READS IS OF BULK AT MOST 1048576: true; the input reads as it did. -/
def fnExactEntryWordUptoRow : OpenClaim := { program := "ytjankmemilanhaa", sum := "2eaaac385342337c3415542ac97fae208e9c2eba45843ff16a0a4fa152fb8d9b", func := "loop.example/g00109/laws.FnExactEntryWord", spec := "fnExactEntryWord", apart := false, narrowed := true }
def FnExactEntryWordUptoSaid : Prop := fnExactEntryWordUptoRow.holds Try.pinned (OpenSpec.upto fnExactEntryWordSpec)

/-- 'laws.FnExactRegionsOk', WHERE WHAT IT READS IS OF BULK AT MOST 1048576: true; the input reads as it did. -/
def fnExactRegionsOkUptoRow : OpenClaim := { program := "ytjankmemilanhaa", sum := "2eaaac385342337c3415542ac97fae208e9c2eba45843ff16a0a4fa152fb8d9b", func := "loop.example/g00109/laws.FnExactRegionsOk", spec := "fnExactRegionsOk", apart := false, narrowed := true }
def FnExactRegionsOkUptoSaid : Prop := fnExactRegionsOkUptoRow.holds Try.pinned (OpenSpec.upto fnExactRegionsOkSpec)

/-- 'laws.FnExactReadDecimal', WHERE WHAT IT READS IS OF BULK AT MOST 1048576: true; the input reads as it did. -/
def fnExactReadDecimalUptoRow : OpenClaim := { program := "ytjankmemilanhaa", sum := "2eaaac385342337c3415542ac97fae208e9c2eba45843ff16a0a4fa152fb8d9b", func := "loop.example/g00109/laws.FnExactReadDecimal", spec := "fnExactReadDecimal", apart := false, narrowed := true }
def FnExactReadDecimalUptoSaid : Prop := fnExactReadDecimalUptoRow.holds Try.pinned (OpenSpec.upto fnExactReadDecimalSpec)

/-- 'laws.FnNumbers', WHERE WHAT IT READS IS OF BULK AT MOST 1048576: true; the input reads as it did. -/
def fnNumbersUptoRow : OpenClaim := { program := "ytjankmemilanhaa", sum := "2eaaac385342337c3415542ac97fae208e9c2eba45843ff16a0a4fa152fb8d9b", func := "loop.example/g00109/laws.FnNumbers", spec := "fnNumbers", apart := false, narrowed := true }
def FnNumbersUptoSaid : Prop := fnNumbersUptoRow.holds Try.pinned (OpenSpec.upto fnNumbersSpec)

/-- 'laws.FnExactMemoryNew', WHERE WHAT IT READS IS OF BULK AT MOST 1048576: true; the input reads as it did. -/
def fnExactMemoryNewUptoRow : OpenClaim := { program := "ytjankmemilanhaa", sum := "2eaaac385342337c3415542ac97fae208e9c2eba45843ff16a0a4fa152fb8d9b", func := "loop.example/g00109/laws.FnExactMemoryNew", spec := "fnExactMemoryNew", apart := false, narrowed := true }
def FnExactMemoryNewUptoSaid : Prop := fnExactMemoryNewUptoRow.holds Try.pinned (OpenSpec.upto fnExactMemoryNewSpec)

/-- 'laws.FnExactMemoryOk', WHERE WHAT IT READS IS OF BULK AT MOST 1048576: true; the input reads as it did. -/
def fnExactMemoryOkUptoRow : OpenClaim := { program := "ytjankmemilanhaa", sum := "2eaaac385342337c3415542ac97fae208e9c2eba45843ff16a0a4fa152fb8d9b", func := "loop.example/g00109/laws.FnExactMemoryOk", spec := "fnExactMemoryOk", apart := false, narrowed := true }
def FnExactMemoryOkUptoSaid : Prop := fnExactMemoryOkUptoRow.holds Try.pinned (OpenSpec.upto fnExactMemoryOkSpec)

/-- 'laws.FnExactReadEntry', WHERE WHAT IT READS IS OF BULK AT MOST 1048576: true; the input reads as it did. -/
def fnExactReadEntryUptoRow : OpenClaim := { program := "ytjankmemilanhaa", sum := "2eaaac385342337c3415542ac97fae208e9c2eba45843ff16a0a4fa152fb8d9b", func := "loop.example/g00109/laws.FnExactReadEntry", spec := "fnExactReadEntry", apart := false, narrowed := true }
def FnExactReadEntryUptoSaid : Prop := fnExactReadEntryUptoRow.holds Try.pinned (OpenSpec.upto fnExactReadEntrySpec)

end Rows
end Go.Proofs.Ytjankmemilanhaa
