/- The statement FnExactEntryWordSaid: for every input that can be read, the law answers true and leaves its arguments as they were. No condition of its own. -/
import Derived.Test.YtjankmemilanhaaRows
import Derived.Test.YtjankmemilanhaaP22
import Derived.Test.YtjankmemilanhaaPureFnExactEntryWord
import Derived.Test.YtjankmemilanhaaRead
import Derived.WalkKit
import Derived.ProofKit
import Derived.OpenShut
import Derived.ShutString
import Derived.ChangeOld
import Derived.Below
import Derived.SizedLaws
namespace Go.Proofs.Ytjankmemilanhaa.fnExactEntryWord
open Go.ChangeShapes Go.WideShapes Go.ChangeAt Go.RowKit Go.Proofs.Ytjankmemilanhaa.P Go.Proofs.Ytjankmemilanhaa.Read Go.Proofs.YtjankmemilanhaaW.PrintWords
open Go.ChangeMaps (open_string shut_string)
set_option linter.unusedVariables false
theorem own : ownKnob Try.prog.godebug = none := by kernel_rfl
theorem laidOut : laidOutB Try.prog = true := by kernel_rfl
theorem rd0 : Reading Try.prog 28 (Kd.pair (Kd.int .i64) (Kd.pair (Kd.int .i64) (Kd.pair Kd.bool Kd.bool))) (fun p => (Lit.int .i64 p.1).wf = true ∧ (Lit.int .i64 p.2.1).wf = true ∧ True ∧ True) := (Reading.struct_ Try.underlying28 (by kernel_rfl) (ReadingF.cons rfl (by kernel_rfl) (Reading.int_ Try.underlying3) (ReadingF.cons rfl (by kernel_rfl) (Reading.int_ Try.underlying3) (ReadingF.cons rfl (by kernel_rfl) (Reading.bool_ Try.underlying4) (ReadingF.last rfl (by kernel_rfl) (Reading.bool_ Try.underlying4))))))
set_option maxRecDepth 100000 in
theorem lifted (os : Os) (started : os.Started) (H : Type) (enc : TypeId × Value → H) :
    ReturnsInHanded {} Try.checked os 8 .any (Rows.fnExactEntryWordSpec.pre6 enc Try.prog Try.f8 Rows.fnExactEntryWordRow.domain false) (Rows.fnExactEntryWordSpec.post enc Try.prog Try.f8 false true false false) := by
  refine returnsInHanded_of_change_sized (C := Try.checked) own started (by kernel_rfl) Try.func8
    (ChangeSpec.witness6 (enc := enc) (C := Try.checked) false ⟨#[], #[.agg #[.int .i64 0, .int .i64 0, .bool false, .bool false]], []⟩ 8 (by kernel_rfl) (by kernel_rfl) (by kernel_rfl) (by kernel_rfl)) ?_
  intro W base args ds gs before hval0 hW hcnd hsz0 _
  have hval : ∀ (j : Nat) t v, Try.f8.params[j]? = some t → args[j]? = some v → Value.okWide Try.prog W .any base t v := hval0
  have hW' := hW
  obtain ⟨p, q, hA0, hV, rfl, hfz, hnd⟩ := hW
  have hA : DataW.TrodAll enc Try.prog W 0 (fun _ => true) true Try.f8.params.toList args.toList ds p := hA0
  rw [Try.params8] at hA hval
  obtain ⟨v0, vs0, d0, ds0, p0, q0, hargs, rfl, rfl, h0, r0⟩ := trodAll_cons hA
  obtain ⟨rfl, rfl, rfl⟩ := trodAll_nil r0
  obtain rfl : args = #[v0] := by cases args; simp_all
  obtain ⟨rfl, rfl⟩ := trodVars_none hV
  obtain ⟨cs0, rfl, _⟩ := okWide_struct Try.underlying28 (hval 0 28 v0 rfl rfl)
  have k0 := h0
  have lt0 : ∀ x ∈ p0, x.block < W.heap.size := by obtain ⟨m, hm⟩ := k0; exact DataW.trod_lt m _ _ _ hm
  obtain ⟨x0, hK0, g0⟩ : ∃ p, (Kd.pair (Kd.int .i64) (Kd.pair (Kd.int .i64) (Kd.pair Kd.bool Kd.bool))).K W p cs0.toList ∧ (Lit.int .i64 p.1).wf = true ∧ (Lit.int .i64 p.2.1).wf = true ∧ True ∧ True := by
    obtain ⟨fuel, hf⟩ := h0
    exact rd0 H enc W fuel _ _ hf
  obtain ⟨_, _, e0, rfl, _, _, rfl, rfl, _, _, rfl, rfl, rfl⟩ := hK0
  obtain rfl : cs0 = #[.int .i64 (x0.1), .int .i64 (x0.2.1), .bool (x0.2.2.1), .bool (x0.2.2.2)] := by apply Array.toList_inj.1; rw [e0]; rfl
  clear hA0 hval0 hsz0
  have h := Pure.FnExactEntryWord x0 g0
  refine (laws_FnExactEntryWord.calls (x0.1) (x0.2.1) (x0.2.2.1) (x0.2.2.2) (true) (W) h).mono fun e W' ⟨he, bel0⟩ => ?_
  have bel := bel0
  subst he
  exact ⟨_, rfl, _, _, _, [], _, [], hW', trodAll_mk1 (shut_bool Try.underlying4 _), (trodAll_cons_mk (Below.trod laidOut (by kernel_rfl) (of_decide_eq_true (by kernel_rfl)) k0 bel lt0) trodAll_mk0), rfl, bel.frame _, fun h => by cases h⟩
theorem over : Rows.fnExactEntryWordRow.holds Try.pinned (OpenSpec.ofChange Rows.fnExactEntryWordSpec) :=
  OpenClaim.holds_of_wide 8 Try.f8 rfl rfl rfl rfl rfl rfl rfl ⟨rfl, rfl, rfl, rfl, rfl⟩ rfl rfl rfl rfl rfl (by kernel_rfl) Try.func8 (by kernel_rfl)
    (of_decide_eq_true (by kernel_rfl)) (by unfold Func.isWrapper; first | (rw [if_pos (by decide +kernel)]; kernel_rfl) | (rw [if_neg (by decide +kernel)]; exact ⟨rfl, rfl⟩))
    (fun os started H enc _ => lifted os started H enc)
theorem proved : Rows.FnExactEntryWordSaid := over
#print axioms proved
end Go.Proofs.Ytjankmemilanhaa.fnExactEntryWord
namespace Go.Proofs.Ytjankmemilanhaa
/-- The row, under a short name, for the claim. -/
theorem fnExactEntryWord_holds : Rows.FnExactEntryWordSaid := fnExactEntryWord.proved
end Go.Proofs.Ytjankmemilanhaa
