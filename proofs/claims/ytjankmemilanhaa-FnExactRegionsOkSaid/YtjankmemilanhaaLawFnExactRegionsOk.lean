/- The statement FnExactRegionsOkSaid: for every input that can be read, the law answers true and leaves its arguments as they were. No condition of its own. -/
import Derived.Test.YtjankmemilanhaaRows
import Derived.Test.YtjankmemilanhaaP31
import Derived.Test.YtjankmemilanhaaPureFnExactRegionsOk
import Derived.Test.YtjankmemilanhaaRead
import Derived.WalkKit
import Derived.ProofKit
import Derived.OpenShut
import Derived.ShutString
import Derived.ChangeOld
import Derived.Below
import Derived.SizedLaws
namespace Go.Proofs.Ytjankmemilanhaa.fnExactRegionsOk
open Go.ChangeShapes Go.WideShapes Go.ChangeAt Go.RowKit Go.Proofs.Ytjankmemilanhaa.P Go.Proofs.Ytjankmemilanhaa.Read Go.Proofs.YtjankmemilanhaaW.PrintWords
open Go.ChangeMaps (open_string shut_string)
set_option linter.unusedVariables false
theorem own : ownKnob Try.prog.godebug = none := by kernel_rfl
theorem laidOut : laidOutB Try.prog = true := by kernel_rfl
theorem rd0 : Reading Try.prog 36 (Kd.slice 65 k65) (fun l => (l.length ≤ maxLen ∧ ∀ y0 ∈ l, ((Lit.int .i64 y0.f0).wf = true ∧ (Lit.int .i64 y0.f1).wf = true ∧ True))) := (Reading.slice_ Try.underlying36 (by kernel_rfl) (Reading.iso_ (fun p => ⟨p.1, p.2.1, p.2.2⟩) (fun _ => rfl) (Reading.struct_ Try.underlying65 (by kernel_rfl) (ReadingF.cons rfl (by kernel_rfl) (Reading.int_ Try.underlying3) (ReadingF.cons rfl (by kernel_rfl) (Reading.int_ Try.underlying3) (ReadingF.last rfl (by kernel_rfl) (Reading.bool_ Try.underlying4)))))))
set_option maxRecDepth 100000 in
theorem lifted (os : Os) (started : os.Started) (H : Type) (enc : TypeId × Value → H) :
    ReturnsInHanded {} Try.checked os 9 .any (Rows.fnExactRegionsOkSpec.pre6 enc Try.prog Try.f9 Rows.fnExactRegionsOkRow.domain false) (Rows.fnExactRegionsOkSpec.post enc Try.prog Try.f9 false true false false) := by
  refine returnsInHanded_of_change_sized (C := Try.checked) own started (by kernel_rfl) Try.func9
    (ChangeSpec.witness6 (enc := enc) (C := Try.checked) false ⟨#[], #[.slice none 0 0], []⟩ 8 (by kernel_rfl) (by kernel_rfl) (by kernel_rfl) (by kernel_rfl)) ?_
  intro W base args ds gs before hval0 hW hcnd hsz0 _
  have hval : ∀ (j : Nat) t v, Try.f9.params[j]? = some t → args[j]? = some v → Value.okWide Try.prog W .any base t v := hval0
  have hW' := hW
  obtain ⟨p, q, hA0, hV, rfl, hfz, hnd⟩ := hW
  have hA : DataW.TrodAll enc Try.prog W 0 (fun _ => true) true Try.f9.params.toList args.toList ds p := hA0
  rw [Try.params9] at hA hval
  obtain ⟨v0, vs0, d0, ds0, p0, q0, hargs, rfl, rfl, h0, r0⟩ := trodAll_cons hA
  obtain ⟨rfl, rfl, rfl⟩ := trodAll_nil r0
  obtain rfl : args = #[v0] := by cases args; simp_all
  obtain ⟨rfl, rfl⟩ := trodVars_none hV
  obtain ⟨A0, len0, c0, rfl⟩ := okWide_slice Try.underlying36 (hval 0 36 v0 rfl rfl)
  have k0 := h0
  have lt0 : ∀ x ∈ p0, x.block < W.heap.size := by obtain ⟨m, hm⟩ := k0; exact DataW.trod_lt m _ _ _ hm
  obtain ⟨l0, ⟨A'0, c'0, e0, hc0, hr0⟩, g0⟩ : ∃ l, (Kd.slice 65 k65).K W l [.slice A0 len0 c0] ∧ (l.length ≤ maxLen ∧ ∀ y0 ∈ l, ((Lit.int .i64 y0.f0).wf = true ∧ (Lit.int .i64 y0.f1).wf = true ∧ True)) := by
    obtain ⟨fuel, hf⟩ := h0
    exact rd0 H enc W fuel _ _ hf
  simp only [List.cons.injEq, Value.slice.injEq, and_true] at e0
  obtain ⟨rfl, rfl, rfl⟩ := e0
  clear hA0 hval0 hsz0
  obtain ⟨k, h⟩ := Pure.FnExactRegionsOk l0 g0
  refine (laws_FnExactRegionsOk.calls (k) (A0) (c0) (l0) (true) (W) (hr0) (hc0) h).mono fun e W' ⟨he, bel0⟩ => ?_
  have bel := bel0
  subst he
  exact ⟨_, rfl, _, _, _, [], _, [], hW', trodAll_mk1 (shut_bool Try.underlying4 _), (trodAll_cons_mk (Below.trod laidOut (by kernel_rfl) (of_decide_eq_true (by kernel_rfl)) k0 bel lt0) trodAll_mk0), rfl, bel.frame _, fun h => by cases h⟩
theorem over : Rows.fnExactRegionsOkRow.holds Try.pinned (OpenSpec.ofChange Rows.fnExactRegionsOkSpec) :=
  OpenClaim.holds_of_wide 9 Try.f9 rfl rfl rfl rfl rfl rfl rfl ⟨rfl, rfl, rfl, rfl, rfl⟩ rfl rfl rfl rfl rfl (by kernel_rfl) Try.func9 (by kernel_rfl)
    (of_decide_eq_true (by kernel_rfl)) (by unfold Func.isWrapper; first | (rw [if_pos (by decide +kernel)]; kernel_rfl) | (rw [if_neg (by decide +kernel)]; exact ⟨rfl, rfl⟩))
    (fun os started H enc _ => lifted os started H enc)
theorem proved : Rows.FnExactRegionsOkSaid := over
#print axioms proved
end Go.Proofs.Ytjankmemilanhaa.fnExactRegionsOk
namespace Go.Proofs.Ytjankmemilanhaa
/-- The row, under a short name, for the claim. -/
theorem fnExactRegionsOk_holds : Rows.FnExactRegionsOkSaid := fnExactRegionsOk.proved
end Go.Proofs.Ytjankmemilanhaa
