/- The statement FnExactPutRegionSaid: for every input that can be read, the law answers true and leaves its arguments as they were. No condition of its own. -/
import Derived.Test.YtdpejnckojhgjaaBFnExactPutRegionf
import Derived.Test.YtdpejnckojhgjaaRows
import Derived.WalkKit
import Derived.ProofKit
import Derived.OpenShut
import Derived.ShutString
import Derived.ChangeOld
import Derived.Below
import Derived.SizedLaws
namespace Go.Proofs.Ytdpejnckojhgjaa.fnExactPutRegion
open Go.ChangeShapes Go.WideShapes Go.ChangeAt Go.RowKit Go.Proofs.Ytdpejnckojhgjaa.P Go.Proofs.Ytdpejnckojhgjaa.Read Go.Proofs.YtdpejnckojhgjaaW.PrintWords
open Go.ChangeMaps (open_string shut_string)
set_option linter.unusedVariables false
theorem own : ownKnob Try.prog.godebug = none := by kernel_rfl
theorem laidOut : laidOutB Try.prog = true := by kernel_rfl
theorem rd0 : Reading Try.prog 32 (Kd.slice 68 k68) (fun l => (l.length ≤ maxLen ∧ ∀ y0 ∈ l, ((Lit.int .i64 y0.f0).wf = true ∧ (Lit.int .i64 y0.f1).wf = true ∧ True))) := (Reading.slice_ Try.underlying32 (by kernel_rfl) (Reading.iso_ (fun p => ⟨p.1, p.2.1, p.2.2⟩) (fun _ => rfl) (Reading.struct_ Try.underlying68 (by kernel_rfl) (ReadingF.cons rfl (by kernel_rfl) (Reading.int_ Try.underlying3) (ReadingF.cons rfl (by kernel_rfl) (Reading.int_ Try.underlying3) (ReadingF.last rfl (by kernel_rfl) (Reading.bool_ Try.underlying4)))))))
set_option maxRecDepth 100000 in
theorem rd1 : Reading Try.prog 68 (Kd.pair (Kd.int .i64) (Kd.pair (Kd.int .i64) Kd.bool)) (fun p => (Lit.int .i64 p.1).wf = true ∧ (Lit.int .i64 p.2.1).wf = true ∧ True) := (Reading.struct_ Try.underlying68 (by kernel_rfl) (ReadingF.cons rfl (by kernel_rfl) (Reading.int_ Try.underlying3) (ReadingF.cons rfl (by kernel_rfl) (Reading.int_ Try.underlying3) (ReadingF.last rfl (by kernel_rfl) (Reading.bool_ Try.underlying4)))))
set_option maxRecDepth 100000 in
theorem lifted (os : Os) (started : os.Started) (H : Type) (enc : TypeId × Value → H) :
    ReturnsInHanded {} Try.checked os 9 .any (Rows.fnExactPutRegionSpec.pre6 enc Try.prog Try.f9 Rows.fnExactPutRegionRow.domain false) (Rows.fnExactPutRegionSpec.post enc Try.prog Try.f9 false true false false) := by
  refine returnsInHanded_of_change_sized (C := Try.checked) own started (by kernel_rfl) Try.func9
    (ChangeSpec.witness6 (enc := enc) (C := Try.checked) false ⟨#[], #[.slice none 0 0, .agg #[.int .i64 0, .int .i64 0, .bool false]], []⟩ 8 (by kernel_rfl) (by kernel_rfl) (by kernel_rfl) (by kernel_rfl)) ?_
  intro W base args ds gs before hval0 hW hcnd hsz0 _
  have hval : ∀ (j : Nat) t v, Try.f9.params[j]? = some t → args[j]? = some v → Value.okWide Try.prog W .any base t v := hval0
  have hW' := hW
  obtain ⟨p, q, hA0, hV, rfl, hfz, hnd⟩ := hW
  have hA : DataW.TrodAll enc Try.prog W 0 (fun _ => true) true Try.f9.params.toList args.toList ds p := hA0
  rw [Try.params9] at hA hval
  obtain ⟨v0, vs0, d0, ds0, p0, q0, hargs, rfl, rfl, h0, r0⟩ := trodAll_cons hA
  obtain ⟨v1, vs1, d1, ds1, p1, q1, rfl, rfl, rfl, h1, r1⟩ := trodAll_cons r0
  obtain ⟨rfl, rfl, rfl⟩ := trodAll_nil r1
  obtain rfl : args = #[v0, v1] := by cases args; simp_all
  obtain ⟨rfl, rfl⟩ := trodVars_none hV
  obtain ⟨A0, len0, c0, rfl⟩ := okWide_slice Try.underlying32 (hval 0 32 v0 rfl rfl)
  have k0 := h0
  have lt0 : ∀ x ∈ p0, x.block < W.heap.size := by obtain ⟨m, hm⟩ := k0; exact DataW.trod_lt m _ _ _ hm
  obtain ⟨l0, ⟨A'0, c'0, e0, hc0, hr0⟩, g0⟩ : ∃ l, (Kd.slice 68 k68).K W l [.slice A0 len0 c0] ∧ (l.length ≤ maxLen ∧ ∀ y0 ∈ l, ((Lit.int .i64 y0.f0).wf = true ∧ (Lit.int .i64 y0.f1).wf = true ∧ True)) := by
    obtain ⟨fuel, hf⟩ := h0
    exact rd0 H enc W fuel _ _ hf
  simp only [List.cons.injEq, Value.slice.injEq, and_true] at e0
  obtain ⟨rfl, rfl, rfl⟩ := e0
  obtain ⟨cs1, rfl, _⟩ := okWide_struct Try.underlying68 (hval 1 68 v1 rfl rfl)
  have k1 := h1
  have lt1 : ∀ x ∈ p1, x.block < W.heap.size := by obtain ⟨m, hm⟩ := k1; exact DataW.trod_lt m _ _ _ hm
  obtain ⟨x1, hK1, g1⟩ : ∃ p, (Kd.pair (Kd.int .i64) (Kd.pair (Kd.int .i64) Kd.bool)).K W p cs1.toList ∧ (Lit.int .i64 p.1).wf = true ∧ (Lit.int .i64 p.2.1).wf = true ∧ True := by
    obtain ⟨fuel, hf⟩ := h1
    exact rd1 H enc W fuel _ _ hf
  obtain ⟨_, _, e1, rfl, _, _, rfl, rfl, rfl⟩ := hK1
  obtain rfl : cs1 = #[.int .i64 (x1.1), .int .i64 (x1.2.1), .bool (x1.2.2)] := by apply Array.toList_inj.1; rw [e1]; rfl
  clear hA0 hval0 hsz0
  obtain ⟨k, h⟩ := Pure.FnExactPutRegion l0 g0 x1 g1
  refine (laws_FnExactPutRegion.calls (k) (A0) (c0) (l0) (x1.1) (x1.2.1) (x1.2.2) (true) (W) (hr0) (hc0) h).mono fun e W' ⟨he, bel0⟩ => ?_
  have bel := bel0
  subst he
  exact ⟨_, rfl, _, _, _, [], _, [], hW', trodAll_mk1 (shut_bool Try.underlying4 _), (trodAll_cons_mk (Below.trod laidOut (by kernel_rfl) (of_decide_eq_true (by kernel_rfl)) k0 bel lt0) (trodAll_cons_mk (Below.trod laidOut (by kernel_rfl) (of_decide_eq_true (by kernel_rfl)) k1 bel lt1) trodAll_mk0)), rfl, bel.frame _, fun h => by cases h⟩
theorem over : Rows.fnExactPutRegionRow.holds Try.pinned (OpenSpec.ofChange Rows.fnExactPutRegionSpec) :=
  OpenClaim.holds_of_wide 9 Try.f9 rfl rfl rfl rfl rfl rfl rfl ⟨rfl, rfl, rfl, rfl, rfl⟩ rfl rfl rfl rfl rfl (by kernel_rfl) Try.func9 (by kernel_rfl)
    (of_decide_eq_true (by kernel_rfl)) (by unfold Func.isWrapper; first | (rw [if_pos (by decide +kernel)]; kernel_rfl) | (rw [if_neg (by decide +kernel)]; exact ⟨rfl, rfl⟩))
    (fun os started H enc _ => lifted os started H enc)
theorem proved : Rows.FnExactPutRegionSaid := over
#print axioms proved
end Go.Proofs.Ytdpejnckojhgjaa.fnExactPutRegion
namespace Go.Proofs.Ytdpejnckojhgjaa
/-- The row, under a short name, for the claim. -/
theorem fnExactPutRegion_holds : Rows.FnExactPutRegionSaid := fnExactPutRegion.proved
end Go.Proofs.Ytdpejnckojhgjaa
