/- The statement FnExactGiveRunSaid: for every input that can be read, the law answers true and leaves its arguments as they were. No condition of its own. -/
import Derived.Test.YtnfcddomkmjacaaBFnExactGiveRunh
import Derived.Test.YtnfcddomkmjacaaRows
import Derived.WalkKit
import Derived.ProofKit
import Derived.OpenShut
import Derived.ShutString
import Derived.ChangeOld
import Derived.Below
import Derived.SizedLaws
namespace Go.Proofs.Ytnfcddomkmjacaa.fnExactGiveRun
open Go.ChangeShapes Go.WideShapes Go.ChangeAt Go.RowKit Go.Proofs.Ytnfcddomkmjacaa.P Go.Proofs.Ytnfcddomkmjacaa.Read Go.Proofs.YtnfcddomkmjacaaW.PrintWords
open Go.ChangeMaps (open_string shut_string)
set_option linter.unusedVariables false
theorem own : ownKnob Try.prog.godebug = none := by kernel_rfl
theorem laidOut : laidOutB Try.prog = true := by kernel_rfl
theorem rd1 : Reading Try.prog 22 (Kd.slice 32 k32) (fun l => (l.length ≤ maxLen ∧ ∀ y0 ∈ l, ((Lit.int .i64 y0.f0).wf = true ∧ (Lit.int .i64 y0.f1).wf = true))) := (Reading.slice_ Try.underlying22 (by kernel_rfl) (Reading.iso_ (fun p => ⟨p.1, p.2⟩) (fun _ => rfl) (Reading.struct_ Try.underlying32 (by kernel_rfl) (ReadingF.cons rfl (by kernel_rfl) (Reading.int_ Try.underlying3) (ReadingF.last rfl (by kernel_rfl) (Reading.int_ Try.underlying3))))))
set_option maxRecDepth 100000 in
theorem rd2 : Reading Try.prog 32 (Kd.pair (Kd.int .i64) (Kd.int .i64)) (fun p => (Lit.int .i64 p.1).wf = true ∧ (Lit.int .i64 p.2).wf = true) := (Reading.struct_ Try.underlying32 (by kernel_rfl) (ReadingF.cons rfl (by kernel_rfl) (Reading.int_ Try.underlying3) (ReadingF.last rfl (by kernel_rfl) (Reading.int_ Try.underlying3))))
set_option maxRecDepth 100000 in
theorem lifted (os : Os) (started : os.Started) (H : Type) (enc : TypeId × Value → H) :
    ReturnsInHanded {} Try.checked os 4 .any (Rows.fnExactGiveRunSpec.pre6 enc Try.prog Try.f4 Rows.fnExactGiveRunRow.domain false) (Rows.fnExactGiveRunSpec.post enc Try.prog Try.f4 false true false false) := by
  refine returnsInHanded_of_change_sized (C := Try.checked) own started (by kernel_rfl) Try.func4
    (ChangeSpec.witness6 (enc := enc) (C := Try.checked) false ⟨#[], #[.int .i64 0, .slice none 0 0, .agg #[.int .i64 0, .int .i64 0]], []⟩ 8 (by kernel_rfl) (by kernel_rfl) (by kernel_rfl) (by kernel_rfl)) ?_
  intro W base args ds gs before hval0 hW hcnd hsz0 _
  have hval : ∀ (j : Nat) t v, Try.f4.params[j]? = some t → args[j]? = some v → Value.okWide Try.prog W .any base t v := hval0
  have hW' := hW
  obtain ⟨p, q, hA0, hV, rfl, hfz, hnd⟩ := hW
  have hA : DataW.TrodAll enc Try.prog W 0 (fun _ => true) true Try.f4.params.toList args.toList ds p := hA0
  rw [Try.params4] at hA hval
  obtain ⟨v0, vs0, d0, ds0, p0, q0, hargs, rfl, rfl, h0, r0⟩ := trodAll_cons hA
  obtain ⟨v1, vs1, d1, ds1, p1, q1, rfl, rfl, rfl, h1, r1⟩ := trodAll_cons r0
  obtain ⟨v2, vs2, d2, ds2, p2, q2, rfl, rfl, rfl, h2, r2⟩ := trodAll_cons r1
  obtain ⟨rfl, rfl, rfl⟩ := trodAll_nil r2
  obtain rfl : args = #[v0, v1, v2] := by cases args; simp_all
  obtain ⟨rfl, rfl⟩ := trodVars_none hV
  obtain ⟨a0, rfl, rfl, rfl, w0⟩ := open_int Try.underlying3 (hval 0 3 v0 rfl rfl) h0
  obtain ⟨A1, len1, c1, rfl⟩ := okWide_slice Try.underlying22 (hval 1 22 v1 rfl rfl)
  have k1 := h1
  have lt1 : ∀ x ∈ p1, x.block < W.heap.size := by obtain ⟨m, hm⟩ := k1; exact DataW.trod_lt m _ _ _ hm
  obtain ⟨l1, ⟨A'1, c'1, e1, hc1, hr1⟩, g1⟩ : ∃ l, (Kd.slice 32 k32).K W l [.slice A1 len1 c1] ∧ (l.length ≤ maxLen ∧ ∀ y0 ∈ l, ((Lit.int .i64 y0.f0).wf = true ∧ (Lit.int .i64 y0.f1).wf = true)) := by
    obtain ⟨fuel, hf⟩ := h1
    exact rd1 H enc W fuel _ _ hf
  simp only [List.cons.injEq, Value.slice.injEq, and_true] at e1
  obtain ⟨rfl, rfl, rfl⟩ := e1
  obtain ⟨cs2, rfl, _⟩ := okWide_struct Try.underlying32 (hval 2 32 v2 rfl rfl)
  have k2 := h2
  have lt2 : ∀ x ∈ p2, x.block < W.heap.size := by obtain ⟨m, hm⟩ := k2; exact DataW.trod_lt m _ _ _ hm
  obtain ⟨x2, hK2, g2⟩ : ∃ p, (Kd.pair (Kd.int .i64) (Kd.int .i64)).K W p cs2.toList ∧ (Lit.int .i64 p.1).wf = true ∧ (Lit.int .i64 p.2).wf = true := by
    obtain ⟨fuel, hf⟩ := h2
    exact rd2 H enc W fuel _ _ hf
  obtain ⟨_, _, e2, rfl, rfl⟩ := hK2
  obtain rfl : cs2 = #[.int .i64 (x2.1), .int .i64 (x2.2)] := by apply Array.toList_inj.1; rw [e2]; rfl
  clear hA0 hval0 hsz0
  obtain ⟨k, h⟩ := Pure.FnExactGiveRun a0 w0 l1 g1 x2 g2
  refine (laws_FnExactGiveRun.calls (k) (a0) (A1) (c1) (l1) (x2.1) (x2.2) (true) (W) (hr1) (hc1) h).mono fun e W' ⟨he, bel0⟩ => ?_
  have bel := bel0
  subst he
  exact ⟨_, rfl, _, _, _, [], _, [], hW', trodAll_mk1 (shut_bool Try.underlying4 _), (trodAll_cons_mk (shut_int Try.underlying3 w0) (trodAll_cons_mk (Below.trod laidOut (by kernel_rfl) (of_decide_eq_true (by kernel_rfl)) k1 bel lt1) (trodAll_cons_mk (Below.trod laidOut (by kernel_rfl) (of_decide_eq_true (by kernel_rfl)) k2 bel lt2) trodAll_mk0))), rfl, bel.frame _, fun h => by cases h⟩
theorem over : Rows.fnExactGiveRunRow.holds Try.pinned (OpenSpec.ofChange Rows.fnExactGiveRunSpec) :=
  OpenClaim.holds_of_wide 4 Try.f4 rfl rfl rfl rfl rfl rfl rfl ⟨rfl, rfl, rfl, rfl, rfl⟩ rfl rfl rfl rfl rfl (by kernel_rfl) Try.func4 (by kernel_rfl)
    (of_decide_eq_true (by kernel_rfl)) (by unfold Func.isWrapper; first | (rw [if_pos (by decide +kernel)]; kernel_rfl) | (rw [if_neg (by decide +kernel)]; exact ⟨rfl, rfl⟩))
    (fun os started H enc _ => lifted os started H enc)
theorem proved : Rows.FnExactGiveRunSaid := over
#print axioms proved
end Go.Proofs.Ytnfcddomkmjacaa.fnExactGiveRun
namespace Go.Proofs.Ytnfcddomkmjacaa
/-- The row, under a short name, for the claim. -/
theorem fnExactGiveRun_holds : Rows.FnExactGiveRunSaid := fnExactGiveRun.proved
end Go.Proofs.Ytnfcddomkmjacaa
