/- The statement FnExactMachineNewSaid: for every input that can be read, the law answers true and leaves its arguments as they were. No condition of its own. -/
import Derived.Test.YtngonhgghncdiaaBFnExactMachineNewg
import Derived.Test.YtngonhgghncdiaaRows
import Derived.WalkKit
import Derived.ProofKit
import Derived.OpenShut
import Derived.ShutString
import Derived.ChangeOld
import Derived.Below
import Derived.SizedLaws
namespace Go.Proofs.Ytngonhgghncdiaa.fnExactMachineNew
open Go.ChangeShapes Go.WideShapes Go.ChangeAt Go.RowKit Go.Proofs.Ytngonhgghncdiaa.P Go.Proofs.Ytngonhgghncdiaa.Read Go.Proofs.YtngonhgghncdiaaW.PrintWords
open Go.ChangeMaps (open_string shut_string)
set_option linter.unusedVariables false
theorem own : ownKnob Try.prog.godebug = none := by kernel_rfl
theorem laidOut : laidOutB Try.prog = true := by kernel_rfl
set_option maxRecDepth 100000 in
theorem lifted (os : Os) (started : os.Started) (H : Type) (enc : TypeId × Value → H) :
    ReturnsInHanded {} Try.checked os 4 .any (Rows.fnExactMachineNewSpec.pre6 enc Try.prog Try.f4 Rows.fnExactMachineNewRow.domain false) (Rows.fnExactMachineNewSpec.post enc Try.prog Try.f4 false true false false) := by
  refine returnsInHanded_of_change_sized (C := Try.checked) own started (by kernel_rfl) Try.func4
    (ChangeSpec.witness6 (enc := enc) (C := Try.checked) false ⟨#[], #[.int .i64 0, .int .i64 0], []⟩ 8 (by kernel_rfl) (by kernel_rfl) (by kernel_rfl) (by kernel_rfl)) ?_
  intro W base args ds gs before hval0 hW hcnd hsz0 _
  have hval : ∀ (j : Nat) t v, Try.f4.params[j]? = some t → args[j]? = some v → Value.okWide Try.prog W .any base t v := hval0
  have hW' := hW
  obtain ⟨p, q, hA0, hV, rfl, hfz, hnd⟩ := hW
  have hA : DataW.TrodAll enc Try.prog W 0 (fun _ => true) true Try.f4.params.toList args.toList ds p := hA0
  rw [Try.params4] at hA hval
  obtain ⟨v0, vs0, d0, ds0, p0, q0, hargs, rfl, rfl, h0, r0⟩ := trodAll_cons hA
  obtain ⟨v1, vs1, d1, ds1, p1, q1, rfl, rfl, rfl, h1, r1⟩ := trodAll_cons r0
  obtain ⟨rfl, rfl, rfl⟩ := trodAll_nil r1
  obtain rfl : args = #[v0, v1] := by cases args; simp_all
  obtain ⟨rfl, rfl⟩ := trodVars_none hV
  obtain ⟨a0, rfl, rfl, rfl, w0⟩ := open_int Try.underlying3 (hval 0 3 v0 rfl rfl) h0
  obtain ⟨a1, rfl, rfl, rfl, w1⟩ := open_int Try.underlying3 (hval 1 3 v1 rfl rfl) h1
  clear hA0 hval0 hsz0
  obtain ⟨k, u0, u1, u2, u3, u4, u6, u7, u8, u9, xu, v0, v1, v2, v3, v4, v6, v7, v8, v9, xv, bb, r0, r1, r2, r3, r4, r6, r7, r8, r9, m0, m1, m2, m3, m4, m6, m7, m8, m9, f0, f1, f2, f3, f4, f5, f6, f7, f8, f9, f10, f11, f12, n0⟩ := Pure.FnExactMachineNew a0 w0 a1 w1
  · refine (laws_FnExactMachineNew.walk (k) (a0) (a1) u0 u1 u2 u3 u4 u6 u7 u8 u9 xu v0 v1 v2 v3 v4 v6 v7 v8 v9 xv bb r0 r1 r2 r3 r4 r6 r7 r8 r9 m0 m1 m2 m3 m4 m6 m7 m8 m9 (W) f0 f1 f2 f3 f4 f5 f6 f7 f8 f9 f10 f11 f12 n0).mono fun e W' ⟨he, bel⟩ => ?_
    subst he
    exact ⟨_, rfl, _, _, _, [], _, [], hW', trodAll_mk1 (shut_bool Try.underlying4 _), (trodAll_cons_mk (shut_int Try.underlying3 w0) (trodAll_cons_mk (shut_int Try.underlying3 w1) trodAll_mk0)), rfl, bel.frame _, fun h => by cases h⟩
theorem over : Rows.fnExactMachineNewRow.holds Try.pinned (OpenSpec.ofChange Rows.fnExactMachineNewSpec) :=
  OpenClaim.holds_of_wide 4 Try.f4 rfl rfl rfl rfl rfl rfl rfl ⟨rfl, rfl, rfl, rfl, rfl⟩ rfl rfl rfl rfl rfl (by kernel_rfl) Try.func4 (by kernel_rfl)
    (of_decide_eq_true (by kernel_rfl)) (by unfold Func.isWrapper; first | (rw [if_pos (by decide +kernel)]; kernel_rfl) | (rw [if_neg (by decide +kernel)]; exact ⟨rfl, rfl⟩))
    (fun os started H enc _ => lifted os started H enc)
theorem proved : Rows.FnExactMachineNewSaid := over
#print axioms proved
end Go.Proofs.Ytngonhgghncdiaa.fnExactMachineNew
namespace Go.Proofs.Ytngonhgghncdiaa
/-- The row, under a short name, for the claim. -/
theorem fnExactMachineNew_holds : Rows.FnExactMachineNewSaid := fnExactMachineNew.proved
end Go.Proofs.Ytngonhgghncdiaa
