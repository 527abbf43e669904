/- The statement FnNewSaid: for every input that can be read, the law answers true and leaves its arguments as they were. No condition of its own. -/
import Derived.Test.YtngonhgghncdiaaBFnNewg
import Derived.Test.YtngonhgghncdiaaRows
import Derived.WalkKit
import Derived.ProofKit
import Derived.OpenShut
import Derived.ShutString
import Derived.ChangeOld
import Derived.Below
import Derived.SizedLaws
namespace Go.Proofs.Ytngonhgghncdiaa.fnNew
open Go.ChangeShapes Go.WideShapes Go.ChangeAt Go.RowKit Go.Proofs.Ytngonhgghncdiaa.P Go.Proofs.Ytngonhgghncdiaa.Read Go.Proofs.YtngonhgghncdiaaW.PrintWords
open Go.ChangeMaps (open_string shut_string)
set_option linter.unusedVariables false
theorem own : ownKnob Try.prog.godebug = none := by kernel_rfl
theorem laidOut : laidOutB Try.prog = true := by kernel_rfl
theorem rd0 : Reading Try.prog 22 (Kd.slice 5 (Kd.int .u8)) (fun l => (l.length ≤ maxLen ∧ ∀ y0 ∈ l, (Lit.int .u8 y0).wf = true)) := (Reading.slice_ Try.underlying22 (by kernel_rfl) (Reading.int_ Try.underlying5))
set_option maxRecDepth 100000 in
theorem lifted (os : Os) (started : os.Started) (H : Type) (enc : TypeId × Value → H) :
    ReturnsInHanded {} Try.checked os 6 .any (Rows.fnNewSpec.pre6 enc Try.prog Try.f6 Rows.fnNewRow.domain false) (Rows.fnNewSpec.post enc Try.prog Try.f6 false true false false) := by
  refine returnsInHanded_of_change_sized (C := Try.checked) own started (by kernel_rfl) Try.func6
    (ChangeSpec.witness6 (enc := enc) (C := Try.checked) false ⟨#[], #[.slice none 0 0], []⟩ 8 (by kernel_rfl) (by kernel_rfl) (by kernel_rfl) (by kernel_rfl)) ?_
  intro W base args ds gs before hval0 hW hcnd hsz0 _
  have hval : ∀ (j : Nat) t v, Try.f6.params[j]? = some t → args[j]? = some v → Value.okWide Try.prog W .any base t v := hval0
  have hW' := hW
  obtain ⟨p, q, hA0, hV, rfl, hfz, hnd⟩ := hW
  have hA : DataW.TrodAll enc Try.prog W 0 (fun _ => true) true Try.f6.params.toList args.toList ds p := hA0
  rw [Try.params6] at hA hval
  obtain ⟨v0, vs0, d0, ds0, p0, q0, hargs, rfl, rfl, h0, r0⟩ := trodAll_cons hA
  obtain ⟨rfl, rfl, rfl⟩ := trodAll_nil r0
  obtain rfl : args = #[v0] := by cases args; simp_all
  obtain ⟨rfl, rfl⟩ := trodVars_none hV
  obtain ⟨A0, len0, c0, rfl⟩ := okWide_slice Try.underlying22 (hval 0 22 v0 rfl rfl)
  have k0 := h0
  have lt0 : ∀ x ∈ p0, x.block < W.heap.size := by obtain ⟨m, hm⟩ := k0; exact DataW.trod_lt m _ _ _ hm
  obtain ⟨l0, ⟨A'0, c'0, e0, hc0, hr0⟩, g0⟩ : ∃ l, (Kd.slice 5 (Kd.int .u8)).K W l [.slice A0 len0 c0] ∧ (l.length ≤ maxLen ∧ ∀ y0 ∈ l, (Lit.int .u8 y0).wf = true) := by
    obtain ⟨fuel, hf⟩ := h0
    exact rd0 H enc W fuel _ _ hf
  simp only [List.cons.injEq, Value.slice.injEq, and_true] at e0
  obtain ⟨rfl, rfl, rfl⟩ := e0
  clear hA0 hval0 hsz0
  obtain ⟨k, fr, sl, v0, v1, v2, v3, v4, v6, v7, v8, v9, xv, u0, u1, u2, u3, u4, u6, u7, u8, u9, xu, fo, so, f0s, f0, f1, f2, f3, f4, f5, f6, f7, f8, f9, f10, f11, f12, f13, f14, f15, f16, f17, f18, f19, f20, f21, f22, f23, f24, f25, f26, f27, f28, f29, f30, f31, f32, n0, n1⟩ | ⟨k, f0⟩ | ⟨k, fr, sl, v0, v1, v2, v3, v4, v6, v7, v8, v9, xv, u0, u1, u2, u3, u4, u6, u7, u8, u9, xu, f0, f1, f2, f3, n0⟩ := Pure.FnNew l0 g0
  · refine (laws_FnNew.walk (k) (A0) (c0) (l0) fr sl v0 v1 v2 v3 v4 v6 v7 v8 v9 xv u0 u1 u2 u3 u4 u6 u7 u8 u9 xu fo so f0s (W) (hr0) (hc0) f0 f1 f2 f3 f4 f5 f6 f7 f8 f9 f10 f11 f12 f13 f14 f15 f16 f17 f18 f19 f20 f21 f22 f23 f24 f25 f26 f27 f28 f29 f30 f31 f32 n0 n1).mono fun e W' ⟨he, bel⟩ => ?_
    subst he
    exact ⟨_, rfl, _, _, _, [], _, [], hW', trodAll_mk1 (shut_bool Try.underlying4 _), (trodAll_cons_mk (Below.trod laidOut (by kernel_rfl) (of_decide_eq_true (by kernel_rfl)) k0 bel lt0) trodAll_mk0), rfl, bel.frame _, fun h => by cases h⟩
  · refine (laws_FnNew.walk1 (A0) (c0) (l0) (W) (hr0) (hc0) f0).mono fun e W' ⟨he, bel⟩ => ?_
    subst he
    exact ⟨_, rfl, _, _, _, [], _, [], hW', trodAll_mk1 (shut_bool Try.underlying4 _), (trodAll_cons_mk (Below.trod laidOut (by kernel_rfl) (of_decide_eq_true (by kernel_rfl)) k0 bel lt0) trodAll_mk0), rfl, bel.frame _, fun h => by cases h⟩
  · refine (laws_FnNew.walk2 (k) (A0) (c0) (l0) fr sl v0 v1 v2 v3 v4 v6 v7 v8 v9 xv u0 u1 u2 u3 u4 u6 u7 u8 u9 xu (W) (hr0) (hc0) f0 f1 f2 f3 n0).mono fun e W' ⟨he, bel⟩ => ?_
    subst he
    exact ⟨_, rfl, _, _, _, [], _, [], hW', trodAll_mk1 (shut_bool Try.underlying4 _), (trodAll_cons_mk (Below.trod laidOut (by kernel_rfl) (of_decide_eq_true (by kernel_rfl)) k0 bel lt0) trodAll_mk0), rfl, bel.frame _, fun h => by cases h⟩
theorem over : Rows.fnNewRow.holds Try.pinned (OpenSpec.ofChange Rows.fnNewSpec) :=
  OpenClaim.holds_of_wide 6 Try.f6 rfl rfl rfl rfl rfl rfl rfl ⟨rfl, rfl, rfl, rfl, rfl⟩ rfl rfl rfl rfl rfl (by kernel_rfl) Try.func6 (by kernel_rfl)
    (of_decide_eq_true (by kernel_rfl)) (by unfold Func.isWrapper; first | (rw [if_pos (by decide +kernel)]; kernel_rfl) | (rw [if_neg (by decide +kernel)]; exact ⟨rfl, rfl⟩))
    (fun os started H enc _ => lifted os started H enc)
theorem proved : Rows.FnNewSaid := over
#print axioms proved
end Go.Proofs.Ytngonhgghncdiaa.fnNew
namespace Go.Proofs.Ytngonhgghncdiaa
/-- The row, under a short name, for the claim. -/
theorem fnNew_holds : Rows.FnNewSaid := fnNew.proved
end Go.Proofs.Ytngonhgghncdiaa
