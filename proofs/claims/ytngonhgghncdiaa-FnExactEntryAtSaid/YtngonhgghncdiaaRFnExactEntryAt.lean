/- The statement FnExactEntryAtSaid: for every input that can be read, the law answers true and leaves its arguments as they were. No condition of its own. -/
import Derived.Test.YtngonhgghncdiaaBFnExactEntryAtg
import Derived.Test.YtngonhgghncdiaaRows
import Derived.WalkKit
import Derived.ProofKit
import Derived.OpenShut
import Derived.ShutString
import Derived.ChangeOld
import Derived.Below
import Derived.SizedLaws
namespace Go.Proofs.Ytngonhgghncdiaa.fnExactEntryAt
open Go.ChangeShapes Go.WideShapes Go.ChangeAt Go.RowKit Go.Proofs.Ytngonhgghncdiaa.P Go.Proofs.Ytngonhgghncdiaa.Read Go.Proofs.YtngonhgghncdiaaW.PrintWords
open Go.ChangeMaps (open_string shut_string)
set_option linter.unusedVariables false
theorem own : ownKnob Try.prog.godebug = none := by kernel_rfl
theorem laidOut : laidOutB Try.prog = true := by kernel_rfl
set_option maxRecDepth 100000 in
theorem rd0 : Reading Try.prog 53 (Kd.pair (Kd.slice 26 (Kd.slice 3 (Kd.int .i64))) (Kd.pair (Kd.slice 3 (Kd.int .i64)) (Kd.pair (Kd.slice 151 k151) (Kd.pair (Kd.slice 142 k142) (Kd.pair (Kd.slice 154 k154) (Kd.pair (Kd.int .i64) (Kd.pair (Kd.slice 146 k146) (Kd.pair (Kd.slice 148 k148) (Kd.pair (Kd.slice 3 (Kd.int .i64)) (Kd.slice 3 (Kd.int .i64))))))))))) (fun p => (p.1.length ≤ maxLen ∧ ∀ y0 ∈ p.1, (y0.length ≤ maxLen ∧ ∀ y1 ∈ y0, (Lit.int .i64 y1).wf = true)) ∧ (p.2.1.length ≤ maxLen ∧ ∀ y0 ∈ p.2.1, (Lit.int .i64 y0).wf = true) ∧ (p.2.2.1.length ≤ maxLen ∧ ∀ y0 ∈ p.2.2.1, ((Lit.int .i64 y0.f0).wf = true ∧ (Lit.int .i64 y0.f1).wf = true)) ∧ (p.2.2.2.1.length ≤ maxLen ∧ ∀ y0 ∈ p.2.2.2.1, ((Lit.int .i64 y0.f0).wf = true ∧ (Lit.int .i64 y0.f1).wf = true ∧ (y0.f2.length ≤ maxLen ∧ ∀ y1 ∈ y0.f2, True))) ∧ (p.2.2.2.2.1.length ≤ maxLen ∧ ∀ y0 ∈ p.2.2.2.2.1, ((Lit.int .i64 y0.f0).wf = true ∧ (Lit.int .i64 y0.f1).wf = true ∧ (Lit.int .i64 y0.f2).wf = true ∧ (Lit.int .i64 y0.f3).wf = true ∧ (Lit.int .i64 y0.f4).wf = true)) ∧ (Lit.int .i64 p.2.2.2.2.2.1).wf = true ∧ (p.2.2.2.2.2.2.1.length ≤ maxLen ∧ ∀ y0 ∈ p.2.2.2.2.2.2.1, (True ∧ (Lit.int .i64 y0.f1).wf = true ∧ (y0.f2.length ≤ maxLen ∧ ∀ y1 ∈ y0.f2, ((Lit.int .i64 y1.f0).wf = true ∧ (Lit.int .i64 y1.f1).wf = true ∧ True)))) ∧ (p.2.2.2.2.2.2.2.1.length ≤ maxLen ∧ ∀ y0 ∈ p.2.2.2.2.2.2.2.1, ((Lit.int .i64 y0.f0).wf = true ∧ (y0.f1.length ≤ maxLen ∧ ∀ y1 ∈ y0.f1, (Lit.int .i64 y1).wf = true))) ∧ (p.2.2.2.2.2.2.2.2.1.length ≤ maxLen ∧ ∀ y0 ∈ p.2.2.2.2.2.2.2.2.1, (Lit.int .i64 y0).wf = true) ∧ (p.2.2.2.2.2.2.2.2.2.length ≤ maxLen ∧ ∀ y0 ∈ p.2.2.2.2.2.2.2.2.2, (Lit.int .i64 y0).wf = true)) := (Reading.struct_ Try.underlying53 (by kernel_rfl) (ReadingF.cons rfl (by kernel_rfl) (Reading.slice_ Try.underlying24 (by kernel_rfl) (Reading.slice_ Try.underlying26 (by kernel_rfl) (Reading.int_ Try.underlying3))) (ReadingF.cons rfl (by kernel_rfl) (Reading.slice_ Try.underlying26 (by kernel_rfl) (Reading.int_ Try.underlying3)) (ReadingF.cons rfl (by kernel_rfl) (Reading.slice_ Try.underlying47 (by kernel_rfl) (Reading.iso_ (fun p => ⟨p.1, p.2⟩) (fun _ => rfl) (Reading.struct_ Try.underlying151 (by kernel_rfl) (ReadingF.cons rfl (by kernel_rfl) (Reading.int_ Try.underlying3) (ReadingF.last rfl (by kernel_rfl) (Reading.int_ Try.underlying3)))))) (ReadingF.cons rfl (by kernel_rfl) (Reading.slice_ Try.underlying48 (by kernel_rfl) (Reading.iso_ (fun p => ⟨p.1, p.2.1, p.2.2⟩) (fun _ => rfl) (Reading.struct_ Try.underlying142 (by kernel_rfl) (ReadingF.cons rfl (by kernel_rfl) (Reading.int_ Try.underlying3) (ReadingF.cons rfl (by kernel_rfl) (Reading.int_ Try.underlying3) (ReadingF.last rfl (by kernel_rfl) (Reading.slice_ Try.underlying126 (by kernel_rfl) (Reading.bool_ Try.underlying4)))))))) (ReadingF.cons rfl (by kernel_rfl) (Reading.slice_ Try.underlying49 (by kernel_rfl) (Reading.iso_ (fun p => ⟨p.1, p.2.1, p.2.2.1, p.2.2.2.1, p.2.2.2.2⟩) (fun _ => rfl) (Reading.struct_ Try.underlying154 (by kernel_rfl) (ReadingF.cons rfl (by kernel_rfl) (Reading.int_ Try.underlying3) (ReadingF.cons rfl (by kernel_rfl) (Reading.int_ Try.underlying3) (ReadingF.cons rfl (by kernel_rfl) (Reading.int_ Try.underlying3) (ReadingF.cons rfl (by kernel_rfl) (Reading.int_ Try.underlying3) (ReadingF.last rfl (by kernel_rfl) (Reading.int_ Try.underlying3))))))))) (ReadingF.cons rfl (by kernel_rfl) (Reading.int_ Try.underlying3) (ReadingF.cons rfl (by kernel_rfl) (Reading.slice_ Try.underlying50 (by kernel_rfl) (Reading.iso_ (fun p => ⟨p.1, p.2.1, p.2.2⟩) (fun _ => rfl) (Reading.struct_ Try.underlying146 (by kernel_rfl) (ReadingF.cons rfl (by kernel_rfl) (Reading.bool_ Try.underlying4) (ReadingF.cons rfl (by kernel_rfl) (Reading.int_ Try.underlying3) (ReadingF.last rfl (by kernel_rfl) (Reading.slice_ Try.underlying144 (by kernel_rfl) (Reading.iso_ (fun p => ⟨p.1, p.2.1, p.2.2⟩) (fun _ => rfl) (Reading.struct_ Try.underlying209 (by kernel_rfl) (ReadingF.cons rfl (by kernel_rfl) (Reading.int_ Try.underlying3) (ReadingF.cons rfl (by kernel_rfl) (Reading.int_ Try.underlying3) (ReadingF.last rfl (by kernel_rfl) (Reading.bool_ Try.underlying4))))))))))))) (ReadingF.cons rfl (by kernel_rfl) (Reading.slice_ Try.underlying51 (by kernel_rfl) (Reading.iso_ (fun p => ⟨p.1, p.2⟩) (fun _ => rfl) (Reading.struct_ Try.underlying148 (by kernel_rfl) (ReadingF.cons rfl (by kernel_rfl) (Reading.int_ Try.underlying3) (ReadingF.last rfl (by kernel_rfl) (Reading.slice_ Try.underlying26 (by kernel_rfl) (Reading.int_ Try.underlying3))))))) (ReadingF.cons rfl (by kernel_rfl) (Reading.slice_ Try.underlying26 (by kernel_rfl) (Reading.int_ Try.underlying3)) (ReadingF.last rfl (by kernel_rfl) (Reading.slice_ Try.underlying26 (by kernel_rfl) (Reading.int_ Try.underlying3)))))))))))))
set_option maxRecDepth 100000 in
theorem lifted (os : Os) (started : os.Started) (H : Type) (enc : TypeId × Value → H) :
    ReturnsInHanded {} Try.checked os 5 .any (Rows.fnExactEntryAtSpec.pre6 enc Try.prog Try.f5 Rows.fnExactEntryAtRow.domain false) (Rows.fnExactEntryAtSpec.post enc Try.prog Try.f5 false true false false) := by
  refine returnsInHanded_of_change_sized (C := Try.checked) own started (by kernel_rfl) Try.func5
    (ChangeSpec.witness6 (enc := enc) (C := Try.checked) false ⟨#[], #[.agg #[.slice none 0 0, .slice none 0 0, .slice none 0 0, .slice none 0 0, .slice none 0 0, .int .i64 0, .slice none 0 0, .slice none 0 0, .slice none 0 0, .slice none 0 0], .int .i64 0, .int .i64 0], []⟩ 8 (by kernel_rfl) (by kernel_rfl) (by kernel_rfl) (by kernel_rfl)) ?_
  intro W base args ds gs before hval0 hW hcnd hsz0 _
  have hval : ∀ (j : Nat) t v, Try.f5.params[j]? = some t → args[j]? = some v → Value.okWide Try.prog W .any base t v := hval0
  have hW' := hW
  obtain ⟨p, q, hA0, hV, rfl, hfz, hnd⟩ := hW
  have hA : DataW.TrodAll enc Try.prog W 0 (fun _ => true) true Try.f5.params.toList args.toList ds p := hA0
  rw [Try.params5] at hA hval
  obtain ⟨v0, vs0, d0, ds0, p0, q0, hargs, rfl, rfl, h0, r0⟩ := trodAll_cons hA
  obtain ⟨v1, vs1, d1, ds1, p1, q1, rfl, rfl, rfl, h1, r1⟩ := trodAll_cons r0
  obtain ⟨v2, vs2, d2, ds2, p2, q2, rfl, rfl, rfl, h2, r2⟩ := trodAll_cons r1
  obtain ⟨rfl, rfl, rfl⟩ := trodAll_nil r2
  obtain rfl : args = #[v0, v1, v2] := by cases args; simp_all
  obtain ⟨rfl, rfl⟩ := trodVars_none hV
  obtain ⟨cs0, rfl, _⟩ := okWide_struct Try.underlying53 (hval 0 53 v0 rfl rfl)
  have k0 := h0
  have lt0 : ∀ x ∈ p0, x.block < W.heap.size := by obtain ⟨m, hm⟩ := k0; exact DataW.trod_lt m _ _ _ hm
  obtain ⟨x0, hK0, g0⟩ : ∃ p, (Kd.pair (Kd.slice 26 (Kd.slice 3 (Kd.int .i64))) (Kd.pair (Kd.slice 3 (Kd.int .i64)) (Kd.pair (Kd.slice 151 k151) (Kd.pair (Kd.slice 142 k142) (Kd.pair (Kd.slice 154 k154) (Kd.pair (Kd.int .i64) (Kd.pair (Kd.slice 146 k146) (Kd.pair (Kd.slice 148 k148) (Kd.pair (Kd.slice 3 (Kd.int .i64)) (Kd.slice 3 (Kd.int .i64))))))))))).K W p cs0.toList ∧ (p.1.length ≤ maxLen ∧ ∀ y0 ∈ p.1, (y0.length ≤ maxLen ∧ ∀ y1 ∈ y0, (Lit.int .i64 y1).wf = true)) ∧ (p.2.1.length ≤ maxLen ∧ ∀ y0 ∈ p.2.1, (Lit.int .i64 y0).wf = true) ∧ (p.2.2.1.length ≤ maxLen ∧ ∀ y0 ∈ p.2.2.1, ((Lit.int .i64 y0.f0).wf = true ∧ (Lit.int .i64 y0.f1).wf = true)) ∧ (p.2.2.2.1.length ≤ maxLen ∧ ∀ y0 ∈ p.2.2.2.1, ((Lit.int .i64 y0.f0).wf = true ∧ (Lit.int .i64 y0.f1).wf = true ∧ (y0.f2.length ≤ maxLen ∧ ∀ y1 ∈ y0.f2, True))) ∧ (p.2.2.2.2.1.length ≤ maxLen ∧ ∀ y0 ∈ p.2.2.2.2.1, ((Lit.int .i64 y0.f0).wf = true ∧ (Lit.int .i64 y0.f1).wf = true ∧ (Lit.int .i64 y0.f2).wf = true ∧ (Lit.int .i64 y0.f3).wf = true ∧ (Lit.int .i64 y0.f4).wf = true)) ∧ (Lit.int .i64 p.2.2.2.2.2.1).wf = true ∧ (p.2.2.2.2.2.2.1.length ≤ maxLen ∧ ∀ y0 ∈ p.2.2.2.2.2.2.1, (True ∧ (Lit.int .i64 y0.f1).wf = true ∧ (y0.f2.length ≤ maxLen ∧ ∀ y1 ∈ y0.f2, ((Lit.int .i64 y1.f0).wf = true ∧ (Lit.int .i64 y1.f1).wf = true ∧ True)))) ∧ (p.2.2.2.2.2.2.2.1.length ≤ maxLen ∧ ∀ y0 ∈ p.2.2.2.2.2.2.2.1, ((Lit.int .i64 y0.f0).wf = true ∧ (y0.f1.length ≤ maxLen ∧ ∀ y1 ∈ y0.f1, (Lit.int .i64 y1).wf = true))) ∧ (p.2.2.2.2.2.2.2.2.1.length ≤ maxLen ∧ ∀ y0 ∈ p.2.2.2.2.2.2.2.2.1, (Lit.int .i64 y0).wf = true) ∧ (p.2.2.2.2.2.2.2.2.2.length ≤ maxLen ∧ ∀ y0 ∈ p.2.2.2.2.2.2.2.2.2, (Lit.int .i64 y0).wf = true) := by
    obtain ⟨fuel, hf⟩ := h0
    exact rd0 H enc W fuel _ _ hf
  obtain ⟨_, _, e0, ⟨A0_0, c0_0, rfl, hc0_0, hr0_0⟩, _, _, rfl, ⟨A0_1, c0_1, rfl, hc0_1, hr0_1⟩, _, _, rfl, ⟨A0_2, c0_2, rfl, hc0_2, hr0_2⟩, _, _, rfl, ⟨A0_3, c0_3, rfl, hc0_3, hr0_3⟩, _, _, rfl, ⟨A0_4, c0_4, rfl, hc0_4, hr0_4⟩, _, _, rfl, rfl, _, _, rfl, ⟨A0_6, c0_6, rfl, hc0_6, hr0_6⟩, _, _, rfl, ⟨A0_7, c0_7, rfl, hc0_7, hr0_7⟩, _, _, rfl, ⟨A0_8, c0_8, rfl, hc0_8, hr0_8⟩, ⟨A0_9, c0_9, rfl, hc0_9, hr0_9⟩⟩ := hK0
  obtain rfl : cs0 = #[.slice A0_0 (x0.1).length c0_0, .slice A0_1 (x0.2.1).length c0_1, .slice A0_2 (x0.2.2.1).length c0_2, .slice A0_3 (x0.2.2.2.1).length c0_3, .slice A0_4 (x0.2.2.2.2.1).length c0_4, .int .i64 (x0.2.2.2.2.2.1), .slice A0_6 (x0.2.2.2.2.2.2.1).length c0_6, .slice A0_7 (x0.2.2.2.2.2.2.2.1).length c0_7, .slice A0_8 (x0.2.2.2.2.2.2.2.2.1).length c0_8, .slice A0_9 (x0.2.2.2.2.2.2.2.2.2).length c0_9] := by apply Array.toList_inj.1; rw [e0]; rfl
  obtain ⟨a1, rfl, rfl, rfl, w1⟩ := open_int Try.underlying3 (hval 1 3 v1 rfl rfl) h1
  obtain ⟨a2, rfl, rfl, rfl, w2⟩ := open_int Try.underlying3 (hval 2 3 v2 rfl rfl) h2
  clear hA0 hval0 hsz0
  obtain ⟨k, h⟩ := Pure.FnExactEntryAt x0 g0 a1 w1 a2 w2
  refine (laws_FnExactEntryAt.calls (k) (A0_0) (c0_0) (x0.1) (A0_1) (c0_1) (x0.2.1) (A0_2) (c0_2) (x0.2.2.1) (A0_3) (c0_3) (x0.2.2.2.1) (A0_4) (c0_4) (x0.2.2.2.2.1) (x0.2.2.2.2.2.1) (A0_6) (c0_6) (x0.2.2.2.2.2.2.1) (A0_7) (c0_7) (x0.2.2.2.2.2.2.2.1) (A0_8) (c0_8) (x0.2.2.2.2.2.2.2.2.1) (A0_9) (c0_9) (x0.2.2.2.2.2.2.2.2.2) (a1) (a2) (true) (W) (hr0_0) (hc0_0) (hr0_1) (hc0_1) (hr0_2) (hc0_2) (hr0_3) (hc0_3) (hr0_4) (hc0_4) (hr0_6) (hc0_6) (hr0_7) (hc0_7) (hr0_8) (hc0_8) (hr0_9) (hc0_9) h (rfl)).mono fun e W' ⟨he, bel0⟩ => ?_
  have bel := bel0
  subst he
  exact ⟨_, rfl, _, _, _, [], _, [], hW', trodAll_mk1 (shut_bool Try.underlying4 _), (trodAll_cons_mk (Below.trod laidOut (by kernel_rfl) (of_decide_eq_true (by kernel_rfl)) k0 bel lt0) (trodAll_cons_mk (shut_int Try.underlying3 w1) (trodAll_cons_mk (shut_int Try.underlying3 w2) trodAll_mk0))), rfl, bel.frame _, fun h => by cases h⟩
theorem over : Rows.fnExactEntryAtRow.holds Try.pinned (OpenSpec.ofChange Rows.fnExactEntryAtSpec) :=
  OpenClaim.holds_of_wide 5 Try.f5 rfl rfl rfl rfl rfl rfl rfl ⟨rfl, rfl, rfl, rfl, rfl⟩ rfl rfl rfl rfl rfl (by kernel_rfl) Try.func5 (by kernel_rfl)
    (of_decide_eq_true (by kernel_rfl)) (by unfold Func.isWrapper; first | (rw [if_pos (by decide +kernel)]; kernel_rfl) | (rw [if_neg (by decide +kernel)]; exact ⟨rfl, rfl⟩))
    (fun os started H enc _ => lifted os started H enc)
theorem proved : Rows.FnExactEntryAtSaid := over
#print axioms proved
end Go.Proofs.Ytngonhgghncdiaa.fnExactEntryAt
namespace Go.Proofs.Ytngonhgghncdiaa
/-- The row, under a short name, for the claim. -/
theorem fnExactEntryAt_holds : Rows.FnExactEntryAtSaid := fnExactEntryAt.proved
end Go.Proofs.Ytngonhgghncdiaa
