/- EntryWord answers as the reference at every entry: the plain half. No condition. -/
import Derived.Test.YtjankmemilanhaaP3
import Derived.Test.YtjankmemilanhaaP5
import Derived.Test.YtjankmemilanhaaP11
import Derived.Test.YtjankmemilanhaaP12
import Derived.Test.YtjankmemilanhaaP13
import Derived.Test.YtjankmemilanhaaP14
import Derived.Test.YtjankmemilanhaaP19
import Derived.Test.YtjankmemilanhaaP20
import Derived.Test.YtjankmemilanhaaP21
import Derived.Test.YtjankmemilanhaaP22
import Derived.Test.YtjankmemilanhaaAid
namespace Go.Proofs.Ytjankmemilanhaa.Pure
open Go.RowKit Go.Proofs.Ytjankmemilanhaa.P Go.Proofs.YtjankmemilanhaaW.PrintWords Go.Proofs.YtjankmemilanhaaW.PrintLast Go.Proofs.YtjankmemilanhaaW.PrintMore Go.Proofs.Ytjankmemilanhaa.Aid
set_option linter.unusedVariables false
set_option linter.unusedSimpArgs false

theorem in_eq (a b c : Int) : spec_l01In.f a b c = some (decide (b ≤ a ∧ a ≤ c)) := by
  unfold spec_l01In.f
  by_cases h : a ≥ b
  · rw [if_pos h]; congr 1; by_cases h2 : a ≤ c
    · rw [decide_eq_true h2, decide_eq_true ⟨h, h2⟩]
    · rw [decide_eq_false h2, decide_eq_false (fun x => h2 x.2)]
  · rw [if_neg h, decide_eq_false (fun x => h x.1)]
theorem within_eq' (a b c : Int) : impl_within.f a b c = some (decide (b ≤ a ∧ a ≤ c)) := in_eq a b c
def okB (f s : Int) (w r : Bool) : Bool := if f = -1 then !w && !r && decide (-1 ≤ s ∧ s ≤ 15) else decide (0 ≤ f ∧ f ≤ 31) && decide (s = -1)
theorem spec_ok (f s : Int) (w r : Bool) : spec_EntryOk.f f s w r = some (okB f s w r) := by
  unfold spec_EntryOk.f okB
  simp only [in_eq, Option.bind_some]
  by_cases hf : f = -1
  · rw [if_pos hf, if_pos hf]; cases w <;> cases r <;> simp
  · rw [if_neg hf, if_neg hf]
    by_cases h : 0 ≤ f ∧ f ≤ 31
    · rw [if_pos (by simpa using h)]; simp [h]; rfl
    · rw [if_neg (by simpa using h)]; simp [h]
theorem impl_ok (f s : Int) (w r : Bool) : impl_EntryOk.f f s w r = some (okB f s w r) := by
  unfold impl_EntryOk.f okB impl_noEntry.f
  simp only [within_eq', Option.bind_some]
  by_cases hf : f = -1
  · by_cases hs : s = -1
    · subst hf hs; cases w <;> cases r <;> simp
    · have hb : (f == -1 && (s == -1 && (w == false && (r == false)))) = false := by simp [hs]
      rw [if_neg (by rw [hb]; simp), if_neg hs, if_pos hf, if_pos hf]
      by_cases h : 0 ≤ s ∧ s ≤ 15
      · rw [if_pos (by simpa using h), decide_eq_true (show -1 ≤ s ∧ s ≤ 15 by omega)]; cases w <;> simp
      · rw [if_neg (by simpa using h), decide_eq_false (show ¬ (-1 ≤ s ∧ s ≤ 15) by omega)]; simp
  · have hb : (f == -1 && (s == -1 && (w == false && (r == false)))) = false := by simp [hf]
    rw [if_neg (by rw [hb]; simp), if_neg hf, if_neg hf]
    by_cases hs : s = -1
    · rw [if_pos hs]; simp [hs]
    · rw [if_neg hs]; simp [hs]
def entB (f s : Int) (w r : Bool) : Int := if s ≥ 0 then 2 + 4 * s else if f < 0 then 0 else 1 + 8 * f + (if w then 2 else 0) + (if r then 4 else 0)
theorem okB_bd {f s : Int} {w r : Bool} (h : okB f s w r = true) : (f = -1 ∧ w = false ∧ r = false ∧ -1 ≤ s ∧ s ≤ 15) ∨ (0 ≤ f ∧ f ≤ 31 ∧ s = -1) := by
  unfold okB at h
  by_cases hf : f = -1
  · rw [if_pos hf] at h; simp at h; exact .inl ⟨hf, h.1.1, h.1.2, h.2⟩
  · rw [if_neg hf] at h; simp at h; exact .inr ⟨h.1.1, h.1.2, h.2⟩
theorem spec_word (f s : Int) (w r : Bool) : spec_EntryWord.f f s w r = some (if okB f s w r = true then (entB f s w r, true) else (0, false)) := by
  unfold spec_EntryWord.f
  rw [spec_ok]
  simp only [Option.bind_some]
  by_cases h : okB f s w r = true
  · rw [if_pos h, if_pos h]
    have hb := okB_bd h
    unfold entB
    by_cases hs : s ≥ 0
    · rw [if_pos hs, if_pos hs, wrap64_id (n := 4 * s) (by omega) (by omega), wrap64_id (by omega) (by omega)]
    · rw [if_neg hs, if_neg hs]
      by_cases hf : f < 0
      · rw [if_pos hf, if_pos hf]
      · rw [if_neg hf, if_neg hf]
        cases w <;> cases r <;> simp [wrap64] <;> omega
  · rw [if_neg h, if_neg h]
theorem impl_word (f s : Int) (w r : Bool) : impl_EntryWord.f f s w r = some (if okB f s w r = true then (entB f s w r, true) else (0, false)) := by
  unfold impl_EntryWord.f
  rw [impl_ok]
  simp only [Option.bind_some]
  by_cases h : okB f s w r = true
  · rw [if_pos h, if_pos h]
    have hb := okB_bd h
    unfold impl_entryWord.f entB
    by_cases hs : s ≥ 0
    · rw [if_pos hs, if_pos hs, wrap64_id (n := 4 * s) (by omega) (by omega), wrap64_id (by omega) (by omega)]; rfl
    · rw [if_neg hs, if_neg hs]
      by_cases hf : f < 0
      · rw [if_pos hf, if_pos hf]; rfl
      · rw [if_neg hf, if_neg hf]
        cases w <;> cases r <;> simp [wrap64] <;> omega
  · rw [if_neg h, if_neg h]


theorem FnExactEntryWord (x0 : Int × Int × Bool × Bool) (g0 : (Lit.int .i64 x0.1).wf = true ∧ (Lit.int .i64 x0.2.1).wf = true ∧ True ∧ True) : laws_FnExactEntryWord.f (x0.1) (x0.2.1) (x0.2.2.1) (x0.2.2.2) = some true := by
  unfold laws_FnExactEntryWord.f laws_toEntry.f
  simp only [Option.bind_some, spec_word, impl_word]
  simp

end Go.Proofs.Ytjankmemilanhaa.Pure
