/- TablePath answers as the reference at every int: the plain half. No condition. -/
import Derived.Test.YtjankmemilanhaaPFnExactTablePathx1
import Derived.Test.YtjankmemilanhaaAid
namespace Go.Proofs.Ytjankmemilanhaa.Pure
open Go.RowKit Go.Proofs.Ytjankmemilanhaa.PFnExactTablePath Go.Proofs.YtjankmemilanhaaW.PrintWords Go.Proofs.YtjankmemilanhaaW.PrintLast Go.Proofs.Ytjankmemilanhaa.Aid

theorem FnExactTablePath : laws_FnExactTablePath.Pure := by
  intro a0 _
  have hs : spec_l01In.f a0 0 63 = some (decide (0 ≤ a0 ∧ a0 ≤ 63)) := by
    unfold spec_l01In.f
    by_cases h : a0 ≥ 0 <;> simp [h]
  have hi : impl_within.f a0 0 63 = some (decide (0 ≤ a0 ∧ a0 ≤ 63)) := by
    unfold impl_within.f
    by_cases h : a0 ≥ 0 <;> simp [h]
  unfold laws_FnExactTablePath.f spec_TablePath.f impl_TablePath.f
  rw [hs, hi]
  simp only [Option.bind_some]
  split <;> simp

end Go.Proofs.Ytjankmemilanhaa.Pure
