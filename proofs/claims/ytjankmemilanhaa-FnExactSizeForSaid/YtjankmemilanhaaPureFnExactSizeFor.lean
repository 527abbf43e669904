/- SizeFor answers as the reference at every int: the plain half. No condition. -/
import Derived.Test.YtjankmemilanhaaP3
import Derived.Test.YtjankmemilanhaaP8
import Derived.Test.YtjankmemilanhaaP9
import Derived.Test.YtjankmemilanhaaP10
import Derived.Test.YtjankmemilanhaaAid
namespace Go.Proofs.Ytjankmemilanhaa.Pure
open Go.RowKit Go.Proofs.Ytjankmemilanhaa.P Go.Proofs.YtjankmemilanhaaW.PrintWords Go.Proofs.YtjankmemilanhaaW.PrintLast Go.Proofs.YtjankmemilanhaaW.PrintMore Go.Proofs.Ytjankmemilanhaa.Aid
set_option linter.unusedVariables false
set_option linter.unusedSimpArgs false

theorem FnExactSizeFor (a0 : Int) (_w0 : (Lit.int .i64 a0).wf = true) : ∃ k, laws_FnExactSizeFor.f k a0 = some true := by
  by_cases h1 : a0 = 1
  · subst h1; exact ⟨9, by decide +kernel⟩
  by_cases h2 : a0 = 2
  · subst h2; exact ⟨9, by decide +kernel⟩
  by_cases h3 : a0 = 3
  · subst h3; exact ⟨9, by decide +kernel⟩
  by_cases h4 : a0 = 4
  · subst h4; exact ⟨9, by decide +kernel⟩
  refine ⟨1, ?_⟩
  have hin : spec_l01In.f a0 1 4 = some false := by
    unfold spec_l01In.f
    by_cases h : a0 ≥ 1
    · rw [if_pos h]; congr 1; exact decide_eq_false (by omega)
    · rw [if_neg h]
  have hs : spec_SizeFor.f 1 a0 = some 0 := by
    unfold spec_SizeFor.f; rw [hin]; rfl
  have hi : impl_SizeFor.f 1 a0 = some 0 := by
    unfold impl_SizeFor.f
    rw [if_neg h1, show (a0 == 2) = false from by simpa using h2]
    simp only [impl_SizeFor.j0]
    rw [if_neg (by simp), if_neg h3, if_neg h4]
  unfold laws_FnExactSizeFor.f
  rw [hs, hi]; rfl

end Go.Proofs.Ytjankmemilanhaa.Pure
