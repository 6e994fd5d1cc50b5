/- For all three whole numbers of 64 bits the program's Brought and the reference's return the same number. -/
import Derived.Test.YthkhnkgckcdleaaPFnExactBroughtx1
import Derived.Test.YthkhnkgckcdleaaBase
namespace Go.Proofs.Ythkhnkgckcdleaa.Pure
open Go.RowKit Go.Proofs.Ythkhnkgckcdleaa.PFnExactBrought Go.Proofs.YthkhnkgckcdleaaW.PrintWords Go.Proofs.YthkhnkgckcdleaaW.PrintLast Go.Proofs.Ythkhnkgckcdleaa.Base
set_option linter.unusedVariables false
set_option linter.unusedSimpArgs false

theorem FnExactBrought : laws_FnExactBrought.Pure := by
  intro n l m h1 h2 h3
  refine ⟨1, ?_⟩
  unfold laws_FnExactBrought.f
  have e : spec_Brought.f 1 n l m = some (mx l (mn n m)) := by
    unfold spec_Brought.f mx mn
    by_cases h : m < l
    · rw [if_pos h]; simp only [spec_Brought.j0, if_true]; congr 1; split <;> split <;> omega
    · rw [if_neg h]; simp only [spec_Brought.j0]
      by_cases h4 : n < l
      · simp only [h4, decide_true, if_true]; congr 1; split <;> split <;> omega
      · simp only [h4, decide_false, Bool.false_eq_true, if_false]
        by_cases h5 : n > m
        · rw [if_pos h5]; congr 1; split <;> split <;> omega
        · rw [if_neg h5]; congr 1; split <;> split <;> omega
  rw [e]; simp [impl_Brought.f]

end Go.Proofs.Ythkhnkgckcdleaa.Pure
