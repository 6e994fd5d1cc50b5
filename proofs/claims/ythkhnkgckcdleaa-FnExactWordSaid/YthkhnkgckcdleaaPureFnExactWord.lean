/- For every string of at most 140737488351232 bytes the program's Word and the reference's answer alike. -/
import Derived.Test.YthkhnkgckcdleaaPFnExactWordx1
import Derived.Test.YthkhnkgckcdleaaBase
namespace Go.Proofs.Ythkhnkgckcdleaa.Pure
open Go.RowKit Go.Proofs.Ythkhnkgckcdleaa.PFnExactWord Go.Proofs.YthkhnkgckcdleaaW.PrintWords Go.Proofs.YthkhnkgckcdleaaW.PrintLast Go.Proofs.Ythkhnkgckcdleaa.Base
set_option linter.unusedVariables false
set_option linter.unusedSimpArgs false

theorem FnExactWord : laws_FnExactWord.Pure := by
  intro s hs
  unfold laws_FnExactWord.f
  by_cases h : (s.size : Int) > 1048576
  · rw [if_pos h]
  · rw [if_neg h]
    have e : spec_Word.f s = impl_Word.f s := rfl
    rw [e]
    have : ∃ b, impl_Word.f s = some b := by
      unfold impl_Word.f
      by_cases h1 : s.toList = ([116, 114, 117, 101] : List UInt8)
      · exact ⟨_, if_pos h1⟩
      · rw [if_neg h1]
        by_cases h2 : s.toList = ([102, 97, 108, 115, 101] : List UInt8)
        · exact ⟨_, if_pos h2⟩
        · rw [if_neg h2]; exact ⟨_, rfl⟩
    obtain ⟨b, hb⟩ := this
    rw [hb]; simp

end Go.Proofs.Ythkhnkgckcdleaa.Pure
