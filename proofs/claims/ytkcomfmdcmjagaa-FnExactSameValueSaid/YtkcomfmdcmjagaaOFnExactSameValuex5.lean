/- The machine side of one law, written by a program of this session out of Lean's print of the translation: for each Go function that is reached a plain Lean function and the proof that the call comes to just its answer; each under the condition that the plain function answers 'some'. -/
import Derived.Test.YtkcomfmdcmjagaaOFnExactSameValuex0
import Derived.Test.YtkcomfmdcmjagaaOFnExactSameValuex1
import Derived.Test.YtkcomfmdcmjagaaOFnExactSameValuex2
import Derived.Test.YtkcomfmdcmjagaaOFnExactSameValuex3
import Derived.Test.YtkcomfmdcmjagaaOFnExactSameValuex4
namespace Go.Proofs.Ytkcomfmdcmjagaa.OFnExactSameValue
open Go.Proofs.Ytkcomfmdcmjagaa.Ix
open Go.RowKit Go.Proofs.YtkcomfmdcmjagaaW.PrintWords Go.Proofs.YtkcomfmdcmjagaaW.PrintLast Go.Proofs.YtkcomfmdcmjagaaW.PrintMore
attribute [local go_sem] max2_int min2_int max_two min_two max_three min_three max_four min_four   -- for this text's walks alone
set_option linter.unusedVariables false
set_option linter.unusedSimpArgs false

theorem belA {P Q : Prop} (h : Aside0 P) (f : P → Q := by intro HB_; repeat (first | (with_reducible first | exact HB_ | apply below_alloc | apply pw_below_drewN | apply below_drew1) | exact HB_)) : Q := f h.out
theorem kdA {P Q : Prop} (h : Aside0 P) (f : P → Q := by intro HO_; (with_reducible repeat (first | apply Kd.R_alloc | apply Kd.R_drewN | apply Kd.R_drew)); exact HO_) : Q := f h.out
/-! ### laws_FnExactSameValue: function 4 -/
def laws_FnExactSameValue.f (k : Nat) (a0_0 : Int) (a0_1 : ByteArray) (l0_2 : List (S25)) (l0_3 : List ByteArray) (a1_0 : Int) (a1_1 : ByteArray) (l1_2 : List (S25)) (l1_3 : List ByteArray) : Option (Bool) := (laws_szValue.f k a0_0 a0_1 l0_2 l0_3 1048576).bind fun t154 => (if t154 < 0 then (some true) else ((laws_szValue.f k a1_0 a1_1 l1_2 l1_3 t154).bind fun t155 => (if t155 < 0 then (some true) else ((laws_toValue.f k a0_0 a0_1 l0_2 l0_3).bind fun bt156 => ((laws_toValue.f k a1_0 a1_1 l1_2 l1_3).bind fun bt164 => ((spec_SameValue.f k bt156.1 bt156.2.1 bt156.2.2.1 bt156.2.2.2 bt164.1 bt164.2.1 bt164.2.2.1 bt164.2.2.2).bind fun t172 => ((laws_toValue.f k a0_0 a0_1 l0_2 l0_3).bind fun bt173 => ((laws_toValue.f k a1_0 a1_1 l1_2 l1_3).bind fun bt182 => ((impl_SameValue.f k bt173.1 bt173.2.1 bt173.2.2.1 bt173.2.2.2 bt182.1 bt182.2.1 bt182.2.2.1 bt182.2.2.2).bind fun t191 => (if (t191 != t172) = true then (some false) else ((laws_toValue.f k a0_0 a0_1 l0_2 l0_3).bind fun bt192 => ((laws_eqValue.f k bt173.1 bt173.2.1 bt173.2.2.1 bt173.2.2.2 bt192.1 bt192.2.1 bt192.2.2.1 bt192.2.2.2).bind fun t200 => (if t200 = true then ((laws_toValue.f k a1_0 a1_1 l1_2 l1_3).bind fun bt201 => ((laws_eqValue.f k bt182.1 bt182.2.1 bt182.2.2.1 bt182.2.2.2 bt201.1 bt201.2.1 bt201.2.2.1 bt201.2.2.2).bind fun t209 => (if t209 = true then (some true) else (some false)))) else (some false))))))))))))))
theorem laws_FnExactSameValue.mono : ∀ a0 a1 a2 a3 a4 a5 a6 a7 k, LeO (laws_FnExactSameValue.f k a0 a1 a2 a3 a4 a5 a6 a7) (laws_FnExactSameValue.f (k + 1) a0 a1 a2 a3 a4 a5 a6 a7) := by
  intro a0 a1 a2 a3 a4 a5 a6 a7 k
  unfold laws_FnExactSameValue.f
  repeat' first
      | (with_reducible exact impl_SameValue.mono _ _ _ _ _ _ _ _ _)
      | (with_reducible exact laws_eqValue.mono _ _ _ _ _ _ _ _ _)
      | (with_reducible exact laws_szValue.mono _ _ _ _ _ _)
      | (with_reducible exact laws_toValue.mono _ _ _ _ _)
      | (with_reducible exact spec_SameValue.mono _ _ _ _ _ _ _ _ _)
      | (with_reducible exact LeO.refl _)
      | (with_reducible exact LeO.none _)
      | (with_reducible refine LeO.ite ?_ ?_)
      | (with_reducible refine LeO.bind ?_ (fun _ => ?_))
      | exact impl_SameValue.mono _ _ _ _ _ _ _ _ _
      | exact laws_eqValue.mono _ _ _ _ _ _ _ _ _
      | exact laws_szValue.mono _ _ _ _ _ _
      | exact laws_toValue.mono _ _ _ _ _
      | exact spec_SameValue.mono _ _ _ _ _ _ _ _ _
      | exact LeO.none _
      | refine LeO.ite ?_ ?_
      | refine LeO.bind ?_ (fun _ => ?_)
end Go.Proofs.Ytkcomfmdcmjagaa.OFnExactSameValue
