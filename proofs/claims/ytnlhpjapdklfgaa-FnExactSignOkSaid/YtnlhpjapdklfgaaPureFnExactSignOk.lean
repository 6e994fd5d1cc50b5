/- For every string of at most 140737488351232 bytes the program's SignOk and the reference's answer alike. -/
import Derived.Test.YtnlhpjapdklfgaaOFnExactSignOkx1
import Derived.Test.YtnlhpjapdklfgaaBase
namespace Go.Proofs.Ytnlhpjapdklfgaa.Pure
open Go.RowKit Go.Proofs.Ytnlhpjapdklfgaa.OFnExactSignOk Go.Proofs.YtnlhpjapdklfgaaW.PrintWords Go.Proofs.YtnlhpjapdklfgaaW.PrintLast Go.Proofs.YtnlhpjapdklfgaaW.PrintMore Go.Proofs.Ytnlhpjapdklfgaa.Base
set_option linter.unusedVariables false
set_option linter.unusedSimpArgs false

theorem ex_ite {c : Prop} [Decidable c] {a b : Option Bool} (ha : ∃ x, a = some x) (hb : ∃ x, b = some x) : ∃ x, (if c then a else b) = some x := by split <;> assumption
theorem signTab : ∀ c : Fin 256, decide (0 ≤ Lib.indexByte [33, 36, 38, 40, 41, 58, 61, 64, 91, 93, 123, 124, 125] (UInt8.ofNat c.val)) = ([33, 36, 38, 40, 41, 58, 61, 64, 91, 93, 123, 124, 125].contains (UInt8.ofNat c.val)) := by decide +kernel
theorem FnExactSignOk : laws_FnExactSignOk.Pure := by
  intro s hs
  unfold laws_FnExactSignOk.f
  by_cases h : (s.size : Int) > 1048576
  · rw [if_pos h]
  · rw [if_neg h]
    have key : impl_SignOk.f s = spec_SignOk.f s := by
      unfold impl_SignOk.f spec_SignOk.f
      by_cases h1 : s.size = 1
      · obtain ⟨c, hc⟩ : ∃ c : UInt8, s[0]'(by omega) = c := ⟨_, rfl⟩
        have hl : s.toList = [c] := by
          rw [ByteArray.toList_eq]
          have hlen : s.data.toList.length = 1 := by rw [Array.length_toList]; exact h1
          obtain ⟨x, hx⟩ := List.length_eq_one_iff.1 hlen
          rw [hx]
          have : s.data[0]'(by have : s.data.size = 1 := h1; omega) = x := by
            rw [← Array.getElem_toList]; simp [hx]
          rw [← this]; congr 1
        have ht := signTab ⟨c.toNat, c.toNat_lt⟩
        simp only [UInt8.ofNat_toNat] at ht
        rw [hl]
        unfold strings_Contains.f strings_Index.f
        simp only [h1, dif_pos, hc, Option.bind_some]
        simp only [ge_iff_le, ht]
        simp only [List.cons.injEq, and_true, reduceCtorEq, if_false, List.contains_cons, List.contains_nil, Bool.or_false, and_false]
        rw [if_pos (by rfl)]
        by_cases c1 : c = 33
        · subst c1; rfl
        by_cases c2 : c = 36
        · subst c2; rfl
        by_cases c3 : c = 38
        · subst c3; rfl
        by_cases c4 : c = 40
        · subst c4; rfl
        by_cases c5 : c = 41
        · subst c5; rfl
        by_cases c6 : c = 58
        · subst c6; rfl
        by_cases c7 : c = 61
        · subst c7; rfl
        by_cases c8 : c = 64
        · subst c8; rfl
        by_cases c9 : c = 91
        · subst c9; rfl
        by_cases c10 : c = 93
        · subst c10; rfl
        by_cases c11 : c = 123
        · subst c11; rfl
        by_cases c12 : c = 124
        · subst c12; rfl
        by_cases c13 : c = 125
        · subst c13; rfl
        simp [c1, c2, c3, c4, c5, c6, c7, c8, c9, c10, c11, c12, c13]
      · have hne : ∀ x : UInt8, ¬ s.toList = [x] := by
          intro x hx
          rw [ByteArray.toList_eq] at hx
          have := congrArg List.length hx
          rw [Array.length_toList] at this
          exact h1 this
        rw [if_neg (show ¬ ((s.size : Int) = 1) by omega)]
        simp only [hne, if_false]
    rw [key]
    have : ∃ b, spec_SignOk.f s = some b := by
      unfold spec_SignOk.f
      repeat (first | exact ⟨_, rfl⟩ | refine ex_ite ⟨_, rfl⟩ ?_)
    obtain ⟨b, hb⟩ := this
    rw [hb]; simp


end Go.Proofs.Ytnlhpjapdklfgaa.Pure
