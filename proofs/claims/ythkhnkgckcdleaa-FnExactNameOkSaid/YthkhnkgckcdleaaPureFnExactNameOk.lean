/- For every string of at most 140737488351232 bytes the program's NameOk and the reference's answer alike (strings above 2^20 bytes are not asked by the law). -/
import Derived.Test.YthkhnkgckcdleaaPFnExactNameOkx1
import Derived.Test.YthkhnkgckcdleaaBase
namespace Go.Proofs.Ythkhnkgckcdleaa.Pure
open Go.RowKit Go.Proofs.Ythkhnkgckcdleaa.PFnExactNameOk Go.Proofs.YthkhnkgckcdleaaW.PrintWords Go.Proofs.YthkhnkgckcdleaaW.PrintLast Go.Proofs.Ythkhnkgckcdleaa.Base
set_option linter.unusedVariables false
set_option linter.unusedSimpArgs false

theorem spec_l03Figure.eq (x : Int) : spec_l03Figure.f x = some (figB x) := by
  unfold spec_l03Figure.f figB
  by_cases h : x ≥ 48
  · rw [if_pos h]; congr 1; rw [Bool.eq_iff_iff]; simp only [decide_eq_true_eq, Bool.or_eq_true, beq_iff_eq, Bool.false_eq_true, true_iff, false_iff]; omega
  · rw [if_neg h]; congr 1; rw [Bool.eq_iff_iff]; simp only [decide_eq_true_eq, Bool.or_eq_true, beq_iff_eq, Bool.false_eq_true, true_iff, false_iff]; omega

theorem spec_l03Letter.eq (x : Int) : spec_l03Letter.f x = some (lowB x || x == 95) := by
  unfold spec_l03Letter.f lowB
  by_cases h : x ≥ 97
  · rw [if_pos h]
    by_cases h2 : x ≤ 122
    · rw [if_pos h2]; congr 1; rw [Bool.eq_iff_iff]; simp only [decide_eq_true_eq, Bool.or_eq_true, beq_iff_eq, Bool.false_eq_true, true_iff, false_iff]; omega
    · rw [if_neg h2, if_pos (by omega), if_neg (by omega)]; congr 1; rw [Bool.eq_iff_iff]; simp only [decide_eq_true_eq, Bool.or_eq_true, beq_iff_eq, Bool.false_eq_true, true_iff, false_iff]; omega
  · rw [if_neg h]
    by_cases h2 : x ≥ 65
    · rw [if_pos h2]
      by_cases h3 : x ≤ 90
      · rw [if_pos h3]; congr 1; rw [Bool.eq_iff_iff]; simp only [decide_eq_true_eq, Bool.or_eq_true, beq_iff_eq, Bool.false_eq_true, true_iff, false_iff]; omega
      · rw [if_neg h3]; congr 1; rw [Bool.eq_iff_iff]; simp only [decide_eq_true_eq, Bool.or_eq_true, beq_iff_eq, Bool.false_eq_true, true_iff, false_iff]; omega
    · rw [if_neg h2]; congr 1; rw [Bool.eq_iff_iff]; simp only [decide_eq_true_eq, Bool.or_eq_true, beq_iff_eq, Bool.false_eq_true, true_iff, false_iff]; omega

theorem spec_NameOk.l0_ev (s : ByteArray) (hs : s.size ≤ 140737488351232) (n : Nat) : ∀ i : Int, 0 ≤ i → (s.size : Int) - i = n →
    Ev (fun k => spec_NameOk.l0 k s i) ((tl s i).all nameB) := by
  induction n with
  | zero =>
    intro i h0 hn
    apply Ev.succ; simp only [spec_NameOk.l0]
    rw [tl_nil (by omega)]
    exact Ev.ite_neg (by omega) (Ev.done rfl)
  | succ n ih =>
    intro i h0 hn
    have h1 : i < (s.size : Int) := by omega
    have ih := ih (i + 1) (by omega) (by omega)
    apply Ev.succ
    simp only [spec_NameOk.l0, h0, h1, if_true, spec_l03Letter.eq, spec_l03Figure.eq, Option.bind_some, w64 (x := i + 1) (by omega) (by omega)]
    rw [tl_cons h0 h1, List.all_cons]
    have e : nameB (bt s i) = ((lowB (bt s i) || bt s i == 95) || figB (bt s i)) := by unfold nameB; cases lowB (bt s i) <;> cases figB (bt s i) <;> simp
    rw [e]
    cases (lowB (bt s i) || bt s i == 95) <;> cases figB (bt s i) <;> simp <;> first | exact ih | exact Ev.done rfl
theorem spec_NameOk.ev (s : ByteArray) (hs : s.size ≤ 140737488351232) : Ev (fun k => spec_NameOk.f k s) (nameOkL (bytesOf s)) := by
  have hl := size_bytes s
  have hj : Ev (fun k => spec_NameOk.j0 k s true) false := by
    apply Ev.succ; simp only [spec_NameOk.j0, if_true]; exact Ev.done rfl
  unfold spec_NameOk.f
  by_cases h0 : (s.size : Int) = 0
  · refine Ev.ite_pos h0 (hj.get ?_)
    unfold nameOkL; simp; omega
  · refine Ev.ite_neg h0 ?_
    by_cases h1 : (s.size : Int) > 30
    · refine Ev.ite_pos h1 (hj.get ?_)
      unfold nameOkL; simp; omega
    · refine Ev.ite_neg h1 (Ev.ite_pos (by omega) ?_)
      simp only [spec_l03Figure.eq, Option.bind_some]
      have hl0 := spec_NameOk.l0_ev s hs s.size 0 (by omega) (by omega)
      have ht := tl_cons (s := s) (i := 0) (by omega) (by omega)
      rw [tl_zero] at ht hl0
      have hd : (bytesOf s).headD 0 = bt s 0 := by rw [ht]; rfl
      apply Ev.succ; simp only [spec_NameOk.j0]
      cases hf : figB (bt s 0) with
      | true => exact (Ev.done rfl).get (by unfold nameOkL; rw [hd, hf]; simp)
      | false =>
        simp only [Bool.false_eq_true, if_false]
        exact hl0.get (by unfold nameOkL; rw [hd, hf, hl]; simp; omega)

theorem impl_in.eq (x a b : Int) : impl_in.f x a b = some (decide (a ≤ x ∧ x ≤ b)) := by
  unfold impl_in.f
  by_cases h : x ≥ a
  · rw [if_pos h]; congr 1; rw [Bool.eq_iff_iff]; simp only [decide_eq_true_eq, Bool.or_eq_true, beq_iff_eq, Bool.false_eq_true, true_iff, false_iff]; omega
  · rw [if_neg h]; congr 1; rw [Bool.eq_iff_iff]; simp only [decide_eq_true_eq, Bool.or_eq_true, beq_iff_eq, Bool.false_eq_true, true_iff, false_iff]; omega

theorem impl_isFigure.eq (x : Int) : impl_isFigure.f x = some (figB x) := by
  unfold impl_isFigure.f figB
  by_cases h : x ≥ 48
  · rw [if_pos h]; congr 1; rw [Bool.eq_iff_iff]; simp only [decide_eq_true_eq, Bool.or_eq_true, beq_iff_eq, Bool.false_eq_true, true_iff, false_iff]; omega
  · rw [if_neg h]; congr 1; rw [Bool.eq_iff_iff]; simp only [decide_eq_true_eq, Bool.or_eq_true, beq_iff_eq, Bool.false_eq_true, true_iff, false_iff]; omega

theorem impl_isLetter.eq (x : Int) : impl_isLetter.f x = some (lowB x) := by
  unfold impl_isLetter.f lowB
  by_cases h : x ≥ 97
  · rw [if_pos h]
    by_cases h2 : x ≤ 122
    · rw [if_pos h2]; congr 1; rw [Bool.eq_iff_iff]; simp only [decide_eq_true_eq, Bool.or_eq_true, beq_iff_eq, Bool.false_eq_true, true_iff, false_iff]; omega
    · rw [if_neg h2, if_pos (by omega)]; congr 1; rw [Bool.eq_iff_iff]; simp only [decide_eq_true_eq, Bool.or_eq_true, beq_iff_eq, Bool.false_eq_true, true_iff, false_iff]; omega
  · rw [if_neg h]
    by_cases h2 : x ≥ 65
    · rw [if_pos h2]; congr 1; rw [Bool.eq_iff_iff]; simp only [decide_eq_true_eq, Bool.or_eq_true, beq_iff_eq, Bool.false_eq_true, true_iff, false_iff]; omega
    · rw [if_neg h2]; congr 1; rw [Bool.eq_iff_iff]; simp only [decide_eq_true_eq, Bool.or_eq_true, beq_iff_eq, Bool.false_eq_true, true_iff, false_iff]; omega

theorem impl_inName.eq (x : Int) : impl_inName.f x = some (nameB x) := by
  unfold impl_inName.f nameB
  rw [impl_isLetter.eq]
  simp only [Option.bind_some, impl_isFigure.eq]
  cases lowB x <;> cases figB x <;> simp

theorem impl_NameOk.l0_ev (s : ByteArray) (hs : s.size ≤ 140737488351232) (n : Nat) : ∀ i : Int, 0 ≤ i → (s.size : Int) - i = n →
    Ev (fun k => impl_NameOk.l0 k s (s.size : Int) i) ((tl s i).all nameB) := by
  induction n with
  | zero =>
    intro i h0 hn
    apply Ev.succ; simp only [impl_NameOk.l0]
    rw [tl_nil (by omega)]
    exact Ev.ite_neg (by omega) (Ev.done rfl)
  | succ n ih =>
    intro i h0 hn
    have h1 : i < (s.size : Int) := by omega
    have ih := ih (i + 1) (by omega) (by omega)
    apply Ev.succ
    simp only [impl_NameOk.l0, h0, h1, if_true, impl_inName.eq, Option.bind_some, w64 (x := i + 1) (by omega) (by omega)]
    rw [tl_cons h0 h1, List.all_cons]
    cases nameB (bt s i) <;> simp <;> first | exact ih | exact Ev.done rfl
theorem impl_NameOk.ev (s : ByteArray) (hs : s.size ≤ 140737488351232) : Ev (fun k => impl_NameOk.f k s) (nameOkL (bytesOf s)) := by
  have hl := size_bytes s
  have hj : Ev (fun k => impl_NameOk.j0 k s true) false := by
    apply Ev.succ; simp only [impl_NameOk.j0, if_true]; exact Ev.done rfl
  unfold impl_NameOk.f
  simp only [impl_in.eq, Option.bind_some]
  by_cases h0 : 1 ≤ (s.size : Int) ∧ (s.size : Int) ≤ 30
  · simp only [h0, and_self, decide_true, if_true]
    refine Ev.ite_pos (by omega) ?_
    simp only [impl_isFigure.eq, Option.bind_some]
    have hl0 := impl_NameOk.l0_ev s hs s.size 0 (by omega) (by omega)
    have ht := tl_cons (s := s) (i := 0) (by omega) (by omega)
    rw [tl_zero] at ht hl0
    have hd : (bytesOf s).headD 0 = bt s 0 := by rw [ht]; rfl
    apply Ev.succ; simp only [impl_NameOk.j0]
    cases hf : figB (bt s 0) with
    | true => exact (Ev.done rfl).get (by unfold nameOkL; rw [hd, hf]; simp)
    | false =>
      simp only [Bool.false_eq_true, if_false]
      exact hl0.get (by unfold nameOkL; rw [hd, hf, hl]; simp; omega)
  · have e : decide (1 ≤ (s.size : Int) ∧ (s.size : Int) ≤ 30) = false := decide_eq_false h0
    simp only [e, Bool.false_eq_true, if_false]
    refine hj.get ?_
    unfold nameOkL; simp; omega

theorem FnExactNameOk : laws_FnExactNameOk.Pure := by
  intro s hs
  apply Ev.out
  unfold laws_FnExactNameOk.f
  by_cases h : (s.size : Int) > 1048576
  · exact Ev.ite_pos h (Ev.done rfl)
  · refine Ev.ite_neg h ((spec_NameOk.ev s hs).bind ((impl_NameOk.ev s hs).bind ?_))
    exact Ev.ite_neg (by simp) (Ev.done rfl)

end Go.Proofs.Ythkhnkgckcdleaa.Pure
