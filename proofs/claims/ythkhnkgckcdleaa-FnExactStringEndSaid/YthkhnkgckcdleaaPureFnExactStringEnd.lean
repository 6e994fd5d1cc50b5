/- For every string of at most 140737488351232 bytes and every int the program's StringEnd and the reference's return the same place (strings above 2^20 bytes are not asked by the law). -/
import Derived.Test.YthkhnkgckcdleaaPFnExactStringEndx2
import Derived.Test.YthkhnkgckcdleaaBase
namespace Go.Proofs.Ythkhnkgckcdleaa.Pure
open Go.RowKit Go.Proofs.Ythkhnkgckcdleaa.PFnExactStringEnd Go.Proofs.YthkhnkgckcdleaaW.PrintWords Go.Proofs.YthkhnkgckcdleaaW.PrintLast Go.Proofs.Ythkhnkgckcdleaa.Base
set_option linter.unusedVariables false
set_option linter.unusedSimpArgs false

/-- Where a text in quotes ends: from place i on; odd: behind an odd number of signs 92. -/
def strE : Bool → List Int → Int → Int
  | _, [], _ => -1
  | odd, x :: r, i => if x = 10 ∨ x = 13 then -1 else if x = 34 ∧ odd = false then i + 1 else strE (x == 92 && !odd) r (i + 1)
def strEndL (s : ByteArray) (i : Int) : Int := if 0 ≤ i ∧ i < (s.size : Int) ∧ bt s i = 34 then strE false (tl s (i + 1)) (i + 1) else -1

theorem spec_StringEnd.l0_ev (s : ByteArray) (hs : s.size ≤ 140737488351232) (n : Nat) : ∀ i : Int, 0 ≤ i → i ≤ (s.size : Int) + 2 → (s.size : Int) - i ≤ n →
    Ev (fun k => spec_StringEnd.l0 k s i) (strE false (tl s i) i) := by
  induction n with
  | zero =>
    intro i h0 h2 hn
    apply Ev.succ; simp only [spec_StringEnd.l0]
    rw [tl_nil (by omega)]
    exact Ev.ite_neg (by omega) (Ev.done rfl)
  | succ n ih =>
    intro i h0 h2 hn
    by_cases h1 : i < (s.size : Int)
    · have w1 : wrap64 (i + 1) = i + 1 := w64 (by omega) (by omega)
      have w2 : wrap64 (i + 1 + 1) = i + 2 := by rw [w64 (by omega) (by omega)]; omega
      have ih1 := ih (i + 1) (by omega) (by omega) (by omega)
      have ih2 := ih (i + 2) (by omega) (by omega) (by omega)
      rw [tl_cons h0 h1]
      apply Ev.succ
      simp only [spec_StringEnd.l0, h0, h1, if_true, w1]
      unfold strE
      by_cases c34 : bt s i = 34
      · rw [if_neg (by omega), if_pos ⟨c34, rfl⟩]
        exact Ev.ite_pos c34 (Ev.done rfl)
      · refine Ev.ite_neg c34 ?_
        have hj : Ev (fun k => spec_StringEnd.j2 k s i (bt s i) (decide (bt s i = 10 ∨ bt s i = 13))) (if bt s i = 10 ∨ bt s i = 13 then -1 else if bt s i = 34 ∧ false = false then i + 1 else strE (bt s i == 92 && !false) (tl s (i + 1)) (i + 1)) := by
          apply Ev.succ; simp only [spec_StringEnd.j2]
          by_cases c : bt s i = 10 ∨ bt s i = 13
          · rw [if_pos c]; exact Ev.ite_pos (by simp [c]) (Ev.done rfl)
          · rw [if_neg c, if_neg (by omega)]
            refine Ev.ite_neg (by simp [c]) ?_
            by_cases c92 : bt s i = 92
            · refine Ev.ite_pos c92 ?_
              have e : (bt s i == 92 && !false) = true := by simp [c92]
              rw [e]
              simp only [w1, w2]
              by_cases h3 : i + 1 < (s.size : Int)
              · rw [tl_cons (by omega) h3]; unfold strE
                refine Ev.ite_pos h3 (Ev.ite_pos (by omega) ?_)
                by_cases d1 : bt s (i + 1) = 10
                · rw [if_pos (Or.inl d1)]; exact Ev.ite_pos d1 (Ev.done rfl)
                · refine Ev.ite_neg d1 ?_
                  by_cases d2 : bt s (i + 1) = 13
                  · rw [if_pos (Or.inr d2)]; exact Ev.ite_pos d2 (Ev.done rfl)
                  · refine Ev.ite_neg d2 ?_
                    rw [if_neg (by omega), if_neg (by simp)]
                    have e2 : i + 1 + 1 = i + 2 := by omega
                    rw [e2]; simpa using ih2
              · refine Ev.ite_neg h3 ?_
                rw [tl_nil (by omega)]
                have := ih2; rw [tl_nil (by omega)] at this
                exact this
            · refine Ev.ite_neg c92 ?_
              have e : (bt s i == 92 && !false) = false := by simp [c92]
              rw [e]; simp only [w1]; exact ih1
        by_cases c10 : bt s i = 10
        · refine Ev.ite_pos c10 ?_
          have e : (bt s i == 10) = decide (bt s i = 10 ∨ bt s i = 13) := by simp [c10]
          rw [e]; exact hj
        · refine Ev.ite_neg c10 ?_
          have e : (bt s i == 13) = decide (bt s i = 10 ∨ bt s i = 13) := by rw [Bool.eq_iff_iff]; simp [c10]
          rw [e]; exact hj
    · apply Ev.succ; simp only [spec_StringEnd.l0]
      rw [tl_nil (by omega)]
      exact Ev.ite_neg (by omega) (Ev.done rfl)
theorem spec_StringEnd.ev (s : ByteArray) (hs : s.size ≤ 140737488351232) (i : Int) : Ev (fun k => spec_StringEnd.f k s i) (strEndL s i) := by
  have hj : Ev (fun k => spec_StringEnd.j0 k s i true) (-1) := by
    apply Ev.succ; simp only [spec_StringEnd.j0, if_true]; exact Ev.done rfl
  unfold spec_StringEnd.f strEndL
  by_cases h0 : i < 0
  · rw [if_neg (by omega)]; exact Ev.ite_pos h0 hj
  · refine Ev.ite_neg h0 ?_
    by_cases h1 : i ≥ (s.size : Int)
    · rw [if_neg (by omega)]; exact Ev.ite_pos h1 hj
    · refine Ev.ite_neg h1 (Ev.ite_pos (by omega) (Ev.ite_pos (by omega) ?_))
      by_cases h2 : bt s i = 34
      · rw [if_pos ⟨by omega, by omega, h2⟩]
        apply Ev.succ; simp only [spec_StringEnd.j0, w64 (x := i + 1) (by omega) (by omega)]
        exact Ev.ite_neg (by simp [h2]) (spec_StringEnd.l0_ev s hs s.size _ (by omega) (by omega) (by omega))
      · rw [if_neg (by omega)]
        apply Ev.succ; simp only [spec_StringEnd.j0]
        exact Ev.ite_pos (by simp [h2]) (Ev.done rfl)

theorem impl_in.eq (x a b : Int) : impl_in.f x a b = some (decide (a ≤ x ∧ x ≤ b)) := by
  unfold impl_in.f
  by_cases h : x ≥ a
  · rw [if_pos h]; congr 1; rw [Bool.eq_iff_iff]; simp only [decide_eq_true_eq, Bool.or_eq_true, beq_iff_eq, Bool.false_eq_true, true_iff, false_iff]; omega
  · rw [if_neg h]; congr 1; rw [Bool.eq_iff_iff]; simp only [decide_eq_true_eq, Bool.or_eq_true, beq_iff_eq, Bool.false_eq_true, true_iff, false_iff]; omega

theorem impl_StringEnd.l0_ev (s : ByteArray) (hs : s.size ≤ 140737488351232) (n : Nat) : ∀ (i : Int) (odd : Bool), 0 ≤ i → i ≤ (s.size : Int) + 2 → (s.size : Int) - i ≤ n →
    Ev (fun k => impl_StringEnd.l0 k s odd i) (strE odd (tl s i) i) := by
  induction n with
  | zero =>
    intro i odd h0 h2 hn
    apply Ev.succ; simp only [impl_StringEnd.l0]
    rw [tl_nil (by omega)]
    exact Ev.ite_neg (by omega) (Ev.done rfl)
  | succ n ih =>
    intro i odd h0 h2 hn
    by_cases h1 : i < (s.size : Int)
    · have w1 : wrap64 (i + 1) = i + 1 := w64 (by omega) (by omega)
      have ih1 := fun o => ih (i + 1) o (by omega) (by omega) (by omega)
      rw [tl_cons h0 h1]
      apply Ev.succ
      simp only [impl_StringEnd.l0, h0, h1, if_true]
      unfold strE
      have hj : Ev (fun k => impl_StringEnd.j2 k s odd i (bt s i) (decide (bt s i = 10 ∨ bt s i = 13))) (if bt s i = 10 ∨ bt s i = 13 then -1 else if bt s i = 34 ∧ odd = false then i + 1 else strE (bt s i == 92 && !odd) (tl s (i + 1)) (i + 1)) := by
        apply Ev.succ; simp only [impl_StringEnd.j2]
        by_cases c : bt s i = 10 ∨ bt s i = 13
        · rw [if_pos c]; exact Ev.ite_pos (by simp [c]) (Ev.done rfl)
        · rw [if_neg c]
          refine Ev.ite_neg (by simp [c]) ?_
          have hl : Ev (fun k => if bt s i = 92 then impl_StringEnd.l0 k s (!odd) (wrap64 (i + 1)) else impl_StringEnd.l0 k s false (wrap64 (i + 1))) (strE (bt s i == 92 && !odd) (tl s (i + 1)) (i + 1)) := by
            rw [w1]
            by_cases c92 : bt s i = 92
            · have e : (bt s i == 92 && !odd) = !odd := by simp [c92]
              rw [e]; exact Ev.ite_pos c92 (ih1 _)
            · have e : (bt s i == 92 && !odd) = false := by simp [c92]
              rw [e]; exact Ev.ite_neg c92 (ih1 _)
          by_cases c34 : bt s i = 34
          · refine Ev.ite_pos c34 ?_
            cases odd with
            | true => rw [if_neg (by simp)]; exact Ev.ite_pos rfl (Ev.ite_pos h0 (Ev.ite_pos h1 hl))
            | false => rw [if_pos ⟨c34, rfl⟩, w1]; exact Ev.ite_neg (by simp) (Ev.done rfl)
          · rw [if_neg (fun h => c34 h.1)]
            exact Ev.ite_neg c34 (Ev.ite_pos h0 (Ev.ite_pos h1 hl))
      by_cases c10 : bt s i = 10
      · refine Ev.ite_pos c10 ?_
        have e : (bt s i == 10) = decide (bt s i = 10 ∨ bt s i = 13) := by simp [c10]
        rw [e]; exact hj
      · refine Ev.ite_neg c10 ?_
        have e : (bt s i == 13) = decide (bt s i = 10 ∨ bt s i = 13) := by rw [Bool.eq_iff_iff]; simp [c10]
        rw [e]; exact hj
    · apply Ev.succ; simp only [impl_StringEnd.l0]
      rw [tl_nil (by omega)]
      exact Ev.ite_neg (by omega) (Ev.done rfl)
theorem impl_StringEnd.ev (s : ByteArray) (hs : s.size ≤ 140737488351232) (i : Int) : Ev (fun k => impl_StringEnd.f k s i) (strEndL s i) := by
  have hj : Ev (fun k => impl_StringEnd.j0 k s i true) (-1) := by
    apply Ev.succ; simp only [impl_StringEnd.j0, if_true]; exact Ev.done rfl
  unfold impl_StringEnd.f strEndL
  simp only [impl_in.eq, Option.bind_some, w64 (x := (s.size : Int) - 1) (by omega) (by omega)]
  by_cases h0 : 0 ≤ i ∧ i ≤ (s.size : Int) - 1
  · refine Ev.ite_pos (by simp; omega) (Ev.ite_pos (by omega) (Ev.ite_pos (by omega) ?_))
    by_cases h2 : bt s i = 34
    · rw [if_pos ⟨by omega, by omega, h2⟩]
      apply Ev.succ; simp only [impl_StringEnd.j0, w64 (x := i + 1) (by omega) (by omega)]
      exact Ev.ite_neg (by simp [h2]) (impl_StringEnd.l0_ev s hs s.size _ _ (by omega) (by omega) (by omega))
    · rw [if_neg (by omega)]
      apply Ev.succ; simp only [impl_StringEnd.j0]
      exact Ev.ite_pos (by simp [h2]) (Ev.done rfl)
  · rw [if_neg (by omega)]
    exact Ev.ite_neg (by simp; omega) hj

theorem FnExactStringEnd : laws_FnExactStringEnd.Pure := by
  intro s i hs hi
  apply Ev.out
  unfold laws_FnExactStringEnd.f
  by_cases h : (s.size : Int) > 1048576
  · exact Ev.ite_pos h (Ev.done rfl)
  · refine Ev.ite_neg h ((spec_StringEnd.ev s hs i).bind ((impl_StringEnd.ev s hs i).bind ?_))
    exact Ev.ite_pos rfl (Ev.done rfl)


end Go.Proofs.Ythkhnkgckcdleaa.Pure
