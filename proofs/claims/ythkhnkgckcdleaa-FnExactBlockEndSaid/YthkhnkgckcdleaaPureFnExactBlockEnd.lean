/- For every string of at most 140737488351232 bytes and every int the program's BlockEnd and the reference's return the same place (strings above 2^20 bytes are not asked by the law). -/
import Derived.Test.YthkhnkgckcdleaaPFnExactBlockEndx1
import Derived.Test.YthkhnkgckcdleaaBase
namespace Go.Proofs.Ythkhnkgckcdleaa.Pure
open Go.RowKit Go.Proofs.Ythkhnkgckcdleaa.PFnExactBlockEnd Go.Proofs.YthkhnkgckcdleaaW.PrintWords Go.Proofs.YthkhnkgckcdleaaW.PrintLast Go.Proofs.Ythkhnkgckcdleaa.Base
set_option linter.unusedVariables false
set_option linter.unusedSimpArgs false

/-- Does a list begin with p. -/
def preB (p l : List Int) : Bool := l.take p.length == p
theorem preB_length {p l : List Int} (h : preB p l = true) : p.length ≤ l.length := by
  unfold preB at h; rw [beq_iff_eq] at h
  have := congrArg List.length h
  rw [List.length_take] at this; omega

theorem spec_l05Three.eq (s : ByteArray) (hs : s.size ≤ 140737488351232) (i : Int) (h0 : 0 ≤ i) (h1 : i ≤ (s.size : Int) + 8) : spec_l05Three.f s i = some (preB [34, 34, 34] (tl s i)) := by
  unfold spec_l05Three.f
  rw [w64 (x := i + 3) (by omega) (by omega)]
  by_cases h : i + 3 ≤ (s.size : Int)
  · rw [if_pos h, if_pos h0, if_pos (by omega), toList_beq_lit, bytes_extract]
    congr 1
    unfold preB tl
    rw [List.drop_take]
    have : (i + 3).toNat - i.toNat = 3 := by omega
    rw [this]; rfl
  · rw [if_neg h]
    cases hp : preB [34, 34, 34] (tl s i) with
    | false => rfl
    | true =>
      have := preB_length hp
      simp only [List.length_cons, List.length_nil] at this
      unfold tl at this; rw [List.length_drop, size_bytes] at this; omega

/-- Where a block ends, from place i on; k: bytes that are passed over. -/
def blkE : Nat → List Int → Int → Int
  | _, [], _ => -1
  | k + 1, _ :: r, i => blkE k r (i + 1)
  | 0, x :: r, i => if preB [92, 34, 34, 34] (x :: r) = true then blkE 3 r (i + 1) else if preB [34, 34, 34] (x :: r) = true then i + 3 else blkE 0 r (i + 1)
def blkEndL (s : ByteArray) (i : Int) : Int := if 0 ≤ i ∧ i < (s.size : Int) ∧ preB [34, 34, 34] (tl s i) = true then blkE 0 (tl s (i + 3)) (i + 3) else -1
theorem tl_length {s : ByteArray} {i : Int} (h0 : 0 ≤ i) : ((tl s i).length : Int) = max 0 ((s.size : Int) - i) := by
  unfold tl; rw [List.length_drop, size_bytes]; omega
theorem blkE_four {s : ByteArray} {i : Int} (h0 : 0 ≤ i) (h : preB [92, 34, 34, 34] (tl s i) = true) : i + 4 ≤ (s.size : Int) ∧ blkE 3 (tl s (i + 1)) (i + 1) = blkE 0 (tl s (i + 4)) (i + 4) := by
  have hl := preB_length h
  have ht := tl_length (s := s) h0
  simp only [List.length_cons, List.length_nil] at hl
  have h4 : i + 4 ≤ (s.size : Int) := by omega
  refine ⟨h4, ?_⟩
  have sk : ∀ (k : Nat) (x : Int) (r : List Int) (i : Int), blkE (k + 1) (x :: r) i = blkE k r (i + 1) := fun k x r i => by simp [blkE]
  have e : i + 1 + 1 + 1 + 1 = i + 4 := by omega
  rw [tl_cons (i := i + 1) (by omega) (by omega), sk 2, tl_cons (i := i + 1 + 1) (by omega) (by omega), sk 1, tl_cons (i := i + 1 + 1 + 1) (by omega) (by omega), sk 0, e]

theorem spec_BlockEnd.l0_ev (s : ByteArray) (hs : s.size ≤ 140737488351232) (n : Nat) : ∀ (i : Int), 0 ≤ i → i ≤ (s.size : Int) + 8 → (s.size : Int) - i ≤ n →
    Ev (fun k => spec_BlockEnd.l0 k s i) (blkE 0 (tl s i) i) := by
  induction n with
  | zero =>
    intro i h0 h2 hn
    apply Ev.succ; simp only [spec_BlockEnd.l0]
    rw [tl_nil (by omega)]
    exact Ev.ite_neg (by omega) (Ev.done (by simp [blkE]))
  | succ n ih =>
    intro i h0 h2 hn
    by_cases h1 : i < (s.size : Int)
    · have w1 : wrap64 (i + 1) = i + 1 := w64 (by omega) (by omega)
      have w3 : wrap64 (i + 3) = i + 3 := w64 (by omega) (by omega)
      have w4 : wrap64 (i + 3 + 1) = i + 4 := by rw [w64 (by omega) (by omega)]; omega
      have ih1 := ih (i + 1) (by omega) (by omega) (by omega)
      have hc := tl_cons h0 h1
      have hj : ∀ b, b = preB [92, 34, 34, 34] (tl s i) → Ev (fun k => spec_BlockEnd.j2 k s i b) (blkE 0 (tl s i) i) := by
        intro b hb
        apply Ev.succ; simp only [spec_BlockEnd.j2, w1, w3, w4, spec_l05Three.eq s hs i h0 (by omega), Option.bind_some]
        rw [hc]; unfold blkE; rw [← hc, ← hb]
        cases b with
        | true =>
          rw [if_pos rfl, (blkE_four h0 hb.symm).2]
          exact Ev.ite_pos rfl (ih (i + 4) (by omega) (by have := (blkE_four h0 hb.symm).1; omega) (by omega))
        | false =>
          rw [if_neg (by simp)]
          refine Ev.ite_neg (by simp) ?_
          by_cases hp : preB [34, 34, 34] (tl s i) = true
          · rw [if_pos hp]; exact Ev.ite_pos hp (Ev.done rfl)
          · rw [if_neg hp]; exact Ev.ite_neg hp ih1
      apply Ev.succ
      simp only [spec_BlockEnd.l0, h0, h1, if_true, w1, spec_l05Three.eq s hs (i + 1) (by omega) (by omega), Option.bind_some]
      have e4 : preB [92, 34, 34, 34] (tl s i) = (bt s i == 92 && preB [34, 34, 34] (tl s (i + 1))) := by
        rw [hc]; unfold preB; simp
      by_cases c : bt s i = 92
      · exact Ev.ite_pos c (hj _ (by rw [e4]; simp [c]))
      · exact Ev.ite_neg c (hj _ (by rw [e4]; simp [c]))
    · apply Ev.succ; simp only [spec_BlockEnd.l0]
      rw [tl_nil (by omega)]
      exact Ev.ite_neg (by omega) (Ev.done (by simp [blkE]))
theorem spec_BlockEnd.ev (s : ByteArray) (hs : s.size ≤ 140737488351232) (i : Int) : Ev (fun k => spec_BlockEnd.f k s i) (blkEndL s i) := by
  have hj : Ev (fun k => spec_BlockEnd.j0 k s i true) (-1) := by
    apply Ev.succ; simp only [spec_BlockEnd.j0, if_true]; exact Ev.done rfl
  unfold spec_BlockEnd.f blkEndL
  by_cases h0 : i < 0
  · rw [if_neg (by omega)]; exact Ev.ite_pos h0 hj
  · refine Ev.ite_neg h0 ?_
    by_cases h1 : i ≥ (s.size : Int)
    · rw [if_neg (by omega)]; exact Ev.ite_pos h1 hj
    · refine Ev.ite_neg h1 ?_
      simp only [spec_l05Three.eq s hs i (by omega) (by omega), Option.bind_some]
      by_cases h2 : preB [34, 34, 34] (tl s i) = true
      · rw [if_pos ⟨by omega, by omega, h2⟩, h2]
        have hl := preB_length h2
        have ht := tl_length (s := s) (i := i) (by omega)
        simp only [List.length_cons, List.length_nil] at hl
        apply Ev.succ; simp only [spec_BlockEnd.j0, w64 (x := i + 3) (by omega) (by omega)]
        exact Ev.ite_neg (by simp) (spec_BlockEnd.l0_ev s hs s.size _ (by omega) (by omega) (by omega))
      · rw [if_neg (fun h => h2 h.2.2)]
        have h3 := Bool.eq_false_iff.2 h2
        rw [h3]; exact hj

theorem impl_in.eq (x a b : Int) : impl_in.f x a b = some (decide (a ≤ x ∧ x ≤ b)) := by
  unfold impl_in.f
  by_cases h : x ≥ a
  · rw [if_pos h]; congr 1; rw [Bool.eq_iff_iff]; simp only [decide_eq_true_eq, Bool.or_eq_true, beq_iff_eq, Bool.false_eq_true, true_iff, false_iff]; omega
  · rw [if_neg h]; congr 1; rw [Bool.eq_iff_iff]; simp only [decide_eq_true_eq, Bool.or_eq_true, beq_iff_eq, Bool.false_eq_true, true_iff, false_iff]; omega

theorem stringslite_HasPrefix.eq (a b : ByteArray) : stringslite_HasPrefix.f a b = some (preB (bytesOf b) (bytesOf a)) := by
  have la := size_bytes a
  have lb := size_bytes b
  unfold stringslite_HasPrefix.f
  by_cases h : (a.size : Int) ≥ (b.size : Int)
  · rw [if_pos h, if_pos (by omega), if_pos (by omega), toList_beq, bytes_extract]
    unfold preB; simp [lb]
  · rw [if_neg h]
    cases hp : preB (bytesOf b) (bytesOf a) with
    | false => rfl
    | true => have := preB_length hp; omega

theorem strings_HasPrefix.eq (a b : ByteArray) : strings_HasPrefix.f a b = some (preB (bytesOf b) (bytesOf a)) := by
  unfold strings_HasPrefix.f; rw [stringslite_HasPrefix.eq]; rfl

theorem impl_BlockEnd.l0_ev (s : ByteArray) (hs : s.size ≤ 140737488351232) (n : Nat) : ∀ (i : Int), 0 ≤ i → i ≤ (s.size : Int) + 8 → (s.size : Int) - i ≤ n →
    Ev (fun k => impl_BlockEnd.l0 k s i) (blkE 0 (tl s i) i) := by
  induction n with
  | zero =>
    intro i h0 h2 hn
    apply Ev.succ; simp only [impl_BlockEnd.l0]
    rw [tl_nil (by omega)]
    exact Ev.ite_neg (by omega) (Ev.done (by simp [blkE]))
  | succ n ih =>
    intro i h0 h2 hn
    by_cases h1 : i < (s.size : Int)
    · have w1 : wrap64 (i + 1) = i + 1 := w64 (by omega) (by omega)
      have w3 : wrap64 (i + 3) = i + 3 := w64 (by omega) (by omega)
      have w4 : wrap64 (i + 4) = i + 4 := w64 (by omega) (by omega)
      have ih1 := ih (i + 1) (by omega) (by omega) (by omega)
      have hc := tl_cons h0 h1
      have b4 : bytesOf (⟨#[92, 34, 34, 34]⟩ : ByteArray) = [92, 34, 34, 34] := by decide
      have b3 : bytesOf (⟨#[34, 34, 34]⟩ : ByteArray) = [34, 34, 34] := by decide
      apply Ev.succ
      simp only [impl_BlockEnd.l0, h0, h1, if_true, strings_HasPrefix.eq, extract_tl, b4, b3, Option.bind_some, w1, w3, w4]
      refine Ev.ite_pos (by omega) ?_
      rw [hc]; unfold blkE; rw [← hc]
      by_cases c4 : preB [92, 34, 34, 34] (tl s i) = true
      · rw [if_pos c4, (blkE_four h0 c4).2]
        exact Ev.ite_pos c4 (ih (i + 4) (by omega) (by have := (blkE_four h0 c4).1; omega) (by omega))
      · rw [if_neg c4]
        refine Ev.ite_neg c4 ?_
        by_cases hp : preB [34, 34, 34] (tl s i) = true
        · rw [if_pos hp]; exact Ev.ite_pos hp (Ev.done rfl)
        · rw [if_neg hp]; exact Ev.ite_neg hp ih1
    · apply Ev.succ; simp only [impl_BlockEnd.l0]
      rw [tl_nil (by omega)]
      exact Ev.ite_neg (by omega) (Ev.done (by simp [blkE]))
theorem impl_BlockEnd.ev (s : ByteArray) (hs : s.size ≤ 140737488351232) (i : Int) : Ev (fun k => impl_BlockEnd.f k s i) (blkEndL s i) := by
  have hj : Ev (fun k => impl_BlockEnd.j0 k s i true) (-1) := by
    apply Ev.succ; simp only [impl_BlockEnd.j0, if_true]; exact Ev.done rfl
  have b3 : bytesOf (⟨#[34, 34, 34]⟩ : ByteArray) = [34, 34, 34] := by decide
  unfold impl_BlockEnd.f blkEndL
  simp only [impl_in.eq, Option.bind_some, w64 (x := (s.size : Int) - 1) (by omega) (by omega), strings_HasPrefix.eq, extract_tl, b3]
  by_cases h0 : 0 ≤ i ∧ i ≤ (s.size : Int) - 1
  · refine Ev.ite_pos (by simp; omega) (Ev.ite_pos (by omega) (Ev.ite_pos (by omega) ?_))
    by_cases h2 : preB [34, 34, 34] (tl s i) = true
    · rw [if_pos ⟨by omega, by omega, h2⟩, h2]
      have hl := preB_length h2
      have ht := tl_length (s := s) (i := i) (by omega)
      simp only [List.length_cons, List.length_nil] at hl
      apply Ev.succ; simp only [impl_BlockEnd.j0, w64 (x := i + 3) (by omega) (by omega)]
      exact Ev.ite_neg (by simp) (impl_BlockEnd.l0_ev s hs s.size _ (by omega) (by omega) (by omega))
    · rw [if_neg (fun h => h2 h.2.2)]
      have h3 := Bool.eq_false_iff.2 h2
      rw [h3]; exact hj
  · rw [if_neg (by omega)]
    exact Ev.ite_neg (by simp; omega) hj

theorem FnExactBlockEnd : laws_FnExactBlockEnd.Pure := by
  intro s i hs hi
  apply Ev.out
  unfold laws_FnExactBlockEnd.f
  by_cases h : (s.size : Int) > 1048576
  · exact Ev.ite_pos h (Ev.done rfl)
  · refine Ev.ite_neg h ((spec_BlockEnd.ev s hs i).bind ((impl_BlockEnd.ev s hs i).bind ?_))
    exact Ev.ite_pos rfl (Ev.done rfl)


end Go.Proofs.Ythkhnkgckcdleaa.Pure
