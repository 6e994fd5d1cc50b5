/- For every type (name and wraps) of strings within reach the program's Inner and the reference's return the same type. -/
import Derived.Test.YthkhnkgckcdleaaOFnExactInnerx1
import Derived.Test.YthkhnkgckcdleaaBase
namespace Go.Proofs.Ythkhnkgckcdleaa.Pure
open Go.RowKit Go.Proofs.Ythkhnkgckcdleaa.OFnExactInner Go.Proofs.YthkhnkgckcdleaaW.PrintWords Go.Proofs.YthkhnkgckcdleaaW.PrintLast Go.Proofs.YthkhnkgckcdleaaW.PrintMore Go.Proofs.Ythkhnkgckcdleaa.Base
set_option linter.unusedVariables false
set_option linter.unusedSimpArgs false

theorem laws_szType.eq (a b : ByteArray) (n : Int) (ha : a.size ≤ 9223372036854775807) (hb : b.size ≤ 9223372036854775807) (h0 : 0 ≤ n) (h1 : n ≤ 1048576) : ∃ r, laws_szType.f a b n = some r ∧ (r < 0 ∨ (r = n - a.size - b.size ∧ 0 ≤ r)) := by
  unfold laws_szType.f
  rw [w64 (x := n - (a.size : Int)) (by omega) (by omega)]
  by_cases c : n - (a.size : Int) < 0
  · rw [if_pos c]; exact ⟨-1, rfl, Or.inl (by omega)⟩
  · rw [if_neg c, w64 (x := n - (a.size : Int) - (b.size : Int)) (by omega) (by omega)]
    by_cases c2 : n - (a.size : Int) - (b.size : Int) < 0
    · rw [if_pos c2]; exact ⟨-1, rfl, Or.inl (by omega)⟩
    · rw [if_neg c2]; exact ⟨_, rfl, Or.inr ⟨rfl, by omega⟩⟩

theorem laws_eqType.refl (a b : ByteArray) : laws_eqType.f a b a b = some true := by
  unfold laws_eqType.f; rw [if_pos rfl, if_pos rfl]

/-- Does a list end with p. -/
def sufB (p l : List Int) : Bool := decide (p.length ≤ l.length) && (l.drop (l.length - p.length) == p)
theorem sufB_one (c : Int) (l : List Int) : sufB [c] l = (l.getLast? == some c) := by
  unfold sufB
  cases hl : l.reverse with
  | nil => have : l = [] := by simpa using hl
           subst this; simp
  | cons x r =>
    have : l = r.reverse ++ [x] := by have := congrArg List.reverse hl; simpa using this
    subst this
    simp

theorem last_bt (s : ByteArray) (h : 0 < s.size) : (bytesOf s).getLast? = some (bt s ((s.size : Int) - 1)) := by
  rw [List.getLast?_eq_getElem?, size_bytes, List.getElem?_eq_getElem (by rw [size_bytes]; omega), bytes_get s (s.size - 1) (by omega)]
  rw [show (((s.size - 1 : Nat) : Int)) = (s.size : Int) - 1 from by omega]
def needB (l : List Int) : Bool := l.getLast? == some 33

theorem spec_Needed.eq (a b : ByteArray) (hb : b.size ≤ 9223372036854775807) : spec_Needed.f a b = some (needB (bytesOf b)) := by
  unfold spec_Needed.f needB
  by_cases h : (b.size : Int) > 0
  · rw [if_pos h, w64 (x := (b.size : Int) - 1) (by omega) (by omega), if_pos (by omega), if_pos (by omega), last_bt b (by omega)]; simp
  · rw [if_neg h]
    have : bytesOf b = [] := List.length_eq_zero_iff.1 (by rw [size_bytes]; omega)
    rw [this]; rfl

def fewerS (b : ByteArray) : ByteArray := if needB (bytesOf b) = true then b.extract 0 (b.size - 1) else b

theorem spec_Fewer.eq (a b : ByteArray) (hb : b.size ≤ 9223372036854775807) : spec_Fewer.f a b = some (a, fewerS b) := by
  unfold spec_Fewer.f fewerS
  rw [spec_Needed.eq a b hb]; simp only [Option.bind_some]
  by_cases h : needB (bytesOf b) = true
  · have hp : 0 < b.size := by
      rcases Nat.eq_zero_or_pos b.size with h0 | h0
      · have : bytesOf b = [] := List.length_eq_zero_iff.1 (by rw [size_bytes]; exact h0)
        rw [this] at h; simp [needB] at h
      · exact h0
    rw [if_pos h, if_pos h, w64 (x := (b.size : Int) - 1) (by omega) (by omega), if_pos (by omega), if_pos (by omega)]
    rw [show ((b.size : Int) - 1).toNat = b.size - 1 from by omega]
  · rw [if_neg h, if_neg h]

def innerS (b : ByteArray) : ByteArray := if (bytesOf (fewerS b)).getLast? = some 93 then (fewerS b).extract 0 ((fewerS b).size - 1) else (⟨#[]⟩ : ByteArray)
theorem fewerS_le (b : ByteArray) : (fewerS b).size ≤ b.size := by
  unfold fewerS; split
  · rw [size_extract]; omega
  · exact Nat.le_refl _

theorem spec_Inner.eq (a b : ByteArray) (hb : b.size ≤ 9223372036854775807) : spec_Inner.f a b = some (a, innerS b) := by
  have hl := fewerS_le b
  unfold spec_Inner.f innerS
  rw [spec_Fewer.eq a b hb]; simp only [Option.bind_some]
  generalize fewerS b = c at hl ⊢
  by_cases h : (c.size : Int) > 0
  · have hw : wrap64 ((c.size : Int) - 1) = (c.size : Int) - 1 := w64 (by omega) (by omega)
    rw [hw, last_bt c (by omega), if_pos h, if_pos (by omega), if_pos (by omega)]
    by_cases h2 : bt c ((c.size : Int) - 1) = 93
    · rw [if_pos h2, if_pos (by omega), if_pos (by rw [h2]), show ((c.size : Int) - 1).toNat = c.size - 1 from by omega]
    · rw [if_neg h2, if_neg (by simpa using h2)]
  · rw [if_neg h]
    have : bytesOf c = [] := List.length_eq_zero_iff.1 (by rw [size_bytes]; omega)
    rw [this, if_neg (by simp)]

theorem stringslite_HasSuffix.eq (a b : ByteArray) (ha : a.size ≤ 9223372036854775807) : stringslite_HasSuffix.f a b = some (sufB (bytesOf b) (bytesOf a)) := by
  have la := size_bytes a
  have lb := size_bytes b
  unfold stringslite_HasSuffix.f sufB
  by_cases h : (a.size : Int) ≥ (b.size : Int)
  · have hw : wrap64 ((a.size : Int) - (b.size : Int)) = (a.size : Int) - (b.size : Int) := w64 (by omega) (by omega)
    have e : decide ((bytesOf b).length ≤ (bytesOf a).length) = true := decide_eq_true (by omega)
    rw [if_pos h, hw, if_pos (by omega), if_pos (by omega), toList_beq, extract_tl, e, Bool.true_and, la, lb]
    unfold tl
    rw [show ((a.size : Int) - (b.size : Int)).toNat = a.size - b.size from by omega]
  · have e : decide ((bytesOf b).length ≤ (bytesOf a).length) = false := decide_eq_false (by omega)
    rw [if_neg h, e, Bool.false_and]

theorem stringslite_TrimSuffix.eq (a b : ByteArray) (ha : a.size ≤ 9223372036854775807) : ∃ r, stringslite_TrimSuffix.f a b = some r ∧ r = if sufB (bytesOf b) (bytesOf a) = true then a.extract 0 (a.size - b.size) else a := by
  unfold stringslite_TrimSuffix.f
  rw [stringslite_HasSuffix.eq a b ha]; simp only [Option.bind_some]
  by_cases h : sufB (bytesOf b) (bytesOf a) = true
  · have hl : b.size ≤ a.size := by
      have h2 := h
      unfold sufB at h2; simp only [Bool.and_eq_true, decide_eq_true_eq, size_bytes] at h2; exact h2.1
    rw [if_pos h, w64 (x := (a.size : Int) - (b.size : Int)) (by omega) (by omega), if_pos (by omega), if_pos (by omega), if_pos h]
    refine ⟨_, rfl, ?_⟩
    rw [show ((a.size : Int) - (b.size : Int)).toNat = a.size - b.size from by omega]
  · rw [if_neg h, if_neg h]; exact ⟨_, rfl, rfl⟩

theorem strings_TrimSuffix.eq (a b : ByteArray) (ha : a.size ≤ 9223372036854775807) : ∃ r, strings_TrimSuffix.f a b = some r ∧ r = if sufB (bytesOf b) (bytesOf a) = true then a.extract 0 (a.size - b.size) else a := by
  obtain ⟨r, h, e⟩ := stringslite_TrimSuffix.eq a b ha
  exact ⟨r, by unfold strings_TrimSuffix.f; rw [h]; rfl, e⟩

theorem impl_Fewer.eq (a b : ByteArray) (hb : b.size ≤ 9223372036854775807) : impl_Fewer.f a b = some (a, fewerS b) := by
  unfold impl_Fewer.f fewerS
  obtain ⟨r, hr, he⟩ := strings_TrimSuffix.eq b (⟨#[33]⟩ : ByteArray) hb
  have b1 : bytesOf (⟨#[33]⟩ : ByteArray) = [33] := by decide
  rw [b1, sufB_one] at he
  rw [hr]; simp only [Option.bind_some]
  rw [he]; rfl

theorem stringslite_CutSuffix.eq (a b : ByteArray) (ha : a.size ≤ 9223372036854775807) : stringslite_CutSuffix.f a b = some (if sufB (bytesOf b) (bytesOf a) = true then (a.extract 0 (a.size - b.size), true) else (a, false)) := by
  unfold stringslite_CutSuffix.f
  rw [stringslite_HasSuffix.eq a b ha]; simp only [Option.bind_some]
  by_cases h : sufB (bytesOf b) (bytesOf a) = true
  · have hl : b.size ≤ a.size := by
      have h2 := h
      unfold sufB at h2; simp only [Bool.and_eq_true, decide_eq_true_eq, size_bytes] at h2; exact h2.1
    rw [if_pos h, w64 (x := (a.size : Int) - (b.size : Int)) (by omega) (by omega), if_pos (by omega), if_pos (by omega), if_pos h, show ((a.size : Int) - (b.size : Int)).toNat = a.size - b.size from by omega]
  · rw [if_neg h, if_neg h]

theorem strings_CutSuffix.eq (a b : ByteArray) (ha : a.size ≤ 9223372036854775807) : strings_CutSuffix.f a b = some (if sufB (bytesOf b) (bytesOf a) = true then (a.extract 0 (a.size - b.size), true) else (a, false)) := by
  unfold strings_CutSuffix.f; rw [stringslite_CutSuffix.eq a b ha]; rfl

theorem impl_Inner.eq (a b : ByteArray) (hb : b.size ≤ 9223372036854775807) : impl_Inner.f a b = some (a, innerS b) := by
  have hl := fewerS_le b
  unfold impl_Inner.f innerS
  rw [impl_Fewer.eq a b hb]; simp only [Option.bind_some]
  generalize fewerS b = c at hl ⊢
  have b1 : bytesOf (⟨#[93]⟩ : ByteArray) = [93] := by decide
  have b2 : (⟨#[93]⟩ : ByteArray).size = 1 := rfl
  rw [strings_CutSuffix.eq _ _ (by omega), b1, sufB_one, b2]; simp only [Option.bind_some]
  by_cases h : (bytesOf c).getLast? = some 93
  · have e : ((bytesOf c).getLast? == some 93) = true := by rw [h]; rfl
    simp only [e, if_true, if_pos h]
  · have e : ((bytesOf c).getLast? == some 93) = false := by simpa using h
    simp only [e, Bool.false_eq_true, if_false, if_neg h]

theorem FnExactInner (a b : ByteArray) (ha : a.size ≤ maxLen) (hb : b.size ≤ maxLen) : laws_FnExactInner.f a b = some true := by
  unfold maxLen at ha hb
  unfold laws_FnExactInner.f
  obtain ⟨r, hr, hc⟩ := laws_szType.eq a b 1048576 ha hb (by omega) (by omega)
  rw [hr]; simp only [Option.bind_some]
  by_cases h : r < 0
  · rw [if_pos h]
  · rw [if_neg h]
    simp only [laws_toType.f, Option.bind_some, spec_Inner.eq _ _ hb, impl_Inner.eq _ _ hb]
    rw [laws_eqType.refl]; simp


end Go.Proofs.Ythkhnkgckcdleaa.Pure
