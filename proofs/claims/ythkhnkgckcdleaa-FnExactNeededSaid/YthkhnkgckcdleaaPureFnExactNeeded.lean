/- For every type (name and wraps) of strings within reach the program's Needed and the reference's answer alike. -/
import Derived.Test.YthkhnkgckcdleaaOFnExactNeededx1
import Derived.Test.YthkhnkgckcdleaaBase
namespace Go.Proofs.Ythkhnkgckcdleaa.Pure
open Go.RowKit Go.Proofs.Ythkhnkgckcdleaa.OFnExactNeeded Go.Proofs.YthkhnkgckcdleaaW.PrintWords Go.Proofs.YthkhnkgckcdleaaW.PrintLast Go.Proofs.YthkhnkgckcdleaaW.PrintMore Go.Proofs.Ythkhnkgckcdleaa.Base
set_option linter.unusedVariables false
set_option linter.unusedSimpArgs false

theorem laws_szType.eq (a b : ByteArray) (n : Int) (ha : a.size ≤ 9223372036854775807) (hb : b.size ≤ 9223372036854775807) (h0 : 0 ≤ n) (h1 : n ≤ 1048576) : ∃ r, laws_szType.f a b n = some r ∧ (r < 0 ∨ (r = n - a.size - b.size ∧ 0 ≤ r)) := by
  unfold laws_szType.f
  rw [w64 (x := n - (a.size : Int)) (by omega) (by omega)]
  by_cases c : n - (a.size : Int) < 0
  · rw [if_pos c]; exact ⟨-1, rfl, Or.inl (by omega)⟩
  · rw [if_neg c, w64 (x := n - (a.size : Int) - (b.size : Int)) (by omega) (by omega)]
    by_cases c2 : n - (a.size : Int) - (b.size : Int) < 0
    · rw [if_pos c2]; exact ⟨-1, rfl, Or.inl (by omega)⟩
    · rw [if_neg c2]; exact ⟨_, rfl, Or.inr ⟨rfl, by omega⟩⟩

/-- Does a list end with p. -/
def sufB (p l : List Int) : Bool := decide (p.length ≤ l.length) && (l.drop (l.length - p.length) == p)
theorem sufB_one (c : Int) (l : List Int) : sufB [c] l = (l.getLast? == some c) := by
  unfold sufB
  cases hl : l.reverse with
  | nil => have : l = [] := by simpa using hl
           subst this; simp
  | cons x r =>
    have : l = r.reverse ++ [x] := by have := congrArg List.reverse hl; simpa using this
    subst this
    simp

theorem last_bt (s : ByteArray) (h : 0 < s.size) : (bytesOf s).getLast? = some (bt s ((s.size : Int) - 1)) := by
  rw [List.getLast?_eq_getElem?, size_bytes, List.getElem?_eq_getElem (by rw [size_bytes]; omega), bytes_get s (s.size - 1) (by omega)]
  rw [show (((s.size - 1 : Nat) : Int)) = (s.size : Int) - 1 from by omega]
def needB (l : List Int) : Bool := l.getLast? == some 33

theorem spec_Needed.eq (a b : ByteArray) (hb : b.size ≤ 9223372036854775807) : spec_Needed.f a b = some (needB (bytesOf b)) := by
  unfold spec_Needed.f needB
  by_cases h : (b.size : Int) > 0
  · rw [if_pos h, w64 (x := (b.size : Int) - 1) (by omega) (by omega), if_pos (by omega), if_pos (by omega), last_bt b (by omega)]; simp
  · rw [if_neg h]
    have : bytesOf b = [] := List.length_eq_zero_iff.1 (by rw [size_bytes]; omega)
    rw [this]; rfl

theorem stringslite_HasSuffix.eq (a b : ByteArray) (ha : a.size ≤ 9223372036854775807) : stringslite_HasSuffix.f a b = some (sufB (bytesOf b) (bytesOf a)) := by
  have la := size_bytes a
  have lb := size_bytes b
  unfold stringslite_HasSuffix.f sufB
  by_cases h : (a.size : Int) ≥ (b.size : Int)
  · have hw : wrap64 ((a.size : Int) - (b.size : Int)) = (a.size : Int) - (b.size : Int) := w64 (by omega) (by omega)
    have e : decide ((bytesOf b).length ≤ (bytesOf a).length) = true := decide_eq_true (by omega)
    rw [if_pos h, hw, if_pos (by omega), if_pos (by omega), toList_beq, extract_tl, e, Bool.true_and, la, lb]
    unfold tl
    rw [show ((a.size : Int) - (b.size : Int)).toNat = a.size - b.size from by omega]
  · have e : decide ((bytesOf b).length ≤ (bytesOf a).length) = false := decide_eq_false (by omega)
    rw [if_neg h, e, Bool.false_and]

theorem strings_HasSuffix.eq (a b : ByteArray) (ha : a.size ≤ 9223372036854775807) : strings_HasSuffix.f a b = some (sufB (bytesOf b) (bytesOf a)) := by
  unfold strings_HasSuffix.f; rw [stringslite_HasSuffix.eq a b ha]; rfl

theorem impl_Needed.eq (a b : ByteArray) (hb : b.size ≤ 9223372036854775807) : impl_Needed.f a b = some (needB (bytesOf b)) := by
  unfold impl_Needed.f
  rw [strings_HasSuffix.eq _ _ hb]
  have : bytesOf (⟨#[33]⟩ : ByteArray) = [33] := by decide
  rw [this, sufB_one]; rfl

theorem FnExactNeeded (a b : ByteArray) (ha : a.size ≤ maxLen) (hb : b.size ≤ maxLen) : laws_FnExactNeeded.f a b = some true := by
  unfold maxLen at ha hb
  unfold laws_FnExactNeeded.f
  obtain ⟨r, hr, hc⟩ := laws_szType.eq a b 1048576 ha hb (by omega) (by omega)
  rw [hr]; simp only [Option.bind_some]
  by_cases h : r < 0
  · rw [if_pos h]
  · rw [if_neg h]
    simp only [laws_toType.f, Option.bind_some, spec_Needed.eq _ _ hb, impl_Needed.eq _ _ hb]
    simp


end Go.Proofs.Ythkhnkgckcdleaa.Pure
