/- For every int the program's RuneText and the reference's return the same text. -/
import Derived.Test.YtlcjpfbnegjieaaOFnExactRuneTextx1
import Derived.Test.YtlcjpfbnegjieaaBase
namespace Go.Proofs.Ytlcjpfbnegjieaa.Pure
open Go.RowKit Go.Proofs.Ytlcjpfbnegjieaa.OFnExactRuneText Go.Proofs.YtlcjpfbnegjieaaW.PrintWords Go.Proofs.YtlcjpfbnegjieaaW.PrintLast Go.Proofs.YtlcjpfbnegjieaaW.PrintMore Go.Proofs.Ytlcjpfbnegjieaa.Base
set_option linter.unusedVariables false
set_option linter.unusedSimpArgs false

theorem spec_l01In.eq (x a b : Int) : spec_l01In.f x a b = some (decide (a ≤ x ∧ x ≤ b)) := by
  unfold spec_l01In.f
  by_cases h : x ≥ a
  · rw [if_pos h]; congr 1; rw [Bool.eq_iff_iff]; simp only [decide_eq_true_eq]; omega
  · rw [if_neg h]; congr 1; rw [Bool.eq_iff_iff]; simp only [decide_eq_true_eq, Bool.false_eq_true, false_iff]; omega

/-- The bytes of a scalar. -/
def runeL (n : Int) : List Int :=
  if n < 128 then [n] else if n < 2048 then [192 + n / 64, 128 + n % 64]
  else if n < 65536 then [224 + n / 4096, 128 + n / 64 % 64, 128 + n % 64]
  else [240 + n / 262144, 128 + n / 4096 % 64, 128 + n / 64 % 64, 128 + n % 64]
def scalB (n : Int) : Bool := decide (0 ≤ n ∧ n ≤ 1114111) && !decide (55296 ≤ n ∧ n ≤ 57343)
def runeTextL (n : Int) : ByteArray := if scalB n = true then strOfNums (runeL n) else (⟨#[]⟩ : ByteArray)
theorem or_low (h : Nat) (hh : h = 192 ∨ h = 224 ∨ h = 240 ∨ h = 128) (b m : Nat) (hb : b < m) (hm : m = if h = 192 then 32 else if h = 224 then 16 else if h = 240 then 8 else 64) : Go.bits .or .u8 (h : Int) (b : Int) = (h : Int) + b := by
  have t : (∀ b : Fin 32, Go.bits .or .u8 ((192 : Nat) : Int) (b.val : Int) = ((192 : Nat) : Int) + b.val) ∧ (∀ b : Fin 16, Go.bits .or .u8 ((224 : Nat) : Int) (b.val : Int) = ((224 : Nat) : Int) + b.val) ∧ (∀ b : Fin 8, Go.bits .or .u8 ((240 : Nat) : Int) (b.val : Int) = ((240 : Nat) : Int) + b.val) ∧ (∀ b : Fin 64, Go.bits .or .u8 ((128 : Nat) : Int) (b.val : Int) = ((128 : Nat) : Int) + b.val) := by decide +kernel
  obtain ⟨t1, t2, t3, t4⟩ := t
  rcases hh with rfl | rfl | rfl | rfl
  · exact t1 ⟨b, by simp at hm; omega⟩
  · exact t2 ⟨b, by simp at hm; omega⟩
  · exact t3 ⟨b, by simp at hm; omega⟩
  · exact t4 ⟨b, by simp at hm; omega⟩
theorem or192 {x : Int} (h0 : 0 ≤ x) (h1 : x < 32) : Go.bits .or .u8 192 x = 192 + x := by
  have := or_low 192 (by simp) x.toNat 32 (by omega) (by simp)
  rw [show ((x.toNat : Nat) : Int) = x from by omega] at this; exact this
theorem or224 {x : Int} (h0 : 0 ≤ x) (h1 : x < 16) : Go.bits .or .u8 224 x = 224 + x := by
  have := or_low 224 (by simp) x.toNat 16 (by omega) (by simp)
  rw [show ((x.toNat : Nat) : Int) = x from by omega] at this; exact this
theorem or240 {x : Int} (h0 : 0 ≤ x) (h1 : x < 8) : Go.bits .or .u8 240 x = 240 + x := by
  have := or_low 240 (by simp) x.toNat 8 (by omega) (by simp)
  rw [show ((x.toNat : Nat) : Int) = x from by omega] at this; exact this
theorem or128 {x : Int} (h0 : 0 ≤ x) (h1 : x < 64) : Go.bits .or .u8 128 x = 128 + x := by
  have := or_low 128 (by simp) x.toNat 64 (by omega) (by simp)
  rw [show ((x.toNat : Nat) : Int) = x from by omega] at this; exact this
theorem and63T : ∀ n : Fin 256, Go.bits .and .u8 (n.val : Int) 63 = (n.val : Int) % 64 := by decide +kernel
theorem and63 {x : Int} : Go.bits .and .u8 (x % 256) 63 = x % 64 := by
  have := and63T ⟨(x % 256).toNat, by omega⟩
  simp only at this
  rw [show (((x % 256).toNat : Nat) : Int) = x % 256 from by omega] at this; rw [this]; omega

theorem spec_l02Scalar.eq (x : Int) : spec_l02Scalar.f x = some (scalB x) := by
  unfold spec_l02Scalar.f scalB
  simp only [spec_l01In.eq, Option.bind_some]
  cases decide (0 ≤ x ∧ x ≤ 1114111) <;> simp

theorem spec_RuneText.eq (n : Int) : spec_RuneText.f n = some (runeTextL n) := by
  unfold spec_RuneText.f runeTextL
  rw [spec_l02Scalar.eq]; simp only [Option.bind_some]
  cases hs : scalB n with
  | false => rfl
  | true =>
    have hr : 0 ≤ n ∧ n ≤ 1114111 := by unfold scalB at hs; simp only [Bool.and_eq_true, decide_eq_true_eq] at hs; exact hs.1
    have d1 : ∀ m : Int, 0 < m → Int.tdiv n m = n / m := fun m _ => Int.tdiv_eq_ediv_of_nonneg hr.1
    have d2 : ∀ a m : Int, 0 ≤ a → Int.tmod a m = a % m := fun a m h => Int.tmod_eq_emod_of_nonneg h
    rw [if_pos rfl, if_pos rfl]
    unfold runeL
    rw [d1 64 (by omega), d1 4096 (by omega), d1 262144 (by omega), d2 n 64 hr.1, w64 (x := n / 64) (by omega) (by omega), w64 (x := n / 4096) (by omega) (by omega), w64 (x := n / 262144) (by omega) (by omega), d2 (n / 64) 64 (by omega), d2 (n / 4096) 64 (by omega)]
    rw [w64 (x := 192 + n / 64) (by omega) (by omega), w64 (x := 128 + n % 64) (by omega) (by omega), w64 (x := 224 + n / 4096) (by omega) (by omega), w64 (x := 128 + n / 64 % 64) (by omega) (by omega), w64 (x := 240 + n / 262144) (by omega) (by omega), w64 (x := 128 + n / 4096 % 64) (by omega) (by omega)]
    by_cases c1 : n < 128
    · rw [if_pos c1, if_pos c1]; congr 2; simp; omega
    · rw [if_neg c1, if_neg c1]
      by_cases c2 : n < 2048
      · rw [if_pos c2, if_pos c2]; congr 2; simp; omega
      · rw [if_neg c2, if_neg c2]
        by_cases c3 : n < 65536
        · rw [if_pos c3, if_pos c3]; congr 2; simp; omega
        · rw [if_neg c3, if_neg c3]; congr 2; simp; omega

theorem impl_in.eq (x a b : Int) : impl_in.f x a b = some (decide (a ≤ x ∧ x ≤ b)) := by
  unfold impl_in.f
  by_cases h : x ≥ a
  · rw [if_pos h]; congr 1; rw [Bool.eq_iff_iff]; simp only [decide_eq_true_eq, Bool.or_eq_true, beq_iff_eq, Bool.false_eq_true, true_iff, false_iff]; omega
  · rw [if_neg h]; congr 1; rw [Bool.eq_iff_iff]; simp only [decide_eq_true_eq, Bool.or_eq_true, beq_iff_eq, Bool.false_eq_true, true_iff, false_iff]; omega

theorem impl_isScalar.eq (x : Int) : impl_isScalar.f x = some (scalB x) := by
  unfold impl_isScalar.f scalB
  simp only [impl_in.eq, Option.bind_some]
  cases decide (0 ≤ x ∧ x ≤ 1114111) <;> simp

theorem utf8_appendRuneNonASCII.ev (l : List Int) (hl : l.length ≤ 1000000) (n : Int) (h0 : 128 ≤ n) (h1 : scalB n = true) : Ev (fun k => utf8_appendRuneNonASCII.f k l n) (l ++ runeL n) := by
  unfold scalB at h1
  simp only [Bool.and_eq_true, decide_eq_true_eq, Bool.not_eq_true', decide_eq_false_iff_not] at h1
  have m : n % 4294967296 = n := by omega
  unfold utf8_appendRuneNonASCII.f runeL
  rw [m, if_neg (by omega)]
  by_cases c2 : n ≤ 2047
  · rw [if_pos (by omega)]
    refine Ev.ite_pos c2 ?_
    rw [show n / 64 % 256 = n / 64 from by omega, or192 (by omega) (by omega)]
    exact Ev.ite_pos (by simp; omega) (Ev.done rfl)
  · rw [if_neg (by omega)]
    refine Ev.ite_neg c2 ?_
    have hj : ∀ b, b = decide (n ≤ 65535) → Ev (fun k => utf8_appendRuneNonASCII.j0 k l n n b) (l ++ if n < 65536 then [224 + n / 4096, 128 + n / 64 % 64, 128 + n % 64] else [240 + n / 262144, 128 + n / 4096 % 64, 128 + n / 64 % 64, 128 + n % 64]) := by
      rintro b rfl
      apply Ev.succ; simp only [utf8_appendRuneNonASCII.j0]
      by_cases c3 : n < 65536
      · rw [if_pos c3]
        refine Ev.ite_pos (by simp; omega) ?_
        rw [show n / 4096 % 256 = n / 4096 from by omega, or224 (by omega) (by omega)]
        exact Ev.ite_pos (by simp; omega) (Ev.done rfl)
      · rw [if_neg c3]
        refine Ev.ite_neg (by simp; omega) (Ev.ite_pos (by omega) (Ev.ite_pos (by omega) ?_))
        rw [show n / 262144 % 256 = n / 262144 from by omega, or240 (by omega) (by omega)]
        exact Ev.ite_pos (by simp; omega) (Ev.done rfl)
    by_cases c3 : n < 55296
    · exact Ev.ite_pos c3 (hj _ (by rw [Bool.eq_iff_iff]; simp; omega))
    · exact Ev.ite_neg c3 (Ev.ite_pos (by omega) (hj _ rfl))

theorem utf8_AppendRune.ev (l : List Int) (hl : l.length ≤ 1000000) (n : Int) (h1 : scalB n = true) : Ev (fun k => utf8_AppendRune.f k l n) (l ++ runeL n) := by
  have h2 := h1
  unfold scalB at h2
  simp only [Bool.and_eq_true, decide_eq_true_eq, Bool.not_eq_true', decide_eq_false_iff_not] at h2
  unfold utf8_AppendRune.f
  by_cases c : n < 128
  · refine Ev.ite_pos (by omega) (Ev.ite_pos (by omega) (Ev.done ?_))
    unfold runeL; rw [if_pos c, show n % 256 = n from by omega]
  · exact Ev.ite_neg (by omega) ((utf8_appendRuneNonASCII.ev l hl n (by omega) h1).bind (Ev.done rfl))

theorem impl_RuneText.ev (n : Int) : Ev (fun k => impl_RuneText.f k n) (runeTextL n) := by
  unfold impl_RuneText.f runeTextL
  refine Ev.bindc (impl_isScalar.eq n) ?_
  cases hs : scalB n with
  | false => exact Ev.ite_neg (by simp) (Ev.done rfl)
  | true =>
    have h2 := hs
    unfold scalB at h2
    simp only [Bool.and_eq_true, decide_eq_true_eq] at h2
    have w : wrap32 n = n := by unfold wrap32; omega
    rw [w]
    exact Ev.ite_pos rfl ((utf8_AppendRune.ev [] (by simp) n hs).bind (Ev.done (by simp)))

theorem FnExactRuneText : laws_FnExactRuneText.Pure := by
  intro n hn
  apply Ev.out
  unfold laws_FnExactRuneText.f
  exact Ev.bindc (spec_RuneText.eq n) ((impl_RuneText.ev n).bind (Ev.ite_pos rfl (Ev.done rfl)))


end Go.Proofs.Ytlcjpfbnegjieaa.Pure
