/- For every string of at most 140737488351232 bytes the program's Hex and the reference's return the same text and the same bool (strings above 2^20 bytes are not asked by the law). -/
import Derived.Test.YthkhnkgckcdleaaPFnExactHexx1
import Derived.Test.YthkhnkgckcdleaaBase
namespace Go.Proofs.Ythkhnkgckcdleaa.Pure
open Go.RowKit Go.Proofs.Ythkhnkgckcdleaa.PFnExactHex Go.Proofs.YthkhnkgckcdleaaW.PrintWords Go.Proofs.YthkhnkgckcdleaaW.PrintLast Go.Proofs.YthkhnkgckcdleaaW.PrintMore Go.Proofs.Ythkhnkgckcdleaa.Base
set_option linter.unusedVariables false
set_option linter.unusedSimpArgs false

def hexD (n : Int) : Int := if n < 10 then 48 + n else 87 + n
def hexL : List Int → List Int
  | [] => []
  | x :: r => hexD (x / 16) :: hexD (x % 16) :: hexL r
theorem hexL_length (l : List Int) : (hexL l).length = 2 * l.length := by
  induction l with
  | nil => rfl
  | cons x r ih => simp [hexL, ih]; omega
theorem hexD_range {n : Int} (h0 : 0 ≤ n) (h1 : n < 16) : 0 ≤ hexD n ∧ hexD n ≤ 255 := by unfold hexD; split <;> omega
theorem hexTab : ∀ n : Fin 16, bt (⟨#[48, 49, 50, 51, 52, 53, 54, 55, 56, 57, 97, 98, 99, 100, 101, 102]⟩ : ByteArray) (n.val : Int) = hexD (n.val : Int) := by decide +kernel
theorem hexTab_at {x : Int} (h0 : 0 ≤ x) (h1 : x < 16) : bt (⟨#[48, 49, 50, 51, 52, 53, 54, 55, 56, 57, 97, 98, 99, 100, 101, 102]⟩ : ByteArray) x = hexD x := by
  have := hexTab ⟨x.toNat, by omega⟩
  simp only at this
  rw [show ((x.toNat : Nat) : Int) = x from by omega] at this; exact this
theorem and15 : ∀ n : Fin 256, Go.bits .and .u8 (n.val : Int) 15 = (n.val : Int) % 16 := by decide +kernel
theorem and15_at {x : Int} (h0 : 0 ≤ x) (h1 : x ≤ 255) : Go.bits .and .u8 x 15 = x % 16 := by
  have := and15 ⟨x.toNat, by omega⟩
  simp only at this
  rw [show ((x.toNat : Nat) : Int) = x from by omega] at this; exact this

theorem spec_l01Figure.eq (x : Int) (h0 : 0 ≤ x) (h1 : x < 16) : spec_l01Figure.f x = some (hexD x) := by
  unfold spec_l01Figure.f hexD
  by_cases h : x < 10
  · rw [if_pos h, if_pos h, w64 (by omega) (by omega)]; congr 1; omega
  · rw [if_neg h, if_neg h, w64 (x := 97 + x) (by omega) (by omega), w64 (by omega) (by omega)]; congr 1; omega

theorem spec_Hex.l0_ev (s : ByteArray) (hs : s.size ≤ 20000) (n : Nat) : ∀ (acc : List Int) (i : Int), 0 ≤ i → (s.size : Int) - i = n → acc.length = 2 * i →
    Ev (fun k => spec_Hex.l0 k s acc i) (strOfNums (acc ++ hexL (tl s i)), true) := by
  induction n with
  | zero =>
    intro acc i h0 hn ha
    apply Ev.succ; simp only [spec_Hex.l0]
    rw [tl_nil (by omega)]
    exact Ev.ite_neg (by omega) (Ev.done (by simp [hexL]))
  | succ n ih =>
    intro acc i h0 hn ha
    have h1 : i < (s.size : Int) := by omega
    have hb := bt_range s i
    have w1 : wrap64 (bt s i) = bt s i := w64 (by omega) (by omega)
    have d1 : Int.tdiv (bt s i) 16 = bt s i / 16 := Int.tdiv_eq_ediv_of_nonneg hb.1
    have d2 : Int.tmod (bt s i) 16 = bt s i % 16 := Int.tmod_eq_emod_of_nonneg hb.1
    apply Ev.succ
    simp only [spec_Hex.l0, h0, h1, if_true, w1, d1, d2, w64 (x := bt s i / 16) (by omega) (by omega), spec_l01Figure.eq (bt s i / 16) (by omega) (by omega), spec_l01Figure.eq (bt s i % 16) (by omega) (by omega), Option.bind_some, w64 (x := i + 1) (by omega) (by omega)]
    refine Ev.ite_pos (by simp; omega) ?_
    refine (ih (acc ++ [hexD (bt s i / 16), hexD (bt s i % 16)]) (i + 1) (by omega) (by omega) (by simp; omega)).get ?_
    rw [tl_cons h0 h1]; simp [hexL]
theorem spec_Hex.ev (s : ByteArray) : Ev (fun k => spec_Hex.f k s) (if s.size > 20000 then ((⟨#[]⟩ : ByteArray), false) else (strOfNums (hexL (bytesOf s)), true)) := by
  unfold spec_Hex.f
  by_cases h : s.size > 20000
  · rw [if_pos h]; exact Ev.ite_pos (by omega) (Ev.done rfl)
  · rw [if_neg h]
    refine Ev.ite_neg (by omega) ((spec_Hex.l0_ev s (by omega) s.size [] 0 (by omega) (by omega) (by simp)).get ?_)
    rw [tl_zero]; simp

theorem impl_Hex.l0_ev (s : ByteArray) (hs : s.size ≤ 20000) (n : Nat) : ∀ (acc : List Int) (i : Int), 0 ≤ i → (s.size : Int) - i = n → acc.length = 2 * i →
    Ev (fun k => impl_Hex.l0 k s acc (s.size : Int) i) (strOfNums (acc ++ hexL (tl s i)), true) := by
  induction n with
  | zero =>
    intro acc i h0 hn ha
    apply Ev.succ; simp only [impl_Hex.l0]
    rw [tl_nil (by omega)]
    exact Ev.ite_neg (by omega) (Ev.done (by simp [hexL]))
  | succ n ih =>
    intro acc i h0 hn ha
    have h1 : i < (s.size : Int) := by omega
    have hb := bt_range s i
    have g1 : 0 ≤ bt s i / 16 := by omega
    have g2 : bt s i / 16 < 16 := by omega
    have g3 : 0 ≤ bt s i % 16 := by omega
    have g4 : bt s i % 16 < 16 := by omega
    apply Ev.succ
    simp only [impl_Hex.l0, and15_at hb.1 hb.2, h0, h1, g1, g2, g3, g4, if_true, hexTab_at g1 g2, hexTab_at g3 g4, Option.bind_some, w64 (x := i + 1) (by omega) (by omega)]
    refine Ev.ite_pos (by simp; omega) ?_
    refine (ih (acc ++ [hexD (bt s i / 16), hexD (bt s i % 16)]) (i + 1) (by omega) (by omega) (by simp; omega)).get ?_
    rw [tl_cons h0 h1]; simp [hexL]
theorem impl_Hex.ev (s : ByteArray) : Ev (fun k => impl_Hex.f k s) (if s.size > 20000 then ((⟨#[]⟩ : ByteArray), false) else (strOfNums (hexL (bytesOf s)), true)) := by
  unfold impl_Hex.f
  by_cases h : s.size > 20000
  · rw [if_pos h]; exact Ev.ite_pos (by omega) (Ev.done rfl)
  · rw [if_neg h]
    refine Ev.ite_neg (by omega) ((impl_Hex.l0_ev s (by omega) s.size [] 0 (by omega) (by omega) (by simp)).get ?_)
    rw [tl_zero]; simp

theorem FnExactHex : laws_FnExactHex.Pure := by
  intro s hs
  apply Ev.out
  unfold laws_FnExactHex.f
  by_cases h : (s.size : Int) > 1048576
  · exact Ev.ite_pos h (Ev.done rfl)
  · refine Ev.ite_neg h ((spec_Hex.ev s).bind ((impl_Hex.ev s).bind ?_))
    exact Ev.ite_pos rfl (Ev.ite_neg (by simp) (Ev.done rfl))


end Go.Proofs.Ythkhnkgckcdleaa.Pure
