/- For every string of at most 140737488351232 bytes the program's Unhex and the reference's return the same text and the same bool (strings above 2^20 bytes are not asked by the law). -/
import Derived.Test.YthkhnkgckcdleaaOFnExactUnhexx1
import Derived.Test.YthkhnkgckcdleaaBase
namespace Go.Proofs.Ythkhnkgckcdleaa.Pure
open Go.RowKit Go.Proofs.Ythkhnkgckcdleaa.OFnExactUnhex Go.Proofs.YthkhnkgckcdleaaW.PrintWords Go.Proofs.YthkhnkgckcdleaaW.PrintLast Go.Proofs.YthkhnkgckcdleaaW.PrintMore Go.Proofs.Ythkhnkgckcdleaa.Base
set_option linter.unusedVariables false
set_option linter.unusedSimpArgs false

def valD (x : Int) : Int := if 48 ≤ x ∧ x ≤ 57 then x - 48 else if 97 ≤ x ∧ x ≤ 102 then x - 87 else -1
def unhexL : List Int → Option (List Int)
  | a :: b :: r => if valD a < 0 then none else if valD b < 0 then none else (unhexL r).map fun m => (16 * valD a + valD b) :: m
  | _ => some []
theorem valD_range (x : Int) : -1 ≤ valD x ∧ valD x < 16 := by unfold valD; split; omega; split <;> omega
/-- What unhexing gives, behind what is there already. -/
def unhexR (acc : List Int) (l : List Int) : ByteArray × Bool := match unhexL l with
  | none => ((⟨#[]⟩ : ByteArray), false)
  | some m => (strOfNums (acc ++ m), true)
theorem unhexR_step (acc : List Int) (a b : Int) (r : List Int) (ha : 0 ≤ valD a) (hb : 0 ≤ valD b) : unhexR acc (a :: b :: r) = unhexR (acc ++ [16 * valD a + valD b]) r := by
  unfold unhexR; rw [unhexL, if_neg (by omega), if_neg (by omega)]
  cases unhexL r with
  | none => rfl
  | some m => simp
theorem unhexR_bad1 (acc : List Int) (a b : Int) (r : List Int) (ha : valD a < 0) : unhexR acc (a :: b :: r) = ((⟨#[]⟩ : ByteArray), false) := by
  unfold unhexR; rw [unhexL, if_pos ha]
theorem unhexR_bad2 (acc : List Int) (a b : Int) (r : List Int) (hb : valD b < 0) : unhexR acc (a :: b :: r) = ((⟨#[]⟩ : ByteArray), false) := by
  unfold unhexR; rw [unhexL]; by_cases h : valD a < 0
  · rw [if_pos h]
  · rw [if_neg h, if_pos hb]
theorem idxTab : ∀ n : Fin 256, Lib.indexByte [48, 49, 50, 51, 52, 53, 54, 55, 56, 57, 97, 98, 99, 100, 101, 102] (n.val : Int).toNat.toUInt8 = valD (n.val : Int) := by decide +kernel
theorem idxTab_at {x : Int} (h0 : 0 ≤ x) (h1 : x ≤ 255) : Lib.indexByte (⟨#[48, 49, 50, 51, 52, 53, 54, 55, 56, 57, 97, 98, 99, 100, 101, 102]⟩ : ByteArray).data.toList x.toNat.toUInt8 = valD x := by
  have := idxTab ⟨x.toNat, by omega⟩
  simp only at this
  rw [show ((x.toNat : Nat) : Int) = x from by omega] at this; exact this
theorem orTab : ∀ a : Fin 16, ∀ b : Fin 16, Go.bits .or .i64 ((a.val : Int) * 16) (b.val : Int) = (a.val : Int) * 16 + (b.val : Int) := by decide +kernel
theorem orTab_at {a b : Int} (h0 : 0 ≤ a) (h1 : a < 16) (h2 : 0 ≤ b) (h3 : b < 16) : Go.bits .or .i64 (a * 16) b = a * 16 + b := by
  have := orTab ⟨a.toNat, by omega⟩ ⟨b.toNat, by omega⟩
  simp only at this
  rw [show ((a.toNat : Nat) : Int) = a from by omega, show ((b.toNat : Nat) : Int) = b from by omega] at this; exact this

theorem spec_l01Value.ev (x : Int) (h0 : 0 ≤ x) (h1 : x ≤ 255) : Ev (fun k => spec_l01Value.f k x) (valD x) := by
  unfold spec_l01Value.f
  have hj : ∀ b, b = decide (48 ≤ x ∧ x ≤ 57) → Ev (fun k => spec_l01Value.j0 k x b) (valD x) := by
    rintro b rfl
    apply Ev.succ; simp only [spec_l01Value.j0]
    unfold valD
    rw [w64 (x := x) (by omega) (by omega), w64 (x := x - 48) (by omega) (by omega), w64 (x := x - 97) (by omega) (by omega), w64 (x := x - 97 + 10) (by omega) (by omega)]
    by_cases c : 48 ≤ x ∧ x ≤ 57
    · refine Ev.ite_pos (by simp [c]) (Ev.done ?_)
      rw [if_pos c]
    · refine Ev.ite_neg (by simp [c]) ?_
      rw [if_neg c]
      by_cases c1 : x ≥ 97
      · refine Ev.ite_pos c1 ?_
        by_cases c2 : x ≤ 102
        · refine Ev.ite_pos c2 (Ev.done ?_); rw [if_pos ⟨c1, c2⟩]; omega
        · refine Ev.ite_neg c2 (Ev.done ?_); rw [if_neg (by omega)]
      · refine Ev.ite_neg c1 (Ev.done ?_); rw [if_neg (by omega)]
  by_cases c : x ≥ 48
  · refine Ev.ite_pos c (hj _ ?_); rw [Bool.eq_iff_iff]; simp; omega
  · refine Ev.ite_neg c (hj _ ?_); rw [Bool.eq_iff_iff]; simp; omega

theorem spec_Unhex.l0_ev (s : ByteArray) (hs : s.size ≤ 40000) (he : (s.size : Int) % 2 = 0) (n : Nat) : ∀ (acc : List Int) (i : Int), 0 ≤ i → i % 2 = 0 → (s.size : Int) - i = 2 * n → acc.length ≤ i →
    Ev (fun k => spec_Unhex.l0 k s acc i) (unhexR acc (tl s i)) := by
  induction n with
  | zero =>
    intro acc i h0 hp hn ha
    apply Ev.succ; simp only [spec_Unhex.l0]
    rw [tl_nil (by omega)]
    exact Ev.ite_neg (by omega) (Ev.done (by simp [unhexR, unhexL]))
  | succ n ih =>
    intro acc i h0 hp hn ha
    have h1 : i < (s.size : Int) := by omega
    have h2 : i + 1 < (s.size : Int) := by omega
    have hb := bt_range s i
    have hb2 := bt_range s (i + 1)
    have v1 := valD_range (bt s i)
    have v2 := valD_range (bt s (i + 1))
    have e2 : i + 1 + 1 = i + 2 := by omega
    apply Ev.succ
    simp only [spec_Unhex.l0, h0, h1, if_true, w64 (x := i + 1) (by omega) (by omega), w64 (x := i + 2) (by omega) (by omega)]
    rw [tl_cons h0 h1, tl_cons (i := i + 1) (by omega) h2, e2]
    refine (spec_l01Value.ev _ hb.1 hb.2).bind (Ev.ite_pos (by omega) (Ev.ite_pos h2 ((spec_l01Value.ev _ hb2.1 hb2.2).bind ?_)))
    by_cases c1 : valD (bt s i) < 0
    · rw [unhexR_bad1 _ _ _ _ c1]; exact Ev.ite_pos c1 (Ev.done rfl)
    · refine Ev.ite_neg c1 ?_
      by_cases c2 : valD (bt s (i + 1)) < 0
      · rw [unhexR_bad2 _ _ _ _ c2]; exact Ev.ite_pos c2 (Ev.done rfl)
      · refine Ev.ite_neg c2 (Ev.ite_pos (by omega) ?_)
        rw [unhexR_step _ _ _ _ (by omega) (by omega)]
        have ew : (wrap64 (wrap64 (16 * valD (bt s i)) + valD (bt s (i + 1)))) % 256 = 16 * valD (bt s i) + valD (bt s (i + 1)) := by
          rw [w64 (x := 16 * valD (bt s i)) (by omega) (by omega), w64 (by omega) (by omega)]; omega
        rw [ew]
        exact ih _ (i + 2) (by omega) (by omega) (by omega) (by simp; omega)
theorem spec_Unhex.ev (s : ByteArray) : Ev (fun k => spec_Unhex.f k s) (if s.size > 40000 ∨ s.size % 2 ≠ 0 then ((⟨#[]⟩ : ByteArray), false) else unhexR [] (bytesOf s)) := by
  have hj : Ev (fun k => spec_Unhex.j0 k s true) ((⟨#[]⟩ : ByteArray), false) := by
    apply Ev.succ; simp only [spec_Unhex.j0, if_true]; exact Ev.done rfl
  unfold spec_Unhex.f
  by_cases h : s.size > 40000
  · rw [if_pos (Or.inl h)]; exact Ev.ite_pos (by omega) hj
  · refine Ev.ite_neg (by omega) ?_
    by_cases h2 : s.size % 2 = 0
    · rw [if_neg (by omega)]
      have e : ((s.size : Int) % 2 != 0) = false := by simp; omega
      rw [e]
      apply Ev.succ; simp only [spec_Unhex.j0]
      refine Ev.ite_neg (by simp) ((spec_Unhex.l0_ev s (by omega) (by omega) (s.size / 2) [] 0 (by omega) (by omega) (by omega) (by simp)).get ?_)
      rw [tl_zero]
    · rw [if_pos (Or.inr h2)]
      have e : ((s.size : Int) % 2 != 0) = true := by simp; omega
      rw [e]; exact hj

theorem strings_IndexByte.eq (s : ByteArray) (x : Int) : strings_IndexByte.f s x = some (Lib.indexByte s.data.toList x.toNat.toUInt8) := rfl

theorem impl_Unhex.l0_ev (s : ByteArray) (hs : s.size ≤ 40000) (he : (s.size : Int) % 2 = 0) (n : Nat) : ∀ (acc : List Int) (i : Int), 0 ≤ i → i % 2 = 0 → (s.size : Int) - i = 2 * n → acc.length ≤ i →
    Ev (fun k => impl_Unhex.l0 k s acc i) (unhexR acc (tl s i)) := by
  induction n with
  | zero =>
    intro acc i h0 hp hn ha
    apply Ev.succ; simp only [impl_Unhex.l0]
    rw [tl_nil (by omega)]
    exact Ev.ite_neg (by omega) (Ev.done (by simp [unhexR, unhexL]))
  | succ n ih =>
    intro acc i h0 hp hn ha
    have h1 : i < (s.size : Int) := by omega
    have h2 : i + 1 < (s.size : Int) := by omega
    have hb := bt_range s i
    have hb2 := bt_range s (i + 1)
    have v1 := valD_range (bt s i)
    have v2 := valD_range (bt s (i + 1))
    have e2 : i + 1 + 1 = i + 2 := by omega
    have h3 : 0 ≤ i + 1 := by omega
    apply Ev.succ
    simp only [impl_Unhex.l0, h0, h1, h2, h3, if_true, w64 (x := i + 1) (by omega) (by omega), w64 (x := i + 2) (by omega) (by omega), strings_IndexByte.eq, idxTab_at hb.1 hb.2, idxTab_at hb2.1 hb2.2, Option.bind_some]
    rw [tl_cons h0 h1, tl_cons (i := i + 1) (by omega) h2, e2]
    by_cases c1 : valD (bt s i) < 0
    · rw [unhexR_bad1 _ _ _ _ c1]; exact Ev.ite_pos c1 (Ev.done rfl)
    · refine Ev.ite_neg c1 ?_
      by_cases c2 : valD (bt s (i + 1)) < 0
      · rw [unhexR_bad2 _ _ _ _ c2]; exact Ev.ite_pos c2 (Ev.done rfl)
      · refine Ev.ite_neg c2 (Ev.ite_pos (by omega) ?_)
        rw [unhexR_step _ _ _ _ (by omega) (by omega)]
        have ew : (Go.bits .or .i64 (wrap64 (valD (bt s i) * 16)) (valD (bt s (i + 1)))) % 256 = 16 * valD (bt s i) + valD (bt s (i + 1)) := by
          rw [w64 (x := valD (bt s i) * 16) (by omega) (by omega), orTab_at (by omega) (by omega) (by omega) (by omega)]; omega
        rw [ew]
        exact ih _ (i + 2) (by omega) (by omega) (by omega) (by simp; omega)
theorem impl_Unhex.ev (s : ByteArray) : Ev (fun k => impl_Unhex.f k s) (if s.size > 40000 ∨ s.size % 2 ≠ 0 then ((⟨#[]⟩ : ByteArray), false) else unhexR [] (bytesOf s)) := by
  have hj : Ev (fun k => impl_Unhex.j0 k s true) ((⟨#[]⟩ : ByteArray), false) := by
    apply Ev.succ; simp only [impl_Unhex.j0, if_true]; exact Ev.done rfl
  unfold impl_Unhex.f
  by_cases h2 : s.size % 2 = 0
  · refine Ev.ite_pos (by omega) ?_
    by_cases h : s.size > 40000
    · rw [if_pos (Or.inl h)]
      have e : decide ((s.size : Int) > 40000) = true := decide_eq_true (by omega)
      rw [e]; exact hj
    · rw [if_neg (by omega)]
      have e : decide ((s.size : Int) > 40000) = false := decide_eq_false (by omega)
      rw [e]
      apply Ev.succ; simp only [impl_Unhex.j0]
      refine Ev.ite_neg (by simp) ((impl_Unhex.l0_ev s (by omega) (by omega) (s.size / 2) [] 0 (by omega) (by omega) (by omega) (by simp)).get ?_)
      rw [tl_zero]
  · rw [if_pos (Or.inr h2)]
    exact Ev.ite_neg (by omega) hj

theorem FnExactUnhex : laws_FnExactUnhex.Pure := by
  intro s hs
  apply Ev.out
  unfold laws_FnExactUnhex.f
  by_cases h : (s.size : Int) > 1048576
  · exact Ev.ite_pos h (Ev.done rfl)
  · refine Ev.ite_neg h ((spec_Unhex.ev s).bind ((impl_Unhex.ev s).bind ?_))
    exact Ev.ite_pos rfl (Ev.ite_neg (by simp) (Ev.done rfl))


end Go.Proofs.Ythkhnkgckcdleaa.Pure
