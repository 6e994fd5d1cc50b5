/- For every Type the program's TypeOk and the reference's answer alike (types above 2^20 bytes are not asked by the law). -/
import Derived.Test.YtnlhpjapdklfgaaDoorOFnExactTypeOkx2
import Derived.Test.YtnlhpjapdklfgaaDoorBase
namespace Go.Proofs.YtnlhpjapdklfgaaDoor.Pure
open Go.RowKit Go.Proofs.YtnlhpjapdklfgaaDoor.OFnExactTypeOk Go.Proofs.YtnlhpjapdklfgaaDoorW.PrintWords Go.Proofs.YtnlhpjapdklfgaaDoorW.PrintLast Go.Proofs.YtnlhpjapdklfgaaDoorW.PrintMore Go.Proofs.YtnlhpjapdklfgaaDoor.Base
set_option linter.unusedVariables false
set_option linter.unusedSimpArgs false

theorem laws_szType.eq (a b : ByteArray) (n : Int) (ha : a.size ≤ 9223372036854775807) (hb : b.size ≤ 9223372036854775807) (h0 : 0 ≤ n) (h1 : n ≤ 1048576) : ∃ r, laws_szType.f a b n = some r ∧ (r < 0 ∨ (r = n - a.size - b.size ∧ 0 ≤ r)) := by
  unfold laws_szType.f
  rw [w64 (x := n - (a.size : Int)) (by omega) (by omega)]
  by_cases c : n - (a.size : Int) < 0
  · rw [if_pos c]; exact ⟨-1, rfl, Or.inl (by omega)⟩
  · rw [if_neg c, w64 (x := n - (a.size : Int) - (b.size : Int)) (by omega) (by omega)]
    by_cases c2 : n - (a.size : Int) - (b.size : Int) < 0
    · rw [if_pos c2]; exact ⟨-1, rfl, Or.inl (by omega)⟩
    · rw [if_neg c2]; exact ⟨_, rfl, Or.inr ⟨rfl, by omega⟩⟩

theorem spec_l03Figure.eq (x : Int) : spec_l03Figure.f x = some (figB x) := by
  unfold spec_l03Figure.f figB
  by_cases h : x ≥ 48
  · rw [if_pos h]; congr 1; rw [Bool.eq_iff_iff]; simp only [decide_eq_true_eq, Bool.or_eq_true, beq_iff_eq, Bool.false_eq_true, true_iff, false_iff]; omega
  · rw [if_neg h]; congr 1; rw [Bool.eq_iff_iff]; simp only [decide_eq_true_eq, Bool.or_eq_true, beq_iff_eq, Bool.false_eq_true, true_iff, false_iff]; omega

theorem spec_l03Letter.eq (x : Int) : spec_l03Letter.f x = some (lowB x || x == 95) := by
  unfold spec_l03Letter.f lowB
  by_cases h : x ≥ 97
  · rw [if_pos h]
    by_cases h2 : x ≤ 122
    · rw [if_pos h2]; congr 1; rw [Bool.eq_iff_iff]; simp only [decide_eq_true_eq, Bool.or_eq_true, beq_iff_eq, Bool.false_eq_true, true_iff, false_iff]; omega
    · rw [if_neg h2, if_pos (by omega), if_neg (by omega)]; congr 1; rw [Bool.eq_iff_iff]; simp only [decide_eq_true_eq, Bool.or_eq_true, beq_iff_eq, Bool.false_eq_true, true_iff, false_iff]; omega
  · rw [if_neg h]
    by_cases h2 : x ≥ 65
    · rw [if_pos h2]
      by_cases h3 : x ≤ 90
      · rw [if_pos h3]; congr 1; rw [Bool.eq_iff_iff]; simp only [decide_eq_true_eq, Bool.or_eq_true, beq_iff_eq, Bool.false_eq_true, true_iff, false_iff]; omega
      · rw [if_neg h3]; congr 1; rw [Bool.eq_iff_iff]; simp only [decide_eq_true_eq, Bool.or_eq_true, beq_iff_eq, Bool.false_eq_true, true_iff, false_iff]; omega
    · rw [if_neg h2]; congr 1; rw [Bool.eq_iff_iff]; simp only [decide_eq_true_eq, Bool.or_eq_true, beq_iff_eq, Bool.false_eq_true, true_iff, false_iff]; omega

theorem spec_NameOk.l0_ev (s : ByteArray) (hs : s.size ≤ 140737488351232) (n : Nat) : ∀ i : Int, 0 ≤ i → (s.size : Int) - i = n →
    Ev (fun k => spec_NameOk.l0 k s i) ((tl s i).all nameB) := by
  induction n with
  | zero =>
    intro i h0 hn
    apply Ev.succ; simp only [spec_NameOk.l0]
    rw [tl_nil (by omega)]
    exact Ev.ite_neg (by omega) (Ev.done rfl)
  | succ n ih =>
    intro i h0 hn
    have h1 : i < (s.size : Int) := by omega
    have ih := ih (i + 1) (by omega) (by omega)
    apply Ev.succ
    simp only [spec_NameOk.l0, h0, h1, if_true, spec_l03Letter.eq, spec_l03Figure.eq, Option.bind_some, w64 (x := i + 1) (by omega) (by omega)]
    rw [tl_cons h0 h1, List.all_cons]
    have e : nameB (bt s i) = ((lowB (bt s i) || bt s i == 95) || figB (bt s i)) := by unfold nameB; cases lowB (bt s i) <;> cases figB (bt s i) <;> simp
    rw [e]
    cases (lowB (bt s i) || bt s i == 95) <;> cases figB (bt s i) <;> simp <;> first | exact ih | exact Ev.done rfl
theorem spec_NameOk.ev (s : ByteArray) (hs : s.size ≤ 140737488351232) : Ev (fun k => spec_NameOk.f k s) (nameOkL (bytesOf s)) := by
  have hl := size_bytes s
  have hj : Ev (fun k => spec_NameOk.j0 k s true) false := by
    apply Ev.succ; simp only [spec_NameOk.j0, if_true]; exact Ev.done rfl
  unfold spec_NameOk.f
  by_cases h0 : (s.size : Int) = 0
  · refine Ev.ite_pos h0 (hj.get ?_)
    unfold nameOkL; simp; omega
  · refine Ev.ite_neg h0 ?_
    by_cases h1 : (s.size : Int) > 30
    · refine Ev.ite_pos h1 (hj.get ?_)
      unfold nameOkL; simp; omega
    · refine Ev.ite_neg h1 (Ev.ite_pos (by omega) ?_)
      simp only [spec_l03Figure.eq, Option.bind_some]
      have hl0 := spec_NameOk.l0_ev s hs s.size 0 (by omega) (by omega)
      have ht := tl_cons (s := s) (i := 0) (by omega) (by omega)
      rw [tl_zero] at ht hl0
      have hd : (bytesOf s).headD 0 = bt s 0 := by rw [ht]; rfl
      apply Ev.succ; simp only [spec_NameOk.j0]
      cases hf : figB (bt s 0) with
      | true => exact (Ev.done rfl).get (by unfold nameOkL; rw [hd, hf]; simp)
      | false =>
        simp only [Bool.false_eq_true, if_false]
        exact hl0.get (by unfold nameOkL; rw [hd, hf, hl]; simp; omega)

def inW (x : Int) : Bool := x == 33 || x == 93
/-- Signs of wraps, no two 33 side by side; p: the one ahead. -/
def okW : Int → List Int → Bool
  | _, [] => true
  | p, x :: r => inW x && !(x == 33 && p == 33) && okW x r
def pairW : Int → List Int → Bool
  | _, [] => false
  | p, x :: r => (p == 33 && x == 33) || pairW x r
theorem okW_eq (l : List Int) : ∀ p, okW p l = (l.all inW && !pairW p l) := by
  induction l with
  | nil => intro p; rfl
  | cons x r ih =>
    intro p
    simp only [okW, pairW, List.all_cons, ih]
    cases inW x <;> cases (x == 33) <;> cases (p == 33) <;> cases r.all inW <;> cases pairW x r <;> rfl
theorem dropWhile_nil {α : Type} (p : α → Bool) (l : List α) : l.dropWhile p = [] ↔ l.all p = true := by
  induction l with
  | nil => simp
  | cons x r ih =>
    rw [List.dropWhile_cons, List.all_cons]
    cases h : p x with
    | true => simp [ih]
    | false => simp
theorem trimS_nil (l cs : List UInt8) : Lib.trimS l cs = [] ↔ l.all (cs.contains ·) = true := by
  unfold Lib.trimS Lib.trimLeftS Lib.trimRightS
  rw [dropWhile_nil, List.all_reverse]
  constructor
  · intro h
    have h1 : l.reverse.all (cs.contains ·) = true := by
      have e := List.takeWhile_append_dropWhile (p := (cs.contains ·)) (l := l.reverse)
      rw [← e, List.all_append, h, Bool.and_true]
      exact List.all_takeWhile
    rwa [List.all_reverse] at h1
  · intro h
    have : l.reverse.dropWhile (cs.contains ·) = [] := (dropWhile_nil _ _).2 (by rw [List.all_reverse]; exact h)
    rw [this]; rfl
theorem inW_bytes (l : List UInt8) : l.all (([93, 33] : List UInt8).contains ·) = (l.map fun b => (b.toNat : Int)).all inW := by
  induction l with
  | nil => rfl
  | cons b l ih =>
    have e : inW (b.toNat : Int) = ([93, 33] : List UInt8).contains b := by
      unfold inW
      rw [Bool.eq_iff_iff]
      simp only [Bool.or_eq_true, beq_iff_eq, List.contains_cons, List.contains_nil, Bool.or_false]
      constructor
      · rintro (h | h)
        · right; apply UInt8.toNat_inj.1; show b.toNat = 33; omega
        · left; apply UInt8.toNat_inj.1; show b.toNat = 93; omega
      · rintro (h | h)
        · right; subst h; rfl
        · left; subst h; rfl
    rw [List.all_cons, List.map_cons, List.all_cons, e, ih]
theorem contains_pair (l : List UInt8) : Lib.contains l [33, 33] = pairW 0 (l.map fun b => (b.toNat : Int)) := by
  have h33 : ∀ b : UInt8, ((b.toNat : Int) == 33) = (b == 33) := by
    intro b
    rw [Bool.eq_iff_iff, beq_iff_eq, beq_iff_eq]
    constructor
    · intro h; apply UInt8.toNat_inj.1; show b.toNat = 33; omega
    · rintro rfl; rfl
  have key : ∀ (l : List UInt8) (c : UInt8), (decide (0 ≤ Lib.index (c :: l) [33, 33])) = pairW (c.toNat : Int) (l.map fun b => (b.toNat : Int)) := by
    intro l
    induction l with
    | nil => intro c; simp [Lib.index, pairW, List.isPrefixOf]
    | cons b l ih =>
      intro c
      have hb := Lib.index_ge (b :: l) [33, 33]
      rw [Lib.index]
      simp only [List.map_cons, pairW, h33, ← ih b]
      have e : List.isPrefixOf ([33, 33] : List UInt8) (c :: b :: l) = ((33 == c) && (33 == b)) := by simp [List.isPrefixOf]
      have e2 : ∀ a : UInt8, (33 == a) = (a == 33) := fun a => by rw [Bool.eq_iff_iff, beq_iff_eq, beq_iff_eq]; exact eq_comm
      rw [e, e2, e2]
      cases hq : ((c == 33) && (b == 33)) with
      | true => simp
      | false =>
        rw [Bool.false_or, if_neg (by decide)]
        by_cases d : Lib.index (b :: l) [33, 33] = -1
        · rw [d]; rfl
        · rw [if_neg (by simpa using d)]
          rw [decide_eq_true (show 0 ≤ Lib.index (b :: l) [33, 33] + 1 by omega), decide_eq_true (show 0 ≤ Lib.index (b :: l) [33, 33] by omega)]
  unfold Lib.contains
  cases l with
  | nil => rfl
  | cons c l =>
    rw [key l c]
    show _ = ((0 : Int) == 33 && _ || pairW _ _)
    rw [show ((0 : Int) == 33) = false from rfl, Bool.false_and, Bool.false_or]
def typeB (a b : ByteArray) : Bool := nameOkL (bytesOf a) && (decide (b.size ≤ 8) && okW 0 (bytesOf b))

theorem spec_TypeOk.l0_ev (a b : ByteArray) (hb : b.size ≤ 1000) (n : Nat) : ∀ i : Int, 0 ≤ i → (b.size : Int) - i ≤ n →
    Ev (fun k => spec_TypeOk.l0 k i a b) (okW (if 0 < i then bt b (i - 1) else 0) (tl b i)) := by
  induction n with
  | zero =>
    intro i h0 hn
    apply Ev.succ; simp only [spec_TypeOk.l0]
    rw [tl_nil (by omega)]
    exact Ev.ite_neg (by omega) (Ev.done rfl)
  | succ n ih =>
    intro i h0 hn
    apply Ev.succ; simp only [spec_TypeOk.l0]
    by_cases c : i < (b.size : Int)
    · have hi := ih (i + 1) (by omega) (by omega)
      rw [if_pos (by omega), Int.add_sub_cancel] at hi
      rw [tl_cons h0 c, okW, w64 (x := i + 1) (by omega) (by omega), w64 (x := i - 1) (by omega) (by omega)]
      refine Ev.ite_pos c (Ev.ite_pos h0 ?_)
      by_cases c33 : bt b i = 33
      · refine Ev.ite_pos c33 ?_
        rw [c33] at hi ⊢
        by_cases d : i > 0
        · rw [if_pos d]
          refine Ev.ite_pos d (Ev.ite_pos (by omega) (Ev.ite_pos (by omega) ?_))
          by_cases e : bt b (i - 1) = 33
          · rw [e]; exact Ev.ite_pos (by first | rfl | trivial) (Ev.done (by simp [inW]))
          · refine Ev.ite_neg e (hi.get ?_)
            have : (bt b (i - 1) == 33) = false := beq_eq_false_iff_ne.2 e
            simp [inW, this]
        · rw [if_neg d]
          exact Ev.ite_neg d (hi.get (by simp [inW]))
      · refine Ev.ite_neg c33 ?_
        have e33 : (bt b i == 33) = false := beq_eq_false_iff_ne.2 c33
        by_cases c93 : bt b i = 93
        · have hi2 : Ev (fun k => spec_TypeOk.l0 k (i + 1) a b) (inW (bt b i) && !(bt b i == 33 && (if 0 < i then bt b (i - 1) else 0) == 33) && okW (bt b i) (tl b (i + 1))) := hi.get (by rw [e33, c93]; simp [inW])
          refine Ev.ite_pos c93 ?_
          by_cases d : i > 0
          · exact Ev.ite_pos d hi2
          · exact Ev.ite_neg d hi2
        · have e93 : (bt b i == 93) = false := beq_eq_false_iff_ne.2 c93
          exact Ev.ite_neg c93 (Ev.done (by unfold inW; rw [e33, e93]; rfl))
    · rw [tl_nil (by omega)]
      exact Ev.ite_neg c (Ev.done rfl)
theorem spec_TypeOk.ev (a b : ByteArray) (ha : a.size ≤ 140737488351232) : Ev (fun k => spec_TypeOk.f k a b) (typeB a b) := by
  unfold spec_TypeOk.f typeB
  have hj : Ev (fun k => spec_TypeOk.j0 k true a b) false := by
    apply Ev.succ; simp only [spec_TypeOk.j0]
    exact Ev.ite_pos (by first | rfl | trivial) (Ev.done rfl)
  refine (spec_NameOk.ev a ha).bind ?_
  cases nameOkL (bytesOf a) with
  | false => exact Ev.ite_neg (by decide) hj
  | true =>
    refine Ev.ite_pos rfl ?_
    by_cases c : (b.size : Int) > 8
    · rw [decide_eq_true c, decide_eq_false (show ¬ b.size ≤ 8 by omega)]; exact hj
    · rw [decide_eq_false c, decide_eq_true (show b.size ≤ 8 by omega)]
      apply Ev.succ; simp only [spec_TypeOk.j0]
      refine Ev.ite_neg (by decide) ((spec_TypeOk.l0_ev a b (by omega) b.size 0 (by omega) (by omega)).get ?_)
      rw [tl_zero]; rfl

theorem impl_in.eq (x a b : Int) : impl_in.f x a b = some (decide (a ≤ x ∧ x ≤ b)) := by
  unfold impl_in.f
  by_cases h : x ≥ a
  · rw [if_pos h]; congr 1; rw [Bool.eq_iff_iff]; simp only [decide_eq_true_eq, Bool.or_eq_true, beq_iff_eq, Bool.false_eq_true, true_iff, false_iff]; omega
  · rw [if_neg h]; congr 1; rw [Bool.eq_iff_iff]; simp only [decide_eq_true_eq, Bool.or_eq_true, beq_iff_eq, Bool.false_eq_true, true_iff, false_iff]; omega

theorem impl_isFigure.eq (x : Int) : impl_isFigure.f x = some (figB x) := by
  unfold impl_isFigure.f figB
  by_cases h : x ≥ 48
  · rw [if_pos h]; congr 1; rw [Bool.eq_iff_iff]; simp only [decide_eq_true_eq, Bool.or_eq_true, beq_iff_eq, Bool.false_eq_true, true_iff, false_iff]; omega
  · rw [if_neg h]; congr 1; rw [Bool.eq_iff_iff]; simp only [decide_eq_true_eq, Bool.or_eq_true, beq_iff_eq, Bool.false_eq_true, true_iff, false_iff]; omega

theorem impl_isLetter.eq (x : Int) : impl_isLetter.f x = some (lowB x) := by
  unfold impl_isLetter.f lowB
  by_cases h : x ≥ 97
  · rw [if_pos h]
    by_cases h2 : x ≤ 122
    · rw [if_pos h2]; congr 1; rw [Bool.eq_iff_iff]; simp only [decide_eq_true_eq, Bool.or_eq_true, beq_iff_eq, Bool.false_eq_true, true_iff, false_iff]; omega
    · rw [if_neg h2, if_pos (by omega)]; congr 1; rw [Bool.eq_iff_iff]; simp only [decide_eq_true_eq, Bool.or_eq_true, beq_iff_eq, Bool.false_eq_true, true_iff, false_iff]; omega
  · rw [if_neg h]
    by_cases h2 : x ≥ 65
    · rw [if_pos h2]; congr 1; rw [Bool.eq_iff_iff]; simp only [decide_eq_true_eq, Bool.or_eq_true, beq_iff_eq, Bool.false_eq_true, true_iff, false_iff]; omega
    · rw [if_neg h2]; congr 1; rw [Bool.eq_iff_iff]; simp only [decide_eq_true_eq, Bool.or_eq_true, beq_iff_eq, Bool.false_eq_true, true_iff, false_iff]; omega

theorem impl_inName.eq (x : Int) : impl_inName.f x = some (nameB x) := by
  unfold impl_inName.f nameB
  rw [impl_isLetter.eq]
  simp only [Option.bind_some, impl_isFigure.eq]
  cases lowB x <;> cases figB x <;> simp

theorem impl_NameOk.l0_ev (s : ByteArray) (hs : s.size ≤ 140737488351232) (n : Nat) : ∀ i : Int, 0 ≤ i → (s.size : Int) - i = n →
    Ev (fun k => impl_NameOk.l0 k s (s.size : Int) i) ((tl s i).all nameB) := by
  induction n with
  | zero =>
    intro i h0 hn
    apply Ev.succ; simp only [impl_NameOk.l0]
    rw [tl_nil (by omega)]
    exact Ev.ite_neg (by omega) (Ev.done rfl)
  | succ n ih =>
    intro i h0 hn
    have h1 : i < (s.size : Int) := by omega
    have ih := ih (i + 1) (by omega) (by omega)
    apply Ev.succ
    simp only [impl_NameOk.l0, h0, h1, if_true, impl_inName.eq, Option.bind_some, w64 (x := i + 1) (by omega) (by omega)]
    rw [tl_cons h0 h1, List.all_cons]
    cases nameB (bt s i) <;> simp <;> first | exact ih | exact Ev.done rfl
theorem impl_NameOk.ev (s : ByteArray) (hs : s.size ≤ 140737488351232) : Ev (fun k => impl_NameOk.f k s) (nameOkL (bytesOf s)) := by
  have hl := size_bytes s
  have hj : Ev (fun k => impl_NameOk.j0 k s true) false := by
    apply Ev.succ; simp only [impl_NameOk.j0, if_true]; exact Ev.done rfl
  unfold impl_NameOk.f
  simp only [impl_in.eq, Option.bind_some]
  by_cases h0 : 1 ≤ (s.size : Int) ∧ (s.size : Int) ≤ 30
  · simp only [h0, and_self, decide_true, if_true]
    refine Ev.ite_pos (by omega) ?_
    simp only [impl_isFigure.eq, Option.bind_some]
    have hl0 := impl_NameOk.l0_ev s hs s.size 0 (by omega) (by omega)
    have ht := tl_cons (s := s) (i := 0) (by omega) (by omega)
    rw [tl_zero] at ht hl0
    have hd : (bytesOf s).headD 0 = bt s 0 := by rw [ht]; rfl
    apply Ev.succ; simp only [impl_NameOk.j0]
    cases hf : figB (bt s 0) with
    | true => exact (Ev.done rfl).get (by unfold nameOkL; rw [hd, hf]; simp)
    | false =>
      simp only [Bool.false_eq_true, if_false]
      exact hl0.get (by unfold nameOkL; rw [hd, hf, hl]; simp; omega)
  · have e : decide (1 ≤ (s.size : Int) ∧ (s.size : Int) ≤ 30) = false := decide_eq_false h0
    simp only [e, Bool.false_eq_true, if_false]
    refine hj.get ?_
    unfold nameOkL; simp; omega

theorem impl_TypeOk.ev (a b : ByteArray) (ha : a.size ≤ 140737488351232) : Ev (fun k => impl_TypeOk.f k a b) (typeB a b) := by
  unfold impl_TypeOk.f typeB
  refine (impl_NameOk.ev a ha).bind ?_
  cases nameOkL (bytesOf a) with
  | false => exact Ev.ite_neg (by decide) (Ev.done rfl)
  | true =>
    refine Ev.ite_pos rfl ?_
    by_cases c : (b.size : Int) ≤ 8
    · have ht : strings_Trim.f b (⟨#[93, 33]⟩ : ByteArray) = some ⟨(Lib.trimS b.data.toList [93, 33]).toArray⟩ := by
        unfold strings_Trim.f
        rw [if_pos ⟨by omega, by decide, by decide⟩]
      have hc : strings_Contains.f b (⟨#[33, 33]⟩ : ByteArray) = some (pairW 0 (bytesOf b)) := by
        unfold strings_Contains.f
        rw [if_pos (by omega), contains_pair]; rfl
      have hn : ((⟨(Lib.trimS b.data.toList [93, 33]).toArray⟩ : ByteArray).toList = ([] : List UInt8)) ↔ (bytesOf b).all inW = true := by
        rw [ByteArray.toList_eq]
        show (Lib.trimS b.data.toList [93, 33]).toArray.toList = [] ↔ _
        rw [List.toList_toArray, trimS_nil, inW_bytes]; rfl
      rw [decide_eq_true (show b.size ≤ 8 by omega), okW_eq]
      refine Ev.ite_pos c (Ev.bindc ht ?_)
      by_cases d : (bytesOf b).all inW = true
      · rw [d]
        exact Ev.ite_pos (hn.2 d) (Ev.bindc hc (Ev.done rfl))
      · rw [Bool.eq_false_iff.2 d]
        exact Ev.ite_neg (fun h => d (hn.1 h)) (Ev.done rfl)
    · rw [decide_eq_false (show ¬ b.size ≤ 8 by omega)]
      exact Ev.ite_neg c (Ev.done rfl)

theorem FnExactTypeOk (a b : ByteArray) (ha : a.size ≤ maxLen) (hb : b.size ≤ maxLen) : ∃ k, laws_FnExactTypeOk.f k a b = some true := by
  unfold maxLen at ha hb
  apply Ev.out
  unfold laws_FnExactTypeOk.f
  obtain ⟨r, hr, hc⟩ := laws_szType.eq a b 1048576 (by omega) (by omega) (by omega) (by omega)
  refine Ev.bindc hr ?_
  by_cases h : r < 0
  · exact Ev.ite_pos h (Ev.done rfl)
  · have ha : a.size ≤ 140737488351232 := by omega
    refine Ev.ite_neg h (Ev.bindc rfl ((spec_TypeOk.ev a b ha).bind (Ev.bindc rfl ((impl_TypeOk.ev a b ha).bind ?_))))
    exact Ev.ite_neg (by simp) (Ev.done rfl)


end Go.Proofs.YtnlhpjapdklfgaaDoor.Pure
