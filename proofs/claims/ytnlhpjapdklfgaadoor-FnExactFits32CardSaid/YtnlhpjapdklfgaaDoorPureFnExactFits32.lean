/- The plain law behind FnExactFits32. -/
import Derived.Test.YtnlhpjapdklfgaaDoorOFnExactFits32x2
import Derived.Test.YtnlhpjapdklfgaaDoorBase
namespace Go.Proofs.YtnlhpjapdklfgaaDoor.Pure
open Go.RowKit Go.Proofs.YtnlhpjapdklfgaaDoor.OFnExactFits32 Go.Proofs.YtnlhpjapdklfgaaDoorW.PrintWords Go.Proofs.YtnlhpjapdklfgaaDoorW.PrintLast Go.Proofs.YtnlhpjapdklfgaaDoorW.PrintMore Go.Proofs.YtnlhpjapdklfgaaDoor.Base
set_option linter.unusedVariables false
set_option linter.unusedSimpArgs false

theorem spec_l03Figure.eq (x : Int) : spec_l03Figure.f x = some (figB x) := by
  unfold spec_l03Figure.f figB
  by_cases h : x ≥ 48
  · rw [if_pos h]; congr 1; rw [Bool.eq_iff_iff]; simp only [decide_eq_true_eq, Bool.or_eq_true, beq_iff_eq, Bool.false_eq_true, true_iff, false_iff]; omega
  · rw [if_neg h]; congr 1; rw [Bool.eq_iff_iff]; simp only [decide_eq_true_eq, Bool.or_eq_true, beq_iff_eq, Bool.false_eq_true, true_iff, false_iff]; omega

/-- How many figures stand at the begin. -/
def runN (d : List Int) : Nat := (d.takeWhile figB).length
def digs (l : List Int) : List Int := if l.head? = some 45 then l.tail else l
def signN (l : List Int) : Int := if l.head? = some 45 then 1 else 0
/-- The place behind a whole number at the begin; 0: there is none. -/
def intEnd (l : List Int) : Int := if runN (digs l) = 0 then 0 else if (digs l).headD 0 = 48 ∧ 1 < runN (digs l) then 0 else signN l + runN (digs l)
def intOkL (l : List Int) : Bool := decide (l.length ≤ 40) && (digs l != [] && (digs l).all figB) && ((digs l) == [48] || (digs l).headD 0 != 48)
theorem runN_cons (x : Int) (d : List Int) : runN (x :: d) = if figB x = true then runN d + 1 else 0 := by
  unfold runN; rw [List.takeWhile_cons]; cases figB x <;> simp
theorem runN_le (d : List Int) : runN d ≤ d.length := by
  unfold runN
  exact (List.takeWhile_sublist figB).length_le
theorem runN_all (d : List Int) : d.all figB = true ↔ runN d = d.length := by
  induction d with
  | nil => simp [runN]
  | cons x d ih =>
    rw [runN_cons, List.all_cons]
    have := runN_le d
    cases h : figB x with
    | true => simp [ih]
    | false => simp
theorem digs_length (l : List Int) : signN l + (digs l).length = l.length := by
  unfold signN digs
  by_cases h : l.head? = some 45
  · rw [if_pos h, if_pos h]
    cases l with
    | nil => simp at h
    | cons x r => simp; omega
  · rw [if_neg h, if_neg h]; omega
theorem intOk_end (l : List Int) : intOkL l = (decide (l.length ≤ 40) && decide (0 < l.length) && (intEnd l == (l.length : Int))) := by
  have hd := digs_length l
  have hs : 0 ≤ signN l := by unfold signN; split <;> omega
  have hr := runN_le (digs l)
  have ha := runN_all (digs l)
  unfold intOkL intEnd
  rw [Bool.eq_iff_iff]
  simp only [Bool.and_eq_true, decide_eq_true_eq, Bool.or_eq_true, beq_iff_eq, bne_iff_ne, ne_eq]
  constructor
  · rintro ⟨⟨h40, hne, hall⟩, h48⟩
    have hlen : 0 < (digs l).length := List.length_pos_iff.2 hne
    have hrun := ha.1 hall
    refine ⟨⟨h40, by omega⟩, ?_⟩
    rw [if_neg (by omega)]
    rw [if_neg ?_]
    · omega
    · rintro ⟨h1, h2⟩
      rcases h48 with h | h
      · rw [h] at hrun h2; simp at hrun; omega
      · exact h h1
  · rintro ⟨⟨h40, h0⟩, he⟩
    by_cases c0 : runN (digs l) = 0
    · rw [if_pos c0] at he; omega
    · rw [if_neg c0] at he
      by_cases c1 : (digs l).headD 0 = 48 ∧ 1 < runN (digs l)
      · rw [if_pos c1] at he; omega
      · rw [if_neg c1] at he
        have hrun : runN (digs l) = (digs l).length := by omega
        refine ⟨⟨h40, ?_, ha.2 hrun⟩, ?_⟩
        · intro h; rw [h] at c0; exact c0 rfl
        · by_cases c48 : (digs l).headD 0 = 48
          · left
            have : ¬ 1 < runN (digs l) := fun h => c1 ⟨c48, h⟩
            have h1 : (digs l).length = 1 := by omega
            obtain ⟨x, hx⟩ := List.length_eq_one_iff.1 h1
            rw [hx] at c48 ⊢
            simp only [List.headD_cons] at c48
            rw [c48]
          · exact Or.inr c48

theorem spec_l03Run.l0_ev (s : ByteArray) (hs : s.size ≤ 140737488351232) (n : Nat) : ∀ i : Int, 0 ≤ i → i ≤ (s.size : Int) + 8 → (s.size : Int) - i ≤ n →
    Ev (fun k => spec_l03Run.l0 k s i) (i + runN (tl s i)) := by
  induction n with
  | zero =>
    intro i h0 h2 hn
    apply Ev.succ; simp only [spec_l03Run.l0]
    rw [tl_nil (by omega)]
    exact Ev.ite_neg (by omega) (Ev.done (by simp [runN]))
  | succ n ih =>
    intro i h0 h2 hn
    by_cases h1 : i < (s.size : Int)
    · have ih := ih (i + 1) (by omega) (by omega) (by omega)
      apply Ev.succ
      simp only [spec_l03Run.l0, h0, h1, if_true, spec_l03Figure.eq, Option.bind_some, w64 (x := i + 1) (by omega) (by omega)]
      rw [tl_cons h0 h1, runN_cons]
      cases hf : figB (bt s i) with
      | true => exact Ev.ite_pos rfl (ih.get (by simp; omega))
      | false => exact Ev.ite_neg (by simp) (Ev.done (by simp))
    · apply Ev.succ; simp only [spec_l03Run.l0]
      rw [tl_nil (by omega)]
      exact Ev.ite_neg h1 (Ev.done (by simp [runN]))
theorem spec_l03Run.ev (s : ByteArray) (hs : s.size ≤ 140737488351232) (i : Int) (h0 : 0 ≤ i) (h2 : i ≤ (s.size : Int) + 8) : Ev (fun k => spec_l03Run.f k s i) (i + runN (tl s i)) := by
  unfold spec_l03Run.f
  exact spec_l03Run.l0_ev s hs s.size i h0 h2 (by omega)

theorem spec_l03Int.part (s : ByteArray) (hs : s.size ≤ 140737488351232) (i : Int) (h0 : 0 ≤ i) (h2 : i ≤ 1) :
    Ev (fun k => (spec_l03Run.f k s i).bind fun t => if t = i then (some 0) else if 0 ≤ i then if i < (s.size : Int) then if bt s i = 48 then if t > wrap64 (i + 1) then some 0 else some t else some t else none else none)
      (if runN (tl s i) = 0 then 0 else if (tl s i).headD 0 = 48 ∧ 1 < runN (tl s i) then 0 else i + runN (tl s i)) := by
  refine (spec_l03Run.ev s hs i h0 (by omega)).bind ?_
  by_cases c0 : runN (tl s i) = 0
  · rw [if_pos c0]; exact Ev.ite_pos (by omega) (Ev.done rfl)
  · rw [if_neg c0]
    have h1 : i < (s.size : Int) := by
      by_cases h : i < (s.size : Int)
      · exact h
      · rw [tl_nil (by omega)] at c0; exact absurd rfl c0
    have hh : (tl s i).headD 0 = bt s i := by rw [tl_cons h0 h1]; rfl
    rw [hh, w64 (x := i + 1) (by omega) (by omega)]
    refine Ev.ite_neg (by omega) (Ev.ite_pos h0 (Ev.ite_pos h1 ?_))
    by_cases c1 : bt s i = 48
    · refine Ev.ite_pos c1 ?_
      by_cases c2 : 1 < runN (tl s i)
      · have e : (if bt s i = 48 ∧ 1 < runN (tl s i) then (0 : Int) else i + runN (tl s i)) = 0 := if_pos ⟨c1, c2⟩
        rw [e]; exact Ev.ite_pos (by omega) (Ev.done rfl)
      · have e : (if bt s i = 48 ∧ 1 < runN (tl s i) then (0 : Int) else i + runN (tl s i)) = i + runN (tl s i) := if_neg (fun h => c2 h.2)
        rw [e]; exact Ev.ite_neg (by omega) (Ev.done rfl)
    · have e : (if bt s i = 48 ∧ 1 < runN (tl s i) then (0 : Int) else i + runN (tl s i)) = i + runN (tl s i) := if_neg (fun h => c1 h.1)
      rw [e]; exact Ev.ite_neg c1 (Ev.done rfl)
theorem spec_l03Int.ev (s : ByteArray) (hs : s.size ≤ 140737488351232) : Ev (fun k => spec_l03Int.f k s) (intEnd (bytesOf s)) := by
  unfold spec_l03Int.f
  have p0 := spec_l03Int.part s hs 0 (by omega) (by omega)
  have p1 := spec_l03Int.part s hs 1 (by omega) (by omega)
  rw [tl_zero] at p0
  by_cases h : (s.size : Int) > 0
  · refine Ev.ite_pos h (Ev.ite_pos h ?_)
    have ht := tl_cons (s := s) (i := 0) (by omega) h
    rw [tl_zero] at ht
    have e1 : (0 : Int) + 1 = 1 := rfl
    rw [e1] at ht
    apply Ev.succ; simp only [spec_l03Int.j0]
    by_cases c : bt s 0 = 45
    · refine Ev.ite_pos (by simp [c]) ?_
      have hd : digs (bytesOf s) = tl s 1 := by unfold digs; rw [ht, c]; rfl
      have hg : signN (bytesOf s) = 1 := by unfold signN; rw [ht, c]; rfl
      have w2 : wrap64 ((1 : Int) + 1) = 1 + 1 := w64 (by omega) (by omega)
      rw [w2] at p1
      have p2 := p1.get (r := intEnd (bytesOf s)) (by unfold intEnd; rw [hd, hg])
      simpa using p2
    · refine Ev.ite_neg (by simp [c]) ?_
      have hd : digs (bytesOf s) = bytesOf s := by unfold digs; rw [ht]; simp [c]
      have hg : signN (bytesOf s) = 0 := by unfold signN; rw [ht]; simp [c]
      exact p0.get (by unfold intEnd; rw [hd, hg])
  · refine Ev.ite_neg h ?_
    have hz : bytesOf s = [] := List.length_eq_zero_iff.1 (by rw [size_bytes]; omega)
    apply Ev.succ; simp only [spec_l03Int.j0]
    refine Ev.ite_neg (by simp) ?_
    have hd : digs (bytesOf s) = bytesOf s := by unfold digs; rw [hz]; rfl
    have hg : signN (bytesOf s) = 0 := by unfold signN; rw [hz]; rfl
    exact p0.get (by unfold intEnd; rw [hd, hg])

theorem spec_IntOk.ev (s : ByteArray) (hs : s.size ≤ 140737488351232) : Ev (fun k => spec_IntOk.f k s) (intOkL (bytesOf s)) := by
  have hl := size_bytes s
  unfold spec_IntOk.f
  rw [intOk_end, hl]
  by_cases h : (s.size : Int) ≤ 40
  · refine Ev.ite_pos h ?_
    by_cases h2 : (s.size : Int) > 0
    · refine Ev.ite_pos h2 ((spec_l03Int.ev s hs).bind (Ev.done ?_))
      have e1 : decide (s.size ≤ 40) = true := decide_eq_true (by omega)
      have e2 : decide (0 < s.size) = true := decide_eq_true (by omega)
      rw [e1, e2]; simp
    · refine Ev.ite_neg h2 (Ev.done ?_)
      have e2 : decide (0 < s.size) = false := decide_eq_false (by omega)
      rw [e2]; simp
  · refine Ev.ite_neg h (Ev.done ?_)
    have e1 : decide (s.size ≤ 40) = false := decide_eq_false (by omega)
    rw [e1]; simp

/-- A row of bytes as whole numbers. -/
def ints (l : List UInt8) : List Int := l.map fun b => (b.toNat : Int)
/-- The number that figures spell, signs passed over. -/
def valS : List Int → Int → Int
  | [], a => a
  | x :: r, a => if x = 45 then valS r a else valS r (a * 10 + x - 48)
theorem figB_iff (x : Int) : figB x = true ↔ 48 ≤ x ∧ x ≤ 57 := by simp [figB]
theorem valS_ge (d : List Int) : ∀ a, 0 ≤ a → d.all figB = true → a * 10 ^ d.length ≤ valS d a := by
  induction d with
  | nil => intro a h _; simp [valS]
  | cons x r ih =>
    intro a h hd
    rw [List.all_cons, Bool.and_eq_true, figB_iff] at hd
    have h1 := ih (a * 10 + x - 48) (by omega) hd.2
    simp only [valS]
    rw [if_neg (by omega), List.length_cons, Int.pow_succ]
    refine Int.le_trans ?_ h1
    have hp : (0 : Int) < 10 ^ r.length := Int.pow_pos (by decide)
    rw [show a * (10 ^ r.length * 10) = (a * 10) * 10 ^ r.length from by rw [Int.mul_assoc, Int.mul_comm 10]]
    exact Int.mul_le_mul_of_nonneg_right (by omega) (Int.le_of_lt hp)
theorem valS_mono (d : List Int) (a : Int) (h : 0 ≤ a) (hd : d.all figB = true) : a ≤ valS d a := by
  have h1 := valS_ge d a h hd
  have hp : (0 : Int) < 10 ^ d.length := Int.pow_pos (by decide)
  have : a * 1 ≤ a * 10 ^ d.length := Int.mul_le_mul_of_nonneg_left (by omega) h
  omega
theorem parseM_eq (M : Nat) (hM : M < 1844674407370955162) (l : List UInt8) : ∀ a : Nat, a ≤ M → (ints l).all figB = true →
    Lib.parseUintM M a l = if valS (ints l) a ≤ M then .ok (valS (ints l) a).toNat else .range := by
  induction l with
  | nil => intro a h _; simp only [ints, List.map_nil, valS, Lib.parseUintM]; rw [if_pos (by omega)]; rfl
  | cons c r ih =>
    intro a h hd
    have e : ints (c :: r) = (c.toNat : Int) :: ints r := rfl
    rw [e, List.all_cons, Bool.and_eq_true, figB_iff] at hd
    have e2 : (a : Int) * 10 + (c.toNat : Int) - 48 = ((a * 10 + (c.toNat - 48) : Nat) : Int) := by omega
    have e3 : valS (ints (c :: r)) (a : Int) = valS (ints r) ((a * 10 + (c.toNat - 48) : Nat) : Int) := by
      rw [e, valS, if_neg (show ¬ (c.toNat : Int) = 45 by omega), e2]
    rw [e3]
    simp only [Lib.parseUintM]
    rw [if_pos (by omega), if_neg (by omega)]
    by_cases c1 : M < a * 10 + (c.toNat - 48)
    · rw [if_pos c1]
      have := valS_mono (ints r) ((a * 10 + (c.toNat - 48) : Nat) : Int) (by omega) hd.2
      rw [if_neg (by omega)]
    · rw [if_neg c1]
      exact ih _ (by omega) hd.2
def okP (x : Lib.NumEnd Int) : Bool := match x with | .ok _ => true | _ => false
/-- A number without a needless 0 ahead of it that is below 10^10 has ten figures at most. -/
theorem few_figs (d : List Int) (hd : d.all figB = true) (hz : d = [48] ∨ d.headD 0 ≠ 48) (hv : valS d 0 < 10000000000) : d.length ≤ 10 := by
  rcases hz with rfl | hz
  · simp
  · cases d with
    | nil => simp
    | cons x r =>
      rw [List.all_cons, Bool.and_eq_true, figB_iff] at hd
      simp only [List.headD_cons] at hz
      simp only [valS] at hv
      rw [if_neg (by omega)] at hv
      have h1 := valS_ge r (0 * 10 + x - 48) (by omega) hd.2
      have hp : (0 : Int) < 10 ^ r.length := Int.pow_pos (by decide)
      have h2 : 1 * (10 : Int) ^ r.length ≤ (0 * 10 + x - 48) * 10 ^ r.length := Int.mul_le_mul_of_nonneg_right (by omega) (Int.le_of_lt hp)
      rw [List.length_cons]
      rcases Nat.lt_or_ge r.length 10 with h3 | h3
      · omega
      · have h4 : (10 : Int) ^ 10 ≤ 10 ^ r.length := by exact_mod_cast Nat.pow_le_pow_right (by decide) h3
        omega
def fitsV (s : ByteArray) (v : Int) : Bool := if bt s 0 = 45 then decide (v ≤ 2147483648) else decide (v ≤ 2147483647)
def fitsB (s : ByteArray) : Bool := decide (s.size ≤ 11) && fitsV s (valS (bytesOf s) 0)
theorem fits_parse (s : ByteArray) (h : intOkL (bytesOf s) = true) : okP (Lib.parseIntB 32 s.data.toList) = fitsB s := by
  unfold fitsB fitsV
  have eb : bytesOf s = ints s.data.toList := rfl
  have hl : s.size = s.data.toList.length := (data_length s).symm
  obtain ⟨l, el⟩ : ∃ l, s.data.toList = l := ⟨_, rfl⟩
  have hb0 : ∀ c r, l = c :: r → bt s 0 = (c.toNat : Int) := by
    intro c r e
    have h1 : tl s 0 = bt s 0 :: tl s 1 := tl_cons (by omega) (by rw [hl, el, e]; simp)
    rw [tl_zero, eb, el, e] at h1
    exact (List.cons.inj h1).1.symm
  rw [eb, hl, el]
  rw [eb, el] at h
  unfold intOkL at h
  simp only [Bool.and_eq_true, decide_eq_true_eq, Bool.or_eq_true, beq_iff_eq, bne_iff_ne, ne_eq] at h
  obtain ⟨⟨_, hne, hall⟩, hz⟩ := h
  cases l with
  | nil => exact absurd rfl hne
  | cons c r =>
    rw [hb0 c r rfl]
    have e : ints (c :: r) = (c.toNat : Int) :: ints r := rfl
    unfold Lib.parseIntB
    simp only
    by_cases c45 : c.toNat = 45
    · have ed : digs (ints (c :: r)) = ints r := by unfold digs; rw [e, if_pos (by simp; omega)]; rfl
      rw [ed] at hne hall hz
      have hr : r ≠ [] := by rintro rfl; exact hne rfl
      rw [if_pos (Or.inr c45), if_pos (show (c.toNat : Int) = 45 by omega)]
      unfold Lib.parseUintB
      have pm := parseM_eq (2 ^ 32 - 1) (by decide) r 0 (by omega) hall
      rw [show ((0 : Nat) : Int) = 0 from rfl] at pm
      rw [if_neg hr, pm]
      have ev : valS (ints (c :: r)) 0 = valS (ints r) 0 := by rw [e]; simp only [valS]; rw [if_pos (by omega)]
      rw [ev]
      have h0 := valS_mono (ints r) 0 (by omega) hall
      have hlen : (ints r).length = r.length := by simp [ints]
      by_cases h1 : valS (ints r) 0 ≤ 2147483648
      · have := few_figs _ hall hz (by omega)
        rw [if_pos (by simp; omega)]
        simp only [c45, not_true, false_and, if_false, true_and]
        rw [if_neg (by simp; omega)]
        simp only [okP, List.length_cons]
        rw [decide_eq_true h1, decide_eq_true (by omega)]
        rfl
      · rw [decide_eq_false h1, Bool.and_false]
        by_cases h2 : valS (ints r) 0 ≤ ((2 ^ 32 - 1 : Nat) : Int)
        · rw [if_pos h2]
          simp only [c45, not_true, false_and, if_false, true_and]
          rw [if_pos (by simp; omega)]
          rfl
        · rw [if_neg h2]; rfl
    · have ed : digs (ints (c :: r)) = ints (c :: r) := by unfold digs; rw [e, if_neg (by simp; omega)]
      rw [ed] at hne hall hz
      have hf : 48 ≤ (c.toNat : Int) ∧ (c.toNat : Int) ≤ 57 := by
        rw [e, List.all_cons, Bool.and_eq_true, figB_iff] at hall
        exact hall.1
      rw [if_neg (show ¬ (c.toNat = 43 ∨ c.toNat = 45) by omega), if_neg (show ¬ (c.toNat : Int) = 45 by omega)]
      unfold Lib.parseUintB
      have pm := parseM_eq (2 ^ 32 - 1) (by decide) (c :: r) 0 (by omega) hall
      rw [show ((0 : Nat) : Int) = 0 from rfl] at pm
      rw [if_neg (show ¬ (c :: r) = [] by simp), pm]
      have h0 := valS_mono (ints (c :: r)) 0 (by omega) hall
      have hlen : (ints (c :: r)).length = (c :: r).length := by simp [ints]
      by_cases h1 : valS (ints (c :: r)) 0 ≤ 2147483647
      · have := few_figs _ hall hz (by omega)
        rw [if_pos (by simp; omega)]
        simp only [c45, not_false_eq_true, true_and, false_and, if_false]
        rw [if_neg (by simp; omega)]
        simp only [okP]
        rw [decide_eq_true h1, decide_eq_true (by omega)]
        rfl
      · rw [decide_eq_false h1, Bool.and_false]
        by_cases h2 : valS (ints (c :: r)) 0 ≤ ((2 ^ 32 - 1 : Nat) : Int)
        · rw [if_pos h2]
          simp only [c45, not_false_eq_true, true_and, false_and, if_false]
          rw [if_pos (by simp; omega)]
          rfl
        · rw [if_neg h2]; rfl

theorem spec_Fits32.l0_ev (s : ByteArray) (hs : s.size ≤ 11) (hp : 0 < s.size) (hd : ∀ x ∈ bytesOf s, x = 45 ∨ (48 ≤ x ∧ x ≤ 57)) (n : Nat) : ∀ (a i : Int), 0 ≤ i → (s.size : Int) - i = n → 0 ≤ a → a < 10 ^ i.toNat →
    Ev (fun k => spec_Fits32.l0 k s a i) (fitsV s (valS (tl s i) a)) := by
  induction n with
  | zero =>
    intro a i h0 hn ha0 ha
    apply Ev.succ; simp only [spec_Fits32.l0]
    rw [tl_nil (by omega)]
    simp only [valS]
    refine Ev.ite_neg (by omega) (Ev.ite_pos (by omega) ?_)
    unfold fitsV
    by_cases h2 : bt s 0 = 45
    · exact Ev.ite_pos h2 (Ev.done (if_pos h2).symm)
    · exact Ev.ite_neg h2 (Ev.done (if_neg h2).symm)
  | succ n ih =>
    intro a i h0 hn ha0 ha
    have h1 : i < (s.size : Int) := by omega
    have hb : bt s i = 45 ∨ (48 ≤ bt s i ∧ bt s i ≤ 57) := by
      apply hd
      have := bytes_get s i.toNat (by omega)
      rw [show ((i.toNat : Nat) : Int) = i from by omega] at this
      rw [← this]
      exact List.getElem_mem _
    have hpw : (10 : Int) ^ i.toNat ≤ 10 ^ 11 := by
      have : i.toNat ≤ 11 := by omega
      exact_mod_cast Nat.pow_le_pow_right (by decide) this
    have ha2 : a < 100000000000 := by omega
    have hnx : a < 10 ^ (i + 1).toNat := by
      rw [show (i + 1).toNat = i.toNat + 1 from by omega, Int.pow_succ]; omega
    apply Ev.succ; simp only [spec_Fits32.l0]
    rw [tl_cons h0 h1, valS]
    refine Ev.ite_pos h1 (Ev.ite_pos h0 ?_)
    rw [w64 (x := i + 1) (by omega) (by omega)]
    by_cases c : bt s i = 45
    · rw [if_pos c]
      exact Ev.ite_pos c (ih a (i + 1) (by omega) (by omega) ha0 hnx)
    · rw [if_neg c]
      refine Ev.ite_neg c ?_
      rw [w64 (x := a * 10) (by omega) (by omega), w64 (x := bt s i) (by omega) (by omega), w64 (x := a * 10 + bt s i) (by omega) (by omega), w64 (x := a * 10 + bt s i - 48) (by omega) (by omega)]
      refine ih (a * 10 + bt s i - 48) (i + 1) (by omega) (by omega) (by omega) ?_
      rw [show (i + 1).toNat = i.toNat + 1 from by omega, Int.pow_succ]; omega
theorem intOk_bytes (s : ByteArray) (h : intOkL (bytesOf s) = true) : 0 < s.size ∧ ∀ x ∈ bytesOf s, x = 45 ∨ (48 ≤ x ∧ x ≤ 57) := by
  unfold intOkL at h
  simp only [Bool.and_eq_true, decide_eq_true_eq, bne_iff_ne, ne_eq] at h
  obtain ⟨⟨_, hne, hall⟩, _⟩ := h
  have h1 : ∀ x ∈ digs (bytesOf s), 48 ≤ x ∧ x ≤ 57 := fun x hx => (figB_iff x).1 (List.all_eq_true.1 hall x hx)
  constructor
  · rcases Nat.eq_zero_or_pos s.size with h0 | h0
    · have : bytesOf s = [] := List.length_eq_zero_iff.1 (by rw [size_bytes]; exact h0)
      rw [this] at hne
      exact absurd rfl hne
    · exact h0
  · intro x hx
    generalize bytesOf s = l at *
    unfold digs at h1
    split at h1
    · rename_i e
      cases l with
      | nil => cases hx
      | cons y r =>
        simp only [List.head?_cons, Option.some.injEq] at e
        rcases List.mem_cons.1 hx with rfl | hx
        · exact Or.inl e
        · exact Or.inr (h1 x hx)
    · exact Or.inr (h1 x hx)
theorem spec_Fits32.ev (s : ByteArray) (hs : s.size ≤ 140737488351232) : Ev (fun k => spec_Fits32.f k s) (intOkL (bytesOf s) && fitsB s) := by
  unfold spec_Fits32.f
  refine (spec_IntOk.ev s hs).bind ?_
  cases h : intOkL (bytesOf s) with
  | false =>
    refine Ev.ite_neg (by simp) ?_
    apply Ev.succ; simp only [spec_Fits32.j0]
    exact Ev.ite_pos (by first | rfl | trivial) (Ev.done rfl)
  | true =>
    refine Ev.ite_pos rfl ?_
    apply Ev.succ; simp only [spec_Fits32.j0]
    obtain ⟨hp, hd⟩ := intOk_bytes s h
    by_cases c : (s.size : Int) > 11
    · refine Ev.ite_pos (by simp; omega) (Ev.done ?_)
      unfold fitsB
      rw [decide_eq_false (by omega)]; rfl
    · refine Ev.ite_neg (by simp; omega) ((spec_Fits32.l0_ev s (by omega) hp hd s.size 0 0 (by omega) (by omega) (by omega) (by decide)).get ?_)
      unfold fitsB
      rw [decide_eq_true (show s.size ≤ 11 by omega), tl_zero]
      rfl

/-- Does a list begin with p. -/
def preB (p l : List Int) : Bool := l.take p.length == p
theorem preB_length {p l : List Int} (h : preB p l = true) : p.length ≤ l.length := by
  unfold preB at h; rw [beq_iff_eq] at h
  have := congrArg List.length h
  rw [List.length_take] at this; omega

theorem stringslite_HasPrefix.eq (a b : ByteArray) : stringslite_HasPrefix.f a b = some (preB (bytesOf b) (bytesOf a)) := by
  have la := size_bytes a
  have lb := size_bytes b
  unfold stringslite_HasPrefix.f
  by_cases h : (a.size : Int) ≥ (b.size : Int)
  · rw [if_pos h, if_pos (by omega), if_pos (by omega), toList_beq, bytes_extract]
    unfold preB; simp [lb]
  · rw [if_neg h]
    cases hp : preB (bytesOf b) (bytesOf a) with
    | false => rfl
    | true => have := preB_length hp; omega

theorem stringslite_TrimPrefix.eq (a b : ByteArray) : ∃ r, stringslite_TrimPrefix.f a b = some r ∧ bytesOf r = if preB (bytesOf b) (bytesOf a) = true then (bytesOf a).drop b.size else bytesOf a := by
  unfold stringslite_TrimPrefix.f
  rw [stringslite_HasPrefix.eq]; simp only [Option.bind_some]
  by_cases h : preB (bytesOf b) (bytesOf a) = true
  · have hl := preB_length h
    rw [size_bytes, size_bytes] at hl
    rw [if_pos h, if_pos (by omega), if_pos (by omega), if_pos h]
    exact ⟨_, rfl, by rw [extract_tl]; unfold tl; simp⟩
  · rw [if_neg h, if_neg h]; exact ⟨_, rfl, rfl⟩

theorem strings_TrimPrefix.eq (a b : ByteArray) : ∃ r, strings_TrimPrefix.f a b = some r ∧ bytesOf r = if preB (bytesOf b) (bytesOf a) = true then (bytesOf a).drop b.size else bytesOf a := by
  obtain ⟨r, h, e⟩ := stringslite_TrimPrefix.eq a b
  exact ⟨r, by unfold strings_TrimPrefix.f; rw [h]; rfl, e⟩

theorem impl_isFigure.eq (x : Int) : impl_isFigure.f x = some (figB x) := by
  unfold impl_isFigure.f figB
  by_cases h : x ≥ 48
  · rw [if_pos h]; congr 1; rw [Bool.eq_iff_iff]; simp only [decide_eq_true_eq, Bool.or_eq_true, beq_iff_eq, Bool.false_eq_true, true_iff, false_iff]; omega
  · rw [if_neg h]; congr 1; rw [Bool.eq_iff_iff]; simp only [decide_eq_true_eq, Bool.or_eq_true, beq_iff_eq, Bool.false_eq_true, true_iff, false_iff]; omega

theorem impl_figures.l0_ev (s : ByteArray) (hs : s.size ≤ 140737488351232) (n : Nat) : ∀ i : Int, 0 ≤ i → (s.size : Int) - i = n →
    Ev (fun k => impl_figures.l0 k s (s.size : Int) i) ((tl s i).all figB && (bytesOf s != [])) := by
  induction n with
  | zero =>
    intro i h0 hn
    apply Ev.succ; simp only [impl_figures.l0]
    rw [tl_nil (by omega)]
    refine Ev.ite_neg (by omega) (Ev.done ?_)
    have := toList_beq_lit s []
    rw [bne, this]; simp [bne]
  | succ n ih =>
    intro i h0 hn
    have h1 : i < (s.size : Int) := by omega
    have ih := ih (i + 1) (by omega) (by omega)
    apply Ev.succ
    simp only [impl_figures.l0, h0, h1, if_true, impl_isFigure.eq, Option.bind_some, w64 (x := i + 1) (by omega) (by omega)]
    rw [tl_cons h0 h1, List.all_cons]
    cases figB (bt s i) with
    | true => exact Ev.ite_pos rfl (ih.get (by simp))
    | false => exact Ev.ite_neg (by simp) (Ev.done (by simp))
theorem impl_figures.ev (s : ByteArray) (hs : s.size ≤ 140737488351232) : Ev (fun k => impl_figures.f k s) ((bytesOf s).all figB && (bytesOf s != [])) := by
  unfold impl_figures.f
  have := impl_figures.l0_ev s hs s.size 0 (by omega) (by omega)
  rw [tl_zero] at this; exact this

theorem impl_IntOk.ev (s : ByteArray) (hs : s.size ≤ 140737488351232) : Ev (fun k => impl_IntOk.f k s) (intOkL (bytesOf s)) := by
  have hl := size_bytes s
  unfold impl_IntOk.f
  obtain ⟨d, hd, hb⟩ := strings_TrimPrefix.eq s (⟨#[45]⟩ : ByteArray)
  have b1 : bytesOf (⟨#[45]⟩ : ByteArray) = [45] := by decide
  have hdig : bytesOf d = digs (bytesOf s) := by
    rw [hb, b1]; unfold preB digs
    cases hc : bytesOf s with
    | nil => simp
    | cons x r =>
      have : (⟨#[45]⟩ : ByteArray).size = 1 := rfl
      rw [this]
      by_cases h : x = 45 <;> simp [h]
  have hsz : d.size ≤ s.size := by
    have h1 := digs_length (bytesOf s)
    have h2 : 0 ≤ signN (bytesOf s) := by unfold signN; split <;> omega
    rw [← hdig, size_bytes, size_bytes] at h1; omega
  refine Ev.bindc hd ?_
  unfold intOkL
  rw [← hdig, hl]
  by_cases h : (s.size : Int) ≤ 40
  · have e1 : decide (s.size ≤ 40) = true := decide_eq_true (by omega)
    rw [e1, Bool.true_and]
    refine Ev.ite_pos h ((impl_figures.ev d (by omega)).bind ?_)
    rw [Bool.and_comm (bytesOf d != [])]
    cases hf : ((bytesOf d).all figB && bytesOf d != []) with
    | false => exact Ev.ite_neg (by simp) (Ev.done (by simp))
    | true =>
      refine Ev.ite_pos rfl ?_
      rw [Bool.true_and]
      simp only [toList_eq_bytes]
      by_cases c : bytesOf d = [48]
      · exact Ev.ite_pos (by rw [c]; rfl) (Ev.done (by rw [c]; rfl))
      · refine Ev.ite_neg (by simpa using c) ?_
        have hne : bytesOf d ≠ [] := by
          intro hn; rw [hn] at hf; simp at hf
        have hp : 0 < d.size := by
          rw [← size_bytes]; exact List.length_pos_iff.2 hne
        have ht := tl_cons (s := d) (i := 0) (by omega) (by omega)
        rw [tl_zero] at ht
        refine Ev.ite_pos (by omega) (Ev.done ?_)
        have : (bytesOf d == [48]) = false := by simpa using c
        rw [this, Bool.false_or]
        have : (bytesOf d).headD 0 = bt d 0 := by rw [ht]; rfl
        rw [this]
  · have e1 : decide (s.size ≤ 40) = false := decide_eq_false (by omega)
    rw [e1]
    exact Ev.ite_neg h (Ev.done (by simp))

theorem impl_Fits32.ev (s : ByteArray) (hs : s.size ≤ 140737488351232) : Ev (fun k => impl_Fits32.f k s) (intOkL (bytesOf s) && fitsB s) := by
  unfold impl_Fits32.f
  refine Ev.ite_pos (by omega) ((impl_IntOk.ev s hs).bind (Ev.done ?_))
  cases h : intOkL (bytesOf s) with
  | false => rfl
  | true => rw [← fits_parse s h]; rfl

theorem FnExactFits32 : laws_FnExactFits32.Pure := by
  intro s hs
  apply Ev.out
  unfold laws_FnExactFits32.f
  by_cases h : (s.size : Int) > 1048576
  · exact Ev.ite_pos h (Ev.done rfl)
  · refine Ev.ite_neg h ((spec_Fits32.ev s hs).bind ((impl_Fits32.ev s hs).bind ?_))
    exact Ev.ite_neg (by simp) (Ev.done rfl)


end Go.Proofs.YtnlhpjapdklfgaaDoor.Pure
