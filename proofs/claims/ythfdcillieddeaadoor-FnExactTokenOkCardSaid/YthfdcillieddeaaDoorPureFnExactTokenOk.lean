/- For every token (a kind, a text, a place) the program's TokenOk and the reference's return the same truth value (tokens whose text is above 2^20 bytes are not asked by the law). -/
import Derived.Test.YthfdcillieddeaaDoorOFnExactTokenOkx9
import Derived.Test.YthfdcillieddeaaDoorBase
namespace Go.Proofs.YthfdcillieddeaaDoor.Pure
open Go.RowKit Go.Proofs.YthfdcillieddeaaDoor.OFnExactTokenOk Go.Proofs.YthfdcillieddeaaDoorW.PrintWords Go.Proofs.YthfdcillieddeaaDoorW.PrintLast Go.Proofs.YthfdcillieddeaaDoorW.PrintMore Go.Proofs.YthfdcillieddeaaDoor.Base
set_option linter.unusedVariables false
set_option linter.unusedSimpArgs false

theorem laws_szToken.eq (a : Int) (b : ByteArray) (c n : Int) (hb : b.size ≤ 9223372036854775807) (h0 : 0 ≤ n) (h1 : n ≤ 1048576) : ∃ r, laws_szToken.f a b c n = some r ∧ (r < 0 ∨ (r = n - b.size ∧ 0 ≤ r)) := by
  unfold laws_szToken.f
  rw [w64 (x := n - (b.size : Int)) (by omega) (by omega)]
  by_cases c : n - (b.size : Int) < 0
  · rw [if_pos c]; exact ⟨-1, rfl, Or.inl (by omega)⟩
  · rw [if_neg c]; exact ⟨_, rfl, Or.inr ⟨rfl, by omega⟩⟩

theorem spec_l03Figure.eq (x : Int) : spec_l03Figure.f x = some (figB x) := by
  unfold spec_l03Figure.f figB
  by_cases h : x ≥ 48
  · rw [if_pos h]; congr 1; rw [Bool.eq_iff_iff]; simp only [decide_eq_true_eq, Bool.or_eq_true, beq_iff_eq, Bool.false_eq_true, true_iff, false_iff]; omega
  · rw [if_neg h]; congr 1; rw [Bool.eq_iff_iff]; simp only [decide_eq_true_eq, Bool.or_eq_true, beq_iff_eq, Bool.false_eq_true, true_iff, false_iff]; omega

theorem spec_l03Letter.eq (x : Int) : spec_l03Letter.f x = some (lowB x || x == 95) := by
  unfold spec_l03Letter.f lowB
  by_cases h : x ≥ 97
  · rw [if_pos h]
    by_cases h2 : x ≤ 122
    · rw [if_pos h2]; congr 1; rw [Bool.eq_iff_iff]; simp only [decide_eq_true_eq, Bool.or_eq_true, beq_iff_eq, Bool.false_eq_true, true_iff, false_iff]; omega
    · rw [if_neg h2, if_pos (by omega), if_neg (by omega)]; congr 1; rw [Bool.eq_iff_iff]; simp only [decide_eq_true_eq, Bool.or_eq_true, beq_iff_eq, Bool.false_eq_true, true_iff, false_iff]; omega
  · rw [if_neg h]
    by_cases h2 : x ≥ 65
    · rw [if_pos h2]
      by_cases h3 : x ≤ 90
      · rw [if_pos h3]; congr 1; rw [Bool.eq_iff_iff]; simp only [decide_eq_true_eq, Bool.or_eq_true, beq_iff_eq, Bool.false_eq_true, true_iff, false_iff]; omega
      · rw [if_neg h3]; congr 1; rw [Bool.eq_iff_iff]; simp only [decide_eq_true_eq, Bool.or_eq_true, beq_iff_eq, Bool.false_eq_true, true_iff, false_iff]; omega
    · rw [if_neg h2]; congr 1; rw [Bool.eq_iff_iff]; simp only [decide_eq_true_eq, Bool.or_eq_true, beq_iff_eq, Bool.false_eq_true, true_iff, false_iff]; omega

theorem spec_NameOk.l0_ev (s : ByteArray) (hs : s.size ≤ 140737488351232) (n : Nat) : ∀ i : Int, 0 ≤ i → (s.size : Int) - i = n →
    Ev (fun k => spec_NameOk.l0 k s i) ((tl s i).all nameB) := by
  induction n with
  | zero =>
    intro i h0 hn
    apply Ev.succ; simp only [spec_NameOk.l0]
    rw [tl_nil (by omega)]
    exact Ev.ite_neg (by omega) (Ev.done rfl)
  | succ n ih =>
    intro i h0 hn
    have h1 : i < (s.size : Int) := by omega
    have ih := ih (i + 1) (by omega) (by omega)
    apply Ev.succ
    simp only [spec_NameOk.l0, h0, h1, if_true, spec_l03Letter.eq, spec_l03Figure.eq, Option.bind_some, w64 (x := i + 1) (by omega) (by omega)]
    rw [tl_cons h0 h1, List.all_cons]
    have e : nameB (bt s i) = ((lowB (bt s i) || bt s i == 95) || figB (bt s i)) := by unfold nameB; cases lowB (bt s i) <;> cases figB (bt s i) <;> simp
    rw [e]
    cases (lowB (bt s i) || bt s i == 95) <;> cases figB (bt s i) <;> simp <;> first | exact ih | exact Ev.done rfl
theorem spec_NameOk.ev (s : ByteArray) (hs : s.size ≤ 140737488351232) : Ev (fun k => spec_NameOk.f k s) (nameOkL (bytesOf s)) := by
  have hl := size_bytes s
  have hj : Ev (fun k => spec_NameOk.j0 k s true) false := by
    apply Ev.succ; simp only [spec_NameOk.j0, if_true]; exact Ev.done rfl
  unfold spec_NameOk.f
  by_cases h0 : (s.size : Int) = 0
  · refine Ev.ite_pos h0 (hj.get ?_)
    unfold nameOkL; simp; omega
  · refine Ev.ite_neg h0 ?_
    by_cases h1 : (s.size : Int) > 30
    · refine Ev.ite_pos h1 (hj.get ?_)
      unfold nameOkL; simp; omega
    · refine Ev.ite_neg h1 (Ev.ite_pos (by omega) ?_)
      simp only [spec_l03Figure.eq, Option.bind_some]
      have hl0 := spec_NameOk.l0_ev s hs s.size 0 (by omega) (by omega)
      have ht := tl_cons (s := s) (i := 0) (by omega) (by omega)
      rw [tl_zero] at ht hl0
      have hd : (bytesOf s).headD 0 = bt s 0 := by rw [ht]; rfl
      apply Ev.succ; simp only [spec_NameOk.j0]
      cases hf : figB (bt s 0) with
      | true => exact (Ev.done rfl).get (by unfold nameOkL; rw [hd, hf]; simp)
      | false =>
        simp only [Bool.false_eq_true, if_false]
        exact hl0.get (by unfold nameOkL; rw [hd, hf, hl]; simp; omega)

/-- How many figures stand at the begin. -/
def runN (d : List Int) : Nat := (d.takeWhile figB).length
def digs (l : List Int) : List Int := if l.head? = some 45 then l.tail else l
def signN (l : List Int) : Int := if l.head? = some 45 then 1 else 0
/-- The place behind a whole number at the begin; 0: there is none. -/
def intEnd (l : List Int) : Int := if runN (digs l) = 0 then 0 else if (digs l).headD 0 = 48 ∧ 1 < runN (digs l) then 0 else signN l + runN (digs l)
def intOkL (l : List Int) : Bool := decide (l.length ≤ 40) && (digs l != [] && (digs l).all figB) && ((digs l) == [48] || (digs l).headD 0 != 48)
theorem runN_cons (x : Int) (d : List Int) : runN (x :: d) = if figB x = true then runN d + 1 else 0 := by
  unfold runN; rw [List.takeWhile_cons]; cases figB x <;> simp
theorem runN_le (d : List Int) : runN d ≤ d.length := by
  unfold runN
  exact (List.takeWhile_sublist figB).length_le
theorem runN_all (d : List Int) : d.all figB = true ↔ runN d = d.length := by
  induction d with
  | nil => simp [runN]
  | cons x d ih =>
    rw [runN_cons, List.all_cons]
    have := runN_le d
    cases h : figB x with
    | true => simp [ih]
    | false => simp
theorem digs_length (l : List Int) : signN l + (digs l).length = l.length := by
  unfold signN digs
  by_cases h : l.head? = some 45
  · rw [if_pos h, if_pos h]
    cases l with
    | nil => simp at h
    | cons x r => simp; omega
  · rw [if_neg h, if_neg h]; omega
theorem intOk_end (l : List Int) : intOkL l = (decide (l.length ≤ 40) && decide (0 < l.length) && (intEnd l == (l.length : Int))) := by
  have hd := digs_length l
  have hs : 0 ≤ signN l := by unfold signN; split <;> omega
  have hr := runN_le (digs l)
  have ha := runN_all (digs l)
  unfold intOkL intEnd
  rw [Bool.eq_iff_iff]
  simp only [Bool.and_eq_true, decide_eq_true_eq, Bool.or_eq_true, beq_iff_eq, bne_iff_ne, ne_eq]
  constructor
  · rintro ⟨⟨h40, hne, hall⟩, h48⟩
    have hlen : 0 < (digs l).length := List.length_pos_iff.2 hne
    have hrun := ha.1 hall
    refine ⟨⟨h40, by omega⟩, ?_⟩
    rw [if_neg (by omega)]
    rw [if_neg ?_]
    · omega
    · rintro ⟨h1, h2⟩
      rcases h48 with h | h
      · rw [h] at hrun h2; simp at hrun; omega
      · exact h h1
  · rintro ⟨⟨h40, h0⟩, he⟩
    by_cases c0 : runN (digs l) = 0
    · rw [if_pos c0] at he; omega
    · rw [if_neg c0] at he
      by_cases c1 : (digs l).headD 0 = 48 ∧ 1 < runN (digs l)
      · rw [if_pos c1] at he; omega
      · rw [if_neg c1] at he
        have hrun : runN (digs l) = (digs l).length := by omega
        refine ⟨⟨h40, ?_, ha.2 hrun⟩, ?_⟩
        · intro h; rw [h] at c0; exact c0 rfl
        · by_cases c48 : (digs l).headD 0 = 48
          · left
            have : ¬ 1 < runN (digs l) := fun h => c1 ⟨c48, h⟩
            have h1 : (digs l).length = 1 := by omega
            obtain ⟨x, hx⟩ := List.length_eq_one_iff.1 h1
            rw [hx] at c48 ⊢
            simp only [List.headD_cons] at c48
            rw [c48]
          · exact Or.inr c48

theorem spec_l03Run.l0_ev (s : ByteArray) (hs : s.size ≤ 140737488351232) (n : Nat) : ∀ i : Int, 0 ≤ i → i ≤ (s.size : Int) + 8 → (s.size : Int) - i ≤ n →
    Ev (fun k => spec_l03Run.l0 k s i) (i + runN (tl s i)) := by
  induction n with
  | zero =>
    intro i h0 h2 hn
    apply Ev.succ; simp only [spec_l03Run.l0]
    rw [tl_nil (by omega)]
    exact Ev.ite_neg (by omega) (Ev.done (by simp [runN]))
  | succ n ih =>
    intro i h0 h2 hn
    by_cases h1 : i < (s.size : Int)
    · have ih := ih (i + 1) (by omega) (by omega) (by omega)
      apply Ev.succ
      simp only [spec_l03Run.l0, h0, h1, if_true, spec_l03Figure.eq, Option.bind_some, w64 (x := i + 1) (by omega) (by omega)]
      rw [tl_cons h0 h1, runN_cons]
      cases hf : figB (bt s i) with
      | true => exact Ev.ite_pos rfl (ih.get (by simp; omega))
      | false => exact Ev.ite_neg (by simp) (Ev.done (by simp))
    · apply Ev.succ; simp only [spec_l03Run.l0]
      rw [tl_nil (by omega)]
      exact Ev.ite_neg h1 (Ev.done (by simp [runN]))
theorem spec_l03Run.ev (s : ByteArray) (hs : s.size ≤ 140737488351232) (i : Int) (h0 : 0 ≤ i) (h2 : i ≤ (s.size : Int) + 8) : Ev (fun k => spec_l03Run.f k s i) (i + runN (tl s i)) := by
  unfold spec_l03Run.f
  exact spec_l03Run.l0_ev s hs s.size i h0 h2 (by omega)

theorem spec_l03Int.part (s : ByteArray) (hs : s.size ≤ 140737488351232) (i : Int) (h0 : 0 ≤ i) (h2 : i ≤ 1) :
    Ev (fun k => (spec_l03Run.f k s i).bind fun t => if t = i then (some 0) else if 0 ≤ i then if i < (s.size : Int) then if bt s i = 48 then if t > wrap64 (i + 1) then some 0 else some t else some t else none else none)
      (if runN (tl s i) = 0 then 0 else if (tl s i).headD 0 = 48 ∧ 1 < runN (tl s i) then 0 else i + runN (tl s i)) := by
  refine (spec_l03Run.ev s hs i h0 (by omega)).bind ?_
  by_cases c0 : runN (tl s i) = 0
  · rw [if_pos c0]; exact Ev.ite_pos (by omega) (Ev.done rfl)
  · rw [if_neg c0]
    have h1 : i < (s.size : Int) := by
      by_cases h : i < (s.size : Int)
      · exact h
      · rw [tl_nil (by omega)] at c0; exact absurd rfl c0
    have hh : (tl s i).headD 0 = bt s i := by rw [tl_cons h0 h1]; rfl
    rw [hh, w64 (x := i + 1) (by omega) (by omega)]
    refine Ev.ite_neg (by omega) (Ev.ite_pos h0 (Ev.ite_pos h1 ?_))
    by_cases c1 : bt s i = 48
    · refine Ev.ite_pos c1 ?_
      by_cases c2 : 1 < runN (tl s i)
      · have e : (if bt s i = 48 ∧ 1 < runN (tl s i) then (0 : Int) else i + runN (tl s i)) = 0 := if_pos ⟨c1, c2⟩
        rw [e]; exact Ev.ite_pos (by omega) (Ev.done rfl)
      · have e : (if bt s i = 48 ∧ 1 < runN (tl s i) then (0 : Int) else i + runN (tl s i)) = i + runN (tl s i) := if_neg (fun h => c2 h.2)
        rw [e]; exact Ev.ite_neg (by omega) (Ev.done rfl)
    · have e : (if bt s i = 48 ∧ 1 < runN (tl s i) then (0 : Int) else i + runN (tl s i)) = i + runN (tl s i) := if_neg (fun h => c1 h.1)
      rw [e]; exact Ev.ite_neg c1 (Ev.done rfl)
theorem spec_l03Int.ev (s : ByteArray) (hs : s.size ≤ 140737488351232) : Ev (fun k => spec_l03Int.f k s) (intEnd (bytesOf s)) := by
  unfold spec_l03Int.f
  have p0 := spec_l03Int.part s hs 0 (by omega) (by omega)
  have p1 := spec_l03Int.part s hs 1 (by omega) (by omega)
  rw [tl_zero] at p0
  by_cases h : (s.size : Int) > 0
  · refine Ev.ite_pos h (Ev.ite_pos h ?_)
    have ht := tl_cons (s := s) (i := 0) (by omega) h
    rw [tl_zero] at ht
    have e1 : (0 : Int) + 1 = 1 := rfl
    rw [e1] at ht
    apply Ev.succ; simp only [spec_l03Int.j0]
    by_cases c : bt s 0 = 45
    · refine Ev.ite_pos (by simp [c]) ?_
      have hd : digs (bytesOf s) = tl s 1 := by unfold digs; rw [ht, c]; rfl
      have hg : signN (bytesOf s) = 1 := by unfold signN; rw [ht, c]; rfl
      have w2 : wrap64 ((1 : Int) + 1) = 1 + 1 := w64 (by omega) (by omega)
      rw [w2] at p1
      have p2 := p1.get (r := intEnd (bytesOf s)) (by unfold intEnd; rw [hd, hg])
      simpa using p2
    · refine Ev.ite_neg (by simp [c]) ?_
      have hd : digs (bytesOf s) = bytesOf s := by unfold digs; rw [ht]; simp [c]
      have hg : signN (bytesOf s) = 0 := by unfold signN; rw [ht]; simp [c]
      exact p0.get (by unfold intEnd; rw [hd, hg])
  · refine Ev.ite_neg h ?_
    have hz : bytesOf s = [] := List.length_eq_zero_iff.1 (by rw [size_bytes]; omega)
    apply Ev.succ; simp only [spec_l03Int.j0]
    refine Ev.ite_neg (by simp) ?_
    have hd : digs (bytesOf s) = bytesOf s := by unfold digs; rw [hz]; rfl
    have hg : signN (bytesOf s) = 0 := by unfold signN; rw [hz]; rfl
    exact p0.get (by unfold intEnd; rw [hd, hg])

theorem spec_IntOk.ev (s : ByteArray) (hs : s.size ≤ 140737488351232) : Ev (fun k => spec_IntOk.f k s) (intOkL (bytesOf s)) := by
  have hl := size_bytes s
  unfold spec_IntOk.f
  rw [intOk_end, hl]
  by_cases h : (s.size : Int) ≤ 40
  · refine Ev.ite_pos h ?_
    by_cases h2 : (s.size : Int) > 0
    · refine Ev.ite_pos h2 ((spec_l03Int.ev s hs).bind (Ev.done ?_))
      have e1 : decide (s.size ≤ 40) = true := decide_eq_true (by omega)
      have e2 : decide (0 < s.size) = true := decide_eq_true (by omega)
      rw [e1, e2]; simp
    · refine Ev.ite_neg h2 (Ev.done ?_)
      have e2 : decide (0 < s.size) = false := decide_eq_false (by omega)
      rw [e2]; simp
  · refine Ev.ite_neg h (Ev.done ?_)
    have e1 : decide (s.size ≤ 40) = false := decide_eq_false (by omega)
    rw [e1]; simp

/-- The bytes of a scalar. -/
def runeL (n : Int) : List Int :=
  if n < 128 then [n] else if n < 2048 then [192 + n / 64, 128 + n % 64]
  else if n < 65536 then [224 + n / 4096, 128 + n / 64 % 64, 128 + n % 64]
  else [240 + n / 262144, 128 + n / 4096 % 64, 128 + n / 64 % 64, 128 + n % 64]
def scalB (n : Int) : Bool := decide (0 ≤ n ∧ n ≤ 1114111) && !decide (55296 ≤ n ∧ n ≤ 57343)
def runeTextL (n : Int) : ByteArray := if scalB n = true then strOfNums (runeL n) else (⟨#[]⟩ : ByteArray)
theorem or_low (h : Nat) (hh : h = 192 ∨ h = 224 ∨ h = 240 ∨ h = 128) (b m : Nat) (hb : b < m) (hm : m = if h = 192 then 32 else if h = 224 then 16 else if h = 240 then 8 else 64) : Go.bits .or .u8 (h : Int) (b : Int) = (h : Int) + b := by
  have t : (∀ b : Fin 32, Go.bits .or .u8 ((192 : Nat) : Int) (b.val : Int) = ((192 : Nat) : Int) + b.val) ∧ (∀ b : Fin 16, Go.bits .or .u8 ((224 : Nat) : Int) (b.val : Int) = ((224 : Nat) : Int) + b.val) ∧ (∀ b : Fin 8, Go.bits .or .u8 ((240 : Nat) : Int) (b.val : Int) = ((240 : Nat) : Int) + b.val) ∧ (∀ b : Fin 64, Go.bits .or .u8 ((128 : Nat) : Int) (b.val : Int) = ((128 : Nat) : Int) + b.val) := by decide +kernel
  obtain ⟨t1, t2, t3, t4⟩ := t
  rcases hh with rfl | rfl | rfl | rfl
  · exact t1 ⟨b, by simp at hm; omega⟩
  · exact t2 ⟨b, by simp at hm; omega⟩
  · exact t3 ⟨b, by simp at hm; omega⟩
  · exact t4 ⟨b, by simp at hm; omega⟩
theorem or192 {x : Int} (h0 : 0 ≤ x) (h1 : x < 32) : Go.bits .or .u8 192 x = 192 + x := by
  have := or_low 192 (by simp) x.toNat 32 (by omega) (by simp)
  rw [show ((x.toNat : Nat) : Int) = x from by omega] at this; exact this
theorem or224 {x : Int} (h0 : 0 ≤ x) (h1 : x < 16) : Go.bits .or .u8 224 x = 224 + x := by
  have := or_low 224 (by simp) x.toNat 16 (by omega) (by simp)
  rw [show ((x.toNat : Nat) : Int) = x from by omega] at this; exact this
theorem or240 {x : Int} (h0 : 0 ≤ x) (h1 : x < 8) : Go.bits .or .u8 240 x = 240 + x := by
  have := or_low 240 (by simp) x.toNat 8 (by omega) (by simp)
  rw [show ((x.toNat : Nat) : Int) = x from by omega] at this; exact this
theorem or128 {x : Int} (h0 : 0 ≤ x) (h1 : x < 64) : Go.bits .or .u8 128 x = 128 + x := by
  have := or_low 128 (by simp) x.toNat 64 (by omega) (by simp)
  rw [show ((x.toNat : Nat) : Int) = x from by omega] at this; exact this
theorem and63T : ∀ n : Fin 256, Go.bits .and .u8 (n.val : Int) 63 = (n.val : Int) % 64 := by decide +kernel
theorem and63 {x : Int} : Go.bits .and .u8 (x % 256) 63 = x % 64 := by
  have := and63T ⟨(x % 256).toNat, by omega⟩
  simp only at this
  rw [show (((x % 256).toNat : Nat) : Int) = x % 256 from by omega] at this; rw [this]; omega

/-- The scalar at the begin of what is left (n bytes, the first four of them b0 .. b3), and how many bytes it takes; -1: none. -/
def decZ (n b0 b1 b2 b3 : Int) : Int × Int :=
  if n ≤ 0 then (-1, 0)
  else if b0 < 128 then (b0, 1)
  else if 194 ≤ b0 ∧ b0 < 224 ∧ 2 ≤ n ∧ 128 ≤ b1 ∧ b1 ≤ 191 then ((b0 - 192) * 64 + b1 - 128, 2)
  else if 224 ≤ b0 ∧ b0 < 240 ∧ 3 ≤ n ∧ 128 ≤ b1 ∧ b1 ≤ 191 ∧ 128 ≤ b2 ∧ b2 ≤ 191 ∧ 2048 ≤ ((b0 - 224) * 64 + b1 - 128) * 64 + b2 - 128 ∧ ¬ (55296 ≤ ((b0 - 224) * 64 + b1 - 128) * 64 + b2 - 128 ∧ ((b0 - 224) * 64 + b1 - 128) * 64 + b2 - 128 ≤ 57343) then (((b0 - 224) * 64 + b1 - 128) * 64 + b2 - 128, 3)
  else if 240 ≤ b0 ∧ b0 < 245 ∧ 4 ≤ n ∧ 128 ≤ b1 ∧ b1 ≤ 191 ∧ 128 ≤ b2 ∧ b2 ≤ 191 ∧ 128 ≤ b3 ∧ b3 ≤ 191 ∧ 65536 ≤ (((b0 - 240) * 64 + b1 - 128) * 64 + b2 - 128) * 64 + b3 - 128 ∧ (((b0 - 240) * 64 + b1 - 128) * 64 + b2 - 128) * 64 + b3 - 128 ≤ 1114111 then ((((b0 - 240) * 64 + b1 - 128) * 64 + b2 - 128) * 64 + b3 - 128, 4)
  else (-1, 0)
def decAt (s : ByteArray) (i : Int) : Int × Int := decZ ((s.size : Int) - i) (bt s i) (bt s (i + 1)) (bt s (i + 2)) (bt s (i + 3))
/-- Go's decoder's answer, as RuneAt tells it. -/
def asAt (d : Nat × Nat) : Int × Int := if d.1 = 65533 ∧ d.2 < 2 then (-1, 0) else ((d.1 : Int), (d.2 : Int))
theorem asAt_bad : asAt (65533, 1) = (-1, 0) := rfl
theorem asAt_ok (a b : Nat) (h : ¬ (a = 65533 ∧ b < 2)) : asAt (a, b) = ((a : Int), (b : Int)) := by unfold asAt; rw [if_neg h]
theorem dec_go (n b0 b1 b2 b3 : Nat) (hn : 1 ≤ n) (h0 : b0 < 256) (h1 : b1 < 256) (h2 : b2 < 256) (h3 : b3 < 256) :
    asAt (Lib.decodeN n b0 b1 b2 b3) = decZ n b0 b1 b2 b3 := by
  by_cases c0 : b0 < 128
  · have l : Lib.decodeN n b0 b1 b2 b3 = (b0, 1) := by unfold Lib.decodeN; rw [if_pos c0]
    have r : decZ n b0 b1 b2 b3 = ((b0 : Int), 1) := by unfold decZ; rw [if_neg (by omega), if_pos (by omega)]
    rw [l, r, asAt_ok _ _ (by omega)]; rfl
  by_cases k2 : b0 / 32 = 6 ∧ (1 < n ∧ b1 / 64 = 2)
  · by_cases c : b0 % 32 * 64 + b1 % 64 ≥ 128
    · have l : Lib.decodeN n b0 b1 b2 b3 = (b0 % 32 * 64 + b1 % 64, 2) := by unfold Lib.decodeN; rw [if_neg c0, if_pos k2, if_pos c]
      have r : decZ n b0 b1 b2 b3 = (((b0 : Int) - 192) * 64 + b1 - 128, 2) := by unfold decZ; rw [if_neg (by omega), if_neg (by omega), if_pos (by omega)]
      rw [l, r, asAt_ok _ _ (by omega)]
      refine Prod.ext ?_ ?_ <;> simp only [] <;> omega
    · have l : Lib.decodeN n b0 b1 b2 b3 = (65533, 1) := by unfold Lib.decodeN; rw [if_neg c0, if_pos k2, if_neg c]
      have r : decZ n b0 b1 b2 b3 = (-1, 0) := by unfold decZ; rw [if_neg (by omega), if_neg (by omega), if_neg (by omega), if_neg (by omega), if_neg (by omega)]
      rw [l, r]; rfl
  by_cases k3 : b0 / 16 = 14 ∧ (1 < n ∧ b1 / 64 = 2) ∧ (2 < n ∧ b2 / 64 = 2)
  · by_cases c : b0 % 16 * 4096 + b1 % 64 * 64 + b2 % 64 ≥ 2048 ∧ (b0 % 16 * 4096 + b1 % 64 * 64 + b2 % 64 < 55296 ∨ (57344 ≤ b0 % 16 * 4096 + b1 % 64 * 64 + b2 % 64 ∧ b0 % 16 * 4096 + b1 % 64 * 64 + b2 % 64 ≤ 1114111))
    · have l : Lib.decodeN n b0 b1 b2 b3 = (b0 % 16 * 4096 + b1 % 64 * 64 + b2 % 64, 3) := by unfold Lib.decodeN; rw [if_neg c0, if_neg k2, if_pos k3, if_pos c]
      have r : decZ n b0 b1 b2 b3 = ((((b0 : Int) - 224) * 64 + b1 - 128) * 64 + b2 - 128, 3) := by unfold decZ; rw [if_neg (by omega), if_neg (by omega), if_neg (by omega), if_pos (by omega)]
      rw [l, r, asAt_ok _ _ (by omega)]
      refine Prod.ext ?_ ?_ <;> simp only [] <;> omega
    · have l : Lib.decodeN n b0 b1 b2 b3 = (65533, 1) := by unfold Lib.decodeN; rw [if_neg c0, if_neg k2, if_pos k3, if_neg c]
      have r : decZ n b0 b1 b2 b3 = (-1, 0) := by unfold decZ; rw [if_neg (by omega), if_neg (by omega), if_neg (by omega), if_neg (by omega), if_neg (by omega)]
      rw [l, r]; rfl
  by_cases k4 : b0 / 8 = 30 ∧ (1 < n ∧ b1 / 64 = 2) ∧ (2 < n ∧ b2 / 64 = 2) ∧ (3 < n ∧ b3 / 64 = 2)
  · by_cases c : b0 % 8 * 262144 + b1 % 64 * 4096 + b2 % 64 * 64 + b3 % 64 ≥ 65536 ∧ (b0 % 8 * 262144 + b1 % 64 * 4096 + b2 % 64 * 64 + b3 % 64 < 55296 ∨ (57344 ≤ b0 % 8 * 262144 + b1 % 64 * 4096 + b2 % 64 * 64 + b3 % 64 ∧ b0 % 8 * 262144 + b1 % 64 * 4096 + b2 % 64 * 64 + b3 % 64 ≤ 1114111))
    · have l : Lib.decodeN n b0 b1 b2 b3 = (b0 % 8 * 262144 + b1 % 64 * 4096 + b2 % 64 * 64 + b3 % 64, 4) := by unfold Lib.decodeN; rw [if_neg c0, if_neg k2, if_neg k3, if_pos k4, if_pos c]
      have r : decZ n b0 b1 b2 b3 = (((((b0 : Int) - 240) * 64 + b1 - 128) * 64 + b2 - 128) * 64 + b3 - 128, 4) := by unfold decZ; rw [if_neg (by omega), if_neg (by omega), if_neg (by omega), if_neg (by omega), if_pos (by omega)]
      rw [l, r, asAt_ok _ _ (by omega)]
      refine Prod.ext ?_ ?_ <;> simp only [] <;> omega
    · have l : Lib.decodeN n b0 b1 b2 b3 = (65533, 1) := by unfold Lib.decodeN; rw [if_neg c0, if_neg k2, if_neg k3, if_pos k4, if_neg c]
      have r : decZ n b0 b1 b2 b3 = (-1, 0) := by unfold decZ; rw [if_neg (by omega), if_neg (by omega), if_neg (by omega), if_neg (by omega), if_neg (by omega)]
      rw [l, r]; rfl
  have l : Lib.decodeN n b0 b1 b2 b3 = (65533, 1) := by unfold Lib.decodeN; rw [if_neg c0, if_neg k2, if_neg k3, if_neg k4]
  have r : decZ n b0 b1 b2 b3 = (-1, 0) := by unfold decZ; rw [if_neg (by omega), if_neg (by omega), if_neg (by omega), if_neg (by omega), if_neg (by omega)]
  rw [l, r]; rfl
theorem bt_get (s : ByteArray) (k : Nat) : (((s.get! k).toNat : Nat) : Int) = bt s k := by
  unfold bt
  by_cases h : k < s.size
  · rw [dif_pos (by simpa using h)]
    have : s.get! k = s[k]'h := by
      show s.data[k]! = s.data[k]'h
      exact getElem!_pos s.data k h
    rw [this]; rfl
  · rw [dif_neg (by simpa using h)]
    have : s.get! k = 0 := by
      show s.data[k]! = 0
      rw [getElem!_neg s.data k (by exact h)]; rfl
    rw [this]; rfl
theorem bt_tl (s : ByteArray) (i : Int) (h0 : 0 ≤ i) (k : Nat) : bt (s.extract i.toNat s.size) k = bt s (i + k) := by
  rw [← rd_bytesOf, ← rd_bytesOf, extract_tl]
  unfold rd tl
  simp only [Int.toNat_natCast, List.getD_eq_getElem?_getD, List.getElem?_drop]
  rw [show (i + (k : Int)).toNat = i.toNat + k from by omega]
theorem get_lt (s : ByteArray) (k : Nat) : (s.get! k).toNat < 256 := (s.get! k).toNat_lt
theorem decAt_zero (t : ByteArray) (h : 0 < t.size) : asAt (Utf8.decode t 0) = decAt t 0 := by
  rw [Lib.decode_at t 0, dec_go _ _ _ _ _ (by omega) (get_lt _ _) (get_lt _ _) (get_lt _ _) (get_lt _ _)]
  unfold decAt
  rw [bt_get, bt_get, bt_get, bt_get]
  simp
theorem decAt_tl (s : ByteArray) (i : Int) (h0 : 0 ≤ i) (h1 : i < (s.size : Int)) : decAt (s.extract i.toNat s.size) 0 = decAt s i := by
  have hs : ((s.extract i.toNat s.size).size : Int) = (s.size : Int) - i := by rw [size_extract]; omega
  unfold decAt
  rw [hs]
  have e0 := bt_tl s i h0 0
  have e1 := bt_tl s i h0 1
  have e2 := bt_tl s i h0 2
  have e3 := bt_tl s i h0 3
  have z0 : bt (s.extract i.toNat s.size) 0 = bt s i := by have := e0; rwa [show ((0 : Nat) : Int) = 0 from rfl, Int.add_zero] at this
  have z1 : bt (s.extract i.toNat s.size) (0 + 1) = bt s (i + 1) := e1
  have z2 : bt (s.extract i.toNat s.size) (0 + 2) = bt s (i + 2) := e2
  have z3 : bt (s.extract i.toNat s.size) (0 + 3) = bt s (i + 3) := e3
  rw [z0, z1, z2, z3, Int.sub_zero]
theorem decAt_out (s : ByteArray) (i : Int) (h1 : (s.size : Int) ≤ i) : decAt s i = (-1, 0) := by
  unfold decAt decZ; rw [if_pos (by omega)]
theorem runeText_size (n : Int) : ((runeTextL n).size : Int) = if scalB n = true then (if n < 128 then 1 else if n < 2048 then 2 else if n < 65536 then 3 else 4) else 0 := by
  unfold runeTextL
  by_cases h : scalB n = true
  · rw [if_pos h, if_pos h, ← size_bytes]
    unfold strOfNums bytesOf runeL
    by_cases c1 : n < 128
    · rw [if_pos c1, if_pos c1]; rfl
    · rw [if_neg c1, if_neg c1]
      by_cases c2 : n < 2048
      · rw [if_pos c2, if_pos c2]; rfl
      · rw [if_neg c2, if_neg c2]
        by_cases c3 : n < 65536
        · rw [if_pos c3, if_pos c3]; rfl
        · rw [if_neg c3, if_neg c3]; rfl
  · rw [if_neg h, if_neg h]; rfl
theorem rs2 (n : Int) : ((runeTextL n).size : Int) = 2 ↔ 128 ≤ n ∧ n < 2048 := by
  rw [runeText_size]
  by_cases h : scalB n = true
  · rw [if_pos h]; repeat' split
    all_goals omega
  · rw [if_neg h]
    constructor
    · intro h; omega
    · intro g; exfalso; apply h; unfold scalB; simp; omega
theorem rs3 (n : Int) : ((runeTextL n).size : Int) = 3 ↔ (2048 ≤ n ∧ n < 65536 ∧ ¬ (55296 ≤ n ∧ n ≤ 57343)) := by
  rw [runeText_size]
  by_cases h : scalB n = true
  · have g := h
    unfold scalB at g; simp only [Bool.and_eq_true, decide_eq_true_eq, Bool.not_eq_true', decide_eq_false_iff_not] at g
    rw [if_pos h]; repeat' split
    all_goals omega
  · rw [if_neg h]
    constructor
    · intro h; omega
    · intro g; exfalso; apply h; unfold scalB; simp; omega
theorem rs4 (n : Int) : ((runeTextL n).size : Int) = 4 ↔ (65536 ≤ n ∧ n ≤ 1114111) := by
  rw [runeText_size]
  by_cases h : scalB n = true
  · have g := h
    unfold scalB at g; simp only [Bool.and_eq_true, decide_eq_true_eq, Bool.not_eq_true', decide_eq_false_iff_not] at g
    rw [if_pos h]; repeat' split
    all_goals omega
  · rw [if_neg h]
    constructor
    · intro h; omega
    · intro g; exfalso; apply h; unfold scalB; simp; omega

/-- Where the first element is that p holds of; -1: nowhere. -/
def fstI (p : Int → Bool) : List Int → Int
  | [] => -1
  | x :: r => if p x = true then 0 else if fstI p r = -1 then -1 else fstI p r + 1
def isE (x : Int) : Bool := x == 101 || x == 69
theorem fstI_range (p : Int → Bool) (l : List Int) : -1 ≤ fstI p l ∧ fstI p l < l.length := by
  induction l with
  | nil => simp [fstI]
  | cons x r ih => simp only [fstI, List.length_cons]; split; omega; split <;> omega
theorem fstI_skip (p : Int → Bool) (a q : List Int) (h : ∀ x ∈ a, p x = false) : fstI p (a ++ q) = if fstI p q = -1 then -1 else fstI p q + a.length := by
  induction a with
  | nil => simp
  | cons x r ih =>
    have ih := ih fun y hy => h y (by simp [hy])
    have hq := fstI_range p q
    simp only [List.cons_append, fstI, h x (by simp), ih, List.length_cons]
    by_cases c : fstI p q = -1
    · simp [c]
    · rw [if_neg (by decide), if_neg c, if_neg (by omega), if_neg c]; omega
theorem fstI_none (p : Int → Bool) (a : List Int) (h : ∀ x ∈ a, p x = false) : fstI p a = -1 := by
  have := fstI_skip p a [] h
  rw [List.append_nil] at this
  rw [this]; rfl
theorem fstI_split (p : Int → Bool) (l : List Int) (h : 0 ≤ fstI p l) : ∃ x, p x = true ∧ l = l.take (fstI p l).toNat ++ x :: l.drop ((fstI p l).toNat + 1) ∧ ∀ y ∈ l.take (fstI p l).toNat, p y = false := by
  induction l with
  | nil => simp [fstI] at h
  | cons x r ih =>
    simp only [fstI] at h ⊢
    by_cases c : p x = true
    · rw [if_pos c]; exact ⟨x, c, by simp, by simp⟩
    · rw [if_neg c] at h ⊢
      by_cases d : fstI p r = -1
      · rw [if_pos d] at h; omega
      · rw [if_neg d]
        have hr := fstI_range p r
        obtain ⟨y, hy, hs, ha⟩ := ih (by omega)
        rw [show (fstI p r + 1).toNat = (fstI p r).toNat + 1 from by omega]
        refine ⟨y, hy, ?_, ?_⟩
        · rw [List.take_succ_cons, List.drop_succ_cons, List.cons_append, ← hs]
        · intro z hz
          rw [List.take_succ_cons] at hz
          rcases List.mem_cons.1 hz with rfl | hz
          · simpa using c
          · exact ha z hz
theorem indexByte_fst (l : List UInt8) (c : UInt8) : Lib.indexByte l c = fstI (· == (c.toNat : Int)) (l.map fun b => (b.toNat : Int)) := by
  induction l with
  | nil => rfl
  | cons b l ih =>
    have e : ((b.toNat : Int) == (c.toNat : Int)) = (b == c) := by
      rw [Bool.eq_iff_iff, beq_iff_eq, beq_iff_eq]
      constructor
      · intro h; apply UInt8.toNat_inj.1; omega
      · rintro rfl; rfl
    simp only [List.map_cons, fstI, e, ← ih, Lib.indexByte]
    cases h : (b == c) with
    | true => simp
    | false => simp
theorem indexAny_fst (l : List UInt8) : Lib.indexAny l [101, 69] = fstI isE (l.map fun b => (b.toNat : Int)) := by
  induction l with
  | nil => rfl
  | cons b l ih =>
    have e : isE (b.toNat : Int) = ([101, 69] : List UInt8).contains b := by
      unfold isE
      rw [Bool.eq_iff_iff]
      simp only [Bool.or_eq_true, beq_iff_eq, List.contains_cons, List.contains_nil, Bool.or_false]
      constructor
      · rintro (h | h)
        · left; apply UInt8.toNat_inj.1; show b.toNat = 101; omega
        · right; apply UInt8.toNat_inj.1; show b.toNat = 69; omega
      · rintro (h | h)
        · left; subst h; rfl
        · right; subst h; rfl
    simp only [List.map_cons, fstI, e, ← ih, Lib.indexAny]
    cases h : ([101, 69] : List UInt8).contains b with
    | true => simp
    | false => simp
/-- What a step of the decoder goes over. -/
theorem dec_over (s : ByteArray) (p : Nat) (hp : p < s.size) : (bt s p < 128 ∧ ((Utf8.decode s p).1 : Int) = bt s p ∧ (Utf8.decode s p).2 = 1) ∨
    (128 ≤ (Utf8.decode s p).1 ∧ 1 ≤ (Utf8.decode s p).2 ∧ p + (Utf8.decode s p).2 ≤ s.size ∧ ∀ j : Nat, j < (Utf8.decode s p).2 → 128 ≤ bt s ((p : Int) + j)) := by
  have hb : bt s p = ((s[p]'hp).toNat : Int) := by
    have := Go.Proofs.YthfdcillieddeaaDoorW.PrintWords.bt_at s p (by simpa using hp)
    simp only [Int.toNat_natCast] at this
    exact this.symm
  by_cases c : (s[p]'hp).toNat < 128
  · left
    have := decode_ascii s p hp c
    rw [this]
    exact ⟨by omega, by simp [hb], rfl⟩
  · right
    have hh := Go.decode_high s p hp (by omega)
    have ha : asAt (Utf8.decode s p) = decAt s p := by
      rw [Lib.decode_at s p, dec_go _ _ _ _ _ (by omega) (get_lt _ _) (get_lt _ _) (get_lt _ _) (get_lt _ _)]
      unfold decAt
      rw [bt_get, bt_get, bt_get, bt_get]
      rw [show ((s.size - p : Nat) : Int) = (s.size : Int) - (p : Int) from by omega]; rfl
    refine ⟨hh.1, hh.2, ?_⟩
    by_cases c2 : (Utf8.decode s p).1 = 65533 ∧ (Utf8.decode s p).2 < 2
    · refine ⟨by omega, fun j hj => ?_⟩
      rw [show j = 0 from by omega]
      simp only [Int.natCast_zero, Int.add_zero]
      omega
    · unfold asAt at ha
      rw [if_neg c2] at ha
      generalize (Utf8.decode s p).1 = R at *
      generalize (Utf8.decode s p).2 = K at *
      unfold decAt decZ at ha
      have key : ∀ (a b : Int), ((R : Int), (K : Int)) = (a, b) → (R : Int) = a ∧ (K : Int) = b := fun a b h => Prod.mk.inj h
      split at ha
      · have := key _ _ ha; omega
      · split at ha
        · omega
        · split at ha
          · rename_i h2
            have := key _ _ ha
            refine ⟨by omega, fun j hj => ?_⟩
            have hj2 : j = 0 ∨ j = 1 := by omega
            rcases hj2 with rfl | rfl
            · simp only [Int.natCast_zero, Int.add_zero]; omega
            · show 128 ≤ bt s ((p : Int) + 1); omega
          · split at ha
            · rename_i h2
              have := key _ _ ha
              refine ⟨by omega, fun j hj => ?_⟩
              have hj2 : j = 0 ∨ j = 1 ∨ j = 2 := by omega
              rcases hj2 with rfl | rfl | rfl
              · simp only [Int.natCast_zero, Int.add_zero]; omega
              · show 128 ≤ bt s ((p : Int) + 1); omega
              · show 128 ≤ bt s ((p : Int) + 2); omega
            · split at ha
              · rename_i h2
                have := key _ _ ha
                refine ⟨by omega, fun j hj => ?_⟩
                have hj2 : j = 0 ∨ j = 1 ∨ j = 2 ∨ j = 3 := by omega
                rcases hj2 with rfl | rfl | rfl | rfl
                · simp only [Int.natCast_zero, Int.add_zero]; omega
                · show 128 ≤ bt s ((p : Int) + 1); omega
                · show 128 ≤ bt s ((p : Int) + 2); omega
                · show 128 ≤ bt s ((p : Int) + 3); omega
              · have := key _ _ ha; omega
/-- Moved on over bytes that p does not hold of. -/
theorem fstI_over (s : ByteArray) (p : Int → Bool) (m : Nat) : ∀ i : Int, 0 ≤ i → i + m ≤ (s.size : Int) → (∀ j : Nat, j < m → p (bt s (i + j)) = false) → fstI p (tl s i) = if fstI p (tl s (i + m)) = -1 then -1 else fstI p (tl s (i + m)) + m := by
  induction m with
  | zero =>
    intro i h0 _ _
    simp only [Int.natCast_zero, Int.add_zero]
    split <;> omega
  | succ m ih =>
    intro i h0 h1 h
    have hx := h 0 (by omega)
    simp only [Int.natCast_zero, Int.add_zero] at hx
    have := ih (i + 1) (by omega) (by omega) (fun j hj => by
      have := h (j + 1) (by omega)
      rwa [show i + ((j + 1 : Nat) : Int) = i + 1 + j from by omega] at this)
    rw [tl_cons h0 (by omega), fstI, hx, this, show i + 1 + (m : Int) = i + ((m + 1 : Nat) : Int) from by omega]
    have hr := fstI_range p (tl s (i + ((m + 1 : Nat) : Int)))
    rw [if_neg (by decide)]
    by_cases c : fstI p (tl s (i + ((m + 1 : Nat) : Int))) = -1
    · rw [if_pos c, if_pos rfl, if_pos c]
    · rw [if_neg c, if_neg (by omega), if_neg c]; omega
theorem ixRun_eq (s : ByteArray) (n : Nat) : ∀ p : Nat, p ≤ s.size → s.size - p ≤ n → strings_IndexAny.ixRun s n p = if fstI isE (tl s (p : Int)) = -1 then -1 else fstI isE (tl s (p : Int)) + p := by
  induction n with
  | zero =>
    intro p hp hn
    rw [tl_nil (by omega)]; rfl
  | succ n ih =>
    intro p hp hn
    by_cases c : p < s.size
    · rw [strings_IndexAny.ixRun, if_pos c]
      have hr0 := bt_range s p
      rcases dec_over s p c with ⟨hb, hR, hK⟩ | ⟨hR, hK, hle, hall⟩
      · rw [hR, hK]
        have ht : tl s (p : Int) = bt s p :: tl s ((p : Int) + 1) := tl_cons (by omega) (by omega)
        by_cases e : isE (bt s p) = true
        · have : (0 : Int) ≤ strings_IndexAny.ixR (bt s p) := by
            unfold isE at e; simp at e
            unfold strings_IndexAny.ixR
            rcases e with e | e <;> rw [e] <;> decide
          rw [if_pos this, ht, fstI, if_pos e, if_neg (by decide), Int.zero_add]
        · have hne : ¬ (0 : Int) ≤ strings_IndexAny.ixR (bt s p) := by
            unfold isE at e; simp at e
            unfold strings_IndexAny.ixR
            rw [if_neg e.1, if_neg e.2]; decide
          have hi := ih (p + 1) (by omega) (by omega)
          have hr := fstI_range isE (tl s ((p : Int) + 1))
          rw [if_neg hne, hi, ht, fstI, if_neg e, show ((p + 1 : Nat) : Int) = (p : Int) + 1 from by omega]
          by_cases d : fstI isE (tl s ((p : Int) + 1)) = -1
          · rw [if_pos d, if_pos d, if_pos rfl]
          · rw [if_neg d, if_neg d, if_neg (by omega)]; omega
      · have hne : ¬ (0 : Int) ≤ strings_IndexAny.ixR ((Utf8.decode s p).1 : Int) := by
          unfold strings_IndexAny.ixR
          rw [if_neg (by omega), if_neg (by omega)]; decide
        have hov := fstI_over s isE (Utf8.decode s p).2 (p : Int) (by omega) (by omega) (fun j hj => by
          have := hall j hj
          unfold isE; simp; omega)
        have hi := ih (p + (Utf8.decode s p).2) (by omega) (by omega)
        have hr := fstI_range isE (tl s ((p : Int) + ((Utf8.decode s p).2 : Int)))
        rw [if_neg hne, hi, hov, Int.natCast_add]
        by_cases d : fstI isE (tl s ((p : Int) + ((Utf8.decode s p).2 : Int))) = -1
        · rw [if_pos d, if_pos d, if_pos rfl]
        · rw [if_neg d, if_neg d, if_neg (by omega)]; omega
    · rw [strings_IndexAny.ixRun, if_neg c, tl_nil (by omega)]; rfl
theorem strings_IndexAny.eq (s : ByteArray) (hs : s.size ≤ 100000) : strings_IndexAny.f s (⟨#[101, 69]⟩ : ByteArray) = some (fstI isE (bytesOf s)) := by
  unfold strings_IndexAny.f
  rw [if_pos rfl]
  by_cases c : s.size ≤ 8
  · have hr := fstI_range isE (bytesOf s)
    rw [if_pos c, ixRun_eq s s.size 0 (by omega) (by omega), show ((0 : Nat) : Int) = 0 from rfl, tl_zero]
    congr 1; split <;> omega
  · rw [if_neg c, if_pos (by omega), indexAny_fst]; rfl

/-- A list cut at its first element that p holds of. -/
def cutB (p : Int → Bool) (l : List Int) : List Int × Option (List Int) := if 0 ≤ fstI p l then (l.take (fstI p l).toNat, some (l.drop ((fstI p l).toNat + 1))) else (l, none)
def isDot (x : Int) : Bool := x == 46
def figsL (l : List Int) : Bool := l.all figB && (l != [])
def signOff (l : List Int) : List Int := if l.head? = some 43 ∨ l.head? = some 45 then l.tail else l
def frontOk (l : List Int) (e : Bool) : Bool := match cutB isDot l with | (w, some f) => intOkL w && figsL f | (w, none) => intOkL w && e
def floatL (l : List Int) : Bool := decide (l.length ≤ 40) && (match cutB isE l with | (f, some p) => figsL (signOff p) && frontOk f true | (f, none) => frontOk f false)
theorem cutB_none (p : Int → Bool) (l : List Int) (h : ∀ x ∈ l, p x = false) : cutB p l = (l, none) := by
  unfold cutB; rw [fstI_none p l h, if_neg (by decide)]
theorem cutB_at (p : Int → Bool) (a : List Int) (x : Int) (r : List Int) (h : ∀ y ∈ a, p y = false) (hx : p x = true) : cutB p (a ++ x :: r) = (a, some r) := by
  have e : fstI p (a ++ x :: r) = a.length := by
    have h0 : fstI p (x :: r) = 0 := by rw [fstI, if_pos hx]
    rw [fstI_skip p a _ h, h0, if_neg (by decide)]; omega
  unfold cutB
  rw [e, if_pos (by omega), Int.toNat_natCast, List.take_left]
  rw [List.drop_append, List.drop_eq_nil_of_le (by omega), show a.length + 1 - a.length = 1 from by omega]; rfl

def endB (q : List Int) : Bool := runN q != 0 && runN q == q.length
def expB : List Int → Bool
  | [] => true
  | x :: q => isE x && endB (signOff q)
def specL (l : List Int) : Bool :=
  decide (l.length ≤ 40) && (intEnd l != 0 && (intEnd l != (l.length : Int) && (match l.drop (intEnd l).toNat with
    | [] => true
    | x :: q => if x = 46 then runN q != 0 && expB (q.drop (runN q)) else expB (x :: q))))
theorem tl_len {s : ByteArray} {i : Int} (h0 : 0 ≤ i) (h1 : i ≤ (s.size : Int)) : ((tl s i).length : Int) = (s.size : Int) - i := by
  unfold tl; rw [List.length_drop, size_bytes]; omega
theorem spec_FloatOk.run (s : ByteArray) (hs : s.size ≤ 1000) (i : Int) (h0 : 0 ≤ i) (h1 : i ≤ (s.size : Int)) : Ev (fun k => (spec_l03Run.f k s i).bind fun t => if t = i then some false else some (t == (s.size : Int))) (endB (tl s i)) := by
  refine (spec_l03Run.ev s (by omega) i h0 (by omega)).bind ?_
  have hl := tl_len h0 h1
  have hr := runN_le (tl s i)
  unfold endB
  by_cases c : runN (tl s i) = 0
  · rw [c]; exact Ev.ite_pos (by omega) (Ev.done rfl)
  · refine Ev.ite_neg (by omega) (Ev.done ?_)
    have e : (runN (tl s i) != 0) = true := bne_iff_ne.2 c
    rw [e, Bool.true_and, Bool.eq_iff_iff, beq_iff_eq, beq_iff_eq]; omega
theorem spec_FloatOk.j3_ev (s : ByteArray) (hs : s.size ≤ 1000) (i : Int) (h0 : 0 ≤ i) (h1 : i ≤ (s.size : Int)) (b : Bool) (hb : b = decide ((tl s i).head? = some 43 ∨ (tl s i).head? = some 45)) : Ev (fun k => spec_FloatOk.j3 k s i b) (endB (signOff (tl s i))) := by
  subst hb
  apply Ev.succ; simp only [spec_FloatOk.j3]
  unfold signOff
  by_cases d : (tl s i).head? = some 43 ∨ (tl s i).head? = some 45
  · have hi : i < (s.size : Int) := by
      rcases Int.lt_or_le i (s.size : Int) with h | h
      · exact h
      · rw [tl_nil h] at d; simp at d
    have e : (tl s i).tail = tl s (i + 1) := by rw [tl_cons h0 hi]; rfl
    rw [if_pos d, e, w64 (x := i + 1) (by omega) (by omega)]
    exact Ev.ite_pos (decide_eq_true d) (spec_FloatOk.run s hs (i + 1) (by omega) (by omega))
  · rw [if_neg d]
    exact Ev.ite_neg (by simpa using d) (spec_FloatOk.run s hs i h0 h1)
theorem spec_FloatOk.j1_ev (s : ByteArray) (hs : s.size ≤ 1000) (i : Int) (h0 : 0 ≤ i) (h1 : i ≤ (s.size : Int)) : Ev (fun k => spec_FloatOk.j1 k s i) (expB (tl s i)) := by
  apply Ev.succ; simp only [spec_FloatOk.j1]
  by_cases c : i < (s.size : Int)
  · have hj : ∀ b, b = isE (bt s i) → Ev (fun k => spec_FloatOk.j2 k s i b) (expB (tl s i)) := by
      rintro b rfl
      apply Ev.succ; simp only [spec_FloatOk.j2]
      rw [tl_cons h0 c, expB, w64 (x := i + 1) (by omega) (by omega)]
      cases he : isE (bt s i) with
      | false => exact Ev.ite_neg (by decide) (Ev.done (by rw [Bool.false_and]; exact beq_eq_false_iff_ne.2 (by omega)))
      | true =>
        rw [Bool.true_and]
        refine Ev.ite_pos (by first | rfl | trivial) ?_
        by_cases d : i + 1 < (s.size : Int)
        · have hh : (tl s (i + 1)).head? = some (bt s (i + 1)) := by rw [tl_cons (by omega) d]; rfl
          refine Ev.ite_pos d (Ev.ite_pos (by omega) ?_)
          by_cases e : bt s (i + 1) = 43
          · exact Ev.ite_pos e (spec_FloatOk.j3_ev s hs (i + 1) (by omega) (by omega) _ (by rw [hh, e]; simp))
          · refine Ev.ite_neg e (spec_FloatOk.j3_ev s hs (i + 1) (by omega) (by omega) _ ?_)
            rw [hh, Bool.eq_iff_iff]; simp [e]
        · refine Ev.ite_neg d (spec_FloatOk.j3_ev s hs (i + 1) (by omega) (by omega) _ ?_)
          rw [tl_nil (by omega)]; simp
    refine Ev.ite_pos c (Ev.ite_pos h0 ?_)
    by_cases e : bt s i = 101
    · exact Ev.ite_pos e (hj _ (by rw [e]; rfl))
    · refine Ev.ite_neg e (hj _ ?_)
      unfold isE
      rw [beq_eq_false_iff_ne.2 e, Bool.false_or]
  · rw [tl_nil (by omega)]
    refine Ev.ite_neg c ?_
    apply Ev.succ; simp only [spec_FloatOk.j2]
    exact Ev.ite_neg (by decide) (Ev.done (beq_iff_eq.2 (by omega)))
theorem intEnd_range (l : List Int) : 0 ≤ intEnd l ∧ intEnd l ≤ l.length := by
  have h1 := digs_length l
  have h2 := runN_le (digs l)
  have h3 : 0 ≤ signN l := by unfold signN; split <;> omega
  unfold intEnd
  split
  · omega
  · split <;> omega
theorem spec_FloatOk.ev (s : ByteArray) (hs : s.size ≤ 140737488351232) : Ev (fun k => spec_FloatOk.f k s) (specL (bytesOf s)) := by
  unfold spec_FloatOk.f specL
  have hr := intEnd_range (bytesOf s)
  rw [size_bytes] at hr ⊢
  have hj : Ev (fun k => spec_FloatOk.j0 k s (intEnd (bytesOf s)) true) false := by
    apply Ev.succ; simp only [spec_FloatOk.j0]
    exact Ev.ite_pos (by first | rfl | trivial) (Ev.done rfl)
  refine (spec_l03Int.ev s hs).bind ?_
  by_cases c40 : (s.size : Int) > 40
  · rw [decide_eq_false (show ¬ s.size ≤ 40 by omega)]
    exact Ev.ite_pos c40 hj
  rw [decide_eq_true (show s.size ≤ 40 by omega), Bool.true_and]
  refine Ev.ite_neg c40 ?_
  by_cases c0 : intEnd (bytesOf s) = 0
  · rw [show (intEnd (bytesOf s) != 0) = false from bne_eq_false_iff_eq.2 c0]
    exact Ev.ite_pos c0 (by rw [Bool.false_and]; exact hj)
  rw [show (intEnd (bytesOf s) != 0) = true from bne_iff_ne.2 c0, Bool.true_and]
  refine Ev.ite_neg c0 ?_
  by_cases c1 : intEnd (bytesOf s) = (s.size : Int)
  · rw [show (intEnd (bytesOf s) != (s.size : Int)) = false from bne_eq_false_iff_eq.2 c1, show (intEnd (bytesOf s) == (s.size : Int)) = true from beq_iff_eq.2 c1, Bool.false_and]
    exact hj
  rw [show (intEnd (bytesOf s) != (s.size : Int)) = true from bne_iff_ne.2 c1, show (intEnd (bytesOf s) == (s.size : Int)) = false from beq_eq_false_iff_ne.2 c1, Bool.true_and]
  generalize intEnd (bytesOf s) = a at *
  have e : (bytesOf s).drop a.toNat = tl s a := rfl
  rw [e, tl_cons (by omega) (by omega)]
  simp only
  apply Ev.succ; simp only [spec_FloatOk.j0]
  rw [w64 (x := a + 1) (by omega) (by omega)]
  refine Ev.ite_neg (by decide) (Ev.ite_pos (by omega) (Ev.ite_pos (by omega) ?_))
  by_cases d : bt s a = 46
  · rw [if_pos d]
    refine Ev.ite_pos d ((spec_l03Run.ev s (by omega) (a + 1) (by omega) (by omega)).bind ?_)
    have hl := tl_len (s := s) (i := a + 1) (by omega) (by omega)
    have hrn := runN_le (tl s (a + 1))
    by_cases c : runN (tl s (a + 1)) = 0
    · rw [c]; exact Ev.ite_pos (by omega) (Ev.done rfl)
    · rw [show (runN (tl s (a + 1)) != 0) = true from bne_iff_ne.2 c, Bool.true_and]
      refine Ev.ite_neg (by omega) ((spec_FloatOk.j1_ev s (by omega) _ (by omega) (by omega)).get ?_)
      congr 1
      unfold tl
      rw [List.drop_drop]; congr 1; omega
  · rw [if_neg d]
    refine Ev.ite_neg d ((spec_FloatOk.j1_ev s (by omega) a (by omega) (by omega)).get ?_)
    rw [tl_cons (by omega) (by omega)]

theorem spec_l01In.eq (x a b : Int) : spec_l01In.f x a b = some (decide (a ≤ x ∧ x ≤ b)) := by
  unfold spec_l01In.f
  by_cases h : x ≥ a
  · rw [if_pos h]; congr 1; rw [Bool.eq_iff_iff]; simp only [decide_eq_true_eq]; omega
  · rw [if_neg h]; congr 1; rw [Bool.eq_iff_iff]; simp only [decide_eq_true_eq, Bool.false_eq_true, false_iff]; omega

theorem spec_l02Scalar.eq (x : Int) : spec_l02Scalar.f x = some (scalB x) := by
  unfold spec_l02Scalar.f scalB
  simp only [spec_l01In.eq, Option.bind_some]
  cases decide (0 ≤ x ∧ x ≤ 1114111) <;> simp

theorem spec_RuneText.eq (n : Int) : spec_RuneText.f n = some (runeTextL n) := by
  unfold spec_RuneText.f runeTextL
  rw [spec_l02Scalar.eq]; simp only [Option.bind_some]
  cases hs : scalB n with
  | false => rfl
  | true =>
    have hr : 0 ≤ n ∧ n ≤ 1114111 := by unfold scalB at hs; simp only [Bool.and_eq_true, decide_eq_true_eq] at hs; exact hs.1
    have d1 : ∀ m : Int, 0 < m → Int.tdiv n m = n / m := fun m _ => Int.tdiv_eq_ediv_of_nonneg hr.1
    have d2 : ∀ a m : Int, 0 ≤ a → Int.tmod a m = a % m := fun a m h => Int.tmod_eq_emod_of_nonneg h
    rw [if_pos rfl, if_pos rfl]
    unfold runeL
    rw [d1 64 (by omega), d1 4096 (by omega), d1 262144 (by omega), d2 n 64 hr.1, w64 (x := n / 64) (by omega) (by omega), w64 (x := n / 4096) (by omega) (by omega), w64 (x := n / 262144) (by omega) (by omega), d2 (n / 64) 64 (by omega), d2 (n / 4096) 64 (by omega)]
    rw [w64 (x := 192 + n / 64) (by omega) (by omega), w64 (x := 128 + n % 64) (by omega) (by omega), w64 (x := 224 + n / 4096) (by omega) (by omega), w64 (x := 128 + n / 64 % 64) (by omega) (by omega), w64 (x := 240 + n / 262144) (by omega) (by omega), w64 (x := 128 + n / 4096 % 64) (by omega) (by omega)]
    by_cases c1 : n < 128
    · rw [if_pos c1, if_pos c1]; congr 2; simp; omega
    · rw [if_neg c1, if_neg c1]
      by_cases c2 : n < 2048
      · rw [if_pos c2, if_pos c2]; congr 2; simp; omega
      · rw [if_neg c2, if_neg c2]
        by_cases c3 : n < 65536
        · rw [if_pos c3, if_pos c3]; congr 2; simp; omega
        · rw [if_neg c3, if_neg c3]; congr 2; simp; omega

theorem spec_RuneAt.last (s : ByteArray) (i m n : Int) : Ev (fun k => spec_RuneAt.l0 k s i m n m) (if ((runeTextL n).size : Int) = m then (n, m) else (-1, 0)) := by
  apply Ev.succ; simp only [spec_RuneAt.l0]
  refine Ev.ite_neg (by omega) (Ev.bindc (spec_RuneText.eq n) ?_)
  by_cases c : ((runeTextL n).size : Int) = m
  · have e : (if ((runeTextL n).size : Int) = m then (n, m) else ((-1 : Int), (0 : Int))) = (n, m) := if_pos c
    rw [e]; exact Ev.ite_pos c (Ev.done rfl)
  · have e : (if ((runeTextL n).size : Int) = m then (n, m) else ((-1 : Int), (0 : Int))) = (-1, 0) := if_neg c
    rw [e]; exact Ev.ite_neg c (Ev.done rfl)
theorem spec_RuneAt.step (s : ByteArray) (hs : s.size ≤ 140737488351232) (i m n j : Int) (r : Int × Int) (h0 : 0 ≤ i) (hj0 : 0 ≤ j) (hj : j < m) (hm : m ≤ 4) (hi : i + m ≤ (s.size : Int)) (hn : 0 ≤ n) (hn1 : n ≤ 1000000)
    (h : 128 ≤ bt s (i + j) → bt s (i + j) ≤ 191 → Ev (fun k => spec_RuneAt.l0 k s i m (n * 64 + bt s (i + j) - 128) (j + 1)) r) (hb : ¬ (128 ≤ bt s (i + j) ∧ bt s (i + j) ≤ 191) → r = (-1, 0)) :
    Ev (fun k => spec_RuneAt.l0 k s i m n j) r := by
  have hr := bt_range s (i + j)
  apply Ev.succ; simp only [spec_RuneAt.l0]
  rw [w64 (x := i + j) (by omega) (by omega), w64 (x := bt s (i + j)) (by omega) (by omega), w64 (x := n * 64) (by omega) (by omega), w64 (x := n * 64 + bt s (i + j)) (by omega) (by omega), w64 (x := n * 64 + bt s (i + j) - 128) (by omega) (by omega), w64 (x := j + 1) (by omega) (by omega)]
  refine Ev.ite_pos hj (Ev.ite_pos (by omega) (Ev.ite_pos (by omega) ?_))
  by_cases c1 : bt s (i + j) < 128
  · rw [hb (by omega)]; exact Ev.ite_pos c1 (Ev.done rfl)
  · refine Ev.ite_neg c1 ?_
    by_cases c2 : bt s (i + j) > 191
    · rw [hb (by omega)]; exact Ev.ite_pos c2 (Ev.done rfl)
    · exact Ev.ite_neg c2 (h (by omega) (by omega))
theorem spec_RuneAt.two (s : ByteArray) (hs : s.size ≤ 140737488351232) (i : Int) (h0 : 0 ≤ i) (h1 : i < (s.size : Int)) (hb : 194 ≤ bt s i ∧ bt s i < 224) : Ev (fun k => spec_RuneAt.j3 k s i 2 (bt s i - 192)) (decAt s i) := by
  apply Ev.succ; simp only [spec_RuneAt.j3]
  rw [w64 (x := i + 2) (by omega) (by omega)]
  have hD : decAt s i = if 2 ≤ (s.size : Int) - i ∧ 128 ≤ bt s (i + 1) ∧ bt s (i + 1) ≤ 191 then ((bt s i - 192) * 64 + bt s (i + 1) - 128, 2) else (-1, 0) := by
    unfold decAt decZ
    rw [if_neg (by omega), if_neg (by omega)]
    by_cases g : 2 ≤ (s.size : Int) - i ∧ 128 ≤ bt s (i + 1) ∧ bt s (i + 1) ≤ 191
    · rw [if_pos ⟨hb.1, hb.2, g⟩, if_pos g]
    · rw [if_neg (fun h => g h.2.2), if_neg (by omega), if_neg (by omega), if_neg g]
  by_cases c : i + 2 > (s.size : Int)
  · rw [hD, if_neg (by omega)]; exact Ev.ite_pos c (Ev.done rfl)
  · refine Ev.ite_neg c (spec_RuneAt.step s hs i 2 _ 1 _ h0 (by omega) (by omega) (by omega) (by omega) (by omega) (by omega) ?_ ?_)
    · intro a1 a2
      rw [hD, if_pos (by omega)]
      refine (spec_RuneAt.last s i 2 _).get ?_
      rw [if_pos ((rs2 _).2 (by omega))]
    · intro hn
      rw [hD, if_neg (by omega)]
theorem spec_RuneAt.three (s : ByteArray) (hs : s.size ≤ 140737488351232) (i : Int) (h0 : 0 ≤ i) (h1 : i < (s.size : Int)) (hb : 224 ≤ bt s i ∧ bt s i < 240) : Ev (fun k => spec_RuneAt.j3 k s i 3 (bt s i - 224)) (decAt s i) := by
  apply Ev.succ; simp only [spec_RuneAt.j3]
  rw [w64 (x := i + 3) (by omega) (by omega)]
  have hr1 := bt_range s (i + 1)
  have hr2 := bt_range s (i + 2)
  generalize hN : ((bt s i - 224) * 64 + bt s (i + 1) - 128) * 64 + bt s (i + 2) - 128 = N
  have hD : decAt s i = if 3 ≤ (s.size : Int) - i ∧ 128 ≤ bt s (i + 1) ∧ bt s (i + 1) ≤ 191 ∧ 128 ≤ bt s (i + 2) ∧ bt s (i + 2) ≤ 191 ∧ 2048 ≤ N ∧ ¬ (55296 ≤ N ∧ N ≤ 57343) then (N, 3) else (-1, 0) := by
    unfold decAt decZ
    rw [if_neg (by omega), if_neg (by omega), if_neg (by omega), hN]
    by_cases g : 3 ≤ (s.size : Int) - i ∧ 128 ≤ bt s (i + 1) ∧ bt s (i + 1) ≤ 191 ∧ 128 ≤ bt s (i + 2) ∧ bt s (i + 2) ≤ 191 ∧ 2048 ≤ N ∧ ¬ (55296 ≤ N ∧ N ≤ 57343)
    · rw [if_pos ⟨hb.1, hb.2, g⟩, if_pos g]
    · rw [if_neg (fun h => g h.2.2), if_neg (fun h => absurd h.1 (by omega)), if_neg g]
  by_cases c : i + 3 > (s.size : Int)
  · rw [hD, if_neg (fun h => absurd h.1 (by omega))]; exact Ev.ite_pos c (Ev.done rfl)
  · refine Ev.ite_neg c (spec_RuneAt.step s hs i 3 _ 1 _ h0 (by omega) (by omega) (by omega) (by omega) (by omega) (by omega) ?_ ?_)
    · intro a1 a2
      refine spec_RuneAt.step s hs i 3 _ 2 _ h0 (by omega) (by omega) (by omega) (by omega) (by omega) (by omega) ?_ ?_
      · intro a3 a4
        refine (spec_RuneAt.last s i 3 _).get ?_
        rw [hN, hD]
        by_cases g : 2048 ≤ N ∧ ¬ (55296 ≤ N ∧ N ≤ 57343)
        · rw [if_pos ((rs3 N).2 ⟨g.1, by omega, g.2⟩), if_pos ⟨by omega, a1, a2, a3, a4, g⟩]
        · rw [if_neg (fun h => g ⟨((rs3 N).1 h).1, ((rs3 N).1 h).2.2⟩), if_neg (fun h => g h.2.2.2.2.2)]
      · intro hn
        rw [hD, if_neg (fun h => hn ⟨h.2.2.2.1, h.2.2.2.2.1⟩)]
    · intro hn
      rw [hD, if_neg (fun h => hn ⟨h.2.1, h.2.2.1⟩)]
theorem spec_RuneAt.four (s : ByteArray) (hs : s.size ≤ 140737488351232) (i : Int) (h0 : 0 ≤ i) (h1 : i < (s.size : Int)) (hb : 240 ≤ bt s i ∧ bt s i < 245) : Ev (fun k => spec_RuneAt.j3 k s i 4 (bt s i - 240)) (decAt s i) := by
  apply Ev.succ; simp only [spec_RuneAt.j3]
  rw [w64 (x := i + 4) (by omega) (by omega)]
  have hr1 := bt_range s (i + 1)
  have hr2 := bt_range s (i + 2)
  have hr3 := bt_range s (i + 3)
  generalize hN : (((bt s i - 240) * 64 + bt s (i + 1) - 128) * 64 + bt s (i + 2) - 128) * 64 + bt s (i + 3) - 128 = N
  have hD : decAt s i = if 4 ≤ (s.size : Int) - i ∧ 128 ≤ bt s (i + 1) ∧ bt s (i + 1) ≤ 191 ∧ 128 ≤ bt s (i + 2) ∧ bt s (i + 2) ≤ 191 ∧ 128 ≤ bt s (i + 3) ∧ bt s (i + 3) ≤ 191 ∧ 65536 ≤ N ∧ N ≤ 1114111 then (N, 4) else (-1, 0) := by
    unfold decAt decZ
    rw [if_neg (by omega), if_neg (by omega), if_neg (by omega), if_neg (fun h => absurd h.2.1 (by omega)), hN]
    by_cases g : 4 ≤ (s.size : Int) - i ∧ 128 ≤ bt s (i + 1) ∧ bt s (i + 1) ≤ 191 ∧ 128 ≤ bt s (i + 2) ∧ bt s (i + 2) ≤ 191 ∧ 128 ≤ bt s (i + 3) ∧ bt s (i + 3) ≤ 191 ∧ 65536 ≤ N ∧ N ≤ 1114111
    · rw [if_pos ⟨hb.1, hb.2, g⟩, if_pos g]
    · rw [if_neg (fun h => g h.2.2), if_neg g]
  by_cases c : i + 4 > (s.size : Int)
  · rw [hD, if_neg (fun h => absurd h.1 (by omega))]; exact Ev.ite_pos c (Ev.done rfl)
  · refine Ev.ite_neg c (spec_RuneAt.step s hs i 4 _ 1 _ h0 (by omega) (by omega) (by omega) (by omega) (by omega) (by omega) ?_ ?_)
    · intro a1 a2
      refine spec_RuneAt.step s hs i 4 _ 2 _ h0 (by omega) (by omega) (by omega) (by omega) (by omega) (by omega) ?_ ?_
      · intro a3 a4
        refine spec_RuneAt.step s hs i 4 _ 3 _ h0 (by omega) (by omega) (by omega) (by omega) (by omega) (by omega) ?_ ?_
        · intro a5 a6
          refine (spec_RuneAt.last s i 4 _).get ?_
          rw [hN, hD]
          by_cases g : 65536 ≤ N ∧ N ≤ 1114111
          · rw [if_pos ((rs4 N).2 g), if_pos ⟨by omega, a1, a2, a3, a4, a5, a6, g⟩]
          · rw [if_neg (fun h => g ((rs4 N).1 h)), if_neg (fun h => g h.2.2.2.2.2.2.2)]
        · intro hn
          rw [hD, if_neg (fun h => hn ⟨h.2.2.2.2.2.1, h.2.2.2.2.2.2.1⟩)]
      · intro hn
        rw [hD, if_neg (fun h => hn ⟨h.2.2.2.1, h.2.2.2.2.1⟩)]
    · intro hn
      rw [hD, if_neg (fun h => hn ⟨h.2.1, h.2.2.1⟩)]
theorem spec_RuneAt.ev (s : ByteArray) (hs : s.size ≤ 140737488351232) (i : Int) : Ev (fun k => spec_RuneAt.f k s i) (if 0 ≤ i then decAt s i else (-1, 0)) := by
  unfold spec_RuneAt.f
  by_cases c0 : i < 0
  · rw [if_neg (by omega)]
    refine Ev.ite_pos c0 ?_
    apply Ev.succ; simp only [spec_RuneAt.j0, if_true]; exact Ev.done rfl
  · rw [if_pos (by omega)]
    refine Ev.ite_neg c0 ?_
    apply Ev.succ; simp only [spec_RuneAt.j0]
    by_cases c1 : i ≥ (s.size : Int)
    · rw [decAt_out s i c1]; exact Ev.ite_pos (by simp; omega) (Ev.done rfl)
    · have hr := bt_range s i
      rw [w64 (x := bt s i) (by omega) (by omega)]
      refine Ev.ite_neg (by simp; omega) (Ev.ite_pos (by omega) (Ev.ite_pos (by omega) ?_))
      by_cases c2 : bt s i < 128
      · refine Ev.ite_pos c2 (Ev.done ?_)
        unfold decAt decZ; rw [if_neg (by omega), if_pos c2]
      · refine Ev.ite_neg c2 ?_
        have w1 : wrap64 (bt s i - 192) = bt s i - 192 := w64 (by omega) (by omega)
        have w2 : wrap64 (bt s i - 224) = bt s i - 224 := w64 (by omega) (by omega)
        have w3 : wrap64 (bt s i - 240) = bt s i - 240 := w64 (by omega) (by omega)
        have hbad : ¬ (194 ≤ bt s i ∧ bt s i < 224) → ¬ (224 ≤ bt s i ∧ bt s i < 240) → ¬ (240 ≤ bt s i ∧ bt s i < 245) → decAt s i = (-1, 0) := by
          intro a b c
          unfold decAt decZ; rw [if_neg (by omega), if_neg c2, if_neg (by omega), if_neg (by omega), if_neg (by omega)]
        have hj2 : ¬ (194 ≤ bt s i ∧ bt s i < 224) → ∀ b, b = decide (224 ≤ bt s i ∧ bt s i < 240) → Ev (fun k => spec_RuneAt.j2 k s i (bt s i) b) (decAt s i) := by
          rintro g b rfl
          apply Ev.succ; simp only [spec_RuneAt.j2, w2, w3]
          by_cases d : 224 ≤ bt s i ∧ bt s i < 240
          · exact Ev.ite_pos (by simp [d]) (spec_RuneAt.three s hs i (by omega) (by omega) d)
          · refine Ev.ite_neg (by simpa using d) ?_
            by_cases d2 : bt s i ≥ 240
            · refine Ev.ite_pos d2 ?_
              by_cases d3 : bt s i < 245
              · exact Ev.ite_pos d3 (spec_RuneAt.four s hs i (by omega) (by omega) ⟨d2, d3⟩)
              · rw [hbad g d (by omega)]; exact Ev.ite_neg d3 (Ev.done rfl)
            · rw [hbad g d (by omega)]; exact Ev.ite_neg d2 (Ev.done rfl)
        have hj1 : ∀ b, b = decide (194 ≤ bt s i ∧ bt s i < 224) → Ev (fun k => spec_RuneAt.j1 k s i (bt s i) b) (decAt s i) := by
          rintro b rfl
          apply Ev.succ; simp only [spec_RuneAt.j1, w1]
          by_cases d : 194 ≤ bt s i ∧ bt s i < 224
          · exact Ev.ite_pos (by simp [d]) (spec_RuneAt.two s hs i (by omega) (by omega) d)
          · refine Ev.ite_neg (by simpa using d) ?_
            by_cases d2 : bt s i ≥ 224
            · exact Ev.ite_pos d2 (hj2 d _ (by rw [Bool.eq_iff_iff]; simp; omega))
            · exact Ev.ite_neg d2 (hj2 d _ (by rw [Bool.eq_iff_iff]; simp; omega))
        by_cases d : bt s i ≥ 194
        · exact Ev.ite_pos d (hj1 _ (by rw [Bool.eq_iff_iff]; simp; omega))
        · exact Ev.ite_neg d (hj1 _ (by rw [Bool.eq_iff_iff]; simp; omega))

def textOkS (s : ByteArray) : Bool := Lib.validD s.data.toList
theorem decAt_of (s : ByteArray) (i : Nat) (h : i < s.size) : asAt (Utf8.decode s i) = decAt s i := by
  rw [Lib.decode_at s i, dec_go _ _ _ _ _ (by omega) (get_lt _ _) (get_lt _ _) (get_lt _ _) (get_lt _ _)]
  unfold decAt
  rw [bt_get, bt_get, bt_get, bt_get]
  rw [show ((s.size - i : Nat) : Int) = (s.size : Int) - (i : Int) from by omega]; rfl
/-- What a step of the decoder comes to. -/
theorem dec_step (s : ByteArray) (i : Int) (h0 : 0 ≤ i) (h1 : i < (s.size : Int)) :
    (decAt s i = (-1, 0) ∧ Lib.validD (s.data.toList.drop i.toNat) = false) ∨
    (0 ≤ (decAt s i).1 ∧ 1 ≤ (decAt s i).2 ∧ (decAt s i).2 ≤ 4 ∧ i + (decAt s i).2 ≤ (s.size : Int) ∧ Lib.validD (s.data.toList.drop i.toNat) = Lib.validD (s.data.toList.drop (i + (decAt s i).2).toNat)) := by
  obtain ⟨p, rfl⟩ := Int.eq_ofNat_of_zero_le h0
  have hp : p < s.size := by omega
  have hl : s.data.toList.length = s.size := by rw [Array.length_toList]; rfl
  have hne : s.data.toList.drop p ≠ [] := by
    intro h; have := congrArg List.length h; rw [List.length_drop, hl] at this; simp at this; omega
  have hw := Lib.decodeL_width (s.data.toList.drop p)
  have hle := Lib.decodeL_le (s.data.toList.drop p) hne
  have hst := Lib.validD_step (s.data.toList.drop p) hne
  rw [Lib.decodeL_drop] at hw hle hst
  have ha := decAt_of s p hp
  have h4 : (Utf8.decode s p).2 ≤ 4 := by
    rw [Lib.decode_at]; unfold Lib.decodeN
    repeat' split
    all_goals (simp only []; omega)
  rw [List.length_drop, hl] at hle
  rw [Int.toNat_natCast]
  by_cases c : (Utf8.decode s p).1 = 65533 ∧ (Utf8.decode s p).2 = 1
  · left
    rw [if_pos c] at hst
    refine ⟨?_, hst⟩
    rw [← ha]; unfold asAt; rw [if_pos ⟨c.1, by omega⟩]
  · right
    rw [if_neg c] at hst
    have e : decAt s p = (((Utf8.decode s p).1 : Int), ((Utf8.decode s p).2 : Int)) := by
      rw [← ha]; unfold asAt; rw [if_neg (fun h => c ⟨h.1, by omega⟩)]
    rw [e]
    refine ⟨by simp only []; omega, by simp only []; omega, by simp only []; omega, by simp only []; omega, ?_⟩
    rw [hst, List.drop_drop]
    congr 2

theorem spec_TextOk.l0_ev (s : ByteArray) (hs : s.size ≤ 140737488351232) (n : Nat) : ∀ i : Int, 0 ≤ i → i ≤ (s.size : Int) → (s.size : Int) - i ≤ n →
    Ev (fun k => spec_TextOk.l0 k s i) (Lib.validD (s.data.toList.drop i.toNat)) := by
  induction n with
  | zero =>
    intro i h0 h2 hn
    apply Ev.succ; simp only [spec_TextOk.l0]
    refine Ev.ite_neg (by omega) (Ev.done ?_)
    rw [List.drop_eq_nil_of_le (by rw [Array.length_toList]; show s.size ≤ i.toNat; omega)]; rfl
  | succ n ih =>
    intro i h0 h2 hn
    by_cases h1 : i < (s.size : Int)
    · have hd := spec_RuneAt.ev s hs i
      rw [if_pos h0] at hd
      apply Ev.succ; simp only [spec_TextOk.l0]
      refine Ev.ite_pos h1 (hd.bind ?_)
      rcases dec_step s i h0 h1 with ⟨e, hv⟩ | ⟨g1, g2, g3, g4, hv⟩
      · rw [hv, e]; exact Ev.ite_pos (by simp) (Ev.done rfl)
      · rw [hv, w64 (x := i + (decAt s i).2) (by omega) (by omega)]
        exact Ev.ite_neg (by omega) (ih _ (by omega) g4 (by omega))
    · apply Ev.succ; simp only [spec_TextOk.l0]
      refine Ev.ite_neg h1 (Ev.done ?_)
      rw [List.drop_eq_nil_of_le (by rw [Array.length_toList]; show s.size ≤ i.toNat; omega)]; rfl
theorem spec_TextOk.ev (s : ByteArray) (hs : s.size ≤ 140737488351232) : Ev (fun k => spec_TextOk.f k s) (textOkS s) := by
  unfold spec_TextOk.f
  exact (spec_TextOk.l0_ev s hs s.size 0 (by omega) (by omega) (by omega)).get (by unfold textOkS; simp)

def hexD (n : Int) : Int := if n < 10 then 48 + n else 87 + n
def hexL : List Int → List Int
  | [] => []
  | x :: r => hexD (x / 16) :: hexD (x % 16) :: hexL r
theorem hexL_length (l : List Int) : (hexL l).length = 2 * l.length := by
  induction l with
  | nil => rfl
  | cons x r ih => simp [hexL, ih]; omega
theorem hexD_range {n : Int} (h0 : 0 ≤ n) (h1 : n < 16) : 0 ≤ hexD n ∧ hexD n ≤ 255 := by unfold hexD; split <;> omega
theorem hexTab : ∀ n : Fin 16, bt (⟨#[48, 49, 50, 51, 52, 53, 54, 55, 56, 57, 97, 98, 99, 100, 101, 102]⟩ : ByteArray) (n.val : Int) = hexD (n.val : Int) := by decide +kernel
theorem hexTab_at {x : Int} (h0 : 0 ≤ x) (h1 : x < 16) : bt (⟨#[48, 49, 50, 51, 52, 53, 54, 55, 56, 57, 97, 98, 99, 100, 101, 102]⟩ : ByteArray) x = hexD x := by
  have := hexTab ⟨x.toNat, by omega⟩
  simp only at this
  rw [show ((x.toNat : Nat) : Int) = x from by omega] at this; exact this
theorem and15 : ∀ n : Fin 256, Go.bits .and .u8 (n.val : Int) 15 = (n.val : Int) % 16 := by decide +kernel
theorem and15_at {x : Int} (h0 : 0 ≤ x) (h1 : x ≤ 255) : Go.bits .and .u8 x 15 = x % 16 := by
  have := and15 ⟨x.toNat, by omega⟩
  simp only at this
  rw [show ((x.toNat : Nat) : Int) = x from by omega] at this; exact this

theorem spec_l04Hex4.low (x : Int) (h0 : 0 ≤ x) (h1 : x ≤ 255) : spec_l04Hex4.f x = some (strOfNums [48, 48, hexD (x / 16), hexD (x % 16)]) := by
  have t1 : ∀ m : Int, Int.tdiv x m = x / m := fun m => Int.tdiv_eq_ediv_of_nonneg h0
  have t2 : ∀ a m : Int, 0 ≤ a → Int.tmod a m = a % m := fun a m h => Int.tmod_eq_emod_of_nonneg h
  unfold spec_l04Hex4.f
  rw [t1, t1, t1, w64 (x := x / 4096) (by omega) (by omega), w64 (x := x / 256) (by omega) (by omega), w64 (x := x / 16) (by omega) (by omega), t2 _ _ (by omega), t2 _ _ (by omega), t2 _ _ (by omega), t2 _ _ (by omega)]
  have e1 : x / 4096 % 16 = 0 := by omega
  have e2 : x / 256 % 16 = 0 := by omega
  have e3 : x / 16 % 16 = x / 16 := by omega
  rw [e1, e2, e3, if_pos (by omega), if_pos (by omega), if_pos (by omega), if_pos (by omega), if_pos (by omega), if_pos (by omega), if_pos (by omega), if_pos (by omega), hexTab_at (x := 0) (by omega) (by omega), hexTab_at (x := x / 16) (by omega) (by omega), hexTab_at (x := x % 16) (by omega) (by omega)]
  rfl

theorem str_append (a b : List Int) : strOfNums a ++ strOfNums b = strOfNums (a ++ b) := by
  unfold strOfNums
  apply ByteArray.ext
  rw [ByteArray.data_append]; simp
theorem str_size (a : List Int) : (strOfNums a).size = a.length := by
  unfold strOfNums
  show (List.toArray _).size = _
  simp
theorem str_one (s : ByteArray) (i : Int) (h0 : 0 ≤ i) (h1 : i < (s.size : Int)) : s.extract i.toNat (i + 1).toNat = strOfNums [bt s i] := by
  apply bytes_inj
  have hr := bt_range s i
  rw [bytes_extract, bytes_strOfNums _ (by intro x hx; simp at hx; subst hx; exact hr)]
  have ht := tl_cons h0 h1
  unfold tl at ht
  rw [List.drop_take, ht, show (i + 1).toNat - i.toNat = 1 from by omega]; rfl

def escB (x : Int) : List Int :=
  if x = 34 ∨ x = 92 then [92, x] else if x = 8 then [92, 98] else if x = 9 then [92, 116] else if x = 10 then [92, 110] else if x = 12 then [92, 102] else if x = 13 then [92, 114]
  else if x < 32 ∨ x = 127 then [92, 117, 48, 48, hexD (x / 16), hexD (x % 16)] else [x]
def escL : List Int → List Int
  | [] => []
  | x :: r => escB x ++ escL r
def escS (s : ByteArray) : ByteArray := if textOkS s = true ∧ s.size ≤ 200 then strOfNums (34 :: escL (bytesOf s) ++ [34]) else (⟨#[]⟩ : ByteArray)
theorem escB_len (x : Int) : 1 ≤ (escB x).length ∧ (escB x).length ≤ 6 := by
  unfold escB; repeat' split
  all_goals simp

theorem spec_Escaped.l0_ev (s : ByteArray) (hs : s.size ≤ 200) (n : Nat) : ∀ (i : Int) (acc : List Int), 0 ≤ i → (s.size : Int) - i = n → acc.length ≤ 6 * i + 1 →
    Ev (fun k => spec_Escaped.l0 k s (strOfNums acc) i) (strOfNums (acc ++ escL (tl s i) ++ [34])) := by
  have q34 : (⟨#[34]⟩ : ByteArray) = strOfNums [34] := rfl
  have q92 : (⟨#[92]⟩ : ByteArray) = strOfNums [92] := rfl
  have q8 : (⟨#[92, 98]⟩ : ByteArray) = strOfNums [92, 98] := rfl
  have q9 : (⟨#[92, 116]⟩ : ByteArray) = strOfNums [92, 116] := rfl
  have q10 : (⟨#[92, 110]⟩ : ByteArray) = strOfNums [92, 110] := rfl
  have q12 : (⟨#[92, 102]⟩ : ByteArray) = strOfNums [92, 102] := rfl
  have q13 : (⟨#[92, 114]⟩ : ByteArray) = strOfNums [92, 114] := rfl
  have qu : (⟨#[92, 117]⟩ : ByteArray) = strOfNums [92, 117] := rfl
  induction n with
  | zero =>
    intro i acc h0 hn ha
    apply Ev.succ; simp only [spec_Escaped.l0, q34, str_append, str_size]
    rw [tl_nil (by omega)]
    exact Ev.ite_neg (by omega) (Ev.ite_pos (by omega) (Ev.done (by simp [escL])))
  | succ n ih =>
    intro i acc h0 hn ha
    have h1 : i < (s.size : Int) := by omega
    have hr := bt_range s i
    have w1 : wrap64 (i + 1) = i + 1 := w64 (by omega) (by omega)
    have hl := escB_len (bt s i)
    have next : ∀ b : List Int, b = escB (bt s i) → Ev (fun k => spec_Escaped.l0 k s (strOfNums (acc ++ b)) (i + 1)) (strOfNums (acc ++ escL (tl s i) ++ [34])) := by
      rintro b rfl
      refine (ih (i + 1) (acc ++ escB (bt s i)) (by omega) (by omega) (by simp; omega)).get ?_
      rw [tl_cons h0 h1]; simp [escL]
    have hone := str_one s i h0 h1
    have hj : ∀ b, b = decide (bt s i = 34 ∨ bt s i = 92) → Ev (fun k => spec_Escaped.j2 k s (strOfNums acc) i (bt s i) b) (strOfNums (acc ++ escL (tl s i) ++ [34])) := by
      rintro b rfl
      apply Ev.succ
      simp only [spec_Escaped.j2, w1, hone, q92, q8, q9, q10, q12, q13, qu, str_append, str_size, w64 (x := bt s i) (by omega) (by omega), spec_l04Hex4.low (bt s i) hr.1 hr.2, Option.bind_some]
      have key : escB (bt s i) = escB (bt s i) := rfl
      by_cases c : bt s i = 34 ∨ bt s i = 92
      · refine Ev.ite_pos (by simp [c]) (Ev.ite_pos (by omega) (Ev.ite_pos h0 (Ev.ite_pos (by omega) (Ev.ite_pos (by omega) (Ev.ite_pos (by simp; omega) ?_)))))
        rw [List.append_assoc]; exact next _ (by unfold escB; rw [if_pos c]; rfl)
      refine Ev.ite_neg (by simpa using c) ?_
      by_cases c8 : bt s i = 8
      · refine Ev.ite_pos c8 (Ev.ite_pos (by omega) (next _ ?_)); unfold escB; rw [if_neg c, if_pos c8]
      refine Ev.ite_neg c8 ?_
      by_cases c9 : bt s i = 9
      · refine Ev.ite_pos c9 (Ev.ite_pos (by omega) (next _ ?_)); unfold escB; rw [if_neg c, if_neg c8, if_pos c9]
      refine Ev.ite_neg c9 ?_
      by_cases c10 : bt s i = 10
      · refine Ev.ite_pos c10 (Ev.ite_pos (by omega) (next _ ?_)); unfold escB; rw [if_neg c, if_neg c8, if_neg c9, if_pos c10]
      refine Ev.ite_neg c10 ?_
      by_cases c12 : bt s i = 12
      · refine Ev.ite_pos c12 (Ev.ite_pos (by omega) (next _ ?_)); unfold escB; rw [if_neg c, if_neg c8, if_neg c9, if_neg c10, if_pos c12]
      refine Ev.ite_neg c12 ?_
      by_cases c13 : bt s i = 13
      · refine Ev.ite_pos c13 (Ev.ite_pos (by omega) (next _ ?_)); unfold escB; rw [if_neg c, if_neg c8, if_neg c9, if_neg c10, if_neg c12, if_pos c13]
      refine Ev.ite_neg c13 ?_
      by_cases c32 : bt s i < 32
      · refine Ev.ite_pos c32 (Ev.ite_pos (by omega) (Ev.ite_pos (by simp; omega) ?_))
        rw [List.append_assoc]; refine next _ ?_; unfold escB; rw [if_neg c, if_neg c8, if_neg c9, if_neg c10, if_neg c12, if_neg c13, if_pos (Or.inl c32)]; rfl
      refine Ev.ite_neg c32 ?_
      by_cases c127 : bt s i = 127
      · refine Ev.ite_pos c127 (Ev.ite_pos (by omega) (Ev.ite_pos (by simp; omega) ?_))
        rw [List.append_assoc]; refine next _ ?_; unfold escB; rw [if_neg c, if_neg c8, if_neg c9, if_neg c10, if_neg c12, if_neg c13, if_pos (Or.inr c127)]; rfl
      refine Ev.ite_neg c127 (Ev.ite_pos h0 (Ev.ite_pos (by omega) (Ev.ite_pos (by omega) (Ev.ite_pos (by simp; omega) (next _ ?_)))))
      unfold escB; rw [if_neg c, if_neg c8, if_neg c9, if_neg c10, if_neg c12, if_neg c13, if_neg (by omega)]
    apply Ev.succ; simp only [spec_Escaped.l0]
    refine Ev.ite_pos h1 (Ev.ite_pos h0 ?_)
    by_cases c : bt s i = 34
    · exact Ev.ite_pos c (hj _ (by simp [c]))
    · refine Ev.ite_neg c (hj _ ?_)
      rw [Bool.eq_iff_iff]; simp [c]
theorem spec_Escaped.ev (s : ByteArray) (hs : s.size ≤ 140737488351232) : Ev (fun k => spec_Escaped.f k s) (escS s) := by
  have hj : Ev (fun k => spec_Escaped.j0 k s true) (⟨#[]⟩ : ByteArray) := by
    apply Ev.succ; simp only [spec_Escaped.j0, if_true]; exact Ev.done rfl
  unfold spec_Escaped.f
  refine (spec_TextOk.ev s hs).bind ?_
  unfold escS
  cases ht : textOkS s with
  | false => exact Ev.ite_neg (by simp) (hj.get (by rw [if_neg (by simp)]))
  | true =>
    refine Ev.ite_pos rfl ?_
    by_cases c : s.size ≤ 200
    · have e : decide ((s.size : Int) > 200) = false := decide_eq_false (by omega)
      rw [e, if_pos ⟨rfl, c⟩]
      apply Ev.succ; simp only [spec_Escaped.j0]
      have q34 : (⟨#[34]⟩ : ByteArray) = strOfNums [34] := rfl
      rw [q34]
      refine Ev.ite_neg (by simp) ((spec_Escaped.l0_ev s c s.size 0 [34] (by omega) (by omega) (by simp)).get ?_)
      rw [tl_zero]; rfl
    · have e : decide ((s.size : Int) > 200) = true := decide_eq_true (by omega)
      rw [e, if_neg (fun h => c h.2)]; exact hj

theorem impl_in.eq (x a b : Int) : impl_in.f x a b = some (decide (a ≤ x ∧ x ≤ b)) := by
  unfold impl_in.f
  by_cases h : x ≥ a
  · rw [if_pos h]; congr 1; rw [Bool.eq_iff_iff]; simp only [decide_eq_true_eq, Bool.or_eq_true, beq_iff_eq, Bool.false_eq_true, true_iff, false_iff]; omega
  · rw [if_neg h]; congr 1; rw [Bool.eq_iff_iff]; simp only [decide_eq_true_eq, Bool.or_eq_true, beq_iff_eq, Bool.false_eq_true, true_iff, false_iff]; omega

theorem impl_isFigure.eq (x : Int) : impl_isFigure.f x = some (figB x) := by
  unfold impl_isFigure.f figB
  by_cases h : x ≥ 48
  · rw [if_pos h]; congr 1; rw [Bool.eq_iff_iff]; simp only [decide_eq_true_eq, Bool.or_eq_true, beq_iff_eq, Bool.false_eq_true, true_iff, false_iff]; omega
  · rw [if_neg h]; congr 1; rw [Bool.eq_iff_iff]; simp only [decide_eq_true_eq, Bool.or_eq_true, beq_iff_eq, Bool.false_eq_true, true_iff, false_iff]; omega

theorem impl_isLetter.eq (x : Int) : impl_isLetter.f x = some (lowB x) := by
  unfold impl_isLetter.f lowB
  by_cases h : x ≥ 97
  · rw [if_pos h]
    by_cases h2 : x ≤ 122
    · rw [if_pos h2]; congr 1; rw [Bool.eq_iff_iff]; simp only [decide_eq_true_eq, Bool.or_eq_true, beq_iff_eq, Bool.false_eq_true, true_iff, false_iff]; omega
    · rw [if_neg h2, if_pos (by omega)]; congr 1; rw [Bool.eq_iff_iff]; simp only [decide_eq_true_eq, Bool.or_eq_true, beq_iff_eq, Bool.false_eq_true, true_iff, false_iff]; omega
  · rw [if_neg h]
    by_cases h2 : x ≥ 65
    · rw [if_pos h2]; congr 1; rw [Bool.eq_iff_iff]; simp only [decide_eq_true_eq, Bool.or_eq_true, beq_iff_eq, Bool.false_eq_true, true_iff, false_iff]; omega
    · rw [if_neg h2]; congr 1; rw [Bool.eq_iff_iff]; simp only [decide_eq_true_eq, Bool.or_eq_true, beq_iff_eq, Bool.false_eq_true, true_iff, false_iff]; omega

theorem impl_inName.eq (x : Int) : impl_inName.f x = some (nameB x) := by
  unfold impl_inName.f nameB
  rw [impl_isLetter.eq]
  simp only [Option.bind_some, impl_isFigure.eq]
  cases lowB x <;> cases figB x <;> simp

theorem impl_NameOk.l0_ev (s : ByteArray) (hs : s.size ≤ 140737488351232) (n : Nat) : ∀ i : Int, 0 ≤ i → (s.size : Int) - i = n →
    Ev (fun k => impl_NameOk.l0 k s (s.size : Int) i) ((tl s i).all nameB) := by
  induction n with
  | zero =>
    intro i h0 hn
    apply Ev.succ; simp only [impl_NameOk.l0]
    rw [tl_nil (by omega)]
    exact Ev.ite_neg (by omega) (Ev.done rfl)
  | succ n ih =>
    intro i h0 hn
    have h1 : i < (s.size : Int) := by omega
    have ih := ih (i + 1) (by omega) (by omega)
    apply Ev.succ
    simp only [impl_NameOk.l0, h0, h1, if_true, impl_inName.eq, Option.bind_some, w64 (x := i + 1) (by omega) (by omega)]
    rw [tl_cons h0 h1, List.all_cons]
    cases nameB (bt s i) <;> simp <;> first | exact ih | exact Ev.done rfl
theorem impl_NameOk.ev (s : ByteArray) (hs : s.size ≤ 140737488351232) : Ev (fun k => impl_NameOk.f k s) (nameOkL (bytesOf s)) := by
  have hl := size_bytes s
  have hj : Ev (fun k => impl_NameOk.j0 k s true) false := by
    apply Ev.succ; simp only [impl_NameOk.j0, if_true]; exact Ev.done rfl
  unfold impl_NameOk.f
  simp only [impl_in.eq, Option.bind_some]
  by_cases h0 : 1 ≤ (s.size : Int) ∧ (s.size : Int) ≤ 30
  · simp only [h0, and_self, decide_true, if_true]
    refine Ev.ite_pos (by omega) ?_
    simp only [impl_isFigure.eq, Option.bind_some]
    have hl0 := impl_NameOk.l0_ev s hs s.size 0 (by omega) (by omega)
    have ht := tl_cons (s := s) (i := 0) (by omega) (by omega)
    rw [tl_zero] at ht hl0
    have hd : (bytesOf s).headD 0 = bt s 0 := by rw [ht]; rfl
    apply Ev.succ; simp only [impl_NameOk.j0]
    cases hf : figB (bt s 0) with
    | true => exact (Ev.done rfl).get (by unfold nameOkL; rw [hd, hf]; simp)
    | false =>
      simp only [Bool.false_eq_true, if_false]
      exact hl0.get (by unfold nameOkL; rw [hd, hf, hl]; simp; omega)
  · have e : decide (1 ≤ (s.size : Int) ∧ (s.size : Int) ≤ 30) = false := decide_eq_false h0
    simp only [e, Bool.false_eq_true, if_false]
    refine hj.get ?_
    unfold nameOkL; simp; omega

/-- Does a list begin with p. -/
def preB (p l : List Int) : Bool := l.take p.length == p
theorem preB_length {p l : List Int} (h : preB p l = true) : p.length ≤ l.length := by
  unfold preB at h; rw [beq_iff_eq] at h
  have := congrArg List.length h
  rw [List.length_take] at this; omega

theorem stringslite_HasPrefix.eq (a b : ByteArray) : stringslite_HasPrefix.f a b = some (preB (bytesOf b) (bytesOf a)) := by
  have la := size_bytes a
  have lb := size_bytes b
  unfold stringslite_HasPrefix.f
  by_cases h : (a.size : Int) ≥ (b.size : Int)
  · rw [if_pos h, if_pos (by omega), if_pos (by omega), toList_beq, bytes_extract]
    unfold preB; simp [lb]
  · rw [if_neg h]
    cases hp : preB (bytesOf b) (bytesOf a) with
    | false => rfl
    | true => have := preB_length hp; omega

theorem stringslite_TrimPrefix.eq (a b : ByteArray) : ∃ r, stringslite_TrimPrefix.f a b = some r ∧ bytesOf r = if preB (bytesOf b) (bytesOf a) = true then (bytesOf a).drop b.size else bytesOf a := by
  unfold stringslite_TrimPrefix.f
  rw [stringslite_HasPrefix.eq]; simp only [Option.bind_some]
  by_cases h : preB (bytesOf b) (bytesOf a) = true
  · have hl := preB_length h
    rw [size_bytes, size_bytes] at hl
    rw [if_pos h, if_pos (by omega), if_pos (by omega), if_pos h]
    exact ⟨_, rfl, by rw [extract_tl]; unfold tl; simp⟩
  · rw [if_neg h, if_neg h]; exact ⟨_, rfl, rfl⟩

theorem strings_TrimPrefix.eq (a b : ByteArray) : ∃ r, strings_TrimPrefix.f a b = some r ∧ bytesOf r = if preB (bytesOf b) (bytesOf a) = true then (bytesOf a).drop b.size else bytesOf a := by
  obtain ⟨r, h, e⟩ := stringslite_TrimPrefix.eq a b
  exact ⟨r, by unfold strings_TrimPrefix.f; rw [h]; rfl, e⟩

theorem impl_figures.l0_ev (s : ByteArray) (hs : s.size ≤ 140737488351232) (n : Nat) : ∀ i : Int, 0 ≤ i → (s.size : Int) - i = n →
    Ev (fun k => impl_figures.l0 k s (s.size : Int) i) ((tl s i).all figB && (bytesOf s != [])) := by
  induction n with
  | zero =>
    intro i h0 hn
    apply Ev.succ; simp only [impl_figures.l0]
    rw [tl_nil (by omega)]
    refine Ev.ite_neg (by omega) (Ev.done ?_)
    have := toList_beq_lit s []
    rw [bne, this]; simp [bne]
  | succ n ih =>
    intro i h0 hn
    have h1 : i < (s.size : Int) := by omega
    have ih := ih (i + 1) (by omega) (by omega)
    apply Ev.succ
    simp only [impl_figures.l0, h0, h1, if_true, impl_isFigure.eq, Option.bind_some, w64 (x := i + 1) (by omega) (by omega)]
    rw [tl_cons h0 h1, List.all_cons]
    cases figB (bt s i) with
    | true => exact Ev.ite_pos rfl (ih.get (by simp))
    | false => exact Ev.ite_neg (by simp) (Ev.done (by simp))
theorem impl_figures.ev (s : ByteArray) (hs : s.size ≤ 140737488351232) : Ev (fun k => impl_figures.f k s) ((bytesOf s).all figB && (bytesOf s != [])) := by
  unfold impl_figures.f
  have := impl_figures.l0_ev s hs s.size 0 (by omega) (by omega)
  rw [tl_zero] at this; exact this

theorem impl_IntOk.ev (s : ByteArray) (hs : s.size ≤ 140737488351232) : Ev (fun k => impl_IntOk.f k s) (intOkL (bytesOf s)) := by
  have hl := size_bytes s
  unfold impl_IntOk.f
  obtain ⟨d, hd, hb⟩ := strings_TrimPrefix.eq s (⟨#[45]⟩ : ByteArray)
  have b1 : bytesOf (⟨#[45]⟩ : ByteArray) = [45] := by decide
  have hdig : bytesOf d = digs (bytesOf s) := by
    rw [hb, b1]; unfold preB digs
    cases hc : bytesOf s with
    | nil => simp
    | cons x r =>
      have : (⟨#[45]⟩ : ByteArray).size = 1 := rfl
      rw [this]
      by_cases h : x = 45 <;> simp [h]
  have hsz : d.size ≤ s.size := by
    have h1 := digs_length (bytesOf s)
    have h2 : 0 ≤ signN (bytesOf s) := by unfold signN; split <;> omega
    rw [← hdig, size_bytes, size_bytes] at h1; omega
  refine Ev.bindc hd ?_
  unfold intOkL
  rw [← hdig, hl]
  by_cases h : (s.size : Int) ≤ 40
  · have e1 : decide (s.size ≤ 40) = true := decide_eq_true (by omega)
    rw [e1, Bool.true_and]
    refine Ev.ite_pos h ((impl_figures.ev d (by omega)).bind ?_)
    rw [Bool.and_comm (bytesOf d != [])]
    cases hf : ((bytesOf d).all figB && bytesOf d != []) with
    | false => exact Ev.ite_neg (by simp) (Ev.done (by simp))
    | true =>
      refine Ev.ite_pos rfl ?_
      rw [Bool.true_and]
      simp only [toList_eq_bytes]
      by_cases c : bytesOf d = [48]
      · exact Ev.ite_pos (by rw [c]; rfl) (Ev.done (by rw [c]; rfl))
      · refine Ev.ite_neg (by simpa using c) ?_
        have hne : bytesOf d ≠ [] := by
          intro hn; rw [hn] at hf; simp at hf
        have hp : 0 < d.size := by
          rw [← size_bytes]; exact List.length_pos_iff.2 hne
        have ht := tl_cons (s := d) (i := 0) (by omega) (by omega)
        rw [tl_zero] at ht
        refine Ev.ite_pos (by omega) (Ev.done ?_)
        have : (bytesOf d == [48]) = false := by simpa using c
        rw [this, Bool.false_or]
        have : (bytesOf d).headD 0 = bt d 0 := by rw [ht]; rfl
        rw [this]
  · have e1 : decide (s.size ≤ 40) = false := decide_eq_false (by omega)
    rw [e1]
    exact Ev.ite_neg h (Ev.done (by simp))


theorem bytes_drop (s : ByteArray) (n : Nat) : bytesOf (s.extract n s.size) = (bytesOf s).drop n := by
  rw [bytes_extract, List.take_of_length_le (by rw [size_bytes]; exact Nat.le_refl _)]
theorem bytes_take (s : ByteArray) (n : Nat) : bytesOf (s.extract 0 n) = (bytesOf s).take n := by
  rw [bytes_extract, List.drop_zero]
/-- strings.Cut at a dot. -/
theorem strings_Cut.dot (s : ByteArray) (hs : s.size ≤ 100000) : ∃ a b f, strings_Cut.f s (⟨#[46]⟩ : ByteArray) = some (a, b, f) ∧ a.size ≤ s.size ∧ b.size ≤ s.size ∧ bytesOf a = (cutB isDot (bytesOf s)).1 ∧ (if f = true then (cutB isDot (bytesOf s)).2 = some (bytesOf b) else (cutB isDot (bytesOf s)).2 = none) := by
  have hi : Lib.indexByte s.data.toList 46 = fstI isDot (bytesOf s) := by rw [indexByte_fst]; rfl
  have hr := fstI_range isDot (bytesOf s)
  rw [size_bytes] at hr
  unfold strings_Cut.f stringslite_Cut.f stringslite_Index.f
  rw [dif_pos (by rfl)]
  show ∃ a b f, (Option.bind (Option.bind (some (Lib.indexByte s.data.toList 46)) _) _) = _ ∧ _
  rw [hi]
  simp only [Option.bind_some]
  by_cases c : 0 ≤ fstI isDot (bytesOf s)
  · have w1 : wrap64 (fstI isDot (bytesOf s) + ((⟨#[46]⟩ : ByteArray).size : Int)) = fstI isDot (bytesOf s) + 1 := by
      show wrap64 (fstI isDot (bytesOf s) + 1) = _
      exact w64 (by omega) (by omega)
    rw [if_pos (by omega), if_pos c, if_pos (by omega), w1, if_pos (by omega), if_pos (by omega)]
    refine ⟨_, _, _, rfl, by rw [size_extract]; omega, by rw [size_extract]; omega, ?_, ?_⟩
    · rw [bytes_take]; unfold cutB; rw [if_pos c]
    · rw [if_pos rfl, bytes_drop]; unfold cutB; rw [if_pos c, show (fstI isDot (bytesOf s) + 1).toNat = (fstI isDot (bytesOf s)).toNat + 1 from by omega]
  · rw [if_neg (by omega)]
    refine ⟨_, _, _, rfl, Nat.le_refl _, Nat.zero_le _, ?_, ?_⟩
    · unfold cutB; rw [if_neg c]
    · show (if false = true then _ else _)
      rw [if_neg (by decide)]; unfold cutB; rw [if_neg c]

theorem frontOk_ev (s : ByteArray) (hs : s.size ≤ 100) (e : Bool) (g : Nat → Option Bool)
    (hg : ∀ k, g k = (strings_Cut.f s (⟨#[46]⟩ : ByteArray)).bind fun bt => (impl_IntOk.f k bt.1).bind fun t => if t = true then (if bt.2.2 = true then ((impl_figures.f k bt.2.1).bind fun t2 => some t2) else (some e)) else some false) : Ev g (frontOk (bytesOf s) e) := by
  obtain ⟨a, b, f, hc, ha, hb, h1, h2⟩ := strings_Cut.dot s (by omega)
  refine Ev.congr (fun k => hg k) (Ev.bindc hc ((impl_IntOk.ev a (by omega)).bind ?_))
  unfold frontOk
  generalize cutB isDot (bytesOf s) = q at *
  obtain ⟨w, o⟩ := q
  simp only at h1 h2
  subst h1
  cases f with
  | true =>
    rw [if_pos rfl] at h2
    subst h2
    simp only
    cases intOkL (bytesOf a) with
    | true => exact Ev.ite_pos rfl (Ev.ite_pos (by first | rfl | trivial) ((impl_figures.ev b (by omega)).bind (Ev.done rfl)))
    | false => exact Ev.ite_neg (by decide) (Ev.done rfl)
  | false =>
    rw [if_neg (by decide)] at h2
    subst h2
    simp only
    cases intOkL (bytesOf a) with
    | true => exact Ev.ite_pos rfl (Ev.ite_neg (by decide) (Ev.done rfl))
    | false => exact Ev.ite_neg (by decide) (Ev.done rfl)
theorem impl_FloatOk.j1_ev (a b : ByteArray) (ha : a.size ≤ 100) (hb : b.size ≤ 100) (i : Int) (h0 : 0 ≤ i) : Ev (fun k => impl_FloatOk.j1 k a b i) (figsL (bytesOf b) && frontOk (bytesOf a) true) := by
  apply Ev.succ; simp only [impl_FloatOk.j1]
  have hf := impl_figures.ev b (by omega)
  refine hf.bind ?_
  unfold figsL
  cases (bytesOf b).all figB && (bytesOf b != []) with
  | true =>
    refine Ev.ite_pos rfl (frontOk_ev a ha true _ fun k => ?_)
    simp only [if_pos h0, ge_iff_le]
  | false => exact Ev.ite_neg (by decide) (Ev.done rfl)
theorem impl_FloatOk.ev (s : ByteArray) (hs : s.size ≤ 140737488351232) : Ev (fun k => impl_FloatOk.f k s) (floatL (bytesOf s)) := by
  unfold impl_FloatOk.f floatL
  by_cases c40 : (s.size : Int) > 40
  · rw [decide_eq_false (by rw [size_bytes]; omega)]
    exact Ev.ite_pos c40 (Ev.done rfl)
  rw [decide_eq_true (by rw [size_bytes]; omega), Bool.true_and]
  refine Ev.ite_neg c40 (Ev.bindc (strings_IndexAny.eq s (by omega)) ?_)
  have hr := fstI_range isE (bytesOf s)
  rw [size_bytes] at hr
  by_cases c : 0 ≤ fstI isE (bytesOf s)
  · have w1 : wrap64 (fstI isE (bytesOf s) + 1) = fstI isE (bytesOf s) + 1 := w64 (by omega) (by omega)
    have hcut : cutB isE (bytesOf s) = ((bytesOf s).take (fstI isE (bytesOf s)).toNat, some ((bytesOf s).drop ((fstI isE (bytesOf s)).toNat + 1))) := by unfold cutB; rw [if_pos c]
    rw [hcut, w1]
    simp only
    obtain ⟨P, hP⟩ : ∃ P, s.extract ((fstI isE (bytesOf s) + 1) : Int).toNat s.size = P := ⟨_, rfl⟩
    have hPb : bytesOf P = (bytesOf s).drop ((fstI isE (bytesOf s)).toNat + 1) := by rw [← hP, bytes_drop, show ((fstI isE (bytesOf s) + 1) : Int).toNat = (fstI isE (bytesOf s)).toNat + 1 from by omega]
    have hPz : P.size ≤ 40 := by rw [← hP, size_extract]; omega
    have hFz : (s.extract 0 ((fstI isE (bytesOf s)) : Int).toNat).size ≤ 40 := by rw [size_extract]; omega
    have hFb := bytes_take s (fstI isE (bytesOf s)).toNat
    rw [hP, ← hPb, ← hFb]
    have hj : ∀ b, b = decide ((bytesOf P).head? = some 43 ∨ (bytesOf P).head? = some 45) → Ev (fun k => impl_FloatOk.j0 k (s.extract 0 ((fstI isE (bytesOf s)) : Int).toNat) P (fstI isE (bytesOf s)) b) (figsL (signOff (bytesOf P)) && frontOk (bytesOf (s.extract 0 ((fstI isE (bytesOf s)) : Int).toNat)) true) := by
      rintro b rfl
      apply Ev.succ; simp only [impl_FloatOk.j0]
      by_cases d : (bytesOf P).head? = some 43 ∨ (bytesOf P).head? = some 45
      · have hne : 0 < P.size := by
          rcases Nat.eq_zero_or_pos P.size with h | h
          · exfalso
            have : bytesOf P = [] := List.eq_nil_of_length_eq_zero (by rw [size_bytes]; exact h)
            rw [this] at d; simp at d
          · exact h
        refine Ev.ite_pos (decide_eq_true d) (Ev.ite_pos (by omega) ((impl_FloatOk.j1_ev _ _ (by omega) (by rw [size_extract]; omega) _ c).get ?_))
        have e1 : bytesOf (P.extract 1 P.size) = signOff (bytesOf P) := by rw [bytes_drop]; unfold signOff; rw [if_pos d, List.drop_one]
        rw [e1]
      · refine Ev.ite_neg (by simpa using d) ((impl_FloatOk.j1_ev _ _ (by omega) (by omega) _ c).get ?_)
        have e1 : signOff (bytesOf P) = bytesOf P := by unfold signOff; rw [if_neg d]
        rw [e1]
    refine Ev.ite_pos c (Ev.ite_pos c (Ev.ite_pos (by omega) (Ev.ite_pos (by omega) (Ev.ite_pos (by omega) ?_))))
    by_cases n : P.size = 0
    · have hb : bytesOf P = [] := List.eq_nil_of_length_eq_zero (by rw [size_bytes]; exact n)
      refine Ev.ite_pos (by rw [toList_eq_bytes, hb]; rfl) (hj _ (by rw [hb]; simp))
    · have hh : bytesOf P = bt P 0 :: tl P 1 := by have := tl_cons (s := P) (i := 0) (by omega) (by omega); rwa [tl_zero] at this
      refine Ev.ite_neg (by rw [toList_eq_bytes, hh]; simp) (Ev.ite_pos (by omega) ?_)
      by_cases d : bt P 0 = 43
      · exact Ev.ite_pos d (hj _ (by rw [hh]; simp [d]))
      · refine Ev.ite_neg d (hj _ ?_)
        rw [hh, Bool.eq_iff_iff]; simp [d]
  · have hcut : cutB isE (bytesOf s) = (bytesOf s, none) := by unfold cutB; rw [if_neg c]
    rw [hcut]
    exact Ev.ite_neg (by omega) (frontOk_ev s (by omega) false _ fun k => rfl)

theorem impl_TextOk.eq (s : ByteArray) (hs : s.size ≤ 9223372036854775807) : impl_TextOk.f s = some (textOkS s) := by
  unfold impl_TextOk.f utf8_ValidString.f; rw [if_pos hs]; rfl

theorem strings_IndexByte.eq (s : ByteArray) (x : Int) : strings_IndexByte.f s x = some (Lib.indexByte s.data.toList x.toNat.toUInt8) := rfl

def escIdx (n : Nat) : Int := Lib.indexByte [34, 92, 8, 9, 10, 12, 13] n.toUInt8
theorem escTab : ∀ n : Fin 256, ((0 ≤ escIdx n.val → escIdx n.val < 7 ∧ [92, bt (⟨#[34, 92, 98, 116, 110, 102, 114]⟩ : ByteArray) (escIdx n.val)] = escB (n.val : Int)) ∧
    (¬ 0 ≤ escIdx n.val → escB (n.val : Int) = if (n.val : Int) < 32 ∨ (n.val : Int) = 127 then [92, 117, 48, 48, hexD ((n.val : Int) / 16), hexD ((n.val : Int) % 16)] else [(n.val : Int)])) := by decide +kernel
theorem escTab_at (x : Int) (h0 : 0 ≤ x) (h1 : x ≤ 255) : ∃ t : Int, Lib.indexByte (⟨#[34, 92, 8, 9, 10, 12, 13]⟩ : ByteArray).data.toList x.toNat.toUInt8 = t ∧ (0 ≤ t → t < 7 ∧ [92, bt (⟨#[34, 92, 98, 116, 110, 102, 114]⟩ : ByteArray) t] = escB x) ∧ (¬ 0 ≤ t → escB x = if x < 32 ∨ x = 127 then [92, 117, 48, 48, hexD (x / 16), hexD (x % 16)] else [x]) := by
  have h := escTab ⟨x.toNat, by omega⟩
  simp only at h
  rw [show ((x.toNat : Nat) : Int) = x from by omega] at h
  exact ⟨_, rfl, h⟩
theorem impl_Escaped.l0_ev (s : ByteArray) (hs : s.size ≤ 200) (n : Nat) : ∀ (i : Int) (acc : List Int), 0 ≤ i → (s.size : Int) - i = n → acc.length ≤ 6 * i + 1 →
    Ev (fun k => impl_Escaped.l0 k s acc (s.size : Int) i) (strOfNums (acc ++ escL (tl s i) ++ [34])) := by
  induction n with
  | zero =>
    intro i acc h0 hn ha
    apply Ev.succ; simp only [impl_Escaped.l0]
    rw [tl_nil (by omega)]
    exact Ev.ite_neg (by omega) (Ev.ite_pos (by omega) (Ev.done (by simp [escL])))
  | succ n ih =>
    intro i acc h0 hn ha
    have h1 : i < (s.size : Int) := by omega
    have hr := bt_range s i
    have w1 : wrap64 (i + 1) = i + 1 := w64 (by omega) (by omega)
    have hl := escB_len (bt s i)
    have next : ∀ b : List Int, b = escB (bt s i) → Ev (fun k => impl_Escaped.l0 k s (acc ++ b) (s.size : Int) (i + 1)) (strOfNums (acc ++ escL (tl s i) ++ [34])) := by
      rintro b rfl
      refine (ih (i + 1) (acc ++ escB (bt s i)) (by omega) (by omega) (by simp; omega)).get ?_
      rw [tl_cons h0 h1]; simp [escL]
    obtain ⟨t, ht, hp, hm⟩ := escTab_at (bt s i) hr.1 hr.2
    have g1 : 0 ≤ bt s i / 16 := by omega
    have g2 : bt s i / 16 < 16 := by omega
    have g3 : 0 ≤ bt s i % 16 := by omega
    have g4 : bt s i % 16 < 16 := by omega
    apply Ev.succ
    simp only [impl_Escaped.l0, strings_IndexByte.eq, ht, w1, Option.bind_some, and15_at hr.1 hr.2, hexTab_at g1 g2, hexTab_at g3 g4]
    refine Ev.ite_pos h1 (Ev.ite_pos h0 (Ev.ite_pos h1 ?_))
    by_cases c : 0 ≤ t
    · obtain ⟨p1, p2⟩ := hp c
      refine Ev.ite_pos c (Ev.ite_pos c (Ev.ite_pos p1 ?_))
      exact Ev.ite_pos (by simp; omega) (next _ p2)
    · have he := hm c
      refine Ev.ite_neg c ?_
      by_cases c32 : bt s i < 32
      · rw [if_pos (Or.inl c32)] at he
        exact Ev.ite_pos c32 (Ev.ite_pos g1 (Ev.ite_pos g2 (Ev.ite_pos g3 (Ev.ite_pos g4 (Ev.ite_pos (by simp; omega) (next _ he.symm))))))
      · refine Ev.ite_neg c32 ?_
        by_cases c127 : bt s i = 127
        · rw [if_pos (Or.inr c127)] at he
          exact Ev.ite_pos c127 (Ev.ite_pos g1 (Ev.ite_pos g2 (Ev.ite_pos g3 (Ev.ite_pos g4 (Ev.ite_pos (by simp; omega) (next _ he.symm))))))
        · rw [if_neg (by omega)] at he
          exact Ev.ite_neg c127 (Ev.ite_pos (by omega) (next _ he.symm))
theorem impl_Escaped.ev (s : ByteArray) (hs : s.size ≤ 140737488351232) : Ev (fun k => impl_Escaped.f k s) (escS s) := by
  have hj : Ev (fun k => impl_Escaped.j0 k s true) (⟨#[]⟩ : ByteArray) := by
    apply Ev.succ; simp only [impl_Escaped.j0, if_true]; exact Ev.done rfl
  unfold impl_Escaped.f
  refine Ev.bindc (impl_TextOk.eq s (by omega)) ?_
  unfold escS
  cases ht : textOkS s with
  | false => exact Ev.ite_neg (by simp) (hj.get (by rw [if_neg (by simp)]))
  | true =>
    refine Ev.ite_pos rfl ?_
    by_cases c : s.size ≤ 200
    · have e : decide ((s.size : Int) > 200) = false := decide_eq_false (by omega)
      rw [e, if_pos ⟨rfl, c⟩]
      apply Ev.succ; simp only [impl_Escaped.j0]
      refine Ev.ite_neg (by simp) ((impl_Escaped.l0_ev s c s.size 0 [34] (by omega) (by omega) (by simp)).get ?_)
      rw [tl_zero]; rfl
    · have e : decide ((s.size : Int) > 200) = true := decide_eq_true (by omega)
      rw [e, if_neg (fun h => c h.2)]; exact hj

theorem figB_iff (x : Int) : figB x = true ↔ 48 ≤ x ∧ x ≤ 57 := by simp [figB]

theorem fig_not {x : Int} (h : figB x = true) : x ≠ 45 ∧ x ≠ 46 ∧ x ≠ 43 ∧ isE x = false := by
  rw [figB_iff] at h
  refine ⟨by omega, by omega, by omega, ?_⟩
  unfold isE; simp; omega
theorem numE {D : List Int} (h : ∀ x ∈ D, x = 45 ∨ figB x = true) : (∀ x ∈ D, isE x = false) ∧ (∀ x ∈ D, isDot x = false) := by
  constructor
  · intro x hx
    rcases h x hx with rfl | hf
    · decide
    · exact (fig_not hf).2.2.2
  · intro x hx
    rcases h x hx with rfl | hf
    · decide
    · unfold isDot; simp; exact (fig_not hf).2.1
theorem front_plain (D : List Int) (h : ∀ x ∈ D, isDot x = false) (e : Bool) : frontOk D e = (intOkL D && e) := by unfold frontOk; rw [cutB_none isDot D h]
theorem front_dot (D f : List Int) (h : ∀ x ∈ D, isDot x = false) (e : Bool) : frontOk (D ++ 46 :: f) e = (intOkL D && figsL f) := by unfold frontOk; rw [cutB_at isDot D 46 f h rfl]
theorem float_plain (D : List Int) (h : ∀ x ∈ D, isE x = false) : floatL D = (decide (D.length ≤ 40) && frontOk D false) := by unfold floatL; rw [cutB_none isE D h]
theorem float_exp (D p : List Int) (x : Int) (h : ∀ x ∈ D, isE x = false) (hx : isE x = true) : floatL (D ++ x :: p) = (decide ((D ++ x :: p).length ≤ 40) && (figsL (signOff p) && frontOk D true)) := by unfold floatL; rw [cutB_at isE D x p h hx]

theorem runN_append (d R : List Int) (h : d.all figB = true) : runN (d ++ R) = d.length + runN R := by
  induction d with
  | nil => simp
  | cons x r ih =>
    rw [List.all_cons, Bool.and_eq_true] at h
    rw [List.cons_append, runN_cons, if_pos h.1, ih h.2, List.length_cons]; omega
theorem runN_stop (R : List Int) (h : R = [] ∨ ∃ x q, R = x :: q ∧ figB x = false) : runN R = 0 := by
  rcases h with rfl | ⟨x, q, rfl, hx⟩
  · rfl
  · rw [runN_cons, hx]; simp
theorem runN_take (q : List Int) : (q.take (runN q)).all figB = true ∧ (q.drop (runN q) = [] ∨ ∃ x r, q.drop (runN q) = x :: r ∧ figB x = false) := by
  induction q with
  | nil => simp [runN]
  | cons x r ih =>
    rw [runN_cons]
    cases h : figB x with
    | true => simpa [h] using ih
    | false => simp [h]
theorem intOk_parts {w : List Int} (h : intOkL w = true) : w.length ≤ 40 ∧ digs w ≠ [] ∧ (digs w).all figB = true ∧ (digs w = [48] ∨ (digs w).headD 0 ≠ 48) ∧ w ≠ [] := by
  unfold intOkL at h
  simp only [Bool.and_eq_true, decide_eq_true_eq, Bool.or_eq_true, beq_iff_eq, bne_iff_ne, ne_eq] at h
  refine ⟨h.1.1, h.1.2.1, h.1.2.2, h.2, ?_⟩
  rintro rfl; exact h.1.2.1 rfl
theorem intEnd_app (w R : List Int) (h : intOkL w = true) (hR : R = [] ∨ ∃ x q, R = x :: q ∧ figB x = false) : intEnd (w ++ R) = w.length := by
  obtain ⟨h40, h1, h2, h3, h4⟩ := intOk_parts h
  have hl := digs_length w
  obtain ⟨x, r, rfl⟩ : ∃ x r, w = x :: r := by cases w with | nil => exact absurd rfl h4 | cons x r => exact ⟨x, r, rfl⟩
  have hd : digs ((x :: r) ++ R) = digs (x :: r) ++ R := by unfold digs; simp only [List.cons_append, List.head?_cons, List.tail_cons]; by_cases c : some x = some (45 : Int) <;> simp only [c, if_true, if_false] <;> rfl
  have hs : signN ((x :: r) ++ R) = signN (x :: r) := by unfold signN; rfl
  have hn : runN (digs ((x :: r) ++ R)) = (digs (x :: r)).length := by rw [hd, runN_append _ _ h2, runN_stop R hR]; omega
  have hlen : 0 < (digs (x :: r)).length := List.length_pos_iff.2 h1
  have hh : (digs (x :: r) ++ R).headD 0 = (digs (x :: r)).headD 0 := by cases hq : digs (x :: r) with | nil => exact absurd hq h1 | cons => rfl
  unfold intEnd
  rw [hn, hd, hs, hh, if_neg (by omega), if_neg (by
    rintro ⟨a, b⟩
    rcases h3 with h3 | h3
    · rw [h3] at b; simp at b
    · exact h3 a)]
  omega
/-- A number's begin, where there is one. -/
theorem intEnd_split (l : List Int) (h : intEnd l ≠ 0) (h40 : l.length ≤ 40) : ∃ w R, l = w ++ R ∧ intOkL w = true ∧ intEnd l = w.length ∧ (R = [] ∨ ∃ x q, R = x :: q ∧ figB x = false) := by
  have hl := digs_length l
  have hr := runN_le (digs l)
  obtain ⟨t1, t2⟩ := runN_take (digs l)
  have he := h
  unfold intEnd at h
  split at h
  · exact absurd rfl h
  rename_i c0
  split at h
  · exact absurd rfl h
  rename_i c1
  have hE : intEnd l = signN l + runN (digs l) := by unfold intEnd; rw [if_neg c0, if_neg c1]
  have hpre : ∃ s : List Int, l = s ++ digs l ∧ (s.length : Int) = signN l ∧ ∀ y, y ≠ [] → (∀ a, y.head? = some a → figB a = true) → digs (s ++ y) = y := by
    unfold signN digs
    cases l with
    | nil => exact ⟨[], rfl, by simp, fun y hy hh => by
        cases y with
        | nil => rfl
        | cons a y =>
          have := hh a rfl
          rw [if_neg (by simp; rintro rfl; exact absurd this (by decide))]; rfl⟩
    | cons x r =>
      by_cases d : x = 45
      · refine ⟨[45], by rw [if_pos (by simp [d]), d]; rfl, by rw [if_pos (by simp [d])]; rfl, fun y _ _ => by rw [if_pos (by simp)]; rfl⟩
      · refine ⟨[], by rw [if_neg (by simp [d])]; rfl, by rw [if_neg (by simp [d])]; rfl, fun y hy hh => ?_⟩
        cases y with
        | nil => rfl
        | cons a y =>
          have := hh a rfl
          rw [if_neg (by simp; rintro rfl; exact absurd this (by decide))]; rfl
  obtain ⟨s, hs1, hs2, hs3⟩ := hpre
  have hne : (digs l).take (runN (digs l)) ≠ [] := by
    intro hq
    have := congrArg List.length hq
    rw [List.length_take, List.length_nil] at this; omega
  have hhead : ∀ a, ((digs l).take (runN (digs l))).head? = some a → figB a = true := fun a ha => List.all_eq_true.1 t1 a (List.mem_of_mem_head? (by rw [ha]; rfl))
  have hdg := hs3 _ hne hhead
  refine ⟨s ++ (digs l).take (runN (digs l)), (digs l).drop (runN (digs l)), ?_, ?_, ?_, t2⟩
  · conv => lhs; rw [hs1, ← List.take_append_drop (runN (digs l)) (digs l)]
    rw [List.append_assoc]
  · have hlen : (s ++ (digs l).take (runN (digs l))).length ≤ 40 := by rw [List.length_append, List.length_take]; omega
    unfold intOkL
    rw [hdg, t1, decide_eq_true hlen]
    have hb : ((digs l).take (runN (digs l)) != []) = true := bne_iff_ne.2 hne
    rw [hb]
    simp only [Bool.true_and, Bool.or_eq_true, beq_iff_eq, bne_iff_ne, ne_eq]
    cases hq : digs l with
    | nil => rw [hq] at c0; exact absurd rfl c0
    | cons x r =>
      rw [hq] at c0 c1
      by_cases d : x = 48
      · left
        subst d
        have : runN (48 :: r) = 1 := by
          have : ¬ 1 < runN (48 :: r) := fun h => c1 ⟨rfl, h⟩
          omega
        rw [this]; rfl
      · right
        obtain ⟨m, hm⟩ : ∃ m, runN (x :: r) = m + 1 := ⟨runN (x :: r) - 1, by omega⟩
        rw [hm, List.take_succ_cons]; simpa using d
  · rw [hE, List.length_append, List.length_take, Nat.min_eq_left hr]; omega
def FloatP (l : List Int) : Prop := ∃ w, intOkL w = true ∧ ((∃ f, figsL f = true ∧ l = w ++ 46 :: f) ∨ (∃ f x p, figsL f = true ∧ isE x = true ∧ figsL (signOff p) = true ∧ l = w ++ 46 :: (f ++ x :: p)) ∨ (∃ x p, isE x = true ∧ figsL (signOff p) = true ∧ l = w ++ x :: p))
theorem cutB_spec (p : Int → Bool) (l : List Int) : (cutB p l = (l, none) ∧ ∀ y ∈ l, p y = false) ∨ ∃ a x r, cutB p l = (a, some r) ∧ l = a ++ x :: r ∧ p x = true ∧ ∀ y ∈ a, p y = false := by
  have hr := fstI_range p l
  by_cases c : 0 ≤ fstI p l
  · right
    obtain ⟨x, hx, hs, ha⟩ := fstI_split p l c
    refine ⟨_, x, _, ?_, hs, hx, ha⟩
    unfold cutB; rw [if_pos c]
  · left
    refine ⟨by unfold cutB; rw [if_neg c], ?_⟩
    intro y hy
    rcases Bool.eq_false_or_eq_true (p y) with h | h
    · exfalso
      clear hr
      induction l with
      | nil => cases hy
      | cons z r ih =>
        simp only [fstI] at c
        have hr2 := fstI_range p r
        split at c
        · omega
        · split at c
          · rename_i hz hq
            rcases List.mem_cons.1 hy with rfl | hy
            · exact hz h
            · exact ih (by omega) hy
          · omega
    · exact h
theorem figs_parts {f : List Int} (h : figsL f = true) : f.all figB = true ∧ f ≠ [] := by
  unfold figsL at h; simpa using h
theorem int_signs {w : List Int} (h : intOkL w = true) : ∀ x ∈ w, x = 45 ∨ figB x = true := by
  obtain ⟨_, _, h2, _, _⟩ := intOk_parts h
  intro x hx
  unfold digs at h2
  split at h2
  · rename_i hh
    cases w with
    | nil => cases hx
    | cons y r =>
      simp at hh
      rcases List.mem_cons.1 hx with rfl | hx
      · left; exact hh
      · right; exact List.all_eq_true.1 h2 x hx
  · right; exact List.all_eq_true.1 h2 x hx
theorem figs_noE {f : List Int} (h : figsL f = true) : ∀ x ∈ f, isE x = false := fun x hx => (fig_not (List.all_eq_true.1 (figs_parts h).1 x hx)).2.2.2
theorem float_iff (l : List Int) : floatL l = true ↔ l.length ≤ 40 ∧ FloatP l := by
  constructor
  · intro h
    unfold floatL at h
    rw [Bool.and_eq_true, decide_eq_true_eq] at h
    refine ⟨h.1, ?_⟩
    have h2 := h.2
    rcases cutB_spec isE l with ⟨e, hn⟩ | ⟨a, x, p, e, hl, hx, hn⟩
    · rw [e] at h2
      simp only at h2
      unfold frontOk at h2
      rcases cutB_spec isDot l with ⟨e2, hn2⟩ | ⟨b, y, f, e2, hl2, hy, hn2⟩
      · rw [e2] at h2; simp at h2
      · rw [e2] at h2
        simp only [Bool.and_eq_true] at h2
        have hy46 : y = 46 := by unfold isDot at hy; simpa using hy
        exact ⟨b, h2.1, Or.inl ⟨f, h2.2, by rw [hl2, hy46]⟩⟩
    · rw [e] at h2
      simp only [Bool.and_eq_true] at h2
      have h3 := h2.2
      unfold frontOk at h3
      rcases cutB_spec isDot a with ⟨e2, hn2⟩ | ⟨b, y, f, e2, hl2, hy, hn2⟩
      · rw [e2] at h3
        simp only [Bool.and_true] at h3
        exact ⟨a, h3, Or.inr (Or.inr ⟨x, p, hx, h2.1, hl⟩)⟩
      · rw [e2] at h3
        simp only [Bool.and_eq_true] at h3
        have hy46 : y = 46 := by unfold isDot at hy; simpa using hy
        exact ⟨b, h3.1, Or.inr (Or.inl ⟨f, x, p, h3.2, hx, h2.1, by rw [hl, hl2, hy46]; simp⟩)⟩
  · rintro ⟨h40, w, hw, h⟩
    obtain ⟨wE, wD⟩ := numE (int_signs hw)
    rcases h with ⟨f, hf, rfl⟩ | ⟨f, x, p, hf, hx, hp, rfl⟩ | ⟨x, p, hx, hp, rfl⟩
    · rw [float_plain _ (by
        intro y hy
        rcases List.mem_append.1 hy with hy | hy
        · exact wE y hy
        · rcases List.mem_cons.1 hy with rfl | hy
          · decide
          · exact figs_noE hf y hy), front_dot _ _ wD, hw, hf, decide_eq_true h40]; rfl
    · have e : w ++ 46 :: (f ++ x :: p) = (w ++ 46 :: f) ++ x :: p := by simp
      rw [e] at h40 ⊢
      rw [float_exp _ _ x (by
        intro y hy
        rcases List.mem_append.1 hy with hy | hy
        · exact wE y hy
        · rcases List.mem_cons.1 hy with rfl | hy
          · decide
          · exact figs_noE hf y hy) hx, hp, front_dot _ _ wD, hw, hf, decide_eq_true h40]; rfl
    · rw [float_exp _ _ x wE hx, hp, front_plain _ wD, hw, decide_eq_true h40]; rfl
theorem endB_figs (q : List Int) : endB q = figsL q := by
  have := runN_all q
  unfold endB figsL
  rw [Bool.eq_iff_iff]
  simp only [Bool.and_eq_true, bne_iff_ne, ne_eq, beq_iff_eq]
  constructor
  · rintro ⟨a, b⟩
    refine ⟨this.2 b, ?_⟩
    rintro rfl; exact a rfl
  · rintro ⟨a, b⟩
    have h1 := this.1 a
    have := List.length_pos_iff.2 b
    exact ⟨by omega, h1⟩
theorem isE_fig {x : Int} (h : isE x = true) : figB x = false ∧ x ≠ 46 := by
  unfold isE at h; simp at h
  rcases h with rfl | rfl <;> exact ⟨by decide, by decide⟩
theorem spec_iff (l : List Int) : specL l = true ↔ l.length ≤ 40 ∧ FloatP l := by
  constructor
  · intro h
    unfold specL at h
    simp only [Bool.and_eq_true, decide_eq_true_eq, bne_iff_ne, ne_eq] at h
    obtain ⟨h40, h0, h1, h2⟩ := h
    refine ⟨h40, ?_⟩
    obtain ⟨w, R, hl, hw, hE, hR⟩ := intEnd_split l h0 h40
    have hdrop : l.drop (intEnd l).toNat = R := by rw [hE, Int.toNat_natCast, hl, List.drop_left]
    rw [hdrop] at h2
    have hexp : ∀ Q, Q ≠ [] → expB Q = true → ∃ x p, Q = x :: p ∧ isE x = true ∧ figsL (signOff p) = true := by
      intro Q hQ he
      cases Q with
      | nil => exact absurd rfl hQ
      | cons x p =>
        simp only [expB, Bool.and_eq_true, endB_figs] at he
        exact ⟨x, p, rfl, he.1, he.2⟩
    have hRne : R ≠ [] := by
      rintro rfl
      rw [List.append_nil] at hl
      apply h1; rw [hE, hl]
    cases R with
    | nil => exact absurd rfl hRne
    | cons x q =>
      simp only at h2
      by_cases d : x = 46
      · rw [if_pos d, Bool.and_eq_true, bne_iff_ne] at h2
        obtain ⟨t1, t2⟩ := runN_take q
        have hrl := runN_le q
        have hf : figsL (q.take (runN q)) = true := by
          unfold figsL
          rw [t1]
          simp only [Bool.true_and, bne_iff_ne, ne_eq]
          intro hq
          have := congrArg List.length hq
          rw [List.length_take, List.length_nil] at this
          exact h2.1 (by omega)
        by_cases z : q.drop (runN q) = []
        · refine ⟨w, hw, Or.inl ⟨q.take (runN q), hf, ?_⟩⟩
          have : q = q.take (runN q) := by conv => lhs; rw [← List.take_append_drop (runN q) q, z, List.append_nil]
          rw [hl, d, ← this]
        · obtain ⟨y, p, hq, hy, hp⟩ := hexp _ z h2.2
          refine ⟨w, hw, Or.inr (Or.inl ⟨q.take (runN q), y, p, hf, hy, hp, ?_⟩)⟩
          rw [hl, d, ← hq, List.take_append_drop]
      · rw [if_neg d] at h2
        obtain ⟨y, p, hq, hy, hp⟩ := hexp _ (by simp) h2
        exact ⟨w, hw, Or.inr (Or.inr ⟨y, p, hy, hp, by rw [hl, hq]⟩)⟩
  · rintro ⟨h40, w, hw, h⟩
    have hwne := (intOk_parts hw).2.2.2.2
    have hwl := List.length_pos_iff.2 hwne
    have main : ∀ R, l = w ++ R → R ≠ [] → (∃ x q, R = x :: q ∧ figB x = false) → (match R with | [] => true | x :: q => if x = 46 then runN q != 0 && expB (q.drop (runN q)) else expB (x :: q)) = true → specL l = true := by
      intro R hl hR hx hm
      have hE : intEnd l = w.length := by rw [hl]; exact intEnd_app w R hw (Or.inr hx)
      have hRl := List.length_pos_iff.2 hR
      have hdrop : l.drop (intEnd l).toNat = R := by rw [hE, Int.toNat_natCast, hl, List.drop_left]
      unfold specL
      rw [hdrop, hm, decide_eq_true h40, hE, hl]
      simp only [Bool.true_and, Bool.and_true, Bool.and_eq_true, bne_iff_ne, ne_eq, List.length_append]
      constructor <;> omega
    rcases h with ⟨f, hf, hl⟩ | ⟨f, x, p, hf, hx, hp, hl⟩ | ⟨x, p, hx, hp, hl⟩
    · obtain ⟨f1, f2⟩ := figs_parts hf
      refine main _ hl (by simp) ⟨46, f, rfl, by decide⟩ ?_
      have hr := (runN_all f).1 f1
      simp only [if_true]
      rw [hr, List.drop_length]
      have : f.length ≠ 0 := by have := List.length_pos_iff.2 f2; omega
      simp [expB, this, f2]
    · obtain ⟨f1, f2⟩ := figs_parts hf
      refine main _ hl (by simp) ⟨46, _, rfl, by decide⟩ ?_
      have hr : runN (f ++ x :: p) = f.length := by rw [runN_append _ _ f1, runN_stop _ (Or.inr ⟨x, p, rfl, (isE_fig hx).1⟩)]; omega
      simp only [if_true]
      rw [hr, List.drop_left]
      have : f.length ≠ 0 := by have := List.length_pos_iff.2 f2; omega
      simp [expB, this, hx, endB_figs, hp, f2]
    · refine main _ hl (by simp) ⟨x, p, rfl, (isE_fig hx).1⟩ ?_
      simp only
      rw [if_neg (isE_fig hx).2]
      simp [expB, hx, endB_figs, hp]

theorem ex_ite {c : Prop} [Decidable c] {a b : Option Bool} (ha : ∃ x, a = some x) (hb : ∃ x, b = some x) : ∃ x, (if c then a else b) = some x := by split <;> assumption
theorem signTab : ∀ c : Fin 256, Lib.contains [33, 36, 38, 40, 41, 58, 61, 64, 91, 93, 123, 124, 125] [UInt8.ofNat c.val] = ([33, 36, 38, 40, 41, 58, 61, 64, 91, 93, 123, 124, 125].contains (UInt8.ofNat c.val)) := by decide +kernel
theorem sign_key (s : ByteArray) : impl_SignOk.f s = spec_SignOk.f s := by
  unfold impl_SignOk.f spec_SignOk.f
  by_cases h1 : s.size = 1
  · have hlen : s.data.toList.length = 1 := by rw [Array.length_toList]; exact h1
    obtain ⟨c, hd⟩ := List.length_eq_one_iff.1 hlen
    have hl : s.toList = [c] := by rw [ByteArray.toList_eq]; exact hd
    have ht := signTab ⟨c.toNat, c.toNat_lt⟩
    simp only [UInt8.ofNat_toNat] at ht
    have hcont : strings_Contains.f (⟨#[33, 36, 38, 40, 41, 58, 61, 64, 91, 93, 123, 124, 125]⟩ : ByteArray) s = some (([33, 36, 38, 40, 41, 58, 61, 64, 91, 93, 123, 124, 125] : List UInt8).contains c) := by
      unfold strings_Contains.f
      rw [if_pos (by decide), hd]
      exact congrArg some ht
    rw [hcont, hl, Option.bind_some]
    simp only [h1]
    simp only [List.cons.injEq, and_true, reduceCtorEq, if_false, List.contains_cons, List.contains_nil, Bool.or_false, and_false]
    rw [if_pos (by rfl)]
    by_cases c1 : c = 33
    · subst c1; rfl
    by_cases c2 : c = 36
    · subst c2; rfl
    by_cases c3 : c = 38
    · subst c3; rfl
    by_cases c4 : c = 40
    · subst c4; rfl
    by_cases c5 : c = 41
    · subst c5; rfl
    by_cases c6 : c = 58
    · subst c6; rfl
    by_cases c7 : c = 61
    · subst c7; rfl
    by_cases c8 : c = 64
    · subst c8; rfl
    by_cases c9 : c = 91
    · subst c9; rfl
    by_cases c10 : c = 93
    · subst c10; rfl
    by_cases c11 : c = 123
    · subst c11; rfl
    by_cases c12 : c = 124
    · subst c12; rfl
    by_cases c13 : c = 125
    · subst c13; rfl
    simp [c1, c2, c3, c4, c5, c6, c7, c8, c9, c10, c11, c12, c13]
  · have hne : ∀ x : UInt8, ¬ s.toList = [x] := by
      intro x hx
      rw [ByteArray.toList_eq] at hx
      have := congrArg List.length hx
      rw [Array.length_toList] at this
      exact h1 this
    rw [if_neg (show ¬ ((s.size : Int) = 1) by omega)]
    simp only [hne, if_false]
theorem sign_some (s : ByteArray) : ∃ b, spec_SignOk.f s = some b := by
  unfold spec_SignOk.f
  repeat (first | exact ⟨_, rfl⟩ | refine ex_ite ⟨_, rfl⟩ ?_)
theorem FnExactTokenOk (a : Int) (b : ByteArray) (c : Int) (ha : (Lit.int .i64 a).wf = true) (hb : b.size ≤ maxLen) (hc : (Lit.int .i64 c).wf = true) : ∃ k, laws_FnExactTokenOk.f k a b c = some true := by
  unfold maxLen at hb
  apply Ev.out
  unfold laws_FnExactTokenOk.f
  obtain ⟨r, hr, hcc⟩ := laws_szToken.eq a b c 1048576 hb (by omega) (by omega)
  refine Ev.bindc hr ?_
  by_cases h : r < 0
  · exact Ev.ite_pos h (Ev.done rfl)
  · refine Ev.ite_neg h (Ev.bindc (a := (a, b, c)) rfl ?_)
    have hs : b.size ≤ 140737488351232 := by omega
    obtain ⟨x, hx⟩ := sign_some b
    have hx2 : impl_SignOk.f b = some x := (sign_key b).trans hx
    have hf : floatL (bytesOf b) = specL (bytesOf b) := by rw [Bool.eq_iff_iff, float_iff, spec_iff]
    have e : ∃ v, Ev (fun k => spec_TokenOk.f k a b c) v ∧ Ev (fun k => impl_TokenOk.f k a b c) v := by
      unfold spec_TokenOk.f impl_TokenOk.f
      by_cases c1 : a = 1
      · exact ⟨x, Ev.ite_pos c1 (Ev.bindc hx (Ev.done rfl)), Ev.ite_pos c1 (Ev.bindc hx2 (Ev.done rfl))⟩
      by_cases c2 : a = 2
      · exact ⟨_, Ev.ite_neg c1 (Ev.ite_pos c2 ((spec_NameOk.ev b hs).bind (Ev.done rfl))), Ev.ite_neg c1 (Ev.ite_pos c2 ((impl_NameOk.ev b hs).bind (Ev.done rfl)))⟩
      by_cases c3 : a = 3
      · exact ⟨_, Ev.ite_neg c1 (Ev.ite_neg c2 (Ev.ite_pos c3 ((spec_IntOk.ev b hs).bind (Ev.done rfl)))), Ev.ite_neg c1 (Ev.ite_neg c2 (Ev.ite_pos c3 ((impl_IntOk.ev b hs).bind (Ev.done rfl))))⟩
      by_cases c4 : a = 4
      · exact ⟨_, Ev.ite_neg c1 (Ev.ite_neg c2 (Ev.ite_neg c3 (Ev.ite_pos c4 ((spec_FloatOk.ev b hs).bind (Ev.done rfl))))), Ev.ite_neg c1 (Ev.ite_neg c2 (Ev.ite_neg c3 (Ev.ite_pos c4 ((impl_FloatOk.ev b hs).bind (Ev.done hf)))))⟩
      by_cases c5 : a = 5
      · exact ⟨_, Ev.ite_neg c1 (Ev.ite_neg c2 (Ev.ite_neg c3 (Ev.ite_neg c4 (Ev.ite_pos c5 ((spec_Escaped.ev b hs).bind (Ev.done rfl)))))), Ev.ite_neg c1 (Ev.ite_neg c2 (Ev.ite_neg c3 (Ev.ite_neg c4 (Ev.ite_pos c5 ((impl_Escaped.ev b hs).bind (Ev.done rfl))))))⟩
      · exact ⟨false, Ev.ite_neg c1 (Ev.ite_neg c2 (Ev.ite_neg c3 (Ev.ite_neg c4 (Ev.ite_neg c5 (Ev.done rfl))))), Ev.ite_neg c1 (Ev.ite_neg c2 (Ev.ite_neg c3 (Ev.ite_neg c4 (Ev.ite_neg c5 (Ev.done rfl)))))⟩
    obtain ⟨v, e1, e2⟩ := e
    exact e1.bind (Ev.bindc (a := (a, b, c)) rfl (e2.bind (Ev.ite_neg (by simp) (Ev.done rfl))))


end Go.Proofs.YthfdcillieddeaaDoor.Pure
