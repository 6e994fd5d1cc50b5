/- For every slice of bytes, what the law FnNumbers says of the numbers that the reference draws from it is so: whole numbers are written as such, with a fraction or an exponent as others, names are no numbers. -/
import Derived.Test.YtnlhpjapdklfgaaDoorOFnNumbersx20
import Derived.Test.YtnlhpjapdklfgaaDoorBase
namespace Go.Proofs.YtnlhpjapdklfgaaDoor.Pure
open Go.RowKit Go.Proofs.YtnlhpjapdklfgaaDoor.OFnNumbers Go.Proofs.YtnlhpjapdklfgaaDoorW.PrintWords Go.Proofs.YtnlhpjapdklfgaaDoorW.PrintLast Go.Proofs.YtnlhpjapdklfgaaDoorW.PrintMore Go.Proofs.YtnlhpjapdklfgaaDoor.Base
set_option linter.unusedVariables false
set_option linter.unusedSimpArgs false

def hexD (n : Int) : Int := if n < 10 then 48 + n else 87 + n
def hexL : List Int → List Int
  | [] => []
  | x :: r => hexD (x / 16) :: hexD (x % 16) :: hexL r
theorem hexL_length (l : List Int) : (hexL l).length = 2 * l.length := by
  induction l with
  | nil => rfl
  | cons x r ih => simp [hexL, ih]; omega
theorem hexD_range {n : Int} (h0 : 0 ≤ n) (h1 : n < 16) : 0 ≤ hexD n ∧ hexD n ≤ 255 := by unfold hexD; split <;> omega
theorem hexTab : ∀ n : Fin 16, bt (⟨#[48, 49, 50, 51, 52, 53, 54, 55, 56, 57, 97, 98, 99, 100, 101, 102]⟩ : ByteArray) (n.val : Int) = hexD (n.val : Int) := by decide +kernel
theorem hexTab_at {x : Int} (h0 : 0 ≤ x) (h1 : x < 16) : bt (⟨#[48, 49, 50, 51, 52, 53, 54, 55, 56, 57, 97, 98, 99, 100, 101, 102]⟩ : ByteArray) x = hexD x := by
  have := hexTab ⟨x.toNat, by omega⟩
  simp only at this
  rw [show ((x.toNat : Nat) : Int) = x from by omega] at this; exact this
theorem and15 : ∀ n : Fin 256, Go.bits .and .u8 (n.val : Int) 15 = (n.val : Int) % 16 := by decide +kernel
theorem and15_at {x : Int} (h0 : 0 ≤ x) (h1 : x ≤ 255) : Go.bits .and .u8 x 15 = x % 16 := by
  have := and15 ⟨x.toNat, by omega⟩
  simp only at this
  rw [show ((x.toNat : Nat) : Int) = x from by omega] at this; exact this

theorem spec_l01Figure.eq (x : Int) (h0 : 0 ≤ x) (h1 : x < 16) : spec_l01Figure.f x = some (hexD x) := by
  unfold spec_l01Figure.f hexD
  by_cases h : x < 10
  · rw [if_pos h, if_pos h, w64 (by omega) (by omega)]; congr 1; omega
  · rw [if_neg h, if_neg h, w64 (x := 97 + x) (by omega) (by omega), w64 (by omega) (by omega)]; congr 1; omega

/-- The figures of a whole number that is not negative; none for 0. -/
def dig0 (u : Nat) : List Int := if u = 0 then [] else (Lib.decDigits u).map fun b => (b.toNat : Int)
theorem dig0_step (u : Nat) (h : u ≠ 0) : dig0 u = dig0 (u / 10) ++ [48 + ((u % 10 : Nat) : Int)] := by
  have e : ∀ d : Nat, d < 10 → ((UInt8.ofNat (48 + d)).toNat : Int) = 48 + (d : Int) := by
    intro d hd
    have : (UInt8.ofNat (48 + d)).toNat = 48 + d := by rw [UInt8.toNat_ofNat']; omega
    omega
  unfold dig0
  rw [if_neg h]
  by_cases h1 : u < 10
  · rw [if_pos (by omega), Lib.decDigits, dif_pos h1]
    simp only [List.map_cons, List.map_nil, List.nil_append, e u h1]
    rw [Nat.mod_eq_of_lt h1]
  · rw [if_neg (by omega), Lib.decDigits, dif_neg h1]
    simp only [List.map_append, List.map_cons, List.map_nil, e (u % 10) (by omega)]
theorem dig0_range {u : Nat} {x : Int} (h : x ∈ dig0 u) : 0 ≤ x ∧ x ≤ 255 := by
  unfold dig0 at h
  split at h
  · cases h
  · obtain ⟨b, _, rfl⟩ := List.mem_map.1 h
    have := b.toNat_lt
    omega
theorem bytes_app (a b : ByteArray) : bytesOf (a ++ b) = bytesOf a ++ bytesOf b := by
  simp [bytesOf, ByteArray.data_append]
/-- The numeral, as bytes: a minus where the number is negative. -/
def decB (n : Int) : ByteArray := ⟨(Lib.itoa n).toArray⟩
theorem decB_zero : decB 0 = ⟨#[48]⟩ := by
  unfold decB Lib.itoa
  rw [if_neg (by omega), Lib.decDigits, dif_pos (by decide)]
  rfl
theorem decB_pos {n : Int} (h : 0 < n) : bytesOf (decB n) = dig0 n.natAbs := by
  unfold decB Lib.itoa dig0
  rw [if_neg (by omega), bytes_mk, if_neg (by omega), show n.toNat = n.natAbs from by omega]
theorem decB_neg {n : Int} (h : n < 0) : bytesOf (decB n) = 45 :: dig0 n.natAbs := by
  unfold decB Lib.itoa dig0
  rw [if_pos h, bytes_mk, if_neg (by omega)]
  rfl
theorem tmod10 (x : Int) : Int.tmod x 10 = if 0 ≤ x then ((x.natAbs % 10 : Nat) : Int) else -((x.natAbs % 10 : Nat) : Int) := by
  split
  · rw [Int.tmod_eq_emod_of_nonneg (by assumption)]; omega
  · obtain ⟨y, rfl⟩ : ∃ y, x = -y := ⟨-x, by omega⟩
    rw [Int.neg_tmod, Int.tmod_eq_emod_of_nonneg (by omega)]; omega
theorem tdiv10 (x : Int) : Int.tdiv x 10 = if 0 ≤ x then ((x.natAbs / 10 : Nat) : Int) else -((x.natAbs / 10 : Nat) : Int) := by
  split
  · rw [Int.tdiv_eq_ediv_of_nonneg (by assumption)]; omega
  · obtain ⟨y, rfl⟩ : ∃ y, x = -y := ⟨-x, by omega⟩
    rw [Int.neg_tdiv, Int.tdiv_eq_ediv_of_nonneg (by omega)]; omega

theorem spec_Decimal.l0_ev (b : Bool) (n : Nat) : ∀ (x : Int) (acc : ByteArray), x.natAbs < 10 ^ n → -9223372036854775808 ≤ x → x ≤ 9223372036854775807 → acc.size + n ≤ 30 →
    Ev (fun k => spec_Decimal.l0 k x b acc) (if b = true then (⟨#[45]⟩ : ByteArray) ++ (strOfNums (dig0 x.natAbs) ++ acc) else strOfNums (dig0 x.natAbs) ++ acc) := by
  have z0 : ∀ acc : ByteArray, strOfNums (dig0 (0 : Int).natAbs) ++ acc = acc := fun acc => by
    apply bytes_inj
    rw [bytes_app, bytes_strOfNums _ (fun x hx => dig0_range hx)]
    rfl
  have zero : ∀ (acc : ByteArray), acc.size ≤ 30 → Ev (fun k => spec_Decimal.l0 k 0 b acc) (if b = true then (⟨#[45]⟩ : ByteArray) ++ (strOfNums (dig0 (0 : Int).natAbs) ++ acc) else strOfNums (dig0 (0 : Int).natAbs) ++ acc) := by
    intro acc ha
    apply Ev.succ; simp only [spec_Decimal.l0]
    rw [z0]
    refine Ev.ite_pos (by first | rfl | trivial) ?_
    by_cases hb : b = true
    · refine Ev.ite_pos hb (Ev.ite_pos (by omega) (Ev.done ?_))
      rw [if_pos hb]
    · refine Ev.ite_neg hb (Ev.done ?_)
      rw [if_neg hb]
  induction n with
  | zero =>
    intro x acc hx h0 h1 ha
    have : x = 0 := by simp at hx; omega
    subst this
    exact zero acc (by omega)
  | succ n ih =>
    intro x acc hx h0 h1 ha
    by_cases hz : x = 0
    · subst hz; exact zero acc (by omega)
    have hu : x.natAbs ≠ 0 := by omega
    have hp : x.natAbs / 10 < 10 ^ n := by rw [Nat.div_lt_iff_lt_mul (by decide)]; rw [Nat.pow_succ] at hx; exact hx
    have hd : x.natAbs % 10 < 10 := Nat.mod_lt _ (by decide)
    have hq : (Int.tdiv x 10).natAbs = x.natAbs / 10 := by rw [tdiv10]; split <;> omega
    have hr0 : -9223372036854775808 ≤ Int.tdiv x 10 := by rw [tdiv10]; split <;> omega
    have hr1 : Int.tdiv x 10 ≤ 9223372036854775807 := by rw [tdiv10]; split <;> omega
    have hs : ∀ d : Int, (strOfNums [d]).size = 1 := fun d => rfl
    have fin : ∀ d : Int, d = ((x.natAbs % 10 : Nat) : Int) → Ev (fun k => spec_Decimal.l0 k (wrap64 (Int.tdiv x 10)) b (strOfNums [48 + d] ++ acc)) (if b = true then (⟨#[45]⟩ : ByteArray) ++ (strOfNums (dig0 x.natAbs) ++ acc) else strOfNums (dig0 x.natAbs) ++ acc) := by
      intro d e
      rw [w64 hr0 hr1]
      have ez : strOfNums (dig0 (Int.tdiv x 10).natAbs) ++ (strOfNums [48 + d] ++ acc) = strOfNums (dig0 x.natAbs) ++ acc := by
        apply bytes_inj
        rw [bytes_app, bytes_app, bytes_app, bytes_strOfNums _ (fun x hx => dig0_range hx), bytes_strOfNums _ (fun x hx => dig0_range hx), bytes_strOfNums [48 + d] (fun y hy => by simp at hy; omega), hq, dig0_step x.natAbs hu, e, List.append_assoc]
      have := ih (Int.tdiv x 10) (strOfNums [48 + d] ++ acc) (by omega) hr0 hr1 (by rw [ByteArray.size_append, hs]; omega)
      rw [ez] at this
      exact this
    apply Ev.succ; simp only [spec_Decimal.l0, Option.bind_some]
    refine Ev.ite_neg hz ?_
    have hex : ∀ d : Int, 0 ≤ d → d < 10 → spec_l01Figure.f d = some (48 + d) := fun d a c => by rw [spec_l01Figure.eq d a (by omega), hexD, if_pos c]
    by_cases hm : Int.tmod x 10 < 0
    · refine Ev.ite_pos hm ?_
      have e : -(Int.tmod x 10) = ((x.natAbs % 10 : Nat) : Int) := by rw [tmod10] at hm ⊢; split at hm <;> rename_i hc <;> simp only [hc, if_true, if_false] <;> omega
      rw [w64 (x := -(Int.tmod x 10)) (by omega) (by omega)]
      refine Ev.bindc (hex _ (by omega) (by omega)) (Ev.ite_pos ?_ (fin _ e))
      rw [hs]; omega
    · refine Ev.ite_neg hm ?_
      have e : Int.tmod x 10 = ((x.natAbs % 10 : Nat) : Int) := by rw [tmod10] at hm ⊢; split at hm <;> rename_i hc <;> simp only [hc, if_true, if_false] <;> omega
      refine Ev.bindc (hex _ (by omega) (by omega)) (Ev.ite_pos ?_ (fin _ e))
      rw [hs]; omega
theorem spec_Decimal.ev (n : Int) (h0 : -9223372036854775808 ≤ n) (h1 : n ≤ 9223372036854775807) : Ev (fun k => spec_Decimal.f k n) (decB n) := by
  unfold spec_Decimal.f
  by_cases hz : n = 0
  · subst hz
    exact Ev.ite_pos rfl (Ev.done decB_zero.symm)
  · refine Ev.ite_neg hz ((spec_Decimal.l0_ev _ 20 n ⟨#[]⟩ (by omega) h0 h1 (by decide)).get ?_)
    apply bytes_inj
    by_cases hn : n < 0
    · rw [if_pos (by simp [hn]), bytes_app, bytes_app, bytes_strOfNums _ (fun x hx => dig0_range hx), decB_neg hn]
      simp [bytesOf]
    · rw [if_neg (by simp [hn]), bytes_app, bytes_strOfNums _ (fun x hx => dig0_range hx), decB_pos (by omega)]
      simp [bytesOf]

/-- Does a list begin with p. -/
def preB (p l : List Int) : Bool := l.take p.length == p
theorem preB_length {p l : List Int} (h : preB p l = true) : p.length ≤ l.length := by
  unfold preB at h; rw [beq_iff_eq] at h
  have := congrArg List.length h
  rw [List.length_take] at this; omega

theorem stringslite_HasPrefix.eq (a b : ByteArray) : stringslite_HasPrefix.f a b = some (preB (bytesOf b) (bytesOf a)) := by
  have la := size_bytes a
  have lb := size_bytes b
  unfold stringslite_HasPrefix.f
  by_cases h : (a.size : Int) ≥ (b.size : Int)
  · rw [if_pos h, if_pos (by omega), if_pos (by omega), toList_beq, bytes_extract]
    unfold preB; simp [lb]
  · rw [if_neg h]
    cases hp : preB (bytesOf b) (bytesOf a) with
    | false => rfl
    | true => have := preB_length hp; omega

theorem stringslite_TrimPrefix.eq (a b : ByteArray) : ∃ r, stringslite_TrimPrefix.f a b = some r ∧ bytesOf r = if preB (bytesOf b) (bytesOf a) = true then (bytesOf a).drop b.size else bytesOf a := by
  unfold stringslite_TrimPrefix.f
  rw [stringslite_HasPrefix.eq]; simp only [Option.bind_some]
  by_cases h : preB (bytesOf b) (bytesOf a) = true
  · have hl := preB_length h
    rw [size_bytes, size_bytes] at hl
    rw [if_pos h, if_pos (by omega), if_pos (by omega), if_pos h]
    exact ⟨_, rfl, by rw [extract_tl]; unfold tl; simp⟩
  · rw [if_neg h, if_neg h]; exact ⟨_, rfl, rfl⟩

theorem strings_TrimPrefix.eq (a b : ByteArray) : ∃ r, strings_TrimPrefix.f a b = some r ∧ bytesOf r = if preB (bytesOf b) (bytesOf a) = true then (bytesOf a).drop b.size else bytesOf a := by
  obtain ⟨r, h, e⟩ := stringslite_TrimPrefix.eq a b
  exact ⟨r, by unfold strings_TrimPrefix.f; rw [h]; rfl, e⟩

theorem impl_isFigure.eq (x : Int) : impl_isFigure.f x = some (figB x) := by
  unfold impl_isFigure.f figB
  by_cases h : x ≥ 48
  · rw [if_pos h]; congr 1; rw [Bool.eq_iff_iff]; simp only [decide_eq_true_eq, Bool.or_eq_true, beq_iff_eq, Bool.false_eq_true, true_iff, false_iff]; omega
  · rw [if_neg h]; congr 1; rw [Bool.eq_iff_iff]; simp only [decide_eq_true_eq, Bool.or_eq_true, beq_iff_eq, Bool.false_eq_true, true_iff, false_iff]; omega

theorem impl_figures.l0_ev (s : ByteArray) (hs : s.size ≤ 140737488351232) (n : Nat) : ∀ i : Int, 0 ≤ i → (s.size : Int) - i = n →
    Ev (fun k => impl_figures.l0 k s (s.size : Int) i) ((tl s i).all figB && (bytesOf s != [])) := by
  induction n with
  | zero =>
    intro i h0 hn
    apply Ev.succ; simp only [impl_figures.l0]
    rw [tl_nil (by omega)]
    refine Ev.ite_neg (by omega) (Ev.done ?_)
    have := toList_beq_lit s []
    rw [bne, this]; simp [bne]
  | succ n ih =>
    intro i h0 hn
    have h1 : i < (s.size : Int) := by omega
    have ih := ih (i + 1) (by omega) (by omega)
    apply Ev.succ
    simp only [impl_figures.l0, h0, h1, if_true, impl_isFigure.eq, Option.bind_some, w64 (x := i + 1) (by omega) (by omega)]
    rw [tl_cons h0 h1, List.all_cons]
    cases figB (bt s i) with
    | true => exact Ev.ite_pos rfl (ih.get (by simp))
    | false => exact Ev.ite_neg (by simp) (Ev.done (by simp))
theorem impl_figures.ev (s : ByteArray) (hs : s.size ≤ 140737488351232) : Ev (fun k => impl_figures.f k s) ((bytesOf s).all figB && (bytesOf s != [])) := by
  unfold impl_figures.f
  have := impl_figures.l0_ev s hs s.size 0 (by omega) (by omega)
  rw [tl_zero] at this; exact this

/-- How many figures stand at the begin. -/
def runN (d : List Int) : Nat := (d.takeWhile figB).length
def digs (l : List Int) : List Int := if l.head? = some 45 then l.tail else l
def signN (l : List Int) : Int := if l.head? = some 45 then 1 else 0
/-- The place behind a whole number at the begin; 0: there is none. -/
def intEnd (l : List Int) : Int := if runN (digs l) = 0 then 0 else if (digs l).headD 0 = 48 ∧ 1 < runN (digs l) then 0 else signN l + runN (digs l)
def intOkL (l : List Int) : Bool := decide (l.length ≤ 40) && (digs l != [] && (digs l).all figB) && ((digs l) == [48] || (digs l).headD 0 != 48)
theorem runN_cons (x : Int) (d : List Int) : runN (x :: d) = if figB x = true then runN d + 1 else 0 := by
  unfold runN; rw [List.takeWhile_cons]; cases figB x <;> simp
theorem runN_le (d : List Int) : runN d ≤ d.length := by
  unfold runN
  exact (List.takeWhile_sublist figB).length_le
theorem runN_all (d : List Int) : d.all figB = true ↔ runN d = d.length := by
  induction d with
  | nil => simp [runN]
  | cons x d ih =>
    rw [runN_cons, List.all_cons]
    have := runN_le d
    cases h : figB x with
    | true => simp [ih]
    | false => simp
theorem digs_length (l : List Int) : signN l + (digs l).length = l.length := by
  unfold signN digs
  by_cases h : l.head? = some 45
  · rw [if_pos h, if_pos h]
    cases l with
    | nil => simp at h
    | cons x r => simp; omega
  · rw [if_neg h, if_neg h]; omega
theorem intOk_end (l : List Int) : intOkL l = (decide (l.length ≤ 40) && decide (0 < l.length) && (intEnd l == (l.length : Int))) := by
  have hd := digs_length l
  have hs : 0 ≤ signN l := by unfold signN; split <;> omega
  have hr := runN_le (digs l)
  have ha := runN_all (digs l)
  unfold intOkL intEnd
  rw [Bool.eq_iff_iff]
  simp only [Bool.and_eq_true, decide_eq_true_eq, Bool.or_eq_true, beq_iff_eq, bne_iff_ne, ne_eq]
  constructor
  · rintro ⟨⟨h40, hne, hall⟩, h48⟩
    have hlen : 0 < (digs l).length := List.length_pos_iff.2 hne
    have hrun := ha.1 hall
    refine ⟨⟨h40, by omega⟩, ?_⟩
    rw [if_neg (by omega)]
    rw [if_neg ?_]
    · omega
    · rintro ⟨h1, h2⟩
      rcases h48 with h | h
      · rw [h] at hrun h2; simp at hrun; omega
      · exact h h1
  · rintro ⟨⟨h40, h0⟩, he⟩
    by_cases c0 : runN (digs l) = 0
    · rw [if_pos c0] at he; omega
    · rw [if_neg c0] at he
      by_cases c1 : (digs l).headD 0 = 48 ∧ 1 < runN (digs l)
      · rw [if_pos c1] at he; omega
      · rw [if_neg c1] at he
        have hrun : runN (digs l) = (digs l).length := by omega
        refine ⟨⟨h40, ?_, ha.2 hrun⟩, ?_⟩
        · intro h; rw [h] at c0; exact c0 rfl
        · by_cases c48 : (digs l).headD 0 = 48
          · left
            have : ¬ 1 < runN (digs l) := fun h => c1 ⟨c48, h⟩
            have h1 : (digs l).length = 1 := by omega
            obtain ⟨x, hx⟩ := List.length_eq_one_iff.1 h1
            rw [hx] at c48 ⊢
            simp only [List.headD_cons] at c48
            rw [c48]
          · exact Or.inr c48

theorem impl_IntOk.ev (s : ByteArray) (hs : s.size ≤ 140737488351232) : Ev (fun k => impl_IntOk.f k s) (intOkL (bytesOf s)) := by
  have hl := size_bytes s
  unfold impl_IntOk.f
  obtain ⟨d, hd, hb⟩ := strings_TrimPrefix.eq s (⟨#[45]⟩ : ByteArray)
  have b1 : bytesOf (⟨#[45]⟩ : ByteArray) = [45] := by decide
  have hdig : bytesOf d = digs (bytesOf s) := by
    rw [hb, b1]; unfold preB digs
    cases hc : bytesOf s with
    | nil => simp
    | cons x r =>
      have : (⟨#[45]⟩ : ByteArray).size = 1 := rfl
      rw [this]
      by_cases h : x = 45 <;> simp [h]
  have hsz : d.size ≤ s.size := by
    have h1 := digs_length (bytesOf s)
    have h2 : 0 ≤ signN (bytesOf s) := by unfold signN; split <;> omega
    rw [← hdig, size_bytes, size_bytes] at h1; omega
  refine Ev.bindc hd ?_
  unfold intOkL
  rw [← hdig, hl]
  by_cases h : (s.size : Int) ≤ 40
  · have e1 : decide (s.size ≤ 40) = true := decide_eq_true (by omega)
    rw [e1, Bool.true_and]
    refine Ev.ite_pos h ((impl_figures.ev d (by omega)).bind ?_)
    rw [Bool.and_comm (bytesOf d != [])]
    cases hf : ((bytesOf d).all figB && bytesOf d != []) with
    | false => exact Ev.ite_neg (by simp) (Ev.done (by simp))
    | true =>
      refine Ev.ite_pos rfl ?_
      rw [Bool.true_and]
      simp only [toList_eq_bytes]
      by_cases c : bytesOf d = [48]
      · exact Ev.ite_pos (by rw [c]; rfl) (Ev.done (by rw [c]; rfl))
      · refine Ev.ite_neg (by simpa using c) ?_
        have hne : bytesOf d ≠ [] := by
          intro hn; rw [hn] at hf; simp at hf
        have hp : 0 < d.size := by
          rw [← size_bytes]; exact List.length_pos_iff.2 hne
        have ht := tl_cons (s := d) (i := 0) (by omega) (by omega)
        rw [tl_zero] at ht
        refine Ev.ite_pos (by omega) (Ev.done ?_)
        have : (bytesOf d == [48]) = false := by simpa using c
        rw [this, Bool.false_or]
        have : (bytesOf d).headD 0 = bt d 0 := by rw [ht]; rfl
        rw [this]
  · have e1 : decide (s.size ≤ 40) = false := decide_eq_false (by omega)
    rw [e1]
    exact Ev.ite_neg h (Ev.done (by simp))

theorem figB_iff (x : Int) : figB x = true ↔ 48 ≤ x ∧ x ≤ 57 := by simp [figB]

/-- A row of bytes as whole numbers. -/
def ints (l : List UInt8) : List Int := l.map fun b => (b.toNat : Int)
/-- The number that figures spell, signs passed over. -/
def valS : List Int → Int → Int
  | [], a => a
  | x :: r, a => if x = 45 then valS r a else valS r (a * 10 + x - 48)
theorem valS_ge (d : List Int) : ∀ a, 0 ≤ a → d.all figB = true → a * 10 ^ d.length ≤ valS d a := by
  induction d with
  | nil => intro a h _; simp [valS]
  | cons x r ih =>
    intro a h hd
    rw [List.all_cons, Bool.and_eq_true, figB_iff] at hd
    have h1 := ih (a * 10 + x - 48) (by omega) hd.2
    simp only [valS]
    rw [if_neg (by omega), List.length_cons, Int.pow_succ]
    refine Int.le_trans ?_ h1
    have hp : (0 : Int) < 10 ^ r.length := Int.pow_pos (by decide)
    rw [show a * (10 ^ r.length * 10) = (a * 10) * 10 ^ r.length from by rw [Int.mul_assoc, Int.mul_comm 10]]
    exact Int.mul_le_mul_of_nonneg_right (by omega) (Int.le_of_lt hp)
theorem valS_mono (d : List Int) (a : Int) (h : 0 ≤ a) (hd : d.all figB = true) : a ≤ valS d a := by
  have h1 := valS_ge d a h hd
  have hp : (0 : Int) < 10 ^ d.length := Int.pow_pos (by decide)
  have : a * 1 ≤ a * 10 ^ d.length := Int.mul_le_mul_of_nonneg_left (by omega) h
  omega
theorem parseM_eq (M : Nat) (hM : M < 1844674407370955162) (l : List UInt8) : ∀ a : Nat, a ≤ M → (ints l).all figB = true →
    Lib.parseUintM M a l = if valS (ints l) a ≤ M then .ok (valS (ints l) a).toNat else .range := by
  induction l with
  | nil => intro a h _; simp only [ints, List.map_nil, valS, Lib.parseUintM]; rw [if_pos (by omega)]; rfl
  | cons c r ih =>
    intro a h hd
    have e : ints (c :: r) = (c.toNat : Int) :: ints r := rfl
    rw [e, List.all_cons, Bool.and_eq_true, figB_iff] at hd
    have e2 : (a : Int) * 10 + (c.toNat : Int) - 48 = ((a * 10 + (c.toNat - 48) : Nat) : Int) := by omega
    have e3 : valS (ints (c :: r)) (a : Int) = valS (ints r) ((a * 10 + (c.toNat - 48) : Nat) : Int) := by
      rw [e, valS, if_neg (show ¬ (c.toNat : Int) = 45 by omega), e2]
    rw [e3]
    simp only [Lib.parseUintM]
    rw [if_pos (by omega), if_neg (by omega)]
    by_cases c1 : M < a * 10 + (c.toNat - 48)
    · rw [if_pos c1]
      have := valS_mono (ints r) ((a * 10 + (c.toNat - 48) : Nat) : Int) (by omega) hd.2
      rw [if_neg (by omega)]
    · rw [if_neg c1]
      exact ih _ (by omega) hd.2
def okP (x : Lib.NumEnd Int) : Bool := match x with | .ok _ => true | _ => false
/-- A number without a needless 0 ahead of it that is below 10^10 has ten figures at most. -/
theorem few_figs (d : List Int) (hd : d.all figB = true) (hz : d = [48] ∨ d.headD 0 ≠ 48) (hv : valS d 0 < 10000000000) : d.length ≤ 10 := by
  rcases hz with rfl | hz
  · simp
  · cases d with
    | nil => simp
    | cons x r =>
      rw [List.all_cons, Bool.and_eq_true, figB_iff] at hd
      simp only [List.headD_cons] at hz
      simp only [valS] at hv
      rw [if_neg (by omega)] at hv
      have h1 := valS_ge r (0 * 10 + x - 48) (by omega) hd.2
      have hp : (0 : Int) < 10 ^ r.length := Int.pow_pos (by decide)
      have h2 : 1 * (10 : Int) ^ r.length ≤ (0 * 10 + x - 48) * 10 ^ r.length := Int.mul_le_mul_of_nonneg_right (by omega) (Int.le_of_lt hp)
      rw [List.length_cons]
      rcases Nat.lt_or_ge r.length 10 with h3 | h3
      · omega
      · have h4 : (10 : Int) ^ 10 ≤ 10 ^ r.length := by exact_mod_cast Nat.pow_le_pow_right (by decide) h3
        omega
def fitsV (s : ByteArray) (v : Int) : Bool := if bt s 0 = 45 then decide (v ≤ 2147483648) else decide (v ≤ 2147483647)
def fitsB (s : ByteArray) : Bool := decide (s.size ≤ 11) && fitsV s (valS (bytesOf s) 0)
theorem fits_parse (s : ByteArray) (h : intOkL (bytesOf s) = true) : okP (Lib.parseIntB 32 s.data.toList) = fitsB s := by
  unfold fitsB fitsV
  have eb : bytesOf s = ints s.data.toList := rfl
  have hl : s.size = s.data.toList.length := (data_length s).symm
  obtain ⟨l, el⟩ : ∃ l, s.data.toList = l := ⟨_, rfl⟩
  have hb0 : ∀ c r, l = c :: r → bt s 0 = (c.toNat : Int) := by
    intro c r e
    have h1 : tl s 0 = bt s 0 :: tl s 1 := tl_cons (by omega) (by rw [hl, el, e]; simp)
    rw [tl_zero, eb, el, e] at h1
    exact (List.cons.inj h1).1.symm
  rw [eb, hl, el]
  rw [eb, el] at h
  unfold intOkL at h
  simp only [Bool.and_eq_true, decide_eq_true_eq, Bool.or_eq_true, beq_iff_eq, bne_iff_ne, ne_eq] at h
  obtain ⟨⟨_, hne, hall⟩, hz⟩ := h
  cases l with
  | nil => exact absurd rfl hne
  | cons c r =>
    rw [hb0 c r rfl]
    have e : ints (c :: r) = (c.toNat : Int) :: ints r := rfl
    unfold Lib.parseIntB
    simp only
    by_cases c45 : c.toNat = 45
    · have ed : digs (ints (c :: r)) = ints r := by unfold digs; rw [e, if_pos (by simp; omega)]; rfl
      rw [ed] at hne hall hz
      have hr : r ≠ [] := by rintro rfl; exact hne rfl
      rw [if_pos (Or.inr c45), if_pos (show (c.toNat : Int) = 45 by omega)]
      unfold Lib.parseUintB
      have pm := parseM_eq (2 ^ 32 - 1) (by decide) r 0 (by omega) hall
      rw [show ((0 : Nat) : Int) = 0 from rfl] at pm
      rw [if_neg hr, pm]
      have ev : valS (ints (c :: r)) 0 = valS (ints r) 0 := by rw [e]; simp only [valS]; rw [if_pos (by omega)]
      rw [ev]
      have h0 := valS_mono (ints r) 0 (by omega) hall
      have hlen : (ints r).length = r.length := by simp [ints]
      by_cases h1 : valS (ints r) 0 ≤ 2147483648
      · have := few_figs _ hall hz (by omega)
        rw [if_pos (by simp; omega)]
        simp only [c45, not_true, false_and, if_false, true_and]
        rw [if_neg (by simp; omega)]
        simp only [okP, List.length_cons]
        rw [decide_eq_true h1, decide_eq_true (by omega)]
        rfl
      · rw [decide_eq_false h1, Bool.and_false]
        by_cases h2 : valS (ints r) 0 ≤ ((2 ^ 32 - 1 : Nat) : Int)
        · rw [if_pos h2]
          simp only [c45, not_true, false_and, if_false, true_and]
          rw [if_pos (by simp; omega)]
          rfl
        · rw [if_neg h2]; rfl
    · have ed : digs (ints (c :: r)) = ints (c :: r) := by unfold digs; rw [e, if_neg (by simp; omega)]
      rw [ed] at hne hall hz
      have hf : 48 ≤ (c.toNat : Int) ∧ (c.toNat : Int) ≤ 57 := by
        rw [e, List.all_cons, Bool.and_eq_true, figB_iff] at hall
        exact hall.1
      rw [if_neg (show ¬ (c.toNat = 43 ∨ c.toNat = 45) by omega), if_neg (show ¬ (c.toNat : Int) = 45 by omega)]
      unfold Lib.parseUintB
      have pm := parseM_eq (2 ^ 32 - 1) (by decide) (c :: r) 0 (by omega) hall
      rw [show ((0 : Nat) : Int) = 0 from rfl] at pm
      rw [if_neg (show ¬ (c :: r) = [] by simp), pm]
      have h0 := valS_mono (ints (c :: r)) 0 (by omega) hall
      have hlen : (ints (c :: r)).length = (c :: r).length := by simp [ints]
      by_cases h1 : valS (ints (c :: r)) 0 ≤ 2147483647
      · have := few_figs _ hall hz (by omega)
        rw [if_pos (by simp; omega)]
        simp only [c45, not_false_eq_true, true_and, false_and, if_false]
        rw [if_neg (by simp; omega)]
        simp only [okP]
        rw [decide_eq_true h1, decide_eq_true (by omega)]
        rfl
      · rw [decide_eq_false h1, Bool.and_false]
        by_cases h2 : valS (ints (c :: r)) 0 ≤ ((2 ^ 32 - 1 : Nat) : Int)
        · rw [if_pos h2]
          simp only [c45, not_false_eq_true, true_and, false_and, if_false]
          rw [if_pos (by simp; omega)]
          rfl
        · rw [if_neg h2]; rfl

theorem impl_Fits32.ev (s : ByteArray) (hs : s.size ≤ 140737488351232) : Ev (fun k => impl_Fits32.f k s) (intOkL (bytesOf s) && fitsB s) := by
  unfold impl_Fits32.f
  refine Ev.ite_pos (by omega) ((impl_IntOk.ev s hs).bind (Ev.done ?_))
  cases h : intOkL (bytesOf s) with
  | false => rfl
  | true => rw [← fits_parse s h]; rfl

/-- The bytes of a scalar. -/
def runeL (n : Int) : List Int :=
  if n < 128 then [n] else if n < 2048 then [192 + n / 64, 128 + n % 64]
  else if n < 65536 then [224 + n / 4096, 128 + n / 64 % 64, 128 + n % 64]
  else [240 + n / 262144, 128 + n / 4096 % 64, 128 + n / 64 % 64, 128 + n % 64]
def scalB (n : Int) : Bool := decide (0 ≤ n ∧ n ≤ 1114111) && !decide (55296 ≤ n ∧ n ≤ 57343)
def runeTextL (n : Int) : ByteArray := if scalB n = true then strOfNums (runeL n) else (⟨#[]⟩ : ByteArray)
theorem or_low (h : Nat) (hh : h = 192 ∨ h = 224 ∨ h = 240 ∨ h = 128) (b m : Nat) (hb : b < m) (hm : m = if h = 192 then 32 else if h = 224 then 16 else if h = 240 then 8 else 64) : Go.bits .or .u8 (h : Int) (b : Int) = (h : Int) + b := by
  have t : (∀ b : Fin 32, Go.bits .or .u8 ((192 : Nat) : Int) (b.val : Int) = ((192 : Nat) : Int) + b.val) ∧ (∀ b : Fin 16, Go.bits .or .u8 ((224 : Nat) : Int) (b.val : Int) = ((224 : Nat) : Int) + b.val) ∧ (∀ b : Fin 8, Go.bits .or .u8 ((240 : Nat) : Int) (b.val : Int) = ((240 : Nat) : Int) + b.val) ∧ (∀ b : Fin 64, Go.bits .or .u8 ((128 : Nat) : Int) (b.val : Int) = ((128 : Nat) : Int) + b.val) := by decide +kernel
  obtain ⟨t1, t2, t3, t4⟩ := t
  rcases hh with rfl | rfl | rfl | rfl
  · exact t1 ⟨b, by simp at hm; omega⟩
  · exact t2 ⟨b, by simp at hm; omega⟩
  · exact t3 ⟨b, by simp at hm; omega⟩
  · exact t4 ⟨b, by simp at hm; omega⟩
theorem or192 {x : Int} (h0 : 0 ≤ x) (h1 : x < 32) : Go.bits .or .u8 192 x = 192 + x := by
  have := or_low 192 (by simp) x.toNat 32 (by omega) (by simp)
  rw [show ((x.toNat : Nat) : Int) = x from by omega] at this; exact this
theorem or224 {x : Int} (h0 : 0 ≤ x) (h1 : x < 16) : Go.bits .or .u8 224 x = 224 + x := by
  have := or_low 224 (by simp) x.toNat 16 (by omega) (by simp)
  rw [show ((x.toNat : Nat) : Int) = x from by omega] at this; exact this
theorem or240 {x : Int} (h0 : 0 ≤ x) (h1 : x < 8) : Go.bits .or .u8 240 x = 240 + x := by
  have := or_low 240 (by simp) x.toNat 8 (by omega) (by simp)
  rw [show ((x.toNat : Nat) : Int) = x from by omega] at this; exact this
theorem or128 {x : Int} (h0 : 0 ≤ x) (h1 : x < 64) : Go.bits .or .u8 128 x = 128 + x := by
  have := or_low 128 (by simp) x.toNat 64 (by omega) (by simp)
  rw [show ((x.toNat : Nat) : Int) = x from by omega] at this; exact this
theorem and63T : ∀ n : Fin 256, Go.bits .and .u8 (n.val : Int) 63 = (n.val : Int) % 64 := by decide +kernel
theorem and63 {x : Int} : Go.bits .and .u8 (x % 256) 63 = x % 64 := by
  have := and63T ⟨(x % 256).toNat, by omega⟩
  simp only at this
  rw [show (((x % 256).toNat : Nat) : Int) = x % 256 from by omega] at this; rw [this]; omega

/-- The scalar at the begin of what is left (n bytes, the first four of them b0 .. b3), and how many bytes it takes; -1: none. -/
def decZ (n b0 b1 b2 b3 : Int) : Int × Int :=
  if n ≤ 0 then (-1, 0)
  else if b0 < 128 then (b0, 1)
  else if 194 ≤ b0 ∧ b0 < 224 ∧ 2 ≤ n ∧ 128 ≤ b1 ∧ b1 ≤ 191 then ((b0 - 192) * 64 + b1 - 128, 2)
  else if 224 ≤ b0 ∧ b0 < 240 ∧ 3 ≤ n ∧ 128 ≤ b1 ∧ b1 ≤ 191 ∧ 128 ≤ b2 ∧ b2 ≤ 191 ∧ 2048 ≤ ((b0 - 224) * 64 + b1 - 128) * 64 + b2 - 128 ∧ ¬ (55296 ≤ ((b0 - 224) * 64 + b1 - 128) * 64 + b2 - 128 ∧ ((b0 - 224) * 64 + b1 - 128) * 64 + b2 - 128 ≤ 57343) then (((b0 - 224) * 64 + b1 - 128) * 64 + b2 - 128, 3)
  else if 240 ≤ b0 ∧ b0 < 245 ∧ 4 ≤ n ∧ 128 ≤ b1 ∧ b1 ≤ 191 ∧ 128 ≤ b2 ∧ b2 ≤ 191 ∧ 128 ≤ b3 ∧ b3 ≤ 191 ∧ 65536 ≤ (((b0 - 240) * 64 + b1 - 128) * 64 + b2 - 128) * 64 + b3 - 128 ∧ (((b0 - 240) * 64 + b1 - 128) * 64 + b2 - 128) * 64 + b3 - 128 ≤ 1114111 then ((((b0 - 240) * 64 + b1 - 128) * 64 + b2 - 128) * 64 + b3 - 128, 4)
  else (-1, 0)
def decAt (s : ByteArray) (i : Int) : Int × Int := decZ ((s.size : Int) - i) (bt s i) (bt s (i + 1)) (bt s (i + 2)) (bt s (i + 3))
/-- Go's decoder's answer, as RuneAt tells it. -/
def asAt (d : Nat × Nat) : Int × Int := if d.1 = 65533 ∧ d.2 < 2 then (-1, 0) else ((d.1 : Int), (d.2 : Int))
theorem asAt_bad : asAt (65533, 1) = (-1, 0) := rfl
theorem asAt_ok (a b : Nat) (h : ¬ (a = 65533 ∧ b < 2)) : asAt (a, b) = ((a : Int), (b : Int)) := by unfold asAt; rw [if_neg h]
theorem dec_go (n b0 b1 b2 b3 : Nat) (hn : 1 ≤ n) (h0 : b0 < 256) (h1 : b1 < 256) (h2 : b2 < 256) (h3 : b3 < 256) :
    asAt (Lib.decodeN n b0 b1 b2 b3) = decZ n b0 b1 b2 b3 := by
  by_cases c0 : b0 < 128
  · have l : Lib.decodeN n b0 b1 b2 b3 = (b0, 1) := by unfold Lib.decodeN; rw [if_pos c0]
    have r : decZ n b0 b1 b2 b3 = ((b0 : Int), 1) := by unfold decZ; rw [if_neg (by omega), if_pos (by omega)]
    rw [l, r, asAt_ok _ _ (by omega)]; rfl
  by_cases k2 : b0 / 32 = 6 ∧ (1 < n ∧ b1 / 64 = 2)
  · by_cases c : b0 % 32 * 64 + b1 % 64 ≥ 128
    · have l : Lib.decodeN n b0 b1 b2 b3 = (b0 % 32 * 64 + b1 % 64, 2) := by unfold Lib.decodeN; rw [if_neg c0, if_pos k2, if_pos c]
      have r : decZ n b0 b1 b2 b3 = (((b0 : Int) - 192) * 64 + b1 - 128, 2) := by unfold decZ; rw [if_neg (by omega), if_neg (by omega), if_pos (by omega)]
      rw [l, r, asAt_ok _ _ (by omega)]
      refine Prod.ext ?_ ?_ <;> simp only [] <;> omega
    · have l : Lib.decodeN n b0 b1 b2 b3 = (65533, 1) := by unfold Lib.decodeN; rw [if_neg c0, if_pos k2, if_neg c]
      have r : decZ n b0 b1 b2 b3 = (-1, 0) := by unfold decZ; rw [if_neg (by omega), if_neg (by omega), if_neg (by omega), if_neg (by omega), if_neg (by omega)]
      rw [l, r]; rfl
  by_cases k3 : b0 / 16 = 14 ∧ (1 < n ∧ b1 / 64 = 2) ∧ (2 < n ∧ b2 / 64 = 2)
  · by_cases c : b0 % 16 * 4096 + b1 % 64 * 64 + b2 % 64 ≥ 2048 ∧ (b0 % 16 * 4096 + b1 % 64 * 64 + b2 % 64 < 55296 ∨ (57344 ≤ b0 % 16 * 4096 + b1 % 64 * 64 + b2 % 64 ∧ b0 % 16 * 4096 + b1 % 64 * 64 + b2 % 64 ≤ 1114111))
    · have l : Lib.decodeN n b0 b1 b2 b3 = (b0 % 16 * 4096 + b1 % 64 * 64 + b2 % 64, 3) := by unfold Lib.decodeN; rw [if_neg c0, if_neg k2, if_pos k3, if_pos c]
      have r : decZ n b0 b1 b2 b3 = ((((b0 : Int) - 224) * 64 + b1 - 128) * 64 + b2 - 128, 3) := by unfold decZ; rw [if_neg (by omega), if_neg (by omega), if_neg (by omega), if_pos (by omega)]
      rw [l, r, asAt_ok _ _ (by omega)]
      refine Prod.ext ?_ ?_ <;> simp only [] <;> omega
    · have l : Lib.decodeN n b0 b1 b2 b3 = (65533, 1) := by unfold Lib.decodeN; rw [if_neg c0, if_neg k2, if_pos k3, if_neg c]
      have r : decZ n b0 b1 b2 b3 = (-1, 0) := by unfold decZ; rw [if_neg (by omega), if_neg (by omega), if_neg (by omega), if_neg (by omega), if_neg (by omega)]
      rw [l, r]; rfl
  by_cases k4 : b0 / 8 = 30 ∧ (1 < n ∧ b1 / 64 = 2) ∧ (2 < n ∧ b2 / 64 = 2) ∧ (3 < n ∧ b3 / 64 = 2)
  · by_cases c : b0 % 8 * 262144 + b1 % 64 * 4096 + b2 % 64 * 64 + b3 % 64 ≥ 65536 ∧ (b0 % 8 * 262144 + b1 % 64 * 4096 + b2 % 64 * 64 + b3 % 64 < 55296 ∨ (57344 ≤ b0 % 8 * 262144 + b1 % 64 * 4096 + b2 % 64 * 64 + b3 % 64 ∧ b0 % 8 * 262144 + b1 % 64 * 4096 + b2 % 64 * 64 + b3 % 64 ≤ 1114111))
    · have l : Lib.decodeN n b0 b1 b2 b3 = (b0 % 8 * 262144 + b1 % 64 * 4096 + b2 % 64 * 64 + b3 % 64, 4) := by unfold Lib.decodeN; rw [if_neg c0, if_neg k2, if_neg k3, if_pos k4, if_pos c]
      have r : decZ n b0 b1 b2 b3 = (((((b0 : Int) - 240) * 64 + b1 - 128) * 64 + b2 - 128) * 64 + b3 - 128, 4) := by unfold decZ; rw [if_neg (by omega), if_neg (by omega), if_neg (by omega), if_neg (by omega), if_pos (by omega)]
      rw [l, r, asAt_ok _ _ (by omega)]
      refine Prod.ext ?_ ?_ <;> simp only [] <;> omega
    · have l : Lib.decodeN n b0 b1 b2 b3 = (65533, 1) := by unfold Lib.decodeN; rw [if_neg c0, if_neg k2, if_neg k3, if_pos k4, if_neg c]
      have r : decZ n b0 b1 b2 b3 = (-1, 0) := by unfold decZ; rw [if_neg (by omega), if_neg (by omega), if_neg (by omega), if_neg (by omega), if_neg (by omega)]
      rw [l, r]; rfl
  have l : Lib.decodeN n b0 b1 b2 b3 = (65533, 1) := by unfold Lib.decodeN; rw [if_neg c0, if_neg k2, if_neg k3, if_neg k4]
  have r : decZ n b0 b1 b2 b3 = (-1, 0) := by unfold decZ; rw [if_neg (by omega), if_neg (by omega), if_neg (by omega), if_neg (by omega), if_neg (by omega)]
  rw [l, r]; rfl
theorem bt_get (s : ByteArray) (k : Nat) : (((s.get! k).toNat : Nat) : Int) = bt s k := by
  unfold bt
  by_cases h : k < s.size
  · rw [dif_pos (by simpa using h)]
    have : s.get! k = s[k]'h := by
      show s.data[k]! = s.data[k]'h
      exact getElem!_pos s.data k h
    rw [this]; rfl
  · rw [dif_neg (by simpa using h)]
    have : s.get! k = 0 := by
      show s.data[k]! = 0
      rw [getElem!_neg s.data k (by exact h)]; rfl
    rw [this]; rfl
theorem bt_tl (s : ByteArray) (i : Int) (h0 : 0 ≤ i) (k : Nat) : bt (s.extract i.toNat s.size) k = bt s (i + k) := by
  rw [← rd_bytesOf, ← rd_bytesOf, extract_tl]
  unfold rd tl
  simp only [Int.toNat_natCast, List.getD_eq_getElem?_getD, List.getElem?_drop]
  rw [show (i + (k : Int)).toNat = i.toNat + k from by omega]
theorem get_lt (s : ByteArray) (k : Nat) : (s.get! k).toNat < 256 := (s.get! k).toNat_lt
theorem decAt_zero (t : ByteArray) (h : 0 < t.size) : asAt (Utf8.decode t 0) = decAt t 0 := by
  rw [Lib.decode_at t 0, dec_go _ _ _ _ _ (by omega) (get_lt _ _) (get_lt _ _) (get_lt _ _) (get_lt _ _)]
  unfold decAt
  rw [bt_get, bt_get, bt_get, bt_get]
  simp
theorem decAt_tl (s : ByteArray) (i : Int) (h0 : 0 ≤ i) (h1 : i < (s.size : Int)) : decAt (s.extract i.toNat s.size) 0 = decAt s i := by
  have hs : ((s.extract i.toNat s.size).size : Int) = (s.size : Int) - i := by rw [size_extract]; omega
  unfold decAt
  rw [hs]
  have e0 := bt_tl s i h0 0
  have e1 := bt_tl s i h0 1
  have e2 := bt_tl s i h0 2
  have e3 := bt_tl s i h0 3
  have z0 : bt (s.extract i.toNat s.size) 0 = bt s i := by have := e0; rwa [show ((0 : Nat) : Int) = 0 from rfl, Int.add_zero] at this
  have z1 : bt (s.extract i.toNat s.size) (0 + 1) = bt s (i + 1) := e1
  have z2 : bt (s.extract i.toNat s.size) (0 + 2) = bt s (i + 2) := e2
  have z3 : bt (s.extract i.toNat s.size) (0 + 3) = bt s (i + 3) := e3
  rw [z0, z1, z2, z3, Int.sub_zero]
theorem decAt_out (s : ByteArray) (i : Int) (h1 : (s.size : Int) ≤ i) : decAt s i = (-1, 0) := by
  unfold decAt decZ; rw [if_pos (by omega)]
theorem runeText_size (n : Int) : ((runeTextL n).size : Int) = if scalB n = true then (if n < 128 then 1 else if n < 2048 then 2 else if n < 65536 then 3 else 4) else 0 := by
  unfold runeTextL
  by_cases h : scalB n = true
  · rw [if_pos h, if_pos h, ← size_bytes]
    unfold strOfNums bytesOf runeL
    by_cases c1 : n < 128
    · rw [if_pos c1, if_pos c1]; rfl
    · rw [if_neg c1, if_neg c1]
      by_cases c2 : n < 2048
      · rw [if_pos c2, if_pos c2]; rfl
      · rw [if_neg c2, if_neg c2]
        by_cases c3 : n < 65536
        · rw [if_pos c3, if_pos c3]; rfl
        · rw [if_neg c3, if_neg c3]; rfl
  · rw [if_neg h, if_neg h]; rfl
theorem rs2 (n : Int) : ((runeTextL n).size : Int) = 2 ↔ 128 ≤ n ∧ n < 2048 := by
  rw [runeText_size]
  by_cases h : scalB n = true
  · rw [if_pos h]; repeat' split
    all_goals omega
  · rw [if_neg h]
    constructor
    · intro h; omega
    · intro g; exfalso; apply h; unfold scalB; simp; omega
theorem rs3 (n : Int) : ((runeTextL n).size : Int) = 3 ↔ (2048 ≤ n ∧ n < 65536 ∧ ¬ (55296 ≤ n ∧ n ≤ 57343)) := by
  rw [runeText_size]
  by_cases h : scalB n = true
  · have g := h
    unfold scalB at g; simp only [Bool.and_eq_true, decide_eq_true_eq, Bool.not_eq_true', decide_eq_false_iff_not] at g
    rw [if_pos h]; repeat' split
    all_goals omega
  · rw [if_neg h]
    constructor
    · intro h; omega
    · intro g; exfalso; apply h; unfold scalB; simp; omega
theorem rs4 (n : Int) : ((runeTextL n).size : Int) = 4 ↔ (65536 ≤ n ∧ n ≤ 1114111) := by
  rw [runeText_size]
  by_cases h : scalB n = true
  · have g := h
    unfold scalB at g; simp only [Bool.and_eq_true, decide_eq_true_eq, Bool.not_eq_true', decide_eq_false_iff_not] at g
    rw [if_pos h]; repeat' split
    all_goals omega
  · rw [if_neg h]
    constructor
    · intro h; omega
    · intro g; exfalso; apply h; unfold scalB; simp; omega

/-- Where the first element is that p holds of; -1: nowhere. -/
def fstI (p : Int → Bool) : List Int → Int
  | [] => -1
  | x :: r => if p x = true then 0 else if fstI p r = -1 then -1 else fstI p r + 1
def isE (x : Int) : Bool := x == 101 || x == 69
theorem fstI_range (p : Int → Bool) (l : List Int) : -1 ≤ fstI p l ∧ fstI p l < l.length := by
  induction l with
  | nil => simp [fstI]
  | cons x r ih => simp only [fstI, List.length_cons]; split; omega; split <;> omega
theorem fstI_skip (p : Int → Bool) (a q : List Int) (h : ∀ x ∈ a, p x = false) : fstI p (a ++ q) = if fstI p q = -1 then -1 else fstI p q + a.length := by
  induction a with
  | nil => simp
  | cons x r ih =>
    have ih := ih fun y hy => h y (by simp [hy])
    have hq := fstI_range p q
    simp only [List.cons_append, fstI, h x (by simp), ih, List.length_cons]
    by_cases c : fstI p q = -1
    · simp [c]
    · rw [if_neg (by decide), if_neg c, if_neg (by omega), if_neg c]; omega
theorem fstI_none (p : Int → Bool) (a : List Int) (h : ∀ x ∈ a, p x = false) : fstI p a = -1 := by
  have := fstI_skip p a [] h
  rw [List.append_nil] at this
  rw [this]; rfl
theorem fstI_split (p : Int → Bool) (l : List Int) (h : 0 ≤ fstI p l) : ∃ x, p x = true ∧ l = l.take (fstI p l).toNat ++ x :: l.drop ((fstI p l).toNat + 1) ∧ ∀ y ∈ l.take (fstI p l).toNat, p y = false := by
  induction l with
  | nil => simp [fstI] at h
  | cons x r ih =>
    simp only [fstI] at h ⊢
    by_cases c : p x = true
    · rw [if_pos c]; exact ⟨x, c, by simp, by simp⟩
    · rw [if_neg c] at h ⊢
      by_cases d : fstI p r = -1
      · rw [if_pos d] at h; omega
      · rw [if_neg d]
        have hr := fstI_range p r
        obtain ⟨y, hy, hs, ha⟩ := ih (by omega)
        rw [show (fstI p r + 1).toNat = (fstI p r).toNat + 1 from by omega]
        refine ⟨y, hy, ?_, ?_⟩
        · rw [List.take_succ_cons, List.drop_succ_cons, List.cons_append, ← hs]
        · intro z hz
          rw [List.take_succ_cons] at hz
          rcases List.mem_cons.1 hz with rfl | hz
          · simpa using c
          · exact ha z hz
theorem indexByte_fst (l : List UInt8) (c : UInt8) : Lib.indexByte l c = fstI (· == (c.toNat : Int)) (l.map fun b => (b.toNat : Int)) := by
  induction l with
  | nil => rfl
  | cons b l ih =>
    have e : ((b.toNat : Int) == (c.toNat : Int)) = (b == c) := by
      rw [Bool.eq_iff_iff, beq_iff_eq, beq_iff_eq]
      constructor
      · intro h; apply UInt8.toNat_inj.1; omega
      · rintro rfl; rfl
    simp only [List.map_cons, fstI, e, ← ih, Lib.indexByte]
    cases h : (b == c) with
    | true => simp
    | false => simp
theorem indexAny_fst (l : List UInt8) : Lib.indexAny l [101, 69] = fstI isE (l.map fun b => (b.toNat : Int)) := by
  induction l with
  | nil => rfl
  | cons b l ih =>
    have e : isE (b.toNat : Int) = ([101, 69] : List UInt8).contains b := by
      unfold isE
      rw [Bool.eq_iff_iff]
      simp only [Bool.or_eq_true, beq_iff_eq, List.contains_cons, List.contains_nil, Bool.or_false]
      constructor
      · rintro (h | h)
        · left; apply UInt8.toNat_inj.1; show b.toNat = 101; omega
        · right; apply UInt8.toNat_inj.1; show b.toNat = 69; omega
      · rintro (h | h)
        · left; subst h; rfl
        · right; subst h; rfl
    simp only [List.map_cons, fstI, e, ← ih, Lib.indexAny]
    cases h : ([101, 69] : List UInt8).contains b with
    | true => simp
    | false => simp
/-- What a step of the decoder goes over. -/
theorem dec_over (s : ByteArray) (p : Nat) (hp : p < s.size) : (bt s p < 128 ∧ ((Utf8.decode s p).1 : Int) = bt s p ∧ (Utf8.decode s p).2 = 1) ∨
    (128 ≤ (Utf8.decode s p).1 ∧ 1 ≤ (Utf8.decode s p).2 ∧ p + (Utf8.decode s p).2 ≤ s.size ∧ ∀ j : Nat, j < (Utf8.decode s p).2 → 128 ≤ bt s ((p : Int) + j)) := by
  have hb : bt s p = ((s[p]'hp).toNat : Int) := by
    have := Go.Proofs.YtnlhpjapdklfgaaDoorW.PrintWords.bt_at s p (by simpa using hp)
    simp only [Int.toNat_natCast] at this
    exact this.symm
  by_cases c : (s[p]'hp).toNat < 128
  · left
    have := decode_ascii s p hp c
    rw [this]
    exact ⟨by omega, by simp [hb], rfl⟩
  · right
    have hh := Go.decode_high s p hp (by omega)
    have ha : asAt (Utf8.decode s p) = decAt s p := by
      rw [Lib.decode_at s p, dec_go _ _ _ _ _ (by omega) (get_lt _ _) (get_lt _ _) (get_lt _ _) (get_lt _ _)]
      unfold decAt
      rw [bt_get, bt_get, bt_get, bt_get]
      rw [show ((s.size - p : Nat) : Int) = (s.size : Int) - (p : Int) from by omega]; rfl
    refine ⟨hh.1, hh.2, ?_⟩
    by_cases c2 : (Utf8.decode s p).1 = 65533 ∧ (Utf8.decode s p).2 < 2
    · refine ⟨by omega, fun j hj => ?_⟩
      rw [show j = 0 from by omega]
      simp only [Int.natCast_zero, Int.add_zero]
      omega
    · unfold asAt at ha
      rw [if_neg c2] at ha
      generalize (Utf8.decode s p).1 = R at *
      generalize (Utf8.decode s p).2 = K at *
      unfold decAt decZ at ha
      have key : ∀ (a b : Int), ((R : Int), (K : Int)) = (a, b) → (R : Int) = a ∧ (K : Int) = b := fun a b h => Prod.mk.inj h
      split at ha
      · have := key _ _ ha; omega
      · split at ha
        · omega
        · split at ha
          · rename_i h2
            have := key _ _ ha
            refine ⟨by omega, fun j hj => ?_⟩
            have hj2 : j = 0 ∨ j = 1 := by omega
            rcases hj2 with rfl | rfl
            · simp only [Int.natCast_zero, Int.add_zero]; omega
            · show 128 ≤ bt s ((p : Int) + 1); omega
          · split at ha
            · rename_i h2
              have := key _ _ ha
              refine ⟨by omega, fun j hj => ?_⟩
              have hj2 : j = 0 ∨ j = 1 ∨ j = 2 := by omega
              rcases hj2 with rfl | rfl | rfl
              · simp only [Int.natCast_zero, Int.add_zero]; omega
              · show 128 ≤ bt s ((p : Int) + 1); omega
              · show 128 ≤ bt s ((p : Int) + 2); omega
            · split at ha
              · rename_i h2
                have := key _ _ ha
                refine ⟨by omega, fun j hj => ?_⟩
                have hj2 : j = 0 ∨ j = 1 ∨ j = 2 ∨ j = 3 := by omega
                rcases hj2 with rfl | rfl | rfl | rfl
                · simp only [Int.natCast_zero, Int.add_zero]; omega
                · show 128 ≤ bt s ((p : Int) + 1); omega
                · show 128 ≤ bt s ((p : Int) + 2); omega
                · show 128 ≤ bt s ((p : Int) + 3); omega
              · have := key _ _ ha; omega
/-- Moved on over bytes that p does not hold of. -/
theorem fstI_over (s : ByteArray) (p : Int → Bool) (m : Nat) : ∀ i : Int, 0 ≤ i → i + m ≤ (s.size : Int) → (∀ j : Nat, j < m → p (bt s (i + j)) = false) → fstI p (tl s i) = if fstI p (tl s (i + m)) = -1 then -1 else fstI p (tl s (i + m)) + m := by
  induction m with
  | zero =>
    intro i h0 _ _
    simp only [Int.natCast_zero, Int.add_zero]
    split <;> omega
  | succ m ih =>
    intro i h0 h1 h
    have hx := h 0 (by omega)
    simp only [Int.natCast_zero, Int.add_zero] at hx
    have := ih (i + 1) (by omega) (by omega) (fun j hj => by
      have := h (j + 1) (by omega)
      rwa [show i + ((j + 1 : Nat) : Int) = i + 1 + j from by omega] at this)
    rw [tl_cons h0 (by omega), fstI, hx, this, show i + 1 + (m : Int) = i + ((m + 1 : Nat) : Int) from by omega]
    have hr := fstI_range p (tl s (i + ((m + 1 : Nat) : Int)))
    rw [if_neg (by decide)]
    by_cases c : fstI p (tl s (i + ((m + 1 : Nat) : Int))) = -1
    · rw [if_pos c, if_pos rfl, if_pos c]
    · rw [if_neg c, if_neg (by omega), if_neg c]; omega
theorem ixRun_eq (s : ByteArray) (n : Nat) : ∀ p : Nat, p ≤ s.size → s.size - p ≤ n → strings_IndexAny.ixRun s n p = if fstI isE (tl s (p : Int)) = -1 then -1 else fstI isE (tl s (p : Int)) + p := by
  induction n with
  | zero =>
    intro p hp hn
    rw [tl_nil (by omega)]; rfl
  | succ n ih =>
    intro p hp hn
    by_cases c : p < s.size
    · rw [strings_IndexAny.ixRun, if_pos c]
      have hr0 := bt_range s p
      rcases dec_over s p c with ⟨hb, hR, hK⟩ | ⟨hR, hK, hle, hall⟩
      · rw [hR, hK]
        have ht : tl s (p : Int) = bt s p :: tl s ((p : Int) + 1) := tl_cons (by omega) (by omega)
        by_cases e : isE (bt s p) = true
        · have : (0 : Int) ≤ strings_IndexAny.ixR (bt s p) := by
            unfold isE at e; simp at e
            unfold strings_IndexAny.ixR
            rcases e with e | e <;> rw [e] <;> decide
          rw [if_pos this, ht, fstI, if_pos e, if_neg (by decide), Int.zero_add]
        · have hne : ¬ (0 : Int) ≤ strings_IndexAny.ixR (bt s p) := by
            unfold isE at e; simp at e
            unfold strings_IndexAny.ixR
            rw [if_neg e.1, if_neg e.2]; decide
          have hi := ih (p + 1) (by omega) (by omega)
          have hr := fstI_range isE (tl s ((p : Int) + 1))
          rw [if_neg hne, hi, ht, fstI, if_neg e, show ((p + 1 : Nat) : Int) = (p : Int) + 1 from by omega]
          by_cases d : fstI isE (tl s ((p : Int) + 1)) = -1
          · rw [if_pos d, if_pos d, if_pos rfl]
          · rw [if_neg d, if_neg d, if_neg (by omega)]; omega
      · have hne : ¬ (0 : Int) ≤ strings_IndexAny.ixR ((Utf8.decode s p).1 : Int) := by
          unfold strings_IndexAny.ixR
          rw [if_neg (by omega), if_neg (by omega)]; decide
        have hov := fstI_over s isE (Utf8.decode s p).2 (p : Int) (by omega) (by omega) (fun j hj => by
          have := hall j hj
          unfold isE; simp; omega)
        have hi := ih (p + (Utf8.decode s p).2) (by omega) (by omega)
        have hr := fstI_range isE (tl s ((p : Int) + ((Utf8.decode s p).2 : Int)))
        rw [if_neg hne, hi, hov, Int.natCast_add]
        by_cases d : fstI isE (tl s ((p : Int) + ((Utf8.decode s p).2 : Int))) = -1
        · rw [if_pos d, if_pos d, if_pos rfl]
        · rw [if_neg d, if_neg d, if_neg (by omega)]; omega
    · rw [strings_IndexAny.ixRun, if_neg c, tl_nil (by omega)]; rfl
theorem strings_IndexAny.eq (s : ByteArray) (hs : s.size ≤ 100000) : strings_IndexAny.f s (⟨#[101, 69]⟩ : ByteArray) = some (fstI isE (bytesOf s)) := by
  unfold strings_IndexAny.f
  rw [if_pos rfl]
  by_cases c : s.size ≤ 8
  · have hr := fstI_range isE (bytesOf s)
    rw [if_pos c, ixRun_eq s s.size 0 (by omega) (by omega), show ((0 : Nat) : Int) = 0 from rfl, tl_zero]
    congr 1; split <;> omega
  · rw [if_neg c, if_pos (by omega), indexAny_fst]; rfl


/-- A list cut at its first element that p holds of. -/
def cutB (p : Int → Bool) (l : List Int) : List Int × Option (List Int) := if 0 ≤ fstI p l then (l.take (fstI p l).toNat, some (l.drop ((fstI p l).toNat + 1))) else (l, none)
def isDot (x : Int) : Bool := x == 46
def figsL (l : List Int) : Bool := l.all figB && (l != [])
def signOff (l : List Int) : List Int := if l.head? = some 43 ∨ l.head? = some 45 then l.tail else l
def frontOk (l : List Int) (e : Bool) : Bool := match cutB isDot l with | (w, some f) => intOkL w && figsL f | (w, none) => intOkL w && e
def floatL (l : List Int) : Bool := decide (l.length ≤ 40) && (match cutB isE l with | (f, some p) => figsL (signOff p) && frontOk f true | (f, none) => frontOk f false)
theorem cutB_none (p : Int → Bool) (l : List Int) (h : ∀ x ∈ l, p x = false) : cutB p l = (l, none) := by
  unfold cutB; rw [fstI_none p l h, if_neg (by decide)]
theorem cutB_at (p : Int → Bool) (a : List Int) (x : Int) (r : List Int) (h : ∀ y ∈ a, p y = false) (hx : p x = true) : cutB p (a ++ x :: r) = (a, some r) := by
  have e : fstI p (a ++ x :: r) = a.length := by
    have h0 : fstI p (x :: r) = 0 := by rw [fstI, if_pos hx]
    rw [fstI_skip p a _ h, h0, if_neg (by decide)]; omega
  unfold cutB
  rw [e, if_pos (by omega), Int.toNat_natCast, List.take_left]
  rw [List.drop_append, List.drop_eq_nil_of_le (by omega), show a.length + 1 - a.length = 1 from by omega]; rfl

theorem bytes_drop (s : ByteArray) (n : Nat) : bytesOf (s.extract n s.size) = (bytesOf s).drop n := by
  rw [bytes_extract, List.take_of_length_le (by rw [size_bytes]; exact Nat.le_refl _)]
theorem bytes_take (s : ByteArray) (n : Nat) : bytesOf (s.extract 0 n) = (bytesOf s).take n := by
  rw [bytes_extract, List.drop_zero]
/-- strings.Cut at a dot. -/
theorem strings_Cut.dot (s : ByteArray) (hs : s.size ≤ 100000) : ∃ a b f, strings_Cut.f s (⟨#[46]⟩ : ByteArray) = some (a, b, f) ∧ a.size ≤ s.size ∧ b.size ≤ s.size ∧ bytesOf a = (cutB isDot (bytesOf s)).1 ∧ (if f = true then (cutB isDot (bytesOf s)).2 = some (bytesOf b) else (cutB isDot (bytesOf s)).2 = none) := by
  have hi : Lib.indexByte s.data.toList 46 = fstI isDot (bytesOf s) := by rw [indexByte_fst]; rfl
  have hr := fstI_range isDot (bytesOf s)
  rw [size_bytes] at hr
  unfold strings_Cut.f stringslite_Cut.f stringslite_Index.f
  rw [dif_pos (by rfl)]
  show ∃ a b f, (Option.bind (Option.bind (some (Lib.indexByte s.data.toList 46)) _) _) = _ ∧ _
  rw [hi]
  simp only [Option.bind_some]
  by_cases c : 0 ≤ fstI isDot (bytesOf s)
  · have w1 : wrap64 (fstI isDot (bytesOf s) + ((⟨#[46]⟩ : ByteArray).size : Int)) = fstI isDot (bytesOf s) + 1 := by
      show wrap64 (fstI isDot (bytesOf s) + 1) = _
      exact w64 (by omega) (by omega)
    rw [if_pos (by omega), if_pos c, if_pos (by omega), w1, if_pos (by omega), if_pos (by omega)]
    refine ⟨_, _, _, rfl, by rw [size_extract]; omega, by rw [size_extract]; omega, ?_, ?_⟩
    · rw [bytes_take]; unfold cutB; rw [if_pos c]
    · rw [if_pos rfl, bytes_drop]; unfold cutB; rw [if_pos c, show (fstI isDot (bytesOf s) + 1).toNat = (fstI isDot (bytesOf s)).toNat + 1 from by omega]
  · rw [if_neg (by omega)]
    refine ⟨_, _, _, rfl, Nat.le_refl _, Nat.zero_le _, ?_, ?_⟩
    · unfold cutB; rw [if_neg c]
    · show (if false = true then _ else _)
      rw [if_neg (by decide)]; unfold cutB; rw [if_neg c]

theorem frontOk_ev (s : ByteArray) (hs : s.size ≤ 100) (e : Bool) (g : Nat → Option Bool)
    (hg : ∀ k, g k = (strings_Cut.f s (⟨#[46]⟩ : ByteArray)).bind fun bt => (impl_IntOk.f k bt.1).bind fun t => if t = true then (if bt.2.2 = true then ((impl_figures.f k bt.2.1).bind fun t2 => some t2) else (some e)) else some false) : Ev g (frontOk (bytesOf s) e) := by
  obtain ⟨a, b, f, hc, ha, hb, h1, h2⟩ := strings_Cut.dot s (by omega)
  refine Ev.congr (fun k => hg k) (Ev.bindc hc ((impl_IntOk.ev a (by omega)).bind ?_))
  unfold frontOk
  generalize cutB isDot (bytesOf s) = q at *
  obtain ⟨w, o⟩ := q
  simp only at h1 h2
  subst h1
  cases f with
  | true =>
    rw [if_pos rfl] at h2
    subst h2
    simp only
    cases intOkL (bytesOf a) with
    | true => exact Ev.ite_pos rfl (Ev.ite_pos (by first | rfl | trivial) ((impl_figures.ev b (by omega)).bind (Ev.done rfl)))
    | false => exact Ev.ite_neg (by decide) (Ev.done rfl)
  | false =>
    rw [if_neg (by decide)] at h2
    subst h2
    simp only
    cases intOkL (bytesOf a) with
    | true => exact Ev.ite_pos rfl (Ev.ite_neg (by decide) (Ev.done rfl))
    | false => exact Ev.ite_neg (by decide) (Ev.done rfl)
theorem impl_FloatOk.j1_ev (a b : ByteArray) (ha : a.size ≤ 100) (hb : b.size ≤ 100) (i : Int) (h0 : 0 ≤ i) : Ev (fun k => impl_FloatOk.j1 k a b i) (figsL (bytesOf b) && frontOk (bytesOf a) true) := by
  apply Ev.succ; simp only [impl_FloatOk.j1]
  have hf := impl_figures.ev b (by omega)
  refine hf.bind ?_
  unfold figsL
  cases (bytesOf b).all figB && (bytesOf b != []) with
  | true =>
    refine Ev.ite_pos rfl (frontOk_ev a ha true _ fun k => ?_)
    simp only [if_pos h0, ge_iff_le]
  | false => exact Ev.ite_neg (by decide) (Ev.done rfl)
theorem impl_FloatOk.ev (s : ByteArray) (hs : s.size ≤ 140737488351232) : Ev (fun k => impl_FloatOk.f k s) (floatL (bytesOf s)) := by
  unfold impl_FloatOk.f floatL
  by_cases c40 : (s.size : Int) > 40
  · rw [decide_eq_false (by rw [size_bytes]; omega)]
    exact Ev.ite_pos c40 (Ev.done rfl)
  rw [decide_eq_true (by rw [size_bytes]; omega), Bool.true_and]
  refine Ev.ite_neg c40 (Ev.bindc (strings_IndexAny.eq s (by omega)) ?_)
  have hr := fstI_range isE (bytesOf s)
  rw [size_bytes] at hr
  by_cases c : 0 ≤ fstI isE (bytesOf s)
  · have w1 : wrap64 (fstI isE (bytesOf s) + 1) = fstI isE (bytesOf s) + 1 := w64 (by omega) (by omega)
    have hcut : cutB isE (bytesOf s) = ((bytesOf s).take (fstI isE (bytesOf s)).toNat, some ((bytesOf s).drop ((fstI isE (bytesOf s)).toNat + 1))) := by unfold cutB; rw [if_pos c]
    rw [hcut, w1]
    simp only
    obtain ⟨P, hP⟩ : ∃ P, s.extract ((fstI isE (bytesOf s) + 1) : Int).toNat s.size = P := ⟨_, rfl⟩
    have hPb : bytesOf P = (bytesOf s).drop ((fstI isE (bytesOf s)).toNat + 1) := by rw [← hP, bytes_drop, show ((fstI isE (bytesOf s) + 1) : Int).toNat = (fstI isE (bytesOf s)).toNat + 1 from by omega]
    have hPz : P.size ≤ 40 := by rw [← hP, size_extract]; omega
    have hFz : (s.extract 0 ((fstI isE (bytesOf s)) : Int).toNat).size ≤ 40 := by rw [size_extract]; omega
    have hFb := bytes_take s (fstI isE (bytesOf s)).toNat
    rw [hP, ← hPb, ← hFb]
    have hj : ∀ b, b = decide ((bytesOf P).head? = some 43 ∨ (bytesOf P).head? = some 45) → Ev (fun k => impl_FloatOk.j0 k (s.extract 0 ((fstI isE (bytesOf s)) : Int).toNat) P (fstI isE (bytesOf s)) b) (figsL (signOff (bytesOf P)) && frontOk (bytesOf (s.extract 0 ((fstI isE (bytesOf s)) : Int).toNat)) true) := by
      rintro b rfl
      apply Ev.succ; simp only [impl_FloatOk.j0]
      by_cases d : (bytesOf P).head? = some 43 ∨ (bytesOf P).head? = some 45
      · have hne : 0 < P.size := by
          rcases Nat.eq_zero_or_pos P.size with h | h
          · exfalso
            have : bytesOf P = [] := List.eq_nil_of_length_eq_zero (by rw [size_bytes]; exact h)
            rw [this] at d; simp at d
          · exact h
        refine Ev.ite_pos (decide_eq_true d) (Ev.ite_pos (by omega) ((impl_FloatOk.j1_ev _ _ (by omega) (by rw [size_extract]; omega) _ c).get ?_))
        have e1 : bytesOf (P.extract 1 P.size) = signOff (bytesOf P) := by rw [bytes_drop]; unfold signOff; rw [if_pos d, List.drop_one]
        rw [e1]
      · refine Ev.ite_neg (by simpa using d) ((impl_FloatOk.j1_ev _ _ (by omega) (by omega) _ c).get ?_)
        have e1 : signOff (bytesOf P) = bytesOf P := by unfold signOff; rw [if_neg d]
        rw [e1]
    refine Ev.ite_pos c (Ev.ite_pos c (Ev.ite_pos (by omega) (Ev.ite_pos (by omega) (Ev.ite_pos (by omega) ?_))))
    by_cases n : P.size = 0
    · have hb : bytesOf P = [] := List.eq_nil_of_length_eq_zero (by rw [size_bytes]; exact n)
      refine Ev.ite_pos (by rw [toList_eq_bytes, hb]; rfl) (hj _ (by rw [hb]; simp))
    · have hh : bytesOf P = bt P 0 :: tl P 1 := by have := tl_cons (s := P) (i := 0) (by omega) (by omega); rwa [tl_zero] at this
      refine Ev.ite_neg (by rw [toList_eq_bytes, hh]; simp) (Ev.ite_pos (by omega) ?_)
      by_cases d : bt P 0 = 43
      · exact Ev.ite_pos d (hj _ (by rw [hh]; simp [d]))
      · refine Ev.ite_neg d (hj _ ?_)
        rw [hh, Bool.eq_iff_iff]; simp [d]
  · have hcut : cutB isE (bytesOf s) = (bytesOf s, none) := by unfold cutB; rw [if_neg c]
    rw [hcut]
    exact Ev.ite_neg (by omega) (frontOk_ev s (by omega) false _ fun k => rfl)

theorem impl_in.eq (x a b : Int) : impl_in.f x a b = some (decide (a ≤ x ∧ x ≤ b)) := by
  unfold impl_in.f
  by_cases h : x ≥ a
  · rw [if_pos h]; congr 1; rw [Bool.eq_iff_iff]; simp only [decide_eq_true_eq, Bool.or_eq_true, beq_iff_eq, Bool.false_eq_true, true_iff, false_iff]; omega
  · rw [if_neg h]; congr 1; rw [Bool.eq_iff_iff]; simp only [decide_eq_true_eq, Bool.or_eq_true, beq_iff_eq, Bool.false_eq_true, true_iff, false_iff]; omega

theorem impl_isLetter.eq (x : Int) : impl_isLetter.f x = some (lowB x) := by
  unfold impl_isLetter.f lowB
  by_cases h : x ≥ 97
  · rw [if_pos h]
    by_cases h2 : x ≤ 122
    · rw [if_pos h2]; congr 1; rw [Bool.eq_iff_iff]; simp only [decide_eq_true_eq, Bool.or_eq_true, beq_iff_eq, Bool.false_eq_true, true_iff, false_iff]; omega
    · rw [if_neg h2, if_pos (by omega)]; congr 1; rw [Bool.eq_iff_iff]; simp only [decide_eq_true_eq, Bool.or_eq_true, beq_iff_eq, Bool.false_eq_true, true_iff, false_iff]; omega
  · rw [if_neg h]
    by_cases h2 : x ≥ 65
    · rw [if_pos h2]; congr 1; rw [Bool.eq_iff_iff]; simp only [decide_eq_true_eq, Bool.or_eq_true, beq_iff_eq, Bool.false_eq_true, true_iff, false_iff]; omega
    · rw [if_neg h2]; congr 1; rw [Bool.eq_iff_iff]; simp only [decide_eq_true_eq, Bool.or_eq_true, beq_iff_eq, Bool.false_eq_true, true_iff, false_iff]; omega

theorem impl_inName.eq (x : Int) : impl_inName.f x = some (nameB x) := by
  unfold impl_inName.f nameB
  rw [impl_isLetter.eq]
  simp only [Option.bind_some, impl_isFigure.eq]
  cases lowB x <;> cases figB x <;> simp

theorem impl_NameOk.l0_ev (s : ByteArray) (hs : s.size ≤ 140737488351232) (n : Nat) : ∀ i : Int, 0 ≤ i → (s.size : Int) - i = n →
    Ev (fun k => impl_NameOk.l0 k s (s.size : Int) i) ((tl s i).all nameB) := by
  induction n with
  | zero =>
    intro i h0 hn
    apply Ev.succ; simp only [impl_NameOk.l0]
    rw [tl_nil (by omega)]
    exact Ev.ite_neg (by omega) (Ev.done rfl)
  | succ n ih =>
    intro i h0 hn
    have h1 : i < (s.size : Int) := by omega
    have ih := ih (i + 1) (by omega) (by omega)
    apply Ev.succ
    simp only [impl_NameOk.l0, h0, h1, if_true, impl_inName.eq, Option.bind_some, w64 (x := i + 1) (by omega) (by omega)]
    rw [tl_cons h0 h1, List.all_cons]
    cases nameB (bt s i) <;> simp <;> first | exact ih | exact Ev.done rfl
theorem impl_NameOk.ev (s : ByteArray) (hs : s.size ≤ 140737488351232) : Ev (fun k => impl_NameOk.f k s) (nameOkL (bytesOf s)) := by
  have hl := size_bytes s
  have hj : Ev (fun k => impl_NameOk.j0 k s true) false := by
    apply Ev.succ; simp only [impl_NameOk.j0, if_true]; exact Ev.done rfl
  unfold impl_NameOk.f
  simp only [impl_in.eq, Option.bind_some]
  by_cases h0 : 1 ≤ (s.size : Int) ∧ (s.size : Int) ≤ 30
  · simp only [h0, and_self, decide_true, if_true]
    refine Ev.ite_pos (by omega) ?_
    simp only [impl_isFigure.eq, Option.bind_some]
    have hl0 := impl_NameOk.l0_ev s hs s.size 0 (by omega) (by omega)
    have ht := tl_cons (s := s) (i := 0) (by omega) (by omega)
    rw [tl_zero] at ht hl0
    have hd : (bytesOf s).headD 0 = bt s 0 := by rw [ht]; rfl
    apply Ev.succ; simp only [impl_NameOk.j0]
    cases hf : figB (bt s 0) with
    | true => exact (Ev.done rfl).get (by unfold nameOkL; rw [hd, hf]; simp)
    | false =>
      simp only [Bool.false_eq_true, if_false]
      exact hl0.get (by unfold nameOkL; rw [hd, hf, hl]; simp; omega)
  · have e : decide (1 ≤ (s.size : Int) ∧ (s.size : Int) ≤ 30) = false := decide_eq_false h0
    simp only [e, Bool.false_eq_true, if_false]
    refine hj.get ?_
    unfold nameOkL; simp; omega

-- the cursor of the draws
theorem and255 (x : Int) : 0 ≤ Go.bits .and .i64 x 255 ∧ Go.bits .and .i64 x 255 ≤ 255 := by
  simp only [Go.bits, BitVec.toNat_and]
  have h : (BitVec.ofInt IntKind.i64.bits x).toNat &&& (BitVec.ofInt IntKind.i64.bits 255).toNat ≤ 255 := Nat.and_le_right
  generalize (BitVec.ofInt IntKind.i64.bits x).toNat &&& (BitVec.ofInt IntKind.i64.bits 255).toNat = m at *
  rw [IntKind.wrap_i64]; omega
theorem drawByte (b : List Int) (hb : b.length ≤ 140737488351232) (i h : Int) (h0 : 0 ≤ i) : ∃ x j g, spec_l01Byte.f b i h = some (x, j, g) ∧ 0 ≤ x ∧ x ≤ 255 ∧ 0 ≤ j := by
  unfold spec_l01Byte.f
  by_cases c : i < (b.length : Int)
  · rw [if_pos c, if_pos h0]
    refine ⟨_, _, _, rfl, (and255 _).1, (and255 _).2, ?_⟩
    rw [w64 (by omega) (by omega)]; omega
  · rw [if_neg c]
    exact ⟨_, _, _, rfl, (and255 _).1, (and255 _).2, h0⟩
theorem drawBelow (b : List Int) (hb : b.length ≤ 140737488351232) (i h n : Int) (h0 : 0 ≤ i) (n0 : 0 < n) (n1 : n ≤ 256) : ∃ x j g, spec_l01Below.f b i h n = some (x, j, g) ∧ 0 ≤ x ∧ x < n ∧ 0 ≤ j := by
  obtain ⟨x, j, g, e, x0, x1, j0⟩ := drawByte b hb i h h0
  unfold spec_l01Below.f
  rw [if_neg (by omega), if_pos n1, e]
  refine ⟨Int.tmod x n, j, g, ?_, ?_, ?_, j0⟩
  · show (if n = 0 then none else _) = _
    rw [if_neg (by omega)]
  · exact Int.tmod_nonneg _ x0
  · exact Int.tmod_lt_of_pos _ n0
theorem drawBig (b : List Int) (hb : b.length ≤ 140737488351232) (i h n : Int) (h0 : 0 ≤ i) (n0 : 256 < n) (n1 : n ≤ 4000000000) : ∃ x j g, spec_l01Below.f b i h n = some (x, j, g) ∧ 0 ≤ x ∧ x < n ∧ 0 ≤ j := by
  obtain ⟨x, j, g, e, x0, x1, j0⟩ := drawByte b hb i h h0
  obtain ⟨y, j2, g2, e2, y0, y1, j20⟩ := drawByte b hb j g j0
  obtain ⟨z, j3, g3, e3, z0, z1, j30⟩ := drawByte b hb j2 g2 j20
  obtain ⟨u, j4, g4, e4, u0, u1, j40⟩ := drawByte b hb j3 g3 j30
  unfold spec_l01Below.f
  rw [if_neg (by omega), if_neg (by omega), e]
  simp only [Option.bind_some, e2, e3, e4]
  rw [if_neg (by omega), w64 (x := x * 16777216) (by omega) (by omega), w64 (x := y * 65536) (by omega) (by omega), w64 (x := z * 256) (by omega) (by omega), w64 (x := x * 16777216 + y * 65536) (by omega) (by omega), w64 (x := x * 16777216 + y * 65536 + z * 256) (by omega) (by omega), w64 (x := x * 16777216 + y * 65536 + z * 256 + u) (by omega) (by omega)]
  exact ⟨_, _, _, rfl, Int.tmod_nonneg _ (by omega), Int.tmod_lt_of_pos _ (by omega), j40⟩

theorem drawNew (b : List Int) (hb : b.length ≤ 140737488351232) (n : Nat) : ∀ (h i : Int), 0 ≤ i → (b.length : Int) - i ≤ n → ∃ g, Ev (fun k => spec_l01New.l0 k b h i) (b, 0, g) := by
  induction n with
  | zero =>
    intro h i h0 hn
    refine ⟨h, ?_⟩
    apply Ev.succ; simp only [spec_l01New.l0]
    exact Ev.ite_neg (by omega) (Ev.done rfl)
  | succ n ih =>
    intro h i h0 hn
    by_cases c : i < (b.length : Int)
    · by_cases c2 : i < 4000
      · obtain ⟨g, hg⟩ := ih (Go.bits .and .i64 (wrap64 ((wrap64 ((wrap64 (h * 131)) + (wrap64 (rd b i)))) + 7)) 1073741823) (i + 1) (by omega) (by omega)
        refine ⟨g, ?_⟩
        apply Ev.succ; simp only [spec_l01New.l0, w64 (x := i + 1) (by omega) (by omega)]
        exact Ev.ite_pos c (Ev.ite_pos c2 (Ev.ite_pos h0 hg))
      · refine ⟨h, ?_⟩
        apply Ev.succ; simp only [spec_l01New.l0]
        exact Ev.ite_pos c (Ev.ite_neg c2 (Ev.done rfl))
    · refine ⟨h, ?_⟩
      apply Ev.succ; simp only [spec_l01New.l0]
      exact Ev.ite_neg c (Ev.done rfl)

theorem places_l0 (b : List Int) (hb : b.length ≤ 140737488351232) (n : Nat) : ∀ (acc : List Int) (x i h : Int), 0 ≤ i → 0 ≤ x → x ≤ 12 → 12 - x ≤ n → (acc.length : Int) = x → (∀ y ∈ acc, 0 ≤ y ∧ y < 10000) →
    ∃ p : List Int, Ev (fun k => spec_DrawPlaces.l0 k acc x b i h) p ∧ p.length = 12 ∧ ∀ y ∈ p, 0 ≤ y ∧ y < 10000 := by
  induction n with
  | zero =>
    intro acc x i h h0 x0 x12 hn hl ha
    refine ⟨acc, ?_, by omega, ha⟩
    apply Ev.succ; simp only [spec_DrawPlaces.l0]
    exact Ev.ite_neg (by omega) (Ev.done rfl)
  | succ n ih =>
    intro acc x i h h0 x0 x12 hn hl ha
    by_cases c : x < 12
    · obtain ⟨y, j, g, e, y0, y1, j0⟩ := drawBig b hb i h 10000 h0 (by omega) (by omega)
      obtain ⟨p, hE, hp⟩ := ih (acc ++ [y]) (x + 1) j g j0 (by omega) (by omega) (by omega) (by simp; omega) (by
        intro z hz
        rcases List.mem_append.1 hz with hz | hz
        · exact ha z hz
        · simp at hz; omega)
      refine ⟨p, ?_, hp⟩
      apply Ev.succ; simp only [spec_DrawPlaces.l0]
      rw [w64 (x := x + 1) (by omega) (by omega)]
      refine Ev.ite_pos c (Ev.bindc e (Ev.ite_pos (by omega) hE))
    · exact ih acc x i h h0 x0 x12 (by omega) hl ha
theorem drawPlaces (b : List Int) (hb : b.length ≤ 140737488351232) : ∃ p : List Int, Ev (fun k => spec_DrawPlaces.f k b) p ∧ p.length = 12 ∧ ∀ y ∈ p, 0 ≤ y ∧ y < 10000 := by
  obtain ⟨g, hg⟩ := drawNew b hb b.length (wrap64 (94701 + (b.length : Int))) 0 (by omega) (by omega)
  obtain ⟨x, j, g2, e, x0, x1, j0⟩ := drawByte b hb 0 g (by omega)
  obtain ⟨p, hE, hp⟩ := places_l0 b hb 12 [] 0 j g2 j0 (by omega) (by omega) (by omega) rfl (by simp)
  refine ⟨p, ?_, hp⟩
  unfold spec_DrawPlaces.f
  exact Ev.bind (a := (b, 0, g)) hg (Ev.bindc e hE)
theorem place_at (p : List Int) (hl : p.length = 12) (hp : ∀ y ∈ p, 0 ≤ y ∧ y < 10000) (i : Int) (h0 : 0 ≤ i) (h1 : i < 12) : 0 ≤ rd p i ∧ rd p i < 10000 := by
  unfold rd
  rw [List.getD_eq_getElem?_getD, List.getElem?_eq_getElem (by omega)]
  exact hp _ (List.getElem_mem _)

theorem fig_not {x : Int} (h : figB x = true) : x ≠ 45 ∧ x ≠ 46 ∧ x ≠ 43 ∧ isE x = false := by
  rw [figB_iff] at h
  refine ⟨by omega, by omega, by omega, ?_⟩
  unfold isE; simp; omega
theorem numE {D : List Int} (h : ∀ x ∈ D, x = 45 ∨ figB x = true) : (∀ x ∈ D, isE x = false) ∧ (∀ x ∈ D, isDot x = false) := by
  constructor
  · intro x hx
    rcases h x hx with rfl | hf
    · decide
    · exact (fig_not hf).2.2.2
  · intro x hx
    rcases h x hx with rfl | hf
    · decide
    · unfold isDot; simp; exact (fig_not hf).2.1
theorem front_plain (D : List Int) (h : ∀ x ∈ D, isDot x = false) (e : Bool) : frontOk D e = (intOkL D && e) := by unfold frontOk; rw [cutB_none isDot D h]
theorem front_dot (D f : List Int) (h : ∀ x ∈ D, isDot x = false) (e : Bool) : frontOk (D ++ 46 :: f) e = (intOkL D && figsL f) := by unfold frontOk; rw [cutB_at isDot D 46 f h rfl]
theorem float_plain (D : List Int) (h : ∀ x ∈ D, isE x = false) : floatL D = (decide (D.length ≤ 40) && frontOk D false) := by unfold floatL; rw [cutB_none isE D h]
theorem float_exp (D p : List Int) (x : Int) (h : ∀ x ∈ D, isE x = false) (hx : isE x = true) : floatL (D ++ x :: p) = (decide ((D ++ x :: p).length ≤ 40) && (figsL (signOff p) && frontOk D true)) := by unfold floatL; rw [cutB_at isE D x p h hx]

theorem valS_append (a b : List Int) : ∀ x, valS (a ++ b) x = valS b (valS a x) := by
  induction a with
  | nil => intro x; rfl
  | cons y r ih => intro x; simp only [List.cons_append, valS]; split <;> exact ih _
theorem dig0_one {u : Nat} (h0 : u ≠ 0) (h : u < 10) : dig0 u = [48 + (u : Int)] := by
  rw [dig0_step u h0, show u / 10 = 0 from by omega, show u % 10 = u from by omega]; rfl
theorem dig0_facts (k : Nat) : ∀ u, u ≠ 0 → u < 10 ^ (k + 1) → dig0 u ≠ [] ∧ (dig0 u).all figB = true ∧ (dig0 u).headD 0 ≠ 48 ∧ (dig0 u).length ≤ k + 1 ∧ valS (dig0 u) 0 = u := by
  have one : ∀ u, u ≠ 0 → u < 10 → dig0 u ≠ [] ∧ (dig0 u).all figB = true ∧ (dig0 u).headD 0 ≠ 48 ∧ (dig0 u).length ≤ 1 ∧ valS (dig0 u) 0 = u := by
    intro u h0 h
    rw [dig0_one h0 h]
    refine ⟨by simp, by simp [figB]; omega, by simp; omega, by simp, ?_⟩
    simp only [valS]; rw [if_neg (by omega)]; omega
  induction k with
  | zero => intro u h0 h; exact one u h0 (by omega)
  | succ k ih =>
    intro u h0 h
    by_cases c : u < 10
    · obtain ⟨a, b, d, e, f⟩ := one u h0 c
      exact ⟨a, b, d, by omega, f⟩
    · obtain ⟨a, b, d, e, f⟩ := ih (u / 10) (by omega) (by rw [Nat.pow_succ] at h; omega)
      rw [dig0_step u h0]
      refine ⟨by simp, ?_, ?_, by rw [List.length_append]; simp; omega, ?_⟩
      · rw [List.all_append, b]; simp [figB]; omega
      · cases hd : dig0 (u / 10) with
        | nil => exact absurd hd a
        | cons x r => rw [hd] at d; exact d
      · rw [valS_append, f]; simp only [valS]; rw [if_neg (by omega)]; omega
theorem dig0_long (k : Nat) : ∀ u, 10 ^ k ≤ u → k + 1 ≤ (dig0 u).length := by
  induction k with
  | zero => intro u h; rw [dig0_step u (by omega), List.length_append]; simp
  | succ k ih =>
    intro u h
    rw [Nat.pow_succ] at h
    have := ih (u / 10) (by omega)
    have hp : 0 < 10 ^ k := Nat.pow_pos (by decide)
    rw [dig0_step u (by omega), List.length_append]; simp; omega
/-- What is so of a numeral. -/
theorem num_facts (n : Int) (h0 : -1000000000 < n) (h1 : n < 1000000000) : intOkL (bytesOf (decB n)) = true ∧ (bytesOf (decB n)).length ≤ 10 ∧ bytesOf (decB n) ≠ [] ∧ (∀ x ∈ bytesOf (decB n), x = 45 ∨ figB x = true) ∧ fitsB (decB n) = true ∧ (0 ≤ n → (bytesOf (decB n)).all figB = true) := by
  have hbt : ∀ x r, bytesOf (decB n) = x :: r → bt (decB n) 0 = x := by
    intro x r e
    have hz := size_bytes (decB n)
    rw [e] at hz
    have h1 : tl (decB n) 0 = bt (decB n) 0 :: tl (decB n) 1 := tl_cons (by omega) (by simp at hz; omega)
    rw [tl_zero, e] at h1
    exact (List.cons.inj h1).1.symm
  have hfit : ∀ v, valS (bytesOf (decB n)) 0 = v → v ≤ 1000000000 → (bytesOf (decB n)).length ≤ 10 → fitsB (decB n) = true := by
    intro v hv hle hl
    have hz := size_bytes (decB n)
    unfold fitsB fitsV
    rw [hv, decide_eq_true (by omega), Bool.true_and]
    split <;> exact decide_eq_true (by omega)
  by_cases c0 : n = 0
  · subst c0
    have e : bytesOf (decB 0) = [48] := by rw [decB_zero]; rfl
    refine ⟨by rw [e]; decide, by rw [e]; simp, by rw [e]; simp, by rw [e]; intro x hx; simp at hx; subst hx; right; decide, hfit 0 (by rw [e]; rfl) (by omega) (by rw [e]; simp), fun _ => by rw [e]; decide⟩
  · obtain ⟨a, b, d, e, f⟩ := dig0_facts 8 n.natAbs (by omega) (by show n.natAbs < 1000000000; omega)
    have hall : ∀ x ∈ dig0 n.natAbs, figB x = true := List.all_eq_true.1 b
    by_cases c : 0 < n
    · have e1 := decB_pos c
      have hd : digs (dig0 n.natAbs) = dig0 n.natAbs := by
        unfold digs
        cases hq : dig0 n.natAbs with
        | nil => rfl
        | cons x r =>
          rw [hq] at hall
          rw [if_neg (by simp; exact (fig_not (hall x (by simp))).1)]
      rw [e1]
      refine ⟨?_, by omega, a, fun x hx => Or.inr (hall x hx), hfit (n.natAbs : Int) (by rw [e1]; exact f) (by omega) (by rw [e1]; omega), fun _ => b⟩
      unfold intOkL
      rw [hd, b, decide_eq_true (by omega)]
      simp only [Bool.and_eq_true, Bool.or_eq_true, bne_iff_ne, ne_eq, a, d, not_false_eq_true, and_true, or_true, true_and]
    · have e1 := decB_neg (n := n) (by omega)
      have hd : digs (45 :: dig0 n.natAbs) = dig0 n.natAbs := by unfold digs; rw [if_pos (by simp)]; rfl
      rw [e1]
      refine ⟨?_, by simp; omega, by simp, fun x hx => ?_, hfit (n.natAbs : Int) (by rw [e1]; simp only [valS]; exact f) (by omega) (by rw [e1]; simp; omega), fun h => by omega⟩
      · unfold intOkL
        rw [hd, b, decide_eq_true (by simp; omega)]
        simp only [Bool.and_eq_true, Bool.or_eq_true, bne_iff_ne, ne_eq, a, d, not_false_eq_true, and_true, or_true, true_and]
      · rcases List.mem_cons.1 hx with rfl | hx
        · left; rfl
        · right; exact hall x hx

theorem int_dot (D : List Int) (hD : D ≠ []) : intOkL (D ++ [46]) = false := by
  have hm : (46 : Int) ∈ digs (D ++ [46]) := by
    unfold digs
    split
    · cases D with
      | nil => exact absurd rfl hD
      | cons x r => simp
    · simp
  unfold intOkL
  have hall : (digs (D ++ [46])).all figB = false := by
    rw [List.all_eq_false]; exact ⟨46, hm, by decide⟩
  rw [hall]; simp
theorem figs_sign (F : List Int) (h : F.all figB = true) : signOff F = F := by
  unfold signOff
  cases F with
  | nil => rfl
  | cons x r =>
    rw [List.all_cons, Bool.and_eq_true] at h
    have := fig_not h.1
    rw [if_neg (by simp; omega)]
theorem bigFits (u : Int) (h0 : 100000 ≤ u) (h1 : u < 200000) : fitsB ((⟨#[57, 57, 57, 57, 57]⟩ : ByteArray) ++ decB u) = false := by
  have e : bytesOf ((⟨#[57, 57, 57, 57, 57]⟩ : ByteArray) ++ decB u) = [57, 57, 57, 57, 57] ++ dig0 u.natAbs := by rw [bytes_app, decB_pos (by omega)]; rfl
  obtain ⟨_, b, _, _, _⟩ := dig0_facts 8 u.natAbs (by omega) (by show u.natAbs < 1000000000; omega)
  have hl := dig0_long 5 u.natAbs (by show 100000 ≤ u.natAbs; omega)
  have hv : valS (bytesOf ((⟨#[57, 57, 57, 57, 57]⟩ : ByteArray) ++ decB u)) 0 = valS (dig0 u.natAbs) 99999 := by rw [e, valS_append]; rfl
  have hg := valS_ge (dig0 u.natAbs) 99999 (by omega) b
  have hp : (10 : Int) ^ 5 ≤ 10 ^ (dig0 u.natAbs).length := by exact_mod_cast Nat.pow_le_pow_right (by decide) (by omega)
  have hb : 9999900000 ≤ valS (dig0 u.natAbs) 99999 := by
    have : (99999 : Int) * 10 ^ 5 ≤ 99999 * 10 ^ (dig0 u.natAbs).length := Int.mul_le_mul_of_nonneg_left hp (by omega)
    omega
  unfold fitsB fitsV
  rw [hv]
  split
  · rw [decide_eq_false (show ¬ valS (dig0 u.natAbs) 99999 ≤ 2147483648 by omega)]; simp
  · rw [decide_eq_false (show ¬ valS (dig0 u.natAbs) 99999 ≤ 2147483647 by omega)]; simp
def nameList : List ByteArray := [(⟨#[97]⟩ : ByteArray), (⟨#[98]⟩ : ByteArray), (⟨#[110, 97, 109, 101]⟩ : ByteArray), (⟨#[105, 100]⟩ : ByteArray), (⟨#[85, 115, 101, 114]⟩ : ByteArray), (⟨#[80, 111, 115, 116]⟩ : ByteArray), (⟨#[78, 111, 100, 101]⟩ : ByteArray), (⟨#[111, 110]⟩ : ByteArray), (⟨#[116, 121, 112, 101]⟩ : ByteArray), (⟨#[120, 49]⟩ : ByteArray), (⟨#[95, 121]⟩ : ByteArray), (⟨#[82, 69, 68]⟩ : ByteArray), (⟨#[113, 117, 101, 114, 121]⟩ : ByteArray)]
theorem names_all : ∀ i : Fin 13, (nameOkL (bytesOf (rdOf ByteArray.empty nameList (i.val : Int))) && !intOkL (bytesOf (rdOf ByteArray.empty nameList (i.val : Int))) && !nameOkL (bytesOf ((⟨#[49]⟩ : ByteArray) ++ rdOf ByteArray.empty nameList (i.val : Int))) && !nameOkL (bytesOf (rdOf ByteArray.empty nameList (i.val : Int) ++ (⟨#[45]⟩ : ByteArray))) && decide ((rdOf ByteArray.empty nameList (i.val : Int)).size ≤ 30)) = true := by decide +kernel
theorem drawName (b : List Int) (hb : b.length ≤ 140737488351232) : ∃ s : ByteArray, Ev (fun k => spec_DrawName.f k b) s ∧ nameOkL (bytesOf s) = true ∧ intOkL (bytesOf s) = false ∧ nameOkL (bytesOf ((⟨#[49]⟩ : ByteArray) ++ s)) = false ∧ nameOkL (bytesOf (s ++ (⟨#[45]⟩ : ByteArray))) = false ∧ s.size ≤ 30 := by
  obtain ⟨g, hg⟩ := drawNew b hb b.length (wrap64 (94701 + (b.length : Int))) 0 (by omega) (by omega)
  obtain ⟨x, j, g2, e, x0, x1, j0⟩ := drawBelow b hb 0 g 13 (by omega) (by omega) (by omega)
  have h := names_all ⟨x.toNat, by omega⟩
  simp only [show ((x.toNat : Nat) : Int) = x from by omega, Bool.and_eq_true, Bool.not_eq_true', decide_eq_true_eq] at h
  obtain ⟨⟨⟨⟨h1, h2⟩, h3⟩, h4⟩, h5⟩ := h
  refine ⟨_, ?_, h1, h2, h3, h4, h5⟩
  unfold spec_DrawName.f
  refine Ev.bind (a := (b, 0, g)) hg ?_
  have hN : spec_l03Name.f b 0 g = some (rdOf ByteArray.empty nameList x, j, g2) := by
    unfold spec_l03Name.f spec_l01Pick.f
    have e' : spec_l01Below.f b 0 g (nameList.length : Int) = some (x, j, g2) := e
    show (Option.bind (Option.bind (spec_l01Below.f b 0 g (nameList.length : Int)) _) _) = _
    rw [e']
    show (Option.bind (if 0 ≤ x then (if x < 13 then _ else none) else none) _) = _
    rw [if_pos x0, if_pos x1]; rfl
  exact Ev.bindc hN (Ev.done rfl)
theorem FnNumbers : laws_FnNumbers.Pure := by
  intro l0 hl hl2 hx
  have hl3 : l0.length ≤ 140737488351232 := by omega
  apply Ev.out
  unfold laws_FnNumbers.f laws_big.f
  refine Ev.bindc rfl ?_
  by_cases h : (l0.length : Int) > 1048576
  · exact Ev.ite_pos (decide_eq_true h) (Ev.done rfl)
  refine Ev.ite_neg (by simpa using h) ?_
  obtain ⟨p, hP, hp, hp2⟩ := drawPlaces l0 hl3
  obtain ⟨N, hN, n1, n2, n3, n4, n5⟩ := drawName l0 hl3
  have p0 := place_at p hp hp2 0 (by omega) (by omega)
  have p1 := place_at p hp hp2 1 (by omega) (by omega)
  have p2 := place_at p hp hp2 2 (by omega) (by omega)
  obtain ⟨s, es⟩ : ∃ s, decB (rd p 0 - 5000) = s := ⟨_, rfl⟩
  obtain ⟨f, ef⟩ : ∃ s, decB (rd p 1) = s := ⟨_, rfl⟩
  obtain ⟨g, eg⟩ : ∃ s, decB (rd p 2) = s := ⟨_, rfl⟩
  obtain ⟨u, eu⟩ : ∃ s, decB (100000 + rd p 0) = s := ⟨_, rfl⟩
  obtain ⟨s1, s2, s3, s4, s5, _⟩ := num_facts (rd p 0 - 5000) (by omega) (by omega)
  obtain ⟨_, f2, f3, _, _, f6⟩ := num_facts (rd p 1) (by omega) (by omega)
  obtain ⟨_, g2, g3, _, _, g6⟩ := num_facts (rd p 2) (by omega) (by omega)
  obtain ⟨_, u2, _, _, _, _⟩ := num_facts (100000 + rd p 0) (by omega) (by omega)
  have f6 := f6 (by omega)
  have g6 := g6 (by omega)
  have hbig := bigFits (100000 + rd p 0) (by omega) (by omega)
  have D0 := spec_Decimal.ev (rd p 0 - 5000) (by omega) (by omega)
  have D1 := spec_Decimal.ev (rd p 1) (by omega) (by omega)
  have D2 := spec_Decimal.ev (rd p 2) (by omega) (by omega)
  have D3 := spec_Decimal.ev (100000 + rd p 0) (by omega) (by omega)
  rw [es] at s1 s2 s3 s4 s5 D0
  rw [ef] at f2 f3 f6 D1
  rw [eg] at g2 g3 g6 D2
  rw [eu] at u2 hbig D3
  clear es ef eg eu
  obtain ⟨sE, sD⟩ := numE s4
  have zs := size_bytes s
  have zf := size_bytes f
  have zg := size_bytes g
  have zu := size_bytes u
  have fs : figsL (bytesOf f) = true := by unfold figsL; rw [f6]; simpa using f3
  have gs : figsL (bytesOf g) = true := by unfold figsL; rw [g6]; simpa using g3
  have z1 : (s ++ (⟨#[46, 53]⟩ : ByteArray)).size = s.size + 2 := by rw [ByteArray.size_append]; rfl
  have z2 : (s ++ (⟨#[101]⟩ : ByteArray)).size = s.size + 1 := by rw [ByteArray.size_append]; rfl
  have z3 : (s ++ (⟨#[46, 48, 69, 45]⟩ : ByteArray)).size = s.size + 4 := by rw [ByteArray.size_append]; rfl
  have z4 : (s ++ (⟨#[46]⟩ : ByteArray)).size = s.size + 1 := by rw [ByteArray.size_append]; rfl
  have z5 : (s ++ (⟨#[101]⟩ : ByteArray) ++ f).size = s.size + 1 + f.size := by rw [ByteArray.size_append, z2]
  have z6 : (s ++ (⟨#[46, 48, 69, 45]⟩ : ByteArray) ++ g).size = s.size + 4 + g.size := by rw [ByteArray.size_append, z3]
  have z7 : ((⟨#[49]⟩ : ByteArray) ++ N).size = 1 + N.size := by rw [ByteArray.size_append]; rfl
  have z8 : (N ++ (⟨#[45]⟩ : ByteArray)).size = N.size + 1 := by rw [ByteArray.size_append]; rfl
  have z9 : ((⟨#[57, 57, 57, 57, 57]⟩ : ByteArray) ++ u).size = 5 + u.size := by rw [ByteArray.size_append]; rfl
  have a1 : floatL (bytesOf s) = false := by rw [float_plain _ sE, front_plain _ sD]; simp
  have a2 : floatL (bytesOf (s ++ (⟨#[46, 53]⟩ : ByteArray))) = true := by
    have e : bytesOf (s ++ (⟨#[46, 53]⟩ : ByteArray)) = bytesOf s ++ 46 :: [53] := by rw [bytes_app]; rfl
    rw [e, float_plain _ (by intro x hx; rcases List.mem_append.1 hx with hx | hx; exact sE x hx; simp at hx; rcases hx with rfl | rfl <;> decide), front_dot _ _ sD, s1, decide_eq_true (by rw [List.length_append]; simp; omega)]; rfl
  have a3 : floatL (bytesOf (s ++ (⟨#[101]⟩ : ByteArray) ++ f)) = true := by
    have e : bytesOf (s ++ (⟨#[101]⟩ : ByteArray) ++ f) = bytesOf s ++ 101 :: bytesOf f := by rw [bytes_app, bytes_app, List.append_assoc]; rfl
    rw [e, float_exp _ _ 101 sE rfl, figs_sign _ f6, fs, front_plain _ sD, s1, decide_eq_true (by rw [List.length_append, List.length_cons]; omega)]; rfl
  have a4 : floatL (bytesOf (s ++ (⟨#[46, 48, 69, 45]⟩ : ByteArray) ++ g)) = true := by
    have e : bytesOf (s ++ (⟨#[46, 48, 69, 45]⟩ : ByteArray) ++ g) = (bytesOf s ++ 46 :: [48]) ++ 69 :: (45 :: bytesOf g) := by rw [bytes_app, bytes_app]; simp [bytesOf]
    have e2 : signOff (45 :: bytesOf g) = bytesOf g := by unfold signOff; rw [if_pos (by simp)]; rfl
    rw [e, float_exp _ _ 69 (by intro x hx; rcases List.mem_append.1 hx with hx | hx; exact sE x hx; simp at hx; rcases hx with rfl | rfl <;> decide) rfl, e2, gs, front_dot _ _ sD, s1, decide_eq_true (by simp; omega)]; rfl
  have b4 : bytesOf (s ++ (⟨#[46]⟩ : ByteArray)) = bytesOf s ++ 46 :: [] := by rw [bytes_app]; rfl
  have a5 : intOkL (bytesOf (s ++ (⟨#[46]⟩ : ByteArray))) = false := by rw [b4]; exact int_dot _ s3
  have a6 : floatL (bytesOf (s ++ (⟨#[46]⟩ : ByteArray))) = false := by
    rw [b4, float_plain _ (by intro x hx; rcases List.mem_append.1 hx with hx | hx; exact sE x hx; simp at hx; subst hx; decide), front_dot _ _ sD]; simp [figsL]
  have a7 : floatL (bytesOf (s ++ (⟨#[101]⟩ : ByteArray))) = false := by
    have e : bytesOf (s ++ (⟨#[101]⟩ : ByteArray)) = bytesOf s ++ 101 :: [] := by rw [bytes_app]; rfl
    rw [e, float_exp _ _ 101 sE rfl]; simp [figsL, signOff]
  refine hP.bind (Ev.ite_pos (by omega) ?_)
  rw [w64 (x := rd p 0 - 5000) (by omega) (by omega), w64 (x := 100000 + rd p 0) (by omega) (by omega)]
  refine D0.bind (hN.bind ((impl_IntOk.ev s (by omega)).bind (Ev.ite_pos s1 ((impl_FloatOk.ev s (by omega)).bind (Ev.ite_neg (by rw [a1]; decide) ((impl_Fits32.ev s (by omega)).bind (Ev.ite_pos (by rw [s1, s5]; rfl) (Ev.ite_pos (by omega) ((impl_FloatOk.ev _ (by omega)).bind (Ev.ite_pos a2 (Ev.ite_pos (by omega) (Ev.ite_pos (by omega) ?_))))))))))))
  refine D1.bind (Ev.ite_pos (by omega) ((impl_FloatOk.ev _ (by omega)).bind (Ev.ite_pos a3 (Ev.ite_pos (by omega) (Ev.ite_pos (by omega) (D2.bind (Ev.ite_pos (by omega) ((impl_FloatOk.ev _ (by omega)).bind (Ev.ite_pos a4 ?_)))))))))
  refine (impl_IntOk.ev _ (by omega)).bind (Ev.ite_neg (by rw [a5]; decide) ((impl_FloatOk.ev _ (by omega)).bind (Ev.ite_neg (by rw [a6]; decide) ((impl_FloatOk.ev _ (by omega)).bind (Ev.ite_neg (by rw [a7]; decide) ?_)))))
  refine (impl_NameOk.ev N (by omega)).bind (Ev.ite_pos n1 ((impl_IntOk.ev N (by omega)).bind (Ev.ite_neg (by rw [n2]; decide) (Ev.ite_pos (by omega) ((impl_NameOk.ev _ (by omega)).bind (Ev.ite_neg (by rw [n3]; decide) (Ev.ite_pos (by omega) ((impl_NameOk.ev _ (by omega)).bind (Ev.ite_neg (by rw [n4]; decide) ?_)))))))))
  refine D3.bind (Ev.ite_pos (by omega) ((impl_Fits32.ev _ (by omega)).bind (Ev.done ?_)))
  rw [hbig]; simp


end Go.Proofs.YtnlhpjapdklfgaaDoor.Pure
