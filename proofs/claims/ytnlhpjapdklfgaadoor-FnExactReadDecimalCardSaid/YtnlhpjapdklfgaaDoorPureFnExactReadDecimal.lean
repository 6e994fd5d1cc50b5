/- The plain law behind FnExactReadDecimal. -/
import Derived.Test.YtnlhpjapdklfgaaDoorOFnExactReadDecimalx1
import Derived.Test.YtnlhpjapdklfgaaDoorBase
namespace Go.Proofs.YtnlhpjapdklfgaaDoor.Pure
open Go.RowKit Go.Proofs.YtnlhpjapdklfgaaDoor.OFnExactReadDecimal Go.Proofs.YtnlhpjapdklfgaaDoorW.PrintWords Go.Proofs.YtnlhpjapdklfgaaDoorW.PrintLast Go.Proofs.YtnlhpjapdklfgaaDoorW.PrintMore Go.Proofs.YtnlhpjapdklfgaaDoor.Base
set_option linter.unusedVariables false
set_option linter.unusedSimpArgs false

def hexD (n : Int) : Int := if n < 10 then 48 + n else 87 + n
def hexL : List Int → List Int
  | [] => []
  | x :: r => hexD (x / 16) :: hexD (x % 16) :: hexL r
theorem hexL_length (l : List Int) : (hexL l).length = 2 * l.length := by
  induction l with
  | nil => rfl
  | cons x r ih => simp [hexL, ih]; omega
theorem hexD_range {n : Int} (h0 : 0 ≤ n) (h1 : n < 16) : 0 ≤ hexD n ∧ hexD n ≤ 255 := by unfold hexD; split <;> omega
theorem hexTab : ∀ n : Fin 16, bt (⟨#[48, 49, 50, 51, 52, 53, 54, 55, 56, 57, 97, 98, 99, 100, 101, 102]⟩ : ByteArray) (n.val : Int) = hexD (n.val : Int) := by decide +kernel
theorem hexTab_at {x : Int} (h0 : 0 ≤ x) (h1 : x < 16) : bt (⟨#[48, 49, 50, 51, 52, 53, 54, 55, 56, 57, 97, 98, 99, 100, 101, 102]⟩ : ByteArray) x = hexD x := by
  have := hexTab ⟨x.toNat, by omega⟩
  simp only at this
  rw [show ((x.toNat : Nat) : Int) = x from by omega] at this; exact this
theorem and15 : ∀ n : Fin 256, Go.bits .and .u8 (n.val : Int) 15 = (n.val : Int) % 16 := by decide +kernel
theorem and15_at {x : Int} (h0 : 0 ≤ x) (h1 : x ≤ 255) : Go.bits .and .u8 x 15 = x % 16 := by
  have := and15 ⟨x.toNat, by omega⟩
  simp only at this
  rw [show ((x.toNat : Nat) : Int) = x from by omega] at this; exact this

theorem spec_l01Figure.eq (x : Int) (h0 : 0 ≤ x) (h1 : x < 16) : spec_l01Figure.f x = some (hexD x) := by
  unfold spec_l01Figure.f hexD
  by_cases h : x < 10
  · rw [if_pos h, if_pos h, w64 (by omega) (by omega)]; congr 1; omega
  · rw [if_neg h, if_neg h, w64 (x := 97 + x) (by omega) (by omega), w64 (by omega) (by omega)]; congr 1; omega

/-- The figures of a whole number that is not negative; none for 0. -/
def dig0 (u : Nat) : List Int := if u = 0 then [] else (Lib.decDigits u).map fun b => (b.toNat : Int)
theorem dig0_step (u : Nat) (h : u ≠ 0) : dig0 u = dig0 (u / 10) ++ [48 + ((u % 10 : Nat) : Int)] := by
  have e : ∀ d : Nat, d < 10 → ((UInt8.ofNat (48 + d)).toNat : Int) = 48 + (d : Int) := by
    intro d hd
    have : (UInt8.ofNat (48 + d)).toNat = 48 + d := by rw [UInt8.toNat_ofNat']; omega
    omega
  unfold dig0
  rw [if_neg h]
  by_cases h1 : u < 10
  · rw [if_pos (by omega), Lib.decDigits, dif_pos h1]
    simp only [List.map_cons, List.map_nil, List.nil_append, e u h1]
    rw [Nat.mod_eq_of_lt h1]
  · rw [if_neg (by omega), Lib.decDigits, dif_neg h1]
    simp only [List.map_append, List.map_cons, List.map_nil, e (u % 10) (by omega)]
theorem dig0_range {u : Nat} {x : Int} (h : x ∈ dig0 u) : 0 ≤ x ∧ x ≤ 255 := by
  unfold dig0 at h
  split at h
  · cases h
  · obtain ⟨b, _, rfl⟩ := List.mem_map.1 h
    have := b.toNat_lt
    omega
theorem bytes_app (a b : ByteArray) : bytesOf (a ++ b) = bytesOf a ++ bytesOf b := by
  simp [bytesOf, ByteArray.data_append]
/-- The numeral, as bytes: a minus where the number is negative. -/
def decB (n : Int) : ByteArray := ⟨(Lib.itoa n).toArray⟩
theorem decB_zero : decB 0 = ⟨#[48]⟩ := by
  unfold decB Lib.itoa
  rw [if_neg (by omega), Lib.decDigits, dif_pos (by decide)]
  rfl
theorem decB_pos {n : Int} (h : 0 < n) : bytesOf (decB n) = dig0 n.natAbs := by
  unfold decB Lib.itoa dig0
  rw [if_neg (by omega), bytes_mk, if_neg (by omega), show n.toNat = n.natAbs from by omega]
theorem decB_neg {n : Int} (h : n < 0) : bytesOf (decB n) = 45 :: dig0 n.natAbs := by
  unfold decB Lib.itoa dig0
  rw [if_pos h, bytes_mk, if_neg (by omega)]
  rfl
theorem tmod10 (x : Int) : Int.tmod x 10 = if 0 ≤ x then ((x.natAbs % 10 : Nat) : Int) else -((x.natAbs % 10 : Nat) : Int) := by
  split
  · rw [Int.tmod_eq_emod_of_nonneg (by assumption)]; omega
  · obtain ⟨y, rfl⟩ : ∃ y, x = -y := ⟨-x, by omega⟩
    rw [Int.neg_tmod, Int.tmod_eq_emod_of_nonneg (by omega)]; omega
theorem tdiv10 (x : Int) : Int.tdiv x 10 = if 0 ≤ x then ((x.natAbs / 10 : Nat) : Int) else -((x.natAbs / 10 : Nat) : Int) := by
  split
  · rw [Int.tdiv_eq_ediv_of_nonneg (by assumption)]; omega
  · obtain ⟨y, rfl⟩ : ∃ y, x = -y := ⟨-x, by omega⟩
    rw [Int.neg_tdiv, Int.tdiv_eq_ediv_of_nonneg (by omega)]; omega

theorem spec_Decimal.l0_ev (b : Bool) (n : Nat) : ∀ (x : Int) (acc : ByteArray), x.natAbs < 10 ^ n → -9223372036854775808 ≤ x → x ≤ 9223372036854775807 → acc.size + n ≤ 30 →
    Ev (fun k => spec_Decimal.l0 k x b acc) (if b = true then (⟨#[45]⟩ : ByteArray) ++ (strOfNums (dig0 x.natAbs) ++ acc) else strOfNums (dig0 x.natAbs) ++ acc) := by
  have z0 : ∀ acc : ByteArray, strOfNums (dig0 (0 : Int).natAbs) ++ acc = acc := fun acc => by
    apply bytes_inj
    rw [bytes_app, bytes_strOfNums _ (fun x hx => dig0_range hx)]
    rfl
  have zero : ∀ (acc : ByteArray), acc.size ≤ 30 → Ev (fun k => spec_Decimal.l0 k 0 b acc) (if b = true then (⟨#[45]⟩ : ByteArray) ++ (strOfNums (dig0 (0 : Int).natAbs) ++ acc) else strOfNums (dig0 (0 : Int).natAbs) ++ acc) := by
    intro acc ha
    apply Ev.succ; simp only [spec_Decimal.l0]
    rw [z0]
    refine Ev.ite_pos (by first | rfl | trivial) ?_
    by_cases hb : b = true
    · refine Ev.ite_pos hb (Ev.ite_pos (by omega) (Ev.done ?_))
      rw [if_pos hb]
    · refine Ev.ite_neg hb (Ev.done ?_)
      rw [if_neg hb]
  induction n with
  | zero =>
    intro x acc hx h0 h1 ha
    have : x = 0 := by simp at hx; omega
    subst this
    exact zero acc (by omega)
  | succ n ih =>
    intro x acc hx h0 h1 ha
    by_cases hz : x = 0
    · subst hz; exact zero acc (by omega)
    have hu : x.natAbs ≠ 0 := by omega
    have hp : x.natAbs / 10 < 10 ^ n := by rw [Nat.div_lt_iff_lt_mul (by decide)]; rw [Nat.pow_succ] at hx; exact hx
    have hd : x.natAbs % 10 < 10 := Nat.mod_lt _ (by decide)
    have hq : (Int.tdiv x 10).natAbs = x.natAbs / 10 := by rw [tdiv10]; split <;> omega
    have hr0 : -9223372036854775808 ≤ Int.tdiv x 10 := by rw [tdiv10]; split <;> omega
    have hr1 : Int.tdiv x 10 ≤ 9223372036854775807 := by rw [tdiv10]; split <;> omega
    have hs : ∀ d : Int, (strOfNums [d]).size = 1 := fun d => rfl
    have fin : ∀ d : Int, d = ((x.natAbs % 10 : Nat) : Int) → Ev (fun k => spec_Decimal.l0 k (wrap64 (Int.tdiv x 10)) b (strOfNums [48 + d] ++ acc)) (if b = true then (⟨#[45]⟩ : ByteArray) ++ (strOfNums (dig0 x.natAbs) ++ acc) else strOfNums (dig0 x.natAbs) ++ acc) := by
      intro d e
      rw [w64 hr0 hr1]
      have ez : strOfNums (dig0 (Int.tdiv x 10).natAbs) ++ (strOfNums [48 + d] ++ acc) = strOfNums (dig0 x.natAbs) ++ acc := by
        apply bytes_inj
        rw [bytes_app, bytes_app, bytes_app, bytes_strOfNums _ (fun x hx => dig0_range hx), bytes_strOfNums _ (fun x hx => dig0_range hx), bytes_strOfNums [48 + d] (fun y hy => by simp at hy; omega), hq, dig0_step x.natAbs hu, e, List.append_assoc]
      have := ih (Int.tdiv x 10) (strOfNums [48 + d] ++ acc) (by omega) hr0 hr1 (by rw [ByteArray.size_append, hs]; omega)
      rw [ez] at this
      exact this
    apply Ev.succ; simp only [spec_Decimal.l0, Option.bind_some]
    refine Ev.ite_neg hz ?_
    have hex : ∀ d : Int, 0 ≤ d → d < 10 → spec_l01Figure.f d = some (48 + d) := fun d a c => by rw [spec_l01Figure.eq d a (by omega), hexD, if_pos c]
    by_cases hm : Int.tmod x 10 < 0
    · refine Ev.ite_pos hm ?_
      have e : -(Int.tmod x 10) = ((x.natAbs % 10 : Nat) : Int) := by rw [tmod10] at hm ⊢; split at hm <;> rename_i hc <;> simp only [hc, if_true, if_false] <;> omega
      rw [w64 (x := -(Int.tmod x 10)) (by omega) (by omega)]
      refine Ev.bindc (hex _ (by omega) (by omega)) (Ev.ite_pos ?_ (fin _ e))
      rw [hs]; omega
    · refine Ev.ite_neg hm ?_
      have e : Int.tmod x 10 = ((x.natAbs % 10 : Nat) : Int) := by rw [tmod10] at hm ⊢; split at hm <;> rename_i hc <;> simp only [hc, if_true, if_false] <;> omega
      refine Ev.bindc (hex _ (by omega) (by omega)) (Ev.ite_pos ?_ (fin _ e))
      rw [hs]; omega
theorem spec_Decimal.ev (n : Int) (h0 : -9223372036854775808 ≤ n) (h1 : n ≤ 9223372036854775807) : Ev (fun k => spec_Decimal.f k n) (decB n) := by
  unfold spec_Decimal.f
  by_cases hz : n = 0
  · subst hz
    exact Ev.ite_pos rfl (Ev.done decB_zero.symm)
  · refine Ev.ite_neg hz ((spec_Decimal.l0_ev _ 20 n ⟨#[]⟩ (by omega) h0 h1 (by decide)).get ?_)
    apply bytes_inj
    by_cases hn : n < 0
    · rw [if_pos (by simp [hn]), bytes_app, bytes_app, bytes_strOfNums _ (fun x hx => dig0_range hx), decB_neg hn]
      simp [bytesOf]
    · rw [if_neg (by simp [hn]), bytes_app, bytes_strOfNums _ (fun x hx => dig0_range hx), decB_pos (by omega)]
      simp [bytesOf]

/-- The number that figures spell, behind a number that is spelled already; none, where some byte is no figure. -/
def valL : List Int → Int → Option Int
  | [], a => some a
  | x :: r, a => if x < 48 ∨ x > 57 then none else valL r (10 * a + x - 48)
theorem valL_dec (l : List UInt8) : ∀ a : Nat, valL (l.map fun b => (b.toNat : Int)) (a : Int) = (Lib.decFrom a l).map fun n => (n : Int) := by
  induction l with
  | nil => intro a; rfl
  | cons b r ih =>
    intro a
    simp only [List.map_cons, valL, Lib.decFrom, Lib.digitVal]
    by_cases h : 48 ≤ b.toNat ∧ b.toNat ≤ 57
    · rw [if_neg (by omega), if_pos h]
      simp only
      rw [← ih (a * 10 + (b.toNat - 48))]
      congr 1
      omega
    · rw [if_pos (by omega), if_neg h]; rfl
theorem decFrom_snoc (l : List UInt8) (b : UInt8) (d : Nat) (hd : Lib.digitVal b = some d) : ∀ (a n : Nat), Lib.decFrom a l = some n → Lib.decFrom a (l ++ [b]) = some (n * 10 + d) := by
  induction l with
  | nil =>
    intro a n h
    simp only [Lib.decFrom, Option.some.injEq] at h
    subst h
    simp [Lib.decFrom, hd]
  | cons c r ih =>
    intro a n h
    simp only [List.cons_append, Lib.decFrom] at h ⊢
    split at h
    · rename_i e he
      exact ih _ _ h
    · cases h
theorem digitVal_ofNat {d : Nat} (h : d < 10) : Lib.digitVal (UInt8.ofNat (48 + d)) = some d := by
  have : (UInt8.ofNat (48 + d)).toNat = 48 + d := by rw [UInt8.toNat_ofNat']; omega
  unfold Lib.digitVal
  rw [this, if_pos (by omega)]
  congr 1; omega
theorem decFrom_digits (u : Nat) : Lib.decFrom 0 (Lib.decDigits u) = some u := by
  induction u using Nat.strongRecOn with
  | _ u ih =>
    rw [Lib.decDigits]
    by_cases h : u < 10
    · rw [dif_pos h]
      simp only [Lib.decFrom, digitVal_ofNat h]
      congr 1; omega
    · rw [dif_neg h]
      rw [decFrom_snoc _ _ _ (digitVal_ofNat (Nat.mod_lt u (by decide))) 0 (u / 10) (ih (u / 10) (by omega))]
      congr 1; omega
theorem decDigits_size (k : Nat) : ∀ u, u < 10 ^ (k + 1) → (Lib.decDigits u).length ≤ k + 1 := by
  induction k with
  | zero => intro u h; rw [Lib.decDigits, dif_pos (by omega)]; simp
  | succ k ih =>
    intro u h
    rw [Lib.decDigits]
    by_cases h1 : u < 10
    · rw [dif_pos h1]; simp
    · rw [dif_neg h1]
      have := ih (u / 10) (by rw [Nat.div_lt_iff_lt_mul (by decide)]; rw [Nat.pow_succ] at h; exact h)
      simp; omega
theorem atoi_digits (u : Nat) (hu : u < 10 ^ 18) : Lib.atoiAll (Lib.decDigits u) = .ok (u : Int) := by
  rw [Lib.atoiAll_short _ (decDigits_size 17 u hu)]
  have h := decFrom_digits u
  have hne : Lib.decDigits u ≠ [] := by
    rw [Lib.decDigits]
    split <;> simp
  generalize Lib.decDigits u = l at h hne
  cases l with
  | nil => exact absurd rfl hne
  | cons b r =>
    have hb : Lib.digitVal b ≠ none := by
      intro e
      rw [Lib.decFrom, e] at h
      cases h
    have h45 : (b == 45) = false := by
      rw [beq_eq_false_iff_ne]; rintro rfl; exact hb (by decide)
    have h43 : (b == 43) = false := by
      rw [beq_eq_false_iff_ne]; rintro rfl; exact hb (by decide)
    simp only [Lib.atoi, h45, h43, Lib.decNat, List.isEmpty_cons, h]
    rfl
/-- Both sides' answer. -/
def rdB (s : ByteArray) : Int × Bool := match valL (bytesOf s) 0 with
  | none => (0, false)
  | some n => if n > 1000000000 then (0, false) else if decB n = s then (n, true) else (0, false)
theorem decB_nat (u : Nat) : decB (u : Int) = ⟨(Lib.decDigits u).toArray⟩ := by
  unfold decB Lib.itoa
  rw [if_neg (by omega)]
  rfl
theorem rdB_good (u : Nat) (h : u ≤ 1000000000) : rdB (decB (u : Int)) = ((u : Int), true) := by
  unfold rdB
  have e : valL (bytesOf (decB (u : Int))) 0 = some (u : Int) := by
    rw [decB_nat, bytes_mk]
    have := valL_dec (Lib.decDigits u) 0
    rw [decFrom_digits] at this
    exact this
  rw [e]
  simp only
  rw [if_neg (by omega), if_pos (by first | rfl | trivial)]
theorem decB_size (u : Nat) (h : u ≤ 1000000000) : (decB (u : Int)).size ≤ 10 := by
  rw [decB_nat]
  show (Lib.decDigits u).toArray.size ≤ 10
  have := decDigits_size 9 u (by omega)
  simpa using this
theorem valL_pos (l : List Int) : ∀ a n, 0 ≤ a → valL l a = some n → 0 ≤ n := by
  induction l with
  | nil => intro a n h0 h; simp only [valL, Option.some.injEq] at h; omega
  | cons x r ih =>
    intro a n h0 h
    simp only [valL] at h
    split at h
    · cases h
    · exact ih _ _ (by omega) h
theorem rdB_bad (s : ByteArray) (h : ∀ u : Nat, u ≤ 1000000000 → decB (u : Int) ≠ s) : rdB s = (0, false) := by
  unfold rdB
  split
  · rfl
  · rename_i n e
    have := valL_pos _ _ _ (Int.le_refl 0) e
    by_cases h1 : n > 1000000000
    · rw [if_pos h1]
    · rw [if_neg h1, if_neg]
      have := h n.toNat (by omega)
      rw [show ((n.toNat : Nat) : Int) = n from by omega] at this
      exact this

theorem spec_ReadDecimal.l0_ev (s : ByteArray) (hs : s.size ≤ 10) (n : Nat) : ∀ (a i : Int), 0 ≤ i → (s.size : Int) - i = n → 0 ≤ a → a < 10 ^ i.toNat →
    Ev (fun k => spec_ReadDecimal.l0 k s a i) (match valL (tl s i) a with | none => (0, false) | some n => if n > 1000000000 then (0, false) else if decB n = s then (n, true) else (0, false)) := by
  induction n with
  | zero =>
    intro a i h0 hn ha0 ha
    have hp : (10 : Int) ^ i.toNat ≤ 10 ^ 10 := by
      have : i.toNat ≤ 10 := by omega
      exact_mod_cast Nat.pow_le_pow_right (by decide) this
    apply Ev.succ; simp only [spec_ReadDecimal.l0]
    rw [tl_nil (by omega)]
    simp only [valL]
    refine Ev.ite_neg (by omega) ?_
    by_cases h1 : a > 1000000000
    · rw [if_pos h1]; exact Ev.ite_pos h1 (Ev.done rfl)
    · rw [if_neg h1]
      refine Ev.ite_neg h1 ((spec_Decimal.ev a (by omega) (by omega)).bind ?_)
      by_cases h2 : decB a = s
      · rw [if_pos h2]; exact Ev.ite_pos (by rw [h2]) (Ev.done rfl)
      · rw [if_neg h2]; exact Ev.ite_neg (by rw [toList_inj]; exact h2) (Ev.done rfl)
  | succ n ih =>
    intro a i h0 hn ha0 ha
    have h1 : i < (s.size : Int) := by omega
    have hb := bt_range s i
    have hp : (10 : Int) ^ i.toNat ≤ 10 ^ 10 := by
      have : i.toNat ≤ 10 := by omega
      exact_mod_cast Nat.pow_le_pow_right (by decide) this
    have ha2 : a < 10000000000 := by omega
    apply Ev.succ; simp only [spec_ReadDecimal.l0]
    rw [tl_cons h0 h1]
    simp only [valL]
    refine Ev.ite_pos h1 (Ev.ite_pos h0 ?_)
    by_cases c1 : bt s i < 48
    · rw [if_pos (Or.inl c1)]; exact Ev.ite_pos c1 (Ev.done rfl)
    refine Ev.ite_neg c1 ?_
    by_cases c2 : bt s i > 57
    · rw [if_pos (Or.inr c2)]; exact Ev.ite_pos c2 (Ev.done rfl)
    refine Ev.ite_neg c2 ?_
    rw [if_neg (by omega)]
    have w1 : wrap64 (10 * a) = 10 * a := w64 (by omega) (by omega)
    have w2 : wrap64 (bt s i) = bt s i := w64 (by omega) (by omega)
    rw [w1, w2, w64 (x := 10 * a + bt s i) (by omega) (by omega), w64 (x := 10 * a + bt s i - 48) (by omega) (by omega), w64 (x := i + 1) (by omega) (by omega)]
    refine ih (10 * a + bt s i - 48) (i + 1) (by omega) (by omega) (by omega) ?_
    rw [show (i + 1).toNat = i.toNat + 1 from by omega, Int.pow_succ]
    omega
theorem spec_ReadDecimal.ev (s : ByteArray) : Ev (fun k => spec_ReadDecimal.f k s) (rdB s) := by
  unfold spec_ReadDecimal.f
  by_cases h : (s.size : Int) > 10
  · refine Ev.ite_pos h (Ev.done ?_)
    rw [rdB_bad]
    intro u hu e
    have := decB_size u hu
    rw [e] at this
    omega
  · refine Ev.ite_neg h ((spec_ReadDecimal.l0_ev s (by omega) s.size 0 0 (by omega) (by omega) (by omega) (by decide)).get ?_)
    unfold rdB
    rw [tl_zero]

theorem impl_ReadDecimal.eq (s : ByteArray) (hs : s.size ≤ 281474976710656) : impl_ReadDecimal.f s = some (rdB s) := by
  unfold impl_ReadDecimal.f
  rw [if_pos hs]
  congr 1
  by_cases h : ∃ u : Nat, u ≤ 1000000000 ∧ decB (u : Int) = s
  · obtain ⟨u, hu, rfl⟩ := h
    rw [rdB_good u hu]
    have e : Lib.atoiAll (decB (u : Int)).data.toList = .ok (u : Int) := by
      rw [decB_nat]
      exact atoi_digits u (by omega)
    rw [e]
    simp only
    rw [if_pos (by omega)]
    exact if_pos rfl
  · have h' : ∀ u : Nat, u ≤ 1000000000 → decB (u : Int) ≠ s := fun u hu e => h ⟨u, hu, e⟩
    rw [rdB_bad s h']
    split
    · rename_i n e
      by_cases hn : 0 ≤ n ∧ n ≤ 1000000000
      · rw [if_pos hn, if_neg]
        intro e2
        have := h' n.toNat (by omega)
        rw [show ((n.toNat : Nat) : Int) = n from by omega] at this
        exact this (toList_inj.1 e2)
      · rw [if_neg hn]
    · rfl

theorem FnExactReadDecimal : laws_FnExactReadDecimal.Pure := by
  intro s hs
  apply Ev.out
  unfold laws_FnExactReadDecimal.f
  by_cases h : (s.size : Int) > 1048576
  · exact Ev.ite_pos h (Ev.done rfl)
  · refine Ev.ite_neg h ((spec_ReadDecimal.ev s).bind (Ev.bindc (impl_ReadDecimal.eq s (by omega)) ?_))
    exact Ev.ite_pos rfl (Ev.ite_neg (by simp) (Ev.done rfl))


end Go.Proofs.YtnlhpjapdklfgaaDoor.Pure
