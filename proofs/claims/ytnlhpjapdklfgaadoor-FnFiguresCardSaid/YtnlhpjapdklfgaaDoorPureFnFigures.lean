/- For every slice of bytes, a text that the reference draws from it comes back from Hex and Unhex, a number from Decimal and ReadDecimal, and what Brought brings stays, as the law FnFigures says. -/
import Derived.Test.YtnlhpjapdklfgaaDoorOFnFiguresx14
import Derived.Test.YtnlhpjapdklfgaaDoorBase
namespace Go.Proofs.YtnlhpjapdklfgaaDoor.Pure
open Go.RowKit Go.Proofs.YtnlhpjapdklfgaaDoor.OFnFigures Go.Proofs.YtnlhpjapdklfgaaDoorW.PrintWords Go.Proofs.YtnlhpjapdklfgaaDoorW.PrintLast Go.Proofs.YtnlhpjapdklfgaaDoorW.PrintMore Go.Proofs.YtnlhpjapdklfgaaDoor.Base
set_option linter.unusedVariables false
set_option linter.unusedSimpArgs false

def hexD (n : Int) : Int := if n < 10 then 48 + n else 87 + n
def hexL : List Int → List Int
  | [] => []
  | x :: r => hexD (x / 16) :: hexD (x % 16) :: hexL r
theorem hexL_length (l : List Int) : (hexL l).length = 2 * l.length := by
  induction l with
  | nil => rfl
  | cons x r ih => simp [hexL, ih]; omega
theorem hexD_range {n : Int} (h0 : 0 ≤ n) (h1 : n < 16) : 0 ≤ hexD n ∧ hexD n ≤ 255 := by unfold hexD; split <;> omega
theorem hexTab : ∀ n : Fin 16, bt (⟨#[48, 49, 50, 51, 52, 53, 54, 55, 56, 57, 97, 98, 99, 100, 101, 102]⟩ : ByteArray) (n.val : Int) = hexD (n.val : Int) := by decide +kernel
theorem hexTab_at {x : Int} (h0 : 0 ≤ x) (h1 : x < 16) : bt (⟨#[48, 49, 50, 51, 52, 53, 54, 55, 56, 57, 97, 98, 99, 100, 101, 102]⟩ : ByteArray) x = hexD x := by
  have := hexTab ⟨x.toNat, by omega⟩
  simp only at this
  rw [show ((x.toNat : Nat) : Int) = x from by omega] at this; exact this
theorem and15 : ∀ n : Fin 256, Go.bits .and .u8 (n.val : Int) 15 = (n.val : Int) % 16 := by decide +kernel
theorem and15_at {x : Int} (h0 : 0 ≤ x) (h1 : x ≤ 255) : Go.bits .and .u8 x 15 = x % 16 := by
  have := and15 ⟨x.toNat, by omega⟩
  simp only at this
  rw [show ((x.toNat : Nat) : Int) = x from by omega] at this; exact this

/-- The figures of a whole number that is not negative; none for 0. -/
def dig0 (u : Nat) : List Int := if u = 0 then [] else (Lib.decDigits u).map fun b => (b.toNat : Int)
theorem dig0_step (u : Nat) (h : u ≠ 0) : dig0 u = dig0 (u / 10) ++ [48 + ((u % 10 : Nat) : Int)] := by
  have e : ∀ d : Nat, d < 10 → ((UInt8.ofNat (48 + d)).toNat : Int) = 48 + (d : Int) := by
    intro d hd
    have : (UInt8.ofNat (48 + d)).toNat = 48 + d := by rw [UInt8.toNat_ofNat']; omega
    omega
  unfold dig0
  rw [if_neg h]
  by_cases h1 : u < 10
  · rw [if_pos (by omega), Lib.decDigits, dif_pos h1]
    simp only [List.map_cons, List.map_nil, List.nil_append, e u h1]
    rw [Nat.mod_eq_of_lt h1]
  · rw [if_neg (by omega), Lib.decDigits, dif_neg h1]
    simp only [List.map_append, List.map_cons, List.map_nil, e (u % 10) (by omega)]
theorem dig0_range {u : Nat} {x : Int} (h : x ∈ dig0 u) : 0 ≤ x ∧ x ≤ 255 := by
  unfold dig0 at h
  split at h
  · cases h
  · obtain ⟨b, _, rfl⟩ := List.mem_map.1 h
    have := b.toNat_lt
    omega
theorem bytes_app (a b : ByteArray) : bytesOf (a ++ b) = bytesOf a ++ bytesOf b := by
  simp [bytesOf, ByteArray.data_append]
/-- The numeral, as bytes: a minus where the number is negative. -/
def decB (n : Int) : ByteArray := ⟨(Lib.itoa n).toArray⟩
theorem decB_zero : decB 0 = ⟨#[48]⟩ := by
  unfold decB Lib.itoa
  rw [if_neg (by omega), Lib.decDigits, dif_pos (by decide)]
  rfl
theorem decB_pos {n : Int} (h : 0 < n) : bytesOf (decB n) = dig0 n.natAbs := by
  unfold decB Lib.itoa dig0
  rw [if_neg (by omega), bytes_mk, if_neg (by omega), show n.toNat = n.natAbs from by omega]
theorem decB_neg {n : Int} (h : n < 0) : bytesOf (decB n) = 45 :: dig0 n.natAbs := by
  unfold decB Lib.itoa dig0
  rw [if_pos h, bytes_mk, if_neg (by omega)]
  rfl
theorem tmod10 (x : Int) : Int.tmod x 10 = if 0 ≤ x then ((x.natAbs % 10 : Nat) : Int) else -((x.natAbs % 10 : Nat) : Int) := by
  split
  · rw [Int.tmod_eq_emod_of_nonneg (by assumption)]; omega
  · obtain ⟨y, rfl⟩ : ∃ y, x = -y := ⟨-x, by omega⟩
    rw [Int.neg_tmod, Int.tmod_eq_emod_of_nonneg (by omega)]; omega
theorem tdiv10 (x : Int) : Int.tdiv x 10 = if 0 ≤ x then ((x.natAbs / 10 : Nat) : Int) else -((x.natAbs / 10 : Nat) : Int) := by
  split
  · rw [Int.tdiv_eq_ediv_of_nonneg (by assumption)]; omega
  · obtain ⟨y, rfl⟩ : ∃ y, x = -y := ⟨-x, by omega⟩
    rw [Int.neg_tdiv, Int.tdiv_eq_ediv_of_nonneg (by omega)]; omega

theorem strconv_Itoa.eq (n : Int) (h0 : -9223372036854775808 ≤ n) (h1 : n ≤ 9223372036854775807) : strconv_Itoa.f n = some (decB n) := by
  unfold strconv_Itoa.f
  rw [if_pos ⟨h0, h1⟩]; rfl

theorem impl_Decimal.eq (n : Int) (h0 : -9223372036854775808 ≤ n) (h1 : n ≤ 9223372036854775807) : impl_Decimal.f n = some (decB n) := by
  unfold impl_Decimal.f
  rw [strconv_Itoa.eq n h0 h1]; rfl

/-- The number that figures spell, behind a number that is spelled already; none, where some byte is no figure. -/
def valL : List Int → Int → Option Int
  | [], a => some a
  | x :: r, a => if x < 48 ∨ x > 57 then none else valL r (10 * a + x - 48)
theorem valL_dec (l : List UInt8) : ∀ a : Nat, valL (l.map fun b => (b.toNat : Int)) (a : Int) = (Lib.decFrom a l).map fun n => (n : Int) := by
  induction l with
  | nil => intro a; rfl
  | cons b r ih =>
    intro a
    simp only [List.map_cons, valL, Lib.decFrom, Lib.digitVal]
    by_cases h : 48 ≤ b.toNat ∧ b.toNat ≤ 57
    · rw [if_neg (by omega), if_pos h]
      simp only
      rw [← ih (a * 10 + (b.toNat - 48))]
      congr 1
      omega
    · rw [if_pos (by omega), if_neg h]; rfl
theorem decFrom_snoc (l : List UInt8) (b : UInt8) (d : Nat) (hd : Lib.digitVal b = some d) : ∀ (a n : Nat), Lib.decFrom a l = some n → Lib.decFrom a (l ++ [b]) = some (n * 10 + d) := by
  induction l with
  | nil =>
    intro a n h
    simp only [Lib.decFrom, Option.some.injEq] at h
    subst h
    simp [Lib.decFrom, hd]
  | cons c r ih =>
    intro a n h
    simp only [List.cons_append, Lib.decFrom] at h ⊢
    split at h
    · rename_i e he
      exact ih _ _ h
    · cases h
theorem digitVal_ofNat {d : Nat} (h : d < 10) : Lib.digitVal (UInt8.ofNat (48 + d)) = some d := by
  have : (UInt8.ofNat (48 + d)).toNat = 48 + d := by rw [UInt8.toNat_ofNat']; omega
  unfold Lib.digitVal
  rw [this, if_pos (by omega)]
  congr 1; omega
theorem decFrom_digits (u : Nat) : Lib.decFrom 0 (Lib.decDigits u) = some u := by
  induction u using Nat.strongRecOn with
  | _ u ih =>
    rw [Lib.decDigits]
    by_cases h : u < 10
    · rw [dif_pos h]
      simp only [Lib.decFrom, digitVal_ofNat h]
      congr 1; omega
    · rw [dif_neg h]
      rw [decFrom_snoc _ _ _ (digitVal_ofNat (Nat.mod_lt u (by decide))) 0 (u / 10) (ih (u / 10) (by omega))]
      congr 1; omega
theorem decDigits_size (k : Nat) : ∀ u, u < 10 ^ (k + 1) → (Lib.decDigits u).length ≤ k + 1 := by
  induction k with
  | zero => intro u h; rw [Lib.decDigits, dif_pos (by omega)]; simp
  | succ k ih =>
    intro u h
    rw [Lib.decDigits]
    by_cases h1 : u < 10
    · rw [dif_pos h1]; simp
    · rw [dif_neg h1]
      have := ih (u / 10) (by rw [Nat.div_lt_iff_lt_mul (by decide)]; rw [Nat.pow_succ] at h; exact h)
      simp; omega
theorem atoi_digits (u : Nat) (hu : u < 10 ^ 18) : Lib.atoiAll (Lib.decDigits u) = .ok (u : Int) := by
  rw [Lib.atoiAll_short _ (decDigits_size 17 u hu)]
  have h := decFrom_digits u
  have hne : Lib.decDigits u ≠ [] := by
    rw [Lib.decDigits]
    split <;> simp
  generalize Lib.decDigits u = l at h hne
  cases l with
  | nil => exact absurd rfl hne
  | cons b r =>
    have hb : Lib.digitVal b ≠ none := by
      intro e
      rw [Lib.decFrom, e] at h
      cases h
    have h45 : (b == 45) = false := by
      rw [beq_eq_false_iff_ne]; rintro rfl; exact hb (by decide)
    have h43 : (b == 43) = false := by
      rw [beq_eq_false_iff_ne]; rintro rfl; exact hb (by decide)
    simp only [Lib.atoi, h45, h43, Lib.decNat, List.isEmpty_cons, h]
    rfl
/-- Both sides' answer. -/
def rdB (s : ByteArray) : Int × Bool := match valL (bytesOf s) 0 with
  | none => (0, false)
  | some n => if n > 1000000000 then (0, false) else if decB n = s then (n, true) else (0, false)
theorem decB_nat (u : Nat) : decB (u : Int) = ⟨(Lib.decDigits u).toArray⟩ := by
  unfold decB Lib.itoa
  rw [if_neg (by omega)]
  rfl
theorem rdB_good (u : Nat) (h : u ≤ 1000000000) : rdB (decB (u : Int)) = ((u : Int), true) := by
  unfold rdB
  have e : valL (bytesOf (decB (u : Int))) 0 = some (u : Int) := by
    rw [decB_nat, bytes_mk]
    have := valL_dec (Lib.decDigits u) 0
    rw [decFrom_digits] at this
    exact this
  rw [e]
  simp only
  rw [if_neg (by omega), if_pos (by first | rfl | trivial)]
theorem decB_size (u : Nat) (h : u ≤ 1000000000) : (decB (u : Int)).size ≤ 10 := by
  rw [decB_nat]
  show (Lib.decDigits u).toArray.size ≤ 10
  have := decDigits_size 9 u (by omega)
  simpa using this
theorem valL_pos (l : List Int) : ∀ a n, 0 ≤ a → valL l a = some n → 0 ≤ n := by
  induction l with
  | nil => intro a n h0 h; simp only [valL, Option.some.injEq] at h; omega
  | cons x r ih =>
    intro a n h0 h
    simp only [valL] at h
    split at h
    · cases h
    · exact ih _ _ (by omega) h
theorem rdB_bad (s : ByteArray) (h : ∀ u : Nat, u ≤ 1000000000 → decB (u : Int) ≠ s) : rdB s = (0, false) := by
  unfold rdB
  split
  · rfl
  · rename_i n e
    have := valL_pos _ _ _ (Int.le_refl 0) e
    by_cases h1 : n > 1000000000
    · rw [if_pos h1]
    · rw [if_neg h1, if_neg]
      have := h n.toNat (by omega)
      rw [show ((n.toNat : Nat) : Int) = n from by omega] at this
      exact this

theorem impl_ReadDecimal.eq (s : ByteArray) (hs : s.size ≤ 281474976710656) : impl_ReadDecimal.f s = some (rdB s) := by
  unfold impl_ReadDecimal.f
  rw [if_pos hs]
  congr 1
  by_cases h : ∃ u : Nat, u ≤ 1000000000 ∧ decB (u : Int) = s
  · obtain ⟨u, hu, rfl⟩ := h
    rw [rdB_good u hu]
    have e : Lib.atoiAll (decB (u : Int)).data.toList = .ok (u : Int) := by
      rw [decB_nat]
      exact atoi_digits u (by omega)
    rw [e]
    simp only
    rw [if_pos (by omega)]
    exact if_pos rfl
  · have h' : ∀ u : Nat, u ≤ 1000000000 → decB (u : Int) ≠ s := fun u hu e => h ⟨u, hu, e⟩
    rw [rdB_bad s h']
    split
    · rename_i n e
      by_cases hn : 0 ≤ n ∧ n ≤ 1000000000
      · rw [if_pos hn, if_neg]
        intro e2
        have := h' n.toNat (by omega)
        rw [show ((n.toNat : Nat) : Int) = n from by omega] at this
        exact this (toList_inj.1 e2)
      · rw [if_neg hn]
    · rfl

theorem impl_Hex.l0_ev (s : ByteArray) (hs : s.size ≤ 20000) (n : Nat) : ∀ (acc : List Int) (i : Int), 0 ≤ i → (s.size : Int) - i = n → acc.length = 2 * i →
    Ev (fun k => impl_Hex.l0 k s acc (s.size : Int) i) (strOfNums (acc ++ hexL (tl s i)), true) := by
  induction n with
  | zero =>
    intro acc i h0 hn ha
    apply Ev.succ; simp only [impl_Hex.l0]
    rw [tl_nil (by omega)]
    exact Ev.ite_neg (by omega) (Ev.done (by simp [hexL]))
  | succ n ih =>
    intro acc i h0 hn ha
    have h1 : i < (s.size : Int) := by omega
    have hb := bt_range s i
    have g1 : 0 ≤ bt s i / 16 := by omega
    have g2 : bt s i / 16 < 16 := by omega
    have g3 : 0 ≤ bt s i % 16 := by omega
    have g4 : bt s i % 16 < 16 := by omega
    apply Ev.succ
    simp only [impl_Hex.l0, and15_at hb.1 hb.2, h0, h1, g1, g2, g3, g4, if_true, hexTab_at g1 g2, hexTab_at g3 g4, Option.bind_some, w64 (x := i + 1) (by omega) (by omega)]
    refine Ev.ite_pos (by simp; omega) ?_
    refine (ih (acc ++ [hexD (bt s i / 16), hexD (bt s i % 16)]) (i + 1) (by omega) (by omega) (by simp; omega)).get ?_
    rw [tl_cons h0 h1]; simp [hexL]
theorem impl_Hex.ev (s : ByteArray) : Ev (fun k => impl_Hex.f k s) (if s.size > 20000 then ((⟨#[]⟩ : ByteArray), false) else (strOfNums (hexL (bytesOf s)), true)) := by
  unfold impl_Hex.f
  by_cases h : s.size > 20000
  · rw [if_pos h]; exact Ev.ite_pos (by omega) (Ev.done rfl)
  · rw [if_neg h]
    refine Ev.ite_neg (by omega) ((impl_Hex.l0_ev s (by omega) s.size [] 0 (by omega) (by omega) (by simp)).get ?_)
    rw [tl_zero]; simp

theorem strings_IndexByte.eq (s : ByteArray) (x : Int) : strings_IndexByte.f s x = some (Lib.indexByte s.data.toList x.toNat.toUInt8) := rfl

def valD (x : Int) : Int := if 48 ≤ x ∧ x ≤ 57 then x - 48 else if 97 ≤ x ∧ x ≤ 102 then x - 87 else -1
def unhexL : List Int → Option (List Int)
  | a :: b :: r => if valD a < 0 then none else if valD b < 0 then none else (unhexL r).map fun m => (16 * valD a + valD b) :: m
  | _ => some []
theorem valD_range (x : Int) : -1 ≤ valD x ∧ valD x < 16 := by unfold valD; split; omega; split <;> omega
/-- What unhexing gives, behind what is there already. -/
def unhexR (acc : List Int) (l : List Int) : ByteArray × Bool := match unhexL l with
  | none => ((⟨#[]⟩ : ByteArray), false)
  | some m => (strOfNums (acc ++ m), true)
theorem unhexR_step (acc : List Int) (a b : Int) (r : List Int) (ha : 0 ≤ valD a) (hb : 0 ≤ valD b) : unhexR acc (a :: b :: r) = unhexR (acc ++ [16 * valD a + valD b]) r := by
  unfold unhexR; rw [unhexL, if_neg (by omega), if_neg (by omega)]
  cases unhexL r with
  | none => rfl
  | some m => simp
theorem unhexR_bad1 (acc : List Int) (a b : Int) (r : List Int) (ha : valD a < 0) : unhexR acc (a :: b :: r) = ((⟨#[]⟩ : ByteArray), false) := by
  unfold unhexR; rw [unhexL, if_pos ha]
theorem unhexR_bad2 (acc : List Int) (a b : Int) (r : List Int) (hb : valD b < 0) : unhexR acc (a :: b :: r) = ((⟨#[]⟩ : ByteArray), false) := by
  unfold unhexR; rw [unhexL]; by_cases h : valD a < 0
  · rw [if_pos h]
  · rw [if_neg h, if_pos hb]
theorem idxTab : ∀ n : Fin 256, Lib.indexByte [48, 49, 50, 51, 52, 53, 54, 55, 56, 57, 97, 98, 99, 100, 101, 102] (n.val : Int).toNat.toUInt8 = valD (n.val : Int) := by decide +kernel
theorem idxTab_at {x : Int} (h0 : 0 ≤ x) (h1 : x ≤ 255) : Lib.indexByte (⟨#[48, 49, 50, 51, 52, 53, 54, 55, 56, 57, 97, 98, 99, 100, 101, 102]⟩ : ByteArray).data.toList x.toNat.toUInt8 = valD x := by
  have := idxTab ⟨x.toNat, by omega⟩
  simp only at this
  rw [show ((x.toNat : Nat) : Int) = x from by omega] at this; exact this
theorem orTab : ∀ a : Fin 16, ∀ b : Fin 16, Go.bits .or .i64 ((a.val : Int) * 16) (b.val : Int) = (a.val : Int) * 16 + (b.val : Int) := by decide +kernel
theorem orTab_at {a b : Int} (h0 : 0 ≤ a) (h1 : a < 16) (h2 : 0 ≤ b) (h3 : b < 16) : Go.bits .or .i64 (a * 16) b = a * 16 + b := by
  have := orTab ⟨a.toNat, by omega⟩ ⟨b.toNat, by omega⟩
  simp only at this
  rw [show ((a.toNat : Nat) : Int) = a from by omega, show ((b.toNat : Nat) : Int) = b from by omega] at this; exact this

theorem impl_Unhex.l0_ev (s : ByteArray) (hs : s.size ≤ 40000) (he : (s.size : Int) % 2 = 0) (n : Nat) : ∀ (acc : List Int) (i : Int), 0 ≤ i → i % 2 = 0 → (s.size : Int) - i = 2 * n → acc.length ≤ i →
    Ev (fun k => impl_Unhex.l0 k s acc i) (unhexR acc (tl s i)) := by
  induction n with
  | zero =>
    intro acc i h0 hp hn ha
    apply Ev.succ; simp only [impl_Unhex.l0]
    rw [tl_nil (by omega)]
    exact Ev.ite_neg (by omega) (Ev.done (by simp [unhexR, unhexL]))
  | succ n ih =>
    intro acc i h0 hp hn ha
    have h1 : i < (s.size : Int) := by omega
    have h2 : i + 1 < (s.size : Int) := by omega
    have hb := bt_range s i
    have hb2 := bt_range s (i + 1)
    have v1 := valD_range (bt s i)
    have v2 := valD_range (bt s (i + 1))
    have e2 : i + 1 + 1 = i + 2 := by omega
    have h3 : 0 ≤ i + 1 := by omega
    apply Ev.succ
    simp only [impl_Unhex.l0, h0, h1, h2, h3, if_true, w64 (x := i + 1) (by omega) (by omega), w64 (x := i + 2) (by omega) (by omega), strings_IndexByte.eq, idxTab_at hb.1 hb.2, idxTab_at hb2.1 hb2.2, Option.bind_some]
    rw [tl_cons h0 h1, tl_cons (i := i + 1) (by omega) h2, e2]
    by_cases c1 : valD (bt s i) < 0
    · rw [unhexR_bad1 _ _ _ _ c1]; exact Ev.ite_pos c1 (Ev.done rfl)
    · refine Ev.ite_neg c1 ?_
      by_cases c2 : valD (bt s (i + 1)) < 0
      · rw [unhexR_bad2 _ _ _ _ c2]; exact Ev.ite_pos c2 (Ev.done rfl)
      · refine Ev.ite_neg c2 (Ev.ite_pos (by omega) ?_)
        rw [unhexR_step _ _ _ _ (by omega) (by omega)]
        have ew : (Go.bits .or .i64 (wrap64 (valD (bt s i) * 16)) (valD (bt s (i + 1)))) % 256 = 16 * valD (bt s i) + valD (bt s (i + 1)) := by
          rw [w64 (x := valD (bt s i) * 16) (by omega) (by omega), orTab_at (by omega) (by omega) (by omega) (by omega)]; omega
        rw [ew]
        exact ih _ (i + 2) (by omega) (by omega) (by omega) (by simp; omega)
theorem impl_Unhex.ev (s : ByteArray) : Ev (fun k => impl_Unhex.f k s) (if s.size > 40000 ∨ s.size % 2 ≠ 0 then ((⟨#[]⟩ : ByteArray), false) else unhexR [] (bytesOf s)) := by
  have hj : Ev (fun k => impl_Unhex.j0 k s true) ((⟨#[]⟩ : ByteArray), false) := by
    apply Ev.succ; simp only [impl_Unhex.j0, if_true]; exact Ev.done rfl
  unfold impl_Unhex.f
  by_cases h2 : s.size % 2 = 0
  · refine Ev.ite_pos (by omega) ?_
    by_cases h : s.size > 40000
    · rw [if_pos (Or.inl h)]
      have e : decide ((s.size : Int) > 40000) = true := decide_eq_true (by omega)
      rw [e]; exact hj
    · rw [if_neg (by omega)]
      have e : decide ((s.size : Int) > 40000) = false := decide_eq_false (by omega)
      rw [e]
      apply Ev.succ; simp only [impl_Unhex.j0]
      refine Ev.ite_neg (by simp) ((impl_Unhex.l0_ev s (by omega) (by omega) (s.size / 2) [] 0 (by omega) (by omega) (by omega) (by simp)).get ?_)
      rw [tl_zero]
  · rw [if_pos (Or.inr h2)]
    exact Ev.ite_neg (by omega) hj

-- the cursor of the draws
theorem and255 (x : Int) : 0 ≤ Go.bits .and .i64 x 255 ∧ Go.bits .and .i64 x 255 ≤ 255 := by
  simp only [Go.bits, BitVec.toNat_and]
  have h : (BitVec.ofInt IntKind.i64.bits x).toNat &&& (BitVec.ofInt IntKind.i64.bits 255).toNat ≤ 255 := Nat.and_le_right
  generalize (BitVec.ofInt IntKind.i64.bits x).toNat &&& (BitVec.ofInt IntKind.i64.bits 255).toNat = m at *
  rw [IntKind.wrap_i64]; omega
theorem drawByte (b : List Int) (hb : b.length ≤ 140737488351232) (i h : Int) (h0 : 0 ≤ i) : ∃ x j g, spec_l01Byte.f b i h = some (x, j, g) ∧ 0 ≤ x ∧ x ≤ 255 ∧ 0 ≤ j := by
  unfold spec_l01Byte.f
  by_cases c : i < (b.length : Int)
  · rw [if_pos c, if_pos h0]
    refine ⟨_, _, _, rfl, (and255 _).1, (and255 _).2, ?_⟩
    rw [w64 (by omega) (by omega)]; omega
  · rw [if_neg c]
    exact ⟨_, _, _, rfl, (and255 _).1, (and255 _).2, h0⟩
theorem drawBelow (b : List Int) (hb : b.length ≤ 140737488351232) (i h n : Int) (h0 : 0 ≤ i) (n0 : 0 < n) (n1 : n ≤ 256) : ∃ x j g, spec_l01Below.f b i h n = some (x, j, g) ∧ 0 ≤ x ∧ x < n ∧ 0 ≤ j := by
  obtain ⟨x, j, g, e, x0, x1, j0⟩ := drawByte b hb i h h0
  unfold spec_l01Below.f
  rw [if_neg (by omega), if_pos n1, e]
  refine ⟨Int.tmod x n, j, g, ?_, ?_, ?_, j0⟩
  · show (if n = 0 then none else _) = _
    rw [if_neg (by omega)]
  · exact Int.tmod_nonneg _ x0
  · exact Int.tmod_lt_of_pos _ n0
theorem drawBig (b : List Int) (hb : b.length ≤ 140737488351232) (i h n : Int) (h0 : 0 ≤ i) (n0 : 256 < n) (n1 : n ≤ 4000000000) : ∃ x j g, spec_l01Below.f b i h n = some (x, j, g) ∧ 0 ≤ x ∧ x < n ∧ 0 ≤ j := by
  obtain ⟨x, j, g, e, x0, x1, j0⟩ := drawByte b hb i h h0
  obtain ⟨y, j2, g2, e2, y0, y1, j20⟩ := drawByte b hb j g j0
  obtain ⟨z, j3, g3, e3, z0, z1, j30⟩ := drawByte b hb j2 g2 j20
  obtain ⟨u, j4, g4, e4, u0, u1, j40⟩ := drawByte b hb j3 g3 j30
  unfold spec_l01Below.f
  rw [if_neg (by omega), if_neg (by omega), e]
  simp only [Option.bind_some, e2, e3, e4]
  rw [if_neg (by omega), w64 (x := x * 16777216) (by omega) (by omega), w64 (x := y * 65536) (by omega) (by omega), w64 (x := z * 256) (by omega) (by omega), w64 (x := x * 16777216 + y * 65536) (by omega) (by omega), w64 (x := x * 16777216 + y * 65536 + z * 256) (by omega) (by omega), w64 (x := x * 16777216 + y * 65536 + z * 256 + u) (by omega) (by omega)]
  exact ⟨_, _, _, rfl, Int.tmod_nonneg _ (by omega), Int.tmod_lt_of_pos _ (by omega), j40⟩

theorem drawNew (b : List Int) (hb : b.length ≤ 140737488351232) (n : Nat) : ∀ (h i : Int), 0 ≤ i → (b.length : Int) - i ≤ n → ∃ g, Ev (fun k => spec_l01New.l0 k b h i) (b, 0, g) := by
  induction n with
  | zero =>
    intro h i h0 hn
    refine ⟨h, ?_⟩
    apply Ev.succ; simp only [spec_l01New.l0]
    exact Ev.ite_neg (by omega) (Ev.done rfl)
  | succ n ih =>
    intro h i h0 hn
    by_cases c : i < (b.length : Int)
    · by_cases c2 : i < 4000
      · obtain ⟨g, hg⟩ := ih (Go.bits .and .i64 (wrap64 ((wrap64 ((wrap64 (h * 131)) + (wrap64 (rd b i)))) + 7)) 1073741823) (i + 1) (by omega) (by omega)
        refine ⟨g, ?_⟩
        apply Ev.succ; simp only [spec_l01New.l0, w64 (x := i + 1) (by omega) (by omega)]
        exact Ev.ite_pos c (Ev.ite_pos c2 (Ev.ite_pos h0 hg))
      · refine ⟨h, ?_⟩
        apply Ev.succ; simp only [spec_l01New.l0]
        exact Ev.ite_pos c (Ev.ite_neg c2 (Ev.done rfl))
    · refine ⟨h, ?_⟩
      apply Ev.succ; simp only [spec_l01New.l0]
      exact Ev.ite_neg c (Ev.done rfl)

theorem places_l0 (b : List Int) (hb : b.length ≤ 140737488351232) (n : Nat) : ∀ (acc : List Int) (x i h : Int), 0 ≤ i → 0 ≤ x → x ≤ 12 → 12 - x ≤ n → (acc.length : Int) = x → (∀ y ∈ acc, 0 ≤ y ∧ y < 10000) →
    ∃ p : List Int, Ev (fun k => spec_DrawPlaces.l0 k acc x b i h) p ∧ p.length = 12 ∧ ∀ y ∈ p, 0 ≤ y ∧ y < 10000 := by
  induction n with
  | zero =>
    intro acc x i h h0 x0 x12 hn hl ha
    refine ⟨acc, ?_, by omega, ha⟩
    apply Ev.succ; simp only [spec_DrawPlaces.l0]
    exact Ev.ite_neg (by omega) (Ev.done rfl)
  | succ n ih =>
    intro acc x i h h0 x0 x12 hn hl ha
    by_cases c : x < 12
    · obtain ⟨y, j, g, e, y0, y1, j0⟩ := drawBig b hb i h 10000 h0 (by omega) (by omega)
      obtain ⟨p, hE, hp⟩ := ih (acc ++ [y]) (x + 1) j g j0 (by omega) (by omega) (by omega) (by simp; omega) (by
        intro z hz
        rcases List.mem_append.1 hz with hz | hz
        · exact ha z hz
        · simp at hz; omega)
      refine ⟨p, ?_, hp⟩
      apply Ev.succ; simp only [spec_DrawPlaces.l0]
      rw [w64 (x := x + 1) (by omega) (by omega)]
      refine Ev.ite_pos c (Ev.bindc e (Ev.ite_pos (by omega) hE))
    · exact ih acc x i h h0 x0 x12 (by omega) hl ha
theorem drawPlaces (b : List Int) (hb : b.length ≤ 140737488351232) : ∃ p : List Int, Ev (fun k => spec_DrawPlaces.f k b) p ∧ p.length = 12 ∧ ∀ y ∈ p, 0 ≤ y ∧ y < 10000 := by
  obtain ⟨g, hg⟩ := drawNew b hb b.length (wrap64 (94701 + (b.length : Int))) 0 (by omega) (by omega)
  obtain ⟨x, j, g2, e, x0, x1, j0⟩ := drawByte b hb 0 g (by omega)
  obtain ⟨p, hE, hp⟩ := places_l0 b hb 12 [] 0 j g2 j0 (by omega) (by omega) (by omega) rfl (by simp)
  refine ⟨p, ?_, hp⟩
  unfold spec_DrawPlaces.f
  exact Ev.bind (a := (b, 0, g)) hg (Ev.bindc e hE)
theorem place_at (p : List Int) (hl : p.length = 12) (hp : ∀ y ∈ p, 0 ≤ y ∧ y < 10000) (i : Int) (h0 : 0 ≤ i) (h1 : i < 12) : 0 ≤ rd p i ∧ rd p i < 10000 := by
  unfold rd
  rw [List.getD_eq_getElem?_getD, List.getElem?_eq_getElem (by omega)]
  exact hp _ (List.getElem_mem _)

theorem str_append (a b : List Int) : strOfNums a ++ strOfNums b = strOfNums (a ++ b) := by
  unfold strOfNums
  apply ByteArray.ext
  rw [ByteArray.data_append]; simp
theorem str_size (a : List Int) : (strOfNums a).size = a.length := by
  unfold strOfNums
  show (List.toArray _).size = _
  simp
theorem str_one (s : ByteArray) (i : Int) (h0 : 0 ≤ i) (h1 : i < (s.size : Int)) : s.extract i.toNat (i + 1).toNat = strOfNums [bt s i] := by
  apply bytes_inj
  have hr := bt_range s i
  rw [bytes_extract, bytes_strOfNums _ (by intro x hx; simp at hx; subst hx; exact hr)]
  have ht := tl_cons h0 h1
  unfold tl at ht
  rw [List.drop_take, ht, show (i + 1).toNat - i.toNat = 1 from by omega]; rfl

theorem dig0_few (k : Nat) : ∀ u, u < 10 ^ k → (dig0 u).length ≤ k := by
  induction k with
  | zero => intro u h; rw [show u = 0 from by simpa using h]; simp [dig0]
  | succ k ih =>
    intro u h
    by_cases c : u = 0
    · subst c; simp [dig0]
    · rw [Nat.pow_succ] at h
      have := ih (u / 10) (by omega)
      rw [dig0_step u c, List.length_append]; simp; omega
theorem decB_few (n : Int) (h0 : 0 ≤ n) (h1 : n < 1000000000) : (decB n).size ≤ 10 := by
  by_cases c : n = 0
  · subst c; rw [decB_zero]; decide
  · rw [← size_bytes, decB_pos (by omega)]
    have := dig0_few 9 n.natAbs (by show n.natAbs < 1000000000; omega)
    omega
theorem valD_hexD {n : Int} (h0 : 0 ≤ n) (h1 : n < 16) : valD (hexD n) = n := by
  unfold valD hexD
  split <;> split <;> (try split) <;> omega
theorem unhex_hex (l : List Int) (h : ∀ x ∈ l, 0 ≤ x ∧ x ≤ 255) : unhexL (hexL l) = some l := by
  induction l with
  | nil => simp [hexL, unhexL]
  | cons x r ih =>
    have hx := h x (by simp)
    rw [hexL, unhexL, valD_hexD (by omega) (by omega), valD_hexD (by omega) (by omega), if_neg (by omega), if_neg (by omega), ih (fun y hy => h y (by simp [hy]))]
    show some ((16 * (x / 16) + x % 16) :: r) = some (x :: r)
    rw [Int.mul_ediv_add_emod]
theorem figs_round (t : ByteArray) : unhexR [] (bytesOf (strOfNums (hexL (bytesOf t)))) = (t, true) := by
  have hb : ∀ x ∈ hexL (bytesOf t), 0 ≤ x ∧ x ≤ 255 := by
    have : ∀ l : List Int, (∀ x ∈ l, 0 ≤ x ∧ x ≤ 255) → ∀ x ∈ hexL l, 0 ≤ x ∧ x ≤ 255 := by
      intro l
      induction l with
      | nil => intro _ x hx; simp [hexL] at hx
      | cons y r ih =>
        intro h x hx
        have hy := h y (by simp)
        rw [hexL] at hx
        rcases List.mem_cons.1 hx with rfl | hx
        · exact hexD_range (by omega) (by omega)
        · rcases List.mem_cons.1 hx with rfl | hx
          · exact hexD_range (by omega) (by omega)
          · exact ih (fun z hz => h z (by simp [hz])) x hx
    exact this _ (fun x hx => bytes_range hx)
  rw [bytes_strOfNums _ hb]
  unfold unhexR
  rw [unhex_hex _ (fun x hx => bytes_range hx)]
  show (strOfNums ([] ++ bytesOf t), true) = (t, true)
  rw [List.nil_append, strOfNums_bytes]
theorem brought_twice (a l m : Int) (h : l ≤ m) : l ≤ mx l (mn a m) ∧ mx l (mn a m) ≤ m ∧ mx l (mn (mx l (mn a m)) m) = mx l (mn a m) := by
  unfold mx mn
  refine ⟨?_, ?_, ?_⟩ <;> (repeat' split) <;> omega
theorem FnFigures : laws_FnFigures.Pure := by
  intro l0 hl hl2 hx
  have hl3 : l0.length ≤ 140737488351232 := by omega
  apply Ev.out
  unfold laws_FnFigures.f laws_big.f
  refine Ev.bindc rfl ?_
  by_cases h : (l0.length : Int) > 1048576
  · exact Ev.ite_pos (decide_eq_true h) (Ev.done rfl)
  refine Ev.ite_neg (by simpa using h) ?_
  obtain ⟨p, hP, hp, hp2⟩ := drawPlaces l0 hl3
  refine hP.bind ?_
  have pl : ∀ i : Int, 0 ≤ i → i < 12 → 0 ≤ rd p i ∧ rd p i < 10000 := fun i => place_at p hp hp2 i
  have p0 := pl 0 (by omega) (by omega)
  have p1 := pl 1 (by omega) (by omega)
  have p2 := pl 2 (by omega) (by omega)
  have p3 := pl 3 (by omega) (by omega)
  have p4 := pl 4 (by omega) (by omega)
  have p5 := pl 5 (by omega) (by omega)
  have g : ∀ i : Int, i < 12 → i < (p.length : Int) := fun i h => by rw [hp]; exact h
  have hsz : (decB (rd p 5)).size ≤ 10 := decB_few _ (by omega) (by omega)
  obtain ⟨t, et⟩ : ∃ t, decB (rd p 5) ++ strOfNums [(rd p 6) % 256, (rd p 7) % 256] = t := ⟨_, rfl⟩
  have ht : t.size ≤ 12 := by rw [← et, ByteArray.size_append, str_size]; simp; omega
  have hH : Ev (fun k => impl_Hex.f k t) (strOfNums (hexL (bytesOf t)), true) := by
    have := impl_Hex.ev t
    rwa [if_neg (by omega)] at this
  have hhs : (strOfNums (hexL (bytesOf t))).size = 2 * t.size := by rw [str_size, hexL_length, size_bytes]
  have hU : Ev (fun k => impl_Unhex.f k (strOfNums (hexL (bytesOf t)))) (t, true) := by
    have := impl_Unhex.ev (strOfNums (hexL (bytesOf t)))
    rwa [if_neg (by omega), figs_round] at this
  have w1 : wrap64 (rd p 0 * 10000) = rd p 0 * 10000 := w64 (by omega) (by omega)
  have w2 : wrap64 (rd p 0 * 10000 + rd p 1) = rd p 0 * 10000 + rd p 1 := w64 (by omega) (by omega)
  obtain ⟨u, eu⟩ : ∃ u : Nat, rd p 0 * 10000 + rd p 1 = (u : Int) := ⟨(rd p 0 * 10000 + rd p 1).toNat, by omega⟩
  have hu : (u : Int) ≤ 99999999 := by omega
  have hR : impl_ReadDecimal.f (decB (u : Int)) = some ((u : Int), true) := by
    have hz : (decB (u : Int)).size ≤ 10 := decB_few _ (by omega) (by omega)
    rw [impl_ReadDecimal.eq _ (by omega), rdB_good u (by omega)]
  have w3 : wrap64 (rd p 2 - 5000) = rd p 2 - 5000 := w64 (by omega) (by omega)
  have w4 : wrap64 (-(rd p 3)) = -(rd p 3) := w64 (by omega) (by omega)
  obtain ⟨b1, b2, b3⟩ := brought_twice (rd p 2 - 5000) (-(rd p 3)) (rd p 4) (by omega)
  have w5 : wrap64 (2 * (t.size : Int)) = 2 * (t.size : Int) := w64 (by omega) (by omega)
  have w6 : wrap64 (u : Int) = (u : Int) := w64 (by omega) (by omega)
  simp only [w1, w2, w3, w4, eu, w6]
  clear w1 w2 w3 w4 w6
  have d5 : impl_Decimal.f (rd p 5) = some (decB (rd p 5)) := impl_Decimal.eq _ (Int.le_trans (by decide) p5.1) (Int.le_trans (Int.le_of_lt p5.2) (by decide))
  have du : impl_Decimal.f (u : Int) = some (decB (u : Int)) := impl_Decimal.eq _ (Int.le_trans (by decide) (Int.natCast_nonneg u)) (Int.le_trans hu (by decide))
  refine Ev.ite_pos (g 5 (by decide)) (Ev.bindc d5 (Ev.ite_pos (g 6 (by decide)) (Ev.ite_pos (g 7 (by decide)) (Ev.bindc rfl (Ev.ite_pos (by rw [str_size]; exact Nat.le_trans (Nat.add_le_add_right hsz 2) (by decide)) ?_)))))
  rw [et]
  refine hH.bind (hU.bind (Ev.ite_pos (g 0 (by decide)) (Ev.ite_pos (g 1 (by decide)) (Ev.bindc du (Ev.bindc hR ?_)))))
  refine Ev.ite_pos (g 2 (by decide)) (Ev.ite_pos (g 3 (by decide)) (Ev.ite_pos (g 4 (by decide)) (Ev.bindc (by unfold impl_Brought.f; rfl) ?_)))
  have hl4 : ((strOfNums (hexL (bytesOf t))).size : Int) = wrap64 (2 * (t.size : Int)) := by rw [w5, hhs]; exact Int.natCast_mul 2 t.size
  refine Ev.ite_pos rfl (Ev.ite_pos rfl (Ev.ite_pos rfl (Ev.ite_pos hl4 (Ev.ite_pos rfl (Ev.ite_pos rfl (Ev.ite_pos b1 (Ev.ite_pos b2 (Ev.bindc (by unfold impl_Brought.f; rfl) (Ev.done ?_)))))))))
  rw [b3]
  exact beq_self_eq_true _


end Go.Proofs.YtnlhpjapdklfgaaDoor.Pure
