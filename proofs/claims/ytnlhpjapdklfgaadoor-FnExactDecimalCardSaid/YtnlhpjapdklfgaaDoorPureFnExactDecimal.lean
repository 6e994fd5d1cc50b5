/- The plain law behind FnExactDecimal. -/
import Derived.Test.YtnlhpjapdklfgaaDoorOFnExactDecimalx1
import Derived.Test.YtnlhpjapdklfgaaDoorBase
namespace Go.Proofs.YtnlhpjapdklfgaaDoor.Pure
open Go.RowKit Go.Proofs.YtnlhpjapdklfgaaDoor.OFnExactDecimal Go.Proofs.YtnlhpjapdklfgaaDoorW.PrintWords Go.Proofs.YtnlhpjapdklfgaaDoorW.PrintLast Go.Proofs.YtnlhpjapdklfgaaDoorW.PrintMore Go.Proofs.YtnlhpjapdklfgaaDoor.Base
set_option linter.unusedVariables false
set_option linter.unusedSimpArgs false

def hexD (n : Int) : Int := if n < 10 then 48 + n else 87 + n
def hexL : List Int → List Int
  | [] => []
  | x :: r => hexD (x / 16) :: hexD (x % 16) :: hexL r
theorem hexL_length (l : List Int) : (hexL l).length = 2 * l.length := by
  induction l with
  | nil => rfl
  | cons x r ih => simp [hexL, ih]; omega
theorem hexD_range {n : Int} (h0 : 0 ≤ n) (h1 : n < 16) : 0 ≤ hexD n ∧ hexD n ≤ 255 := by unfold hexD; split <;> omega
theorem hexTab : ∀ n : Fin 16, bt (⟨#[48, 49, 50, 51, 52, 53, 54, 55, 56, 57, 97, 98, 99, 100, 101, 102]⟩ : ByteArray) (n.val : Int) = hexD (n.val : Int) := by decide +kernel
theorem hexTab_at {x : Int} (h0 : 0 ≤ x) (h1 : x < 16) : bt (⟨#[48, 49, 50, 51, 52, 53, 54, 55, 56, 57, 97, 98, 99, 100, 101, 102]⟩ : ByteArray) x = hexD x := by
  have := hexTab ⟨x.toNat, by omega⟩
  simp only at this
  rw [show ((x.toNat : Nat) : Int) = x from by omega] at this; exact this
theorem and15 : ∀ n : Fin 256, Go.bits .and .u8 (n.val : Int) 15 = (n.val : Int) % 16 := by decide +kernel
theorem and15_at {x : Int} (h0 : 0 ≤ x) (h1 : x ≤ 255) : Go.bits .and .u8 x 15 = x % 16 := by
  have := and15 ⟨x.toNat, by omega⟩
  simp only at this
  rw [show ((x.toNat : Nat) : Int) = x from by omega] at this; exact this

theorem spec_l01Figure.eq (x : Int) (h0 : 0 ≤ x) (h1 : x < 16) : spec_l01Figure.f x = some (hexD x) := by
  unfold spec_l01Figure.f hexD
  by_cases h : x < 10
  · rw [if_pos h, if_pos h, w64 (by omega) (by omega)]; congr 1; omega
  · rw [if_neg h, if_neg h, w64 (x := 97 + x) (by omega) (by omega), w64 (by omega) (by omega)]; congr 1; omega

/-- The figures of a whole number that is not negative; none for 0. -/
def dig0 (u : Nat) : List Int := if u = 0 then [] else (Lib.decDigits u).map fun b => (b.toNat : Int)
theorem dig0_step (u : Nat) (h : u ≠ 0) : dig0 u = dig0 (u / 10) ++ [48 + ((u % 10 : Nat) : Int)] := by
  have e : ∀ d : Nat, d < 10 → ((UInt8.ofNat (48 + d)).toNat : Int) = 48 + (d : Int) := by
    intro d hd
    have : (UInt8.ofNat (48 + d)).toNat = 48 + d := by rw [UInt8.toNat_ofNat']; omega
    omega
  unfold dig0
  rw [if_neg h]
  by_cases h1 : u < 10
  · rw [if_pos (by omega), Lib.decDigits, dif_pos h1]
    simp only [List.map_cons, List.map_nil, List.nil_append, e u h1]
    rw [Nat.mod_eq_of_lt h1]
  · rw [if_neg (by omega), Lib.decDigits, dif_neg h1]
    simp only [List.map_append, List.map_cons, List.map_nil, e (u % 10) (by omega)]
theorem dig0_range {u : Nat} {x : Int} (h : x ∈ dig0 u) : 0 ≤ x ∧ x ≤ 255 := by
  unfold dig0 at h
  split at h
  · cases h
  · obtain ⟨b, _, rfl⟩ := List.mem_map.1 h
    have := b.toNat_lt
    omega
theorem bytes_app (a b : ByteArray) : bytesOf (a ++ b) = bytesOf a ++ bytesOf b := by
  simp [bytesOf, ByteArray.data_append]
/-- The numeral, as bytes: a minus where the number is negative. -/
def decB (n : Int) : ByteArray := ⟨(Lib.itoa n).toArray⟩
theorem decB_zero : decB 0 = ⟨#[48]⟩ := by
  unfold decB Lib.itoa
  rw [if_neg (by omega), Lib.decDigits, dif_pos (by decide)]
  rfl
theorem decB_pos {n : Int} (h : 0 < n) : bytesOf (decB n) = dig0 n.natAbs := by
  unfold decB Lib.itoa dig0
  rw [if_neg (by omega), bytes_mk, if_neg (by omega), show n.toNat = n.natAbs from by omega]
theorem decB_neg {n : Int} (h : n < 0) : bytesOf (decB n) = 45 :: dig0 n.natAbs := by
  unfold decB Lib.itoa dig0
  rw [if_pos h, bytes_mk, if_neg (by omega)]
  rfl
theorem tmod10 (x : Int) : Int.tmod x 10 = if 0 ≤ x then ((x.natAbs % 10 : Nat) : Int) else -((x.natAbs % 10 : Nat) : Int) := by
  split
  · rw [Int.tmod_eq_emod_of_nonneg (by assumption)]; omega
  · obtain ⟨y, rfl⟩ : ∃ y, x = -y := ⟨-x, by omega⟩
    rw [Int.neg_tmod, Int.tmod_eq_emod_of_nonneg (by omega)]; omega
theorem tdiv10 (x : Int) : Int.tdiv x 10 = if 0 ≤ x then ((x.natAbs / 10 : Nat) : Int) else -((x.natAbs / 10 : Nat) : Int) := by
  split
  · rw [Int.tdiv_eq_ediv_of_nonneg (by assumption)]; omega
  · obtain ⟨y, rfl⟩ : ∃ y, x = -y := ⟨-x, by omega⟩
    rw [Int.neg_tdiv, Int.tdiv_eq_ediv_of_nonneg (by omega)]; omega

theorem spec_Decimal.l0_ev (b : Bool) (n : Nat) : ∀ (x : Int) (acc : ByteArray), x.natAbs < 10 ^ n → -9223372036854775808 ≤ x → x ≤ 9223372036854775807 → acc.size + n ≤ 30 →
    Ev (fun k => spec_Decimal.l0 k x b acc) (if b = true then (⟨#[45]⟩ : ByteArray) ++ (strOfNums (dig0 x.natAbs) ++ acc) else strOfNums (dig0 x.natAbs) ++ acc) := by
  have z0 : ∀ acc : ByteArray, strOfNums (dig0 (0 : Int).natAbs) ++ acc = acc := fun acc => by
    apply bytes_inj
    rw [bytes_app, bytes_strOfNums _ (fun x hx => dig0_range hx)]
    rfl
  have zero : ∀ (acc : ByteArray), acc.size ≤ 30 → Ev (fun k => spec_Decimal.l0 k 0 b acc) (if b = true then (⟨#[45]⟩ : ByteArray) ++ (strOfNums (dig0 (0 : Int).natAbs) ++ acc) else strOfNums (dig0 (0 : Int).natAbs) ++ acc) := by
    intro acc ha
    apply Ev.succ; simp only [spec_Decimal.l0]
    rw [z0]
    refine Ev.ite_pos (by first | rfl | trivial) ?_
    by_cases hb : b = true
    · refine Ev.ite_pos hb (Ev.ite_pos (by omega) (Ev.done ?_))
      rw [if_pos hb]
    · refine Ev.ite_neg hb (Ev.done ?_)
      rw [if_neg hb]
  induction n with
  | zero =>
    intro x acc hx h0 h1 ha
    have : x = 0 := by simp at hx; omega
    subst this
    exact zero acc (by omega)
  | succ n ih =>
    intro x acc hx h0 h1 ha
    by_cases hz : x = 0
    · subst hz; exact zero acc (by omega)
    have hu : x.natAbs ≠ 0 := by omega
    have hp : x.natAbs / 10 < 10 ^ n := by rw [Nat.div_lt_iff_lt_mul (by decide)]; rw [Nat.pow_succ] at hx; exact hx
    have hd : x.natAbs % 10 < 10 := Nat.mod_lt _ (by decide)
    have hq : (Int.tdiv x 10).natAbs = x.natAbs / 10 := by rw [tdiv10]; split <;> omega
    have hr0 : -9223372036854775808 ≤ Int.tdiv x 10 := by rw [tdiv10]; split <;> omega
    have hr1 : Int.tdiv x 10 ≤ 9223372036854775807 := by rw [tdiv10]; split <;> omega
    have hs : ∀ d : Int, (strOfNums [d]).size = 1 := fun d => rfl
    have fin : ∀ d : Int, d = ((x.natAbs % 10 : Nat) : Int) → Ev (fun k => spec_Decimal.l0 k (wrap64 (Int.tdiv x 10)) b (strOfNums [48 + d] ++ acc)) (if b = true then (⟨#[45]⟩ : ByteArray) ++ (strOfNums (dig0 x.natAbs) ++ acc) else strOfNums (dig0 x.natAbs) ++ acc) := by
      intro d e
      rw [w64 hr0 hr1]
      have ez : strOfNums (dig0 (Int.tdiv x 10).natAbs) ++ (strOfNums [48 + d] ++ acc) = strOfNums (dig0 x.natAbs) ++ acc := by
        apply bytes_inj
        rw [bytes_app, bytes_app, bytes_app, bytes_strOfNums _ (fun x hx => dig0_range hx), bytes_strOfNums _ (fun x hx => dig0_range hx), bytes_strOfNums [48 + d] (fun y hy => by simp at hy; omega), hq, dig0_step x.natAbs hu, e, List.append_assoc]
      have := ih (Int.tdiv x 10) (strOfNums [48 + d] ++ acc) (by omega) hr0 hr1 (by rw [ByteArray.size_append, hs]; omega)
      rw [ez] at this
      exact this
    apply Ev.succ; simp only [spec_Decimal.l0, Option.bind_some]
    refine Ev.ite_neg hz ?_
    have hex : ∀ d : Int, 0 ≤ d → d < 10 → spec_l01Figure.f d = some (48 + d) := fun d a c => by rw [spec_l01Figure.eq d a (by omega), hexD, if_pos c]
    by_cases hm : Int.tmod x 10 < 0
    · refine Ev.ite_pos hm ?_
      have e : -(Int.tmod x 10) = ((x.natAbs % 10 : Nat) : Int) := by rw [tmod10] at hm ⊢; split at hm <;> rename_i hc <;> simp only [hc, if_true, if_false] <;> omega
      rw [w64 (x := -(Int.tmod x 10)) (by omega) (by omega)]
      refine Ev.bindc (hex _ (by omega) (by omega)) (Ev.ite_pos ?_ (fin _ e))
      rw [hs]; omega
    · refine Ev.ite_neg hm ?_
      have e : Int.tmod x 10 = ((x.natAbs % 10 : Nat) : Int) := by rw [tmod10] at hm ⊢; split at hm <;> rename_i hc <;> simp only [hc, if_true, if_false] <;> omega
      refine Ev.bindc (hex _ (by omega) (by omega)) (Ev.ite_pos ?_ (fin _ e))
      rw [hs]; omega
theorem spec_Decimal.ev (n : Int) (h0 : -9223372036854775808 ≤ n) (h1 : n ≤ 9223372036854775807) : Ev (fun k => spec_Decimal.f k n) (decB n) := by
  unfold spec_Decimal.f
  by_cases hz : n = 0
  · subst hz
    exact Ev.ite_pos rfl (Ev.done decB_zero.symm)
  · refine Ev.ite_neg hz ((spec_Decimal.l0_ev _ 20 n ⟨#[]⟩ (by omega) h0 h1 (by decide)).get ?_)
    apply bytes_inj
    by_cases hn : n < 0
    · rw [if_pos (by simp [hn]), bytes_app, bytes_app, bytes_strOfNums _ (fun x hx => dig0_range hx), decB_neg hn]
      simp [bytesOf]
    · rw [if_neg (by simp [hn]), bytes_app, bytes_strOfNums _ (fun x hx => dig0_range hx), decB_pos (by omega)]
      simp [bytesOf]

theorem strconv_Itoa.eq (n : Int) (h0 : -9223372036854775808 ≤ n) (h1 : n ≤ 9223372036854775807) : strconv_Itoa.f n = some (decB n) := by
  unfold strconv_Itoa.f
  rw [if_pos ⟨h0, h1⟩]; rfl

theorem impl_Decimal.eq (n : Int) (h0 : -9223372036854775808 ≤ n) (h1 : n ≤ 9223372036854775807) : impl_Decimal.f n = some (decB n) := by
  unfold impl_Decimal.f
  rw [strconv_Itoa.eq n h0 h1]; rfl

theorem FnExactDecimal : laws_FnExactDecimal.Pure := by
  intro n hn
  have hw : -9223372036854775808 ≤ n ∧ n ≤ 9223372036854775807 := by
    simp only [Lit.wf, Bool.and_eq_true, decide_eq_true_eq] at hn
    exact hn
  apply Ev.out
  unfold laws_FnExactDecimal.f
  exact (spec_Decimal.ev n hw.1 hw.2).bind (Ev.bindc (impl_Decimal.eq n hw.1 hw.2) (Ev.ite_pos rfl (Ev.done rfl)))


end Go.Proofs.YtnlhpjapdklfgaaDoor.Pure
