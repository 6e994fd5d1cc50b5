/- The plain law behind FnExactUnescaped. -/
import Derived.Test.YtlcjpfbnegjieaaDoorOFnExactUnescapedx7
import Derived.Test.YtlcjpfbnegjieaaDoorBase
namespace Go.Proofs.YtlcjpfbnegjieaaDoor.Pure
open Go.RowKit Go.Proofs.YtlcjpfbnegjieaaDoor.OFnExactUnescaped Go.Proofs.YtlcjpfbnegjieaaDoorW.PrintWords Go.Proofs.YtlcjpfbnegjieaaDoorW.PrintLast Go.Proofs.YtlcjpfbnegjieaaDoorW.PrintMore Go.Proofs.YtlcjpfbnegjieaaDoor.Base
set_option linter.unusedVariables false
set_option linter.unusedSimpArgs false

theorem spec_l01In.eq (x a b : Int) : spec_l01In.f x a b = some (decide (a ≤ x ∧ x ≤ b)) := by
  unfold spec_l01In.f
  by_cases h : x ≥ a
  · rw [if_pos h]; congr 1; rw [Bool.eq_iff_iff]; simp only [decide_eq_true_eq]; omega
  · rw [if_neg h]; congr 1; rw [Bool.eq_iff_iff]; simp only [decide_eq_true_eq, Bool.false_eq_true, false_iff]; omega

/-- The bytes of a scalar. -/
def runeL (n : Int) : List Int :=
  if n < 128 then [n] else if n < 2048 then [192 + n / 64, 128 + n % 64]
  else if n < 65536 then [224 + n / 4096, 128 + n / 64 % 64, 128 + n % 64]
  else [240 + n / 262144, 128 + n / 4096 % 64, 128 + n / 64 % 64, 128 + n % 64]
def scalB (n : Int) : Bool := decide (0 ≤ n ∧ n ≤ 1114111) && !decide (55296 ≤ n ∧ n ≤ 57343)
def runeTextL (n : Int) : ByteArray := if scalB n = true then strOfNums (runeL n) else (⟨#[]⟩ : ByteArray)
theorem or_low (h : Nat) (hh : h = 192 ∨ h = 224 ∨ h = 240 ∨ h = 128) (b m : Nat) (hb : b < m) (hm : m = if h = 192 then 32 else if h = 224 then 16 else if h = 240 then 8 else 64) : Go.bits .or .u8 (h : Int) (b : Int) = (h : Int) + b := by
  have t : (∀ b : Fin 32, Go.bits .or .u8 ((192 : Nat) : Int) (b.val : Int) = ((192 : Nat) : Int) + b.val) ∧ (∀ b : Fin 16, Go.bits .or .u8 ((224 : Nat) : Int) (b.val : Int) = ((224 : Nat) : Int) + b.val) ∧ (∀ b : Fin 8, Go.bits .or .u8 ((240 : Nat) : Int) (b.val : Int) = ((240 : Nat) : Int) + b.val) ∧ (∀ b : Fin 64, Go.bits .or .u8 ((128 : Nat) : Int) (b.val : Int) = ((128 : Nat) : Int) + b.val) := by decide +kernel
  obtain ⟨t1, t2, t3, t4⟩ := t
  rcases hh with rfl | rfl | rfl | rfl
  · exact t1 ⟨b, by simp at hm; omega⟩
  · exact t2 ⟨b, by simp at hm; omega⟩
  · exact t3 ⟨b, by simp at hm; omega⟩
  · exact t4 ⟨b, by simp at hm; omega⟩
theorem or192 {x : Int} (h0 : 0 ≤ x) (h1 : x < 32) : Go.bits .or .u8 192 x = 192 + x := by
  have := or_low 192 (by simp) x.toNat 32 (by omega) (by simp)
  rw [show ((x.toNat : Nat) : Int) = x from by omega] at this; exact this
theorem or224 {x : Int} (h0 : 0 ≤ x) (h1 : x < 16) : Go.bits .or .u8 224 x = 224 + x := by
  have := or_low 224 (by simp) x.toNat 16 (by omega) (by simp)
  rw [show ((x.toNat : Nat) : Int) = x from by omega] at this; exact this
theorem or240 {x : Int} (h0 : 0 ≤ x) (h1 : x < 8) : Go.bits .or .u8 240 x = 240 + x := by
  have := or_low 240 (by simp) x.toNat 8 (by omega) (by simp)
  rw [show ((x.toNat : Nat) : Int) = x from by omega] at this; exact this
theorem or128 {x : Int} (h0 : 0 ≤ x) (h1 : x < 64) : Go.bits .or .u8 128 x = 128 + x := by
  have := or_low 128 (by simp) x.toNat 64 (by omega) (by simp)
  rw [show ((x.toNat : Nat) : Int) = x from by omega] at this; exact this
theorem and63T : ∀ n : Fin 256, Go.bits .and .u8 (n.val : Int) 63 = (n.val : Int) % 64 := by decide +kernel
theorem and63 {x : Int} : Go.bits .and .u8 (x % 256) 63 = x % 64 := by
  have := and63T ⟨(x % 256).toNat, by omega⟩
  simp only at this
  rw [show (((x % 256).toNat : Nat) : Int) = x % 256 from by omega] at this; rw [this]; omega

theorem spec_l02Scalar.eq (x : Int) : spec_l02Scalar.f x = some (scalB x) := by
  unfold spec_l02Scalar.f scalB
  simp only [spec_l01In.eq, Option.bind_some]
  cases decide (0 ≤ x ∧ x ≤ 1114111) <;> simp

theorem spec_RuneText.eq (n : Int) : spec_RuneText.f n = some (runeTextL n) := by
  unfold spec_RuneText.f runeTextL
  rw [spec_l02Scalar.eq]; simp only [Option.bind_some]
  cases hs : scalB n with
  | false => rfl
  | true =>
    have hr : 0 ≤ n ∧ n ≤ 1114111 := by unfold scalB at hs; simp only [Bool.and_eq_true, decide_eq_true_eq] at hs; exact hs.1
    have d1 : ∀ m : Int, 0 < m → Int.tdiv n m = n / m := fun m _ => Int.tdiv_eq_ediv_of_nonneg hr.1
    have d2 : ∀ a m : Int, 0 ≤ a → Int.tmod a m = a % m := fun a m h => Int.tmod_eq_emod_of_nonneg h
    rw [if_pos rfl, if_pos rfl]
    unfold runeL
    rw [d1 64 (by omega), d1 4096 (by omega), d1 262144 (by omega), d2 n 64 hr.1, w64 (x := n / 64) (by omega) (by omega), w64 (x := n / 4096) (by omega) (by omega), w64 (x := n / 262144) (by omega) (by omega), d2 (n / 64) 64 (by omega), d2 (n / 4096) 64 (by omega)]
    rw [w64 (x := 192 + n / 64) (by omega) (by omega), w64 (x := 128 + n % 64) (by omega) (by omega), w64 (x := 224 + n / 4096) (by omega) (by omega), w64 (x := 128 + n / 64 % 64) (by omega) (by omega), w64 (x := 240 + n / 262144) (by omega) (by omega), w64 (x := 128 + n / 4096 % 64) (by omega) (by omega)]
    by_cases c1 : n < 128
    · rw [if_pos c1, if_pos c1]; congr 2; simp; omega
    · rw [if_neg c1, if_neg c1]
      by_cases c2 : n < 2048
      · rw [if_pos c2, if_pos c2]; congr 2; simp; omega
      · rw [if_neg c2, if_neg c2]
        by_cases c3 : n < 65536
        · rw [if_pos c3, if_pos c3]; congr 2; simp; omega
        · rw [if_neg c3, if_neg c3]; congr 2; simp; omega

/-- The scalar at the begin of what is left (n bytes, the first four of them b0 .. b3), and how many bytes it takes; -1: none. -/
def decZ (n b0 b1 b2 b3 : Int) : Int × Int :=
  if n ≤ 0 then (-1, 0)
  else if b0 < 128 then (b0, 1)
  else if 194 ≤ b0 ∧ b0 < 224 ∧ 2 ≤ n ∧ 128 ≤ b1 ∧ b1 ≤ 191 then ((b0 - 192) * 64 + b1 - 128, 2)
  else if 224 ≤ b0 ∧ b0 < 240 ∧ 3 ≤ n ∧ 128 ≤ b1 ∧ b1 ≤ 191 ∧ 128 ≤ b2 ∧ b2 ≤ 191 ∧ 2048 ≤ ((b0 - 224) * 64 + b1 - 128) * 64 + b2 - 128 ∧ ¬ (55296 ≤ ((b0 - 224) * 64 + b1 - 128) * 64 + b2 - 128 ∧ ((b0 - 224) * 64 + b1 - 128) * 64 + b2 - 128 ≤ 57343) then (((b0 - 224) * 64 + b1 - 128) * 64 + b2 - 128, 3)
  else if 240 ≤ b0 ∧ b0 < 245 ∧ 4 ≤ n ∧ 128 ≤ b1 ∧ b1 ≤ 191 ∧ 128 ≤ b2 ∧ b2 ≤ 191 ∧ 128 ≤ b3 ∧ b3 ≤ 191 ∧ 65536 ≤ (((b0 - 240) * 64 + b1 - 128) * 64 + b2 - 128) * 64 + b3 - 128 ∧ (((b0 - 240) * 64 + b1 - 128) * 64 + b2 - 128) * 64 + b3 - 128 ≤ 1114111 then ((((b0 - 240) * 64 + b1 - 128) * 64 + b2 - 128) * 64 + b3 - 128, 4)
  else (-1, 0)
def decAt (s : ByteArray) (i : Int) : Int × Int := decZ ((s.size : Int) - i) (bt s i) (bt s (i + 1)) (bt s (i + 2)) (bt s (i + 3))
/-- Go's decoder's answer, as RuneAt tells it. -/
def asAt (d : Nat × Nat) : Int × Int := if d.1 = 65533 ∧ d.2 < 2 then (-1, 0) else ((d.1 : Int), (d.2 : Int))
theorem asAt_bad : asAt (65533, 1) = (-1, 0) := rfl
theorem asAt_ok (a b : Nat) (h : ¬ (a = 65533 ∧ b < 2)) : asAt (a, b) = ((a : Int), (b : Int)) := by unfold asAt; rw [if_neg h]
theorem dec_go (n b0 b1 b2 b3 : Nat) (hn : 1 ≤ n) (h0 : b0 < 256) (h1 : b1 < 256) (h2 : b2 < 256) (h3 : b3 < 256) :
    asAt (Lib.decodeN n b0 b1 b2 b3) = decZ n b0 b1 b2 b3 := by
  by_cases c0 : b0 < 128
  · have l : Lib.decodeN n b0 b1 b2 b3 = (b0, 1) := by unfold Lib.decodeN; rw [if_pos c0]
    have r : decZ n b0 b1 b2 b3 = ((b0 : Int), 1) := by unfold decZ; rw [if_neg (by omega), if_pos (by omega)]
    rw [l, r, asAt_ok _ _ (by omega)]; rfl
  by_cases k2 : b0 / 32 = 6 ∧ (1 < n ∧ b1 / 64 = 2)
  · by_cases c : b0 % 32 * 64 + b1 % 64 ≥ 128
    · have l : Lib.decodeN n b0 b1 b2 b3 = (b0 % 32 * 64 + b1 % 64, 2) := by unfold Lib.decodeN; rw [if_neg c0, if_pos k2, if_pos c]
      have r : decZ n b0 b1 b2 b3 = (((b0 : Int) - 192) * 64 + b1 - 128, 2) := by unfold decZ; rw [if_neg (by omega), if_neg (by omega), if_pos (by omega)]
      rw [l, r, asAt_ok _ _ (by omega)]
      refine Prod.ext ?_ ?_ <;> simp only [] <;> omega
    · have l : Lib.decodeN n b0 b1 b2 b3 = (65533, 1) := by unfold Lib.decodeN; rw [if_neg c0, if_pos k2, if_neg c]
      have r : decZ n b0 b1 b2 b3 = (-1, 0) := by unfold decZ; rw [if_neg (by omega), if_neg (by omega), if_neg (by omega), if_neg (by omega), if_neg (by omega)]
      rw [l, r]; rfl
  by_cases k3 : b0 / 16 = 14 ∧ (1 < n ∧ b1 / 64 = 2) ∧ (2 < n ∧ b2 / 64 = 2)
  · by_cases c : b0 % 16 * 4096 + b1 % 64 * 64 + b2 % 64 ≥ 2048 ∧ (b0 % 16 * 4096 + b1 % 64 * 64 + b2 % 64 < 55296 ∨ (57344 ≤ b0 % 16 * 4096 + b1 % 64 * 64 + b2 % 64 ∧ b0 % 16 * 4096 + b1 % 64 * 64 + b2 % 64 ≤ 1114111))
    · have l : Lib.decodeN n b0 b1 b2 b3 = (b0 % 16 * 4096 + b1 % 64 * 64 + b2 % 64, 3) := by unfold Lib.decodeN; rw [if_neg c0, if_neg k2, if_pos k3, if_pos c]
      have r : decZ n b0 b1 b2 b3 = ((((b0 : Int) - 224) * 64 + b1 - 128) * 64 + b2 - 128, 3) := by unfold decZ; rw [if_neg (by omega), if_neg (by omega), if_neg (by omega), if_pos (by omega)]
      rw [l, r, asAt_ok _ _ (by omega)]
      refine Prod.ext ?_ ?_ <;> simp only [] <;> omega
    · have l : Lib.decodeN n b0 b1 b2 b3 = (65533, 1) := by unfold Lib.decodeN; rw [if_neg c0, if_neg k2, if_pos k3, if_neg c]
      have r : decZ n b0 b1 b2 b3 = (-1, 0) := by unfold decZ; rw [if_neg (by omega), if_neg (by omega), if_neg (by omega), if_neg (by omega), if_neg (by omega)]
      rw [l, r]; rfl
  by_cases k4 : b0 / 8 = 30 ∧ (1 < n ∧ b1 / 64 = 2) ∧ (2 < n ∧ b2 / 64 = 2) ∧ (3 < n ∧ b3 / 64 = 2)
  · by_cases c : b0 % 8 * 262144 + b1 % 64 * 4096 + b2 % 64 * 64 + b3 % 64 ≥ 65536 ∧ (b0 % 8 * 262144 + b1 % 64 * 4096 + b2 % 64 * 64 + b3 % 64 < 55296 ∨ (57344 ≤ b0 % 8 * 262144 + b1 % 64 * 4096 + b2 % 64 * 64 + b3 % 64 ∧ b0 % 8 * 262144 + b1 % 64 * 4096 + b2 % 64 * 64 + b3 % 64 ≤ 1114111))
    · have l : Lib.decodeN n b0 b1 b2 b3 = (b0 % 8 * 262144 + b1 % 64 * 4096 + b2 % 64 * 64 + b3 % 64, 4) := by unfold Lib.decodeN; rw [if_neg c0, if_neg k2, if_neg k3, if_pos k4, if_pos c]
      have r : decZ n b0 b1 b2 b3 = (((((b0 : Int) - 240) * 64 + b1 - 128) * 64 + b2 - 128) * 64 + b3 - 128, 4) := by unfold decZ; rw [if_neg (by omega), if_neg (by omega), if_neg (by omega), if_neg (by omega), if_pos (by omega)]
      rw [l, r, asAt_ok _ _ (by omega)]
      refine Prod.ext ?_ ?_ <;> simp only [] <;> omega
    · have l : Lib.decodeN n b0 b1 b2 b3 = (65533, 1) := by unfold Lib.decodeN; rw [if_neg c0, if_neg k2, if_neg k3, if_pos k4, if_neg c]
      have r : decZ n b0 b1 b2 b3 = (-1, 0) := by unfold decZ; rw [if_neg (by omega), if_neg (by omega), if_neg (by omega), if_neg (by omega), if_neg (by omega)]
      rw [l, r]; rfl
  have l : Lib.decodeN n b0 b1 b2 b3 = (65533, 1) := by unfold Lib.decodeN; rw [if_neg c0, if_neg k2, if_neg k3, if_neg k4]
  have r : decZ n b0 b1 b2 b3 = (-1, 0) := by unfold decZ; rw [if_neg (by omega), if_neg (by omega), if_neg (by omega), if_neg (by omega), if_neg (by omega)]
  rw [l, r]; rfl
theorem bt_get (s : ByteArray) (k : Nat) : (((s.get! k).toNat : Nat) : Int) = bt s k := by
  unfold bt
  by_cases h : k < s.size
  · rw [dif_pos (by simpa using h)]
    have : s.get! k = s[k]'h := by
      show s.data[k]! = s.data[k]'h
      exact getElem!_pos s.data k h
    rw [this]; rfl
  · rw [dif_neg (by simpa using h)]
    have : s.get! k = 0 := by
      show s.data[k]! = 0
      rw [getElem!_neg s.data k (by exact h)]; rfl
    rw [this]; rfl
theorem bt_tl (s : ByteArray) (i : Int) (h0 : 0 ≤ i) (k : Nat) : bt (s.extract i.toNat s.size) k = bt s (i + k) := by
  rw [← rd_bytesOf, ← rd_bytesOf, extract_tl]
  unfold rd tl
  simp only [Int.toNat_natCast, List.getD_eq_getElem?_getD, List.getElem?_drop]
  rw [show (i + (k : Int)).toNat = i.toNat + k from by omega]
theorem get_lt (s : ByteArray) (k : Nat) : (s.get! k).toNat < 256 := (s.get! k).toNat_lt
theorem decAt_zero (t : ByteArray) (h : 0 < t.size) : asAt (Utf8.decode t 0) = decAt t 0 := by
  rw [Lib.decode_at t 0, dec_go _ _ _ _ _ (by omega) (get_lt _ _) (get_lt _ _) (get_lt _ _) (get_lt _ _)]
  unfold decAt
  rw [bt_get, bt_get, bt_get, bt_get]
  simp
theorem decAt_tl (s : ByteArray) (i : Int) (h0 : 0 ≤ i) (h1 : i < (s.size : Int)) : decAt (s.extract i.toNat s.size) 0 = decAt s i := by
  have hs : ((s.extract i.toNat s.size).size : Int) = (s.size : Int) - i := by rw [size_extract]; omega
  unfold decAt
  rw [hs]
  have e0 := bt_tl s i h0 0
  have e1 := bt_tl s i h0 1
  have e2 := bt_tl s i h0 2
  have e3 := bt_tl s i h0 3
  have z0 : bt (s.extract i.toNat s.size) 0 = bt s i := by have := e0; rwa [show ((0 : Nat) : Int) = 0 from rfl, Int.add_zero] at this
  have z1 : bt (s.extract i.toNat s.size) (0 + 1) = bt s (i + 1) := e1
  have z2 : bt (s.extract i.toNat s.size) (0 + 2) = bt s (i + 2) := e2
  have z3 : bt (s.extract i.toNat s.size) (0 + 3) = bt s (i + 3) := e3
  rw [z0, z1, z2, z3, Int.sub_zero]
theorem decAt_out (s : ByteArray) (i : Int) (h1 : (s.size : Int) ≤ i) : decAt s i = (-1, 0) := by
  unfold decAt decZ; rw [if_pos (by omega)]
theorem runeText_size (n : Int) : ((runeTextL n).size : Int) = if scalB n = true then (if n < 128 then 1 else if n < 2048 then 2 else if n < 65536 then 3 else 4) else 0 := by
  unfold runeTextL
  by_cases h : scalB n = true
  · rw [if_pos h, if_pos h, ← size_bytes]
    unfold strOfNums bytesOf runeL
    by_cases c1 : n < 128
    · rw [if_pos c1, if_pos c1]; rfl
    · rw [if_neg c1, if_neg c1]
      by_cases c2 : n < 2048
      · rw [if_pos c2, if_pos c2]; rfl
      · rw [if_neg c2, if_neg c2]
        by_cases c3 : n < 65536
        · rw [if_pos c3, if_pos c3]; rfl
        · rw [if_neg c3, if_neg c3]; rfl
  · rw [if_neg h, if_neg h]; rfl
theorem rs2 (n : Int) : ((runeTextL n).size : Int) = 2 ↔ 128 ≤ n ∧ n < 2048 := by
  rw [runeText_size]
  by_cases h : scalB n = true
  · rw [if_pos h]; repeat' split
    all_goals omega
  · rw [if_neg h]
    constructor
    · intro h; omega
    · intro g; exfalso; apply h; unfold scalB; simp; omega
theorem rs3 (n : Int) : ((runeTextL n).size : Int) = 3 ↔ (2048 ≤ n ∧ n < 65536 ∧ ¬ (55296 ≤ n ∧ n ≤ 57343)) := by
  rw [runeText_size]
  by_cases h : scalB n = true
  · have g := h
    unfold scalB at g; simp only [Bool.and_eq_true, decide_eq_true_eq, Bool.not_eq_true', decide_eq_false_iff_not] at g
    rw [if_pos h]; repeat' split
    all_goals omega
  · rw [if_neg h]
    constructor
    · intro h; omega
    · intro g; exfalso; apply h; unfold scalB; simp; omega
theorem rs4 (n : Int) : ((runeTextL n).size : Int) = 4 ↔ (65536 ≤ n ∧ n ≤ 1114111) := by
  rw [runeText_size]
  by_cases h : scalB n = true
  · have g := h
    unfold scalB at g; simp only [Bool.and_eq_true, decide_eq_true_eq, Bool.not_eq_true', decide_eq_false_iff_not] at g
    rw [if_pos h]; repeat' split
    all_goals omega
  · rw [if_neg h]
    constructor
    · intro h; omega
    · intro g; exfalso; apply h; unfold scalB; simp; omega

theorem spec_RuneAt.last (s : ByteArray) (i m n : Int) : Ev (fun k => spec_RuneAt.l0 k s i m n m) (if ((runeTextL n).size : Int) = m then (n, m) else (-1, 0)) := by
  apply Ev.succ; simp only [spec_RuneAt.l0]
  refine Ev.ite_neg (by omega) (Ev.bindc (spec_RuneText.eq n) ?_)
  by_cases c : ((runeTextL n).size : Int) = m
  · have e : (if ((runeTextL n).size : Int) = m then (n, m) else ((-1 : Int), (0 : Int))) = (n, m) := if_pos c
    rw [e]; exact Ev.ite_pos c (Ev.done rfl)
  · have e : (if ((runeTextL n).size : Int) = m then (n, m) else ((-1 : Int), (0 : Int))) = (-1, 0) := if_neg c
    rw [e]; exact Ev.ite_neg c (Ev.done rfl)
theorem spec_RuneAt.step (s : ByteArray) (hs : s.size ≤ 140737488351232) (i m n j : Int) (r : Int × Int) (h0 : 0 ≤ i) (hj0 : 0 ≤ j) (hj : j < m) (hm : m ≤ 4) (hi : i + m ≤ (s.size : Int)) (hn : 0 ≤ n) (hn1 : n ≤ 1000000)
    (h : 128 ≤ bt s (i + j) → bt s (i + j) ≤ 191 → Ev (fun k => spec_RuneAt.l0 k s i m (n * 64 + bt s (i + j) - 128) (j + 1)) r) (hb : ¬ (128 ≤ bt s (i + j) ∧ bt s (i + j) ≤ 191) → r = (-1, 0)) :
    Ev (fun k => spec_RuneAt.l0 k s i m n j) r := by
  have hr := bt_range s (i + j)
  apply Ev.succ; simp only [spec_RuneAt.l0]
  rw [w64 (x := i + j) (by omega) (by omega), w64 (x := bt s (i + j)) (by omega) (by omega), w64 (x := n * 64) (by omega) (by omega), w64 (x := n * 64 + bt s (i + j)) (by omega) (by omega), w64 (x := n * 64 + bt s (i + j) - 128) (by omega) (by omega), w64 (x := j + 1) (by omega) (by omega)]
  refine Ev.ite_pos hj (Ev.ite_pos (by omega) (Ev.ite_pos (by omega) ?_))
  by_cases c1 : bt s (i + j) < 128
  · rw [hb (by omega)]; exact Ev.ite_pos c1 (Ev.done rfl)
  · refine Ev.ite_neg c1 ?_
    by_cases c2 : bt s (i + j) > 191
    · rw [hb (by omega)]; exact Ev.ite_pos c2 (Ev.done rfl)
    · exact Ev.ite_neg c2 (h (by omega) (by omega))
theorem spec_RuneAt.two (s : ByteArray) (hs : s.size ≤ 140737488351232) (i : Int) (h0 : 0 ≤ i) (h1 : i < (s.size : Int)) (hb : 194 ≤ bt s i ∧ bt s i < 224) : Ev (fun k => spec_RuneAt.j3 k s i 2 (bt s i - 192)) (decAt s i) := by
  apply Ev.succ; simp only [spec_RuneAt.j3]
  rw [w64 (x := i + 2) (by omega) (by omega)]
  have hD : decAt s i = if 2 ≤ (s.size : Int) - i ∧ 128 ≤ bt s (i + 1) ∧ bt s (i + 1) ≤ 191 then ((bt s i - 192) * 64 + bt s (i + 1) - 128, 2) else (-1, 0) := by
    unfold decAt decZ
    rw [if_neg (by omega), if_neg (by omega)]
    by_cases g : 2 ≤ (s.size : Int) - i ∧ 128 ≤ bt s (i + 1) ∧ bt s (i + 1) ≤ 191
    · rw [if_pos ⟨hb.1, hb.2, g⟩, if_pos g]
    · rw [if_neg (fun h => g h.2.2), if_neg (by omega), if_neg (by omega), if_neg g]
  by_cases c : i + 2 > (s.size : Int)
  · rw [hD, if_neg (by omega)]; exact Ev.ite_pos c (Ev.done rfl)
  · refine Ev.ite_neg c (spec_RuneAt.step s hs i 2 _ 1 _ h0 (by omega) (by omega) (by omega) (by omega) (by omega) (by omega) ?_ ?_)
    · intro a1 a2
      rw [hD, if_pos (by omega)]
      refine (spec_RuneAt.last s i 2 _).get ?_
      rw [if_pos ((rs2 _).2 (by omega))]
    · intro hn
      rw [hD, if_neg (by omega)]
theorem spec_RuneAt.three (s : ByteArray) (hs : s.size ≤ 140737488351232) (i : Int) (h0 : 0 ≤ i) (h1 : i < (s.size : Int)) (hb : 224 ≤ bt s i ∧ bt s i < 240) : Ev (fun k => spec_RuneAt.j3 k s i 3 (bt s i - 224)) (decAt s i) := by
  apply Ev.succ; simp only [spec_RuneAt.j3]
  rw [w64 (x := i + 3) (by omega) (by omega)]
  have hr1 := bt_range s (i + 1)
  have hr2 := bt_range s (i + 2)
  generalize hN : ((bt s i - 224) * 64 + bt s (i + 1) - 128) * 64 + bt s (i + 2) - 128 = N
  have hD : decAt s i = if 3 ≤ (s.size : Int) - i ∧ 128 ≤ bt s (i + 1) ∧ bt s (i + 1) ≤ 191 ∧ 128 ≤ bt s (i + 2) ∧ bt s (i + 2) ≤ 191 ∧ 2048 ≤ N ∧ ¬ (55296 ≤ N ∧ N ≤ 57343) then (N, 3) else (-1, 0) := by
    unfold decAt decZ
    rw [if_neg (by omega), if_neg (by omega), if_neg (by omega), hN]
    by_cases g : 3 ≤ (s.size : Int) - i ∧ 128 ≤ bt s (i + 1) ∧ bt s (i + 1) ≤ 191 ∧ 128 ≤ bt s (i + 2) ∧ bt s (i + 2) ≤ 191 ∧ 2048 ≤ N ∧ ¬ (55296 ≤ N ∧ N ≤ 57343)
    · rw [if_pos ⟨hb.1, hb.2, g⟩, if_pos g]
    · rw [if_neg (fun h => g h.2.2), if_neg (fun h => absurd h.1 (by omega)), if_neg g]
  by_cases c : i + 3 > (s.size : Int)
  · rw [hD, if_neg (fun h => absurd h.1 (by omega))]; exact Ev.ite_pos c (Ev.done rfl)
  · refine Ev.ite_neg c (spec_RuneAt.step s hs i 3 _ 1 _ h0 (by omega) (by omega) (by omega) (by omega) (by omega) (by omega) ?_ ?_)
    · intro a1 a2
      refine spec_RuneAt.step s hs i 3 _ 2 _ h0 (by omega) (by omega) (by omega) (by omega) (by omega) (by omega) ?_ ?_
      · intro a3 a4
        refine (spec_RuneAt.last s i 3 _).get ?_
        rw [hN, hD]
        by_cases g : 2048 ≤ N ∧ ¬ (55296 ≤ N ∧ N ≤ 57343)
        · rw [if_pos ((rs3 N).2 ⟨g.1, by omega, g.2⟩), if_pos ⟨by omega, a1, a2, a3, a4, g⟩]
        · rw [if_neg (fun h => g ⟨((rs3 N).1 h).1, ((rs3 N).1 h).2.2⟩), if_neg (fun h => g h.2.2.2.2.2)]
      · intro hn
        rw [hD, if_neg (fun h => hn ⟨h.2.2.2.1, h.2.2.2.2.1⟩)]
    · intro hn
      rw [hD, if_neg (fun h => hn ⟨h.2.1, h.2.2.1⟩)]
theorem spec_RuneAt.four (s : ByteArray) (hs : s.size ≤ 140737488351232) (i : Int) (h0 : 0 ≤ i) (h1 : i < (s.size : Int)) (hb : 240 ≤ bt s i ∧ bt s i < 245) : Ev (fun k => spec_RuneAt.j3 k s i 4 (bt s i - 240)) (decAt s i) := by
  apply Ev.succ; simp only [spec_RuneAt.j3]
  rw [w64 (x := i + 4) (by omega) (by omega)]
  have hr1 := bt_range s (i + 1)
  have hr2 := bt_range s (i + 2)
  have hr3 := bt_range s (i + 3)
  generalize hN : (((bt s i - 240) * 64 + bt s (i + 1) - 128) * 64 + bt s (i + 2) - 128) * 64 + bt s (i + 3) - 128 = N
  have hD : decAt s i = if 4 ≤ (s.size : Int) - i ∧ 128 ≤ bt s (i + 1) ∧ bt s (i + 1) ≤ 191 ∧ 128 ≤ bt s (i + 2) ∧ bt s (i + 2) ≤ 191 ∧ 128 ≤ bt s (i + 3) ∧ bt s (i + 3) ≤ 191 ∧ 65536 ≤ N ∧ N ≤ 1114111 then (N, 4) else (-1, 0) := by
    unfold decAt decZ
    rw [if_neg (by omega), if_neg (by omega), if_neg (by omega), if_neg (fun h => absurd h.2.1 (by omega)), hN]
    by_cases g : 4 ≤ (s.size : Int) - i ∧ 128 ≤ bt s (i + 1) ∧ bt s (i + 1) ≤ 191 ∧ 128 ≤ bt s (i + 2) ∧ bt s (i + 2) ≤ 191 ∧ 128 ≤ bt s (i + 3) ∧ bt s (i + 3) ≤ 191 ∧ 65536 ≤ N ∧ N ≤ 1114111
    · rw [if_pos ⟨hb.1, hb.2, g⟩, if_pos g]
    · rw [if_neg (fun h => g h.2.2), if_neg g]
  by_cases c : i + 4 > (s.size : Int)
  · rw [hD, if_neg (fun h => absurd h.1 (by omega))]; exact Ev.ite_pos c (Ev.done rfl)
  · refine Ev.ite_neg c (spec_RuneAt.step s hs i 4 _ 1 _ h0 (by omega) (by omega) (by omega) (by omega) (by omega) (by omega) ?_ ?_)
    · intro a1 a2
      refine spec_RuneAt.step s hs i 4 _ 2 _ h0 (by omega) (by omega) (by omega) (by omega) (by omega) (by omega) ?_ ?_
      · intro a3 a4
        refine spec_RuneAt.step s hs i 4 _ 3 _ h0 (by omega) (by omega) (by omega) (by omega) (by omega) (by omega) ?_ ?_
        · intro a5 a6
          refine (spec_RuneAt.last s i 4 _).get ?_
          rw [hN, hD]
          by_cases g : 65536 ≤ N ∧ N ≤ 1114111
          · rw [if_pos ((rs4 N).2 g), if_pos ⟨by omega, a1, a2, a3, a4, a5, a6, g⟩]
          · rw [if_neg (fun h => g ((rs4 N).1 h)), if_neg (fun h => g h.2.2.2.2.2.2.2)]
        · intro hn
          rw [hD, if_neg (fun h => hn ⟨h.2.2.2.2.2.1, h.2.2.2.2.2.2.1⟩)]
      · intro hn
        rw [hD, if_neg (fun h => hn ⟨h.2.2.2.1, h.2.2.2.2.1⟩)]
    · intro hn
      rw [hD, if_neg (fun h => hn ⟨h.2.1, h.2.2.1⟩)]
theorem spec_RuneAt.ev (s : ByteArray) (hs : s.size ≤ 140737488351232) (i : Int) : Ev (fun k => spec_RuneAt.f k s i) (if 0 ≤ i then decAt s i else (-1, 0)) := by
  unfold spec_RuneAt.f
  by_cases c0 : i < 0
  · rw [if_neg (by omega)]
    refine Ev.ite_pos c0 ?_
    apply Ev.succ; simp only [spec_RuneAt.j0, if_true]; exact Ev.done rfl
  · rw [if_pos (by omega)]
    refine Ev.ite_neg c0 ?_
    apply Ev.succ; simp only [spec_RuneAt.j0]
    by_cases c1 : i ≥ (s.size : Int)
    · rw [decAt_out s i c1]; exact Ev.ite_pos (by simp; omega) (Ev.done rfl)
    · have hr := bt_range s i
      rw [w64 (x := bt s i) (by omega) (by omega)]
      refine Ev.ite_neg (by simp; omega) (Ev.ite_pos (by omega) (Ev.ite_pos (by omega) ?_))
      by_cases c2 : bt s i < 128
      · refine Ev.ite_pos c2 (Ev.done ?_)
        unfold decAt decZ; rw [if_neg (by omega), if_pos c2]
      · refine Ev.ite_neg c2 ?_
        have w1 : wrap64 (bt s i - 192) = bt s i - 192 := w64 (by omega) (by omega)
        have w2 : wrap64 (bt s i - 224) = bt s i - 224 := w64 (by omega) (by omega)
        have w3 : wrap64 (bt s i - 240) = bt s i - 240 := w64 (by omega) (by omega)
        have hbad : ¬ (194 ≤ bt s i ∧ bt s i < 224) → ¬ (224 ≤ bt s i ∧ bt s i < 240) → ¬ (240 ≤ bt s i ∧ bt s i < 245) → decAt s i = (-1, 0) := by
          intro a b c
          unfold decAt decZ; rw [if_neg (by omega), if_neg c2, if_neg (by omega), if_neg (by omega), if_neg (by omega)]
        have hj2 : ¬ (194 ≤ bt s i ∧ bt s i < 224) → ∀ b, b = decide (224 ≤ bt s i ∧ bt s i < 240) → Ev (fun k => spec_RuneAt.j2 k s i (bt s i) b) (decAt s i) := by
          rintro g b rfl
          apply Ev.succ; simp only [spec_RuneAt.j2, w2, w3]
          by_cases d : 224 ≤ bt s i ∧ bt s i < 240
          · exact Ev.ite_pos (by simp [d]) (spec_RuneAt.three s hs i (by omega) (by omega) d)
          · refine Ev.ite_neg (by simpa using d) ?_
            by_cases d2 : bt s i ≥ 240
            · refine Ev.ite_pos d2 ?_
              by_cases d3 : bt s i < 245
              · exact Ev.ite_pos d3 (spec_RuneAt.four s hs i (by omega) (by omega) ⟨d2, d3⟩)
              · rw [hbad g d (by omega)]; exact Ev.ite_neg d3 (Ev.done rfl)
            · rw [hbad g d (by omega)]; exact Ev.ite_neg d2 (Ev.done rfl)
        have hj1 : ∀ b, b = decide (194 ≤ bt s i ∧ bt s i < 224) → Ev (fun k => spec_RuneAt.j1 k s i (bt s i) b) (decAt s i) := by
          rintro b rfl
          apply Ev.succ; simp only [spec_RuneAt.j1, w1]
          by_cases d : 194 ≤ bt s i ∧ bt s i < 224
          · exact Ev.ite_pos (by simp [d]) (spec_RuneAt.two s hs i (by omega) (by omega) d)
          · refine Ev.ite_neg (by simpa using d) ?_
            by_cases d2 : bt s i ≥ 224
            · exact Ev.ite_pos d2 (hj2 d _ (by rw [Bool.eq_iff_iff]; simp; omega))
            · exact Ev.ite_neg d2 (hj2 d _ (by rw [Bool.eq_iff_iff]; simp; omega))
        by_cases d : bt s i ≥ 194
        · exact Ev.ite_pos d (hj1 _ (by rw [Bool.eq_iff_iff]; simp; omega))
        · exact Ev.ite_neg d (hj1 _ (by rw [Bool.eq_iff_iff]; simp; omega))

def textOkS (s : ByteArray) : Bool := Lib.validD s.data.toList
theorem decAt_of (s : ByteArray) (i : Nat) (h : i < s.size) : asAt (Utf8.decode s i) = decAt s i := by
  rw [Lib.decode_at s i, dec_go _ _ _ _ _ (by omega) (get_lt _ _) (get_lt _ _) (get_lt _ _) (get_lt _ _)]
  unfold decAt
  rw [bt_get, bt_get, bt_get, bt_get]
  rw [show ((s.size - i : Nat) : Int) = (s.size : Int) - (i : Int) from by omega]; rfl
/-- What a step of the decoder comes to. -/
theorem dec_step (s : ByteArray) (i : Int) (h0 : 0 ≤ i) (h1 : i < (s.size : Int)) :
    (decAt s i = (-1, 0) ∧ Lib.validD (s.data.toList.drop i.toNat) = false) ∨
    (0 ≤ (decAt s i).1 ∧ 1 ≤ (decAt s i).2 ∧ (decAt s i).2 ≤ 4 ∧ i + (decAt s i).2 ≤ (s.size : Int) ∧ Lib.validD (s.data.toList.drop i.toNat) = Lib.validD (s.data.toList.drop (i + (decAt s i).2).toNat)) := by
  obtain ⟨p, rfl⟩ := Int.eq_ofNat_of_zero_le h0
  have hp : p < s.size := by omega
  have hl : s.data.toList.length = s.size := by rw [Array.length_toList]; rfl
  have hne : s.data.toList.drop p ≠ [] := by
    intro h; have := congrArg List.length h; rw [List.length_drop, hl] at this; simp at this; omega
  have hw := Lib.decodeL_width (s.data.toList.drop p)
  have hle := Lib.decodeL_le (s.data.toList.drop p) hne
  have hst := Lib.validD_step (s.data.toList.drop p) hne
  rw [Lib.decodeL_drop] at hw hle hst
  have ha := decAt_of s p hp
  have h4 : (Utf8.decode s p).2 ≤ 4 := by
    rw [Lib.decode_at]; unfold Lib.decodeN
    repeat' split
    all_goals (simp only []; omega)
  rw [List.length_drop, hl] at hle
  rw [Int.toNat_natCast]
  by_cases c : (Utf8.decode s p).1 = 65533 ∧ (Utf8.decode s p).2 = 1
  · left
    rw [if_pos c] at hst
    refine ⟨?_, hst⟩
    rw [← ha]; unfold asAt; rw [if_pos ⟨c.1, by omega⟩]
  · right
    rw [if_neg c] at hst
    have e : decAt s p = (((Utf8.decode s p).1 : Int), ((Utf8.decode s p).2 : Int)) := by
      rw [← ha]; unfold asAt; rw [if_neg (fun h => c ⟨h.1, by omega⟩)]
    rw [e]
    refine ⟨by simp only []; omega, by simp only []; omega, by simp only []; omega, by simp only []; omega, ?_⟩
    rw [hst, List.drop_drop]
    congr 2

def hexV (x : Int) : Int := if 48 ≤ x ∧ x ≤ 57 then x - 48 else if 97 ≤ x ∧ x ≤ 102 then x - 87 else if 65 ≤ x ∧ x ≤ 70 then x - 55 else -1
theorem hexV_range (x : Int) : -1 ≤ hexV x ∧ hexV x ≤ 15 := by
  unfold hexV
  split
  · omega
  · split
    · omega
    · split <;> omega
def negF (v : Int) (b : Bool) : Int × Bool := if v < 0 then (0, false) else (v, b)
/-- The number that m hex figures spell, behind one that is spelled already; -1: there are not so many. -/
def numN : Nat → List Int → Int → Int
  | 0, _, a => a
  | _ + 1, [], _ => -1
  | m + 1, x :: r, a => if hexV x < 0 then -1 else numN m r (a * 16 + hexV x)
theorem numN_range (m : Nat) : ∀ (q : List Int) (a : Int), 0 ≤ a → numN m q a = -1 ∨ (0 ≤ numN m q a ∧ numN m q a < (a + 1) * 16 ^ m) := by
  induction m with
  | zero => intro q a h; right; simp only [numN]; omega
  | succ m ih =>
    intro q a h
    cases q with
    | nil => left; rfl
    | cons x r =>
      simp only [numN]
      have hx := hexV_range x
      split
      · left; rfl
      · rcases ih r (a * 16 + hexV x) (by omega) with h1 | h1
        · exact Or.inl h1
        · right
          refine ⟨h1.1, Int.lt_of_lt_of_le h1.2 ?_⟩
          rw [Int.pow_succ, show (a + 1) * (16 ^ m * 16) = ((a + 1) * 16) * 16 ^ m from by rw [Int.mul_assoc, Int.mul_comm 16]]
          exact Int.mul_le_mul_of_nonneg_right (by omega) (Int.le_of_lt (Int.pow_pos (by decide)))
theorem numN_small (m : Nat) (hm : m ≤ 7) (q : List Int) : -1 ≤ numN m q 0 ∧ numN m q 0 < 268435456 := by
  have hp : (16 : Int) ^ m ≤ 16 ^ 7 := by exact_mod_cast Nat.pow_le_pow_right (by decide) hm
  rcases numN_range m q 0 (by omega) with h | h
  · omega
  · omega
theorem numN_short (m : Nat) : ∀ (q : List Int) (a : Int), q.length < m → numN m q a = -1 := by
  induction m with
  | zero => intro q a h; omega
  | succ m ih =>
    intro q a h
    cases q with
    | nil => rfl
    | cons x r =>
      simp only [numN]
      split
      · rfl
      · exact ih r _ (by simp at h; omega)
theorem numN_take (m : Nat) : ∀ (q : List Int) (a : Int) (j : Nat), m ≤ j → numN m (q.take j) a = numN m q a := by
  induction m with
  | zero => intro q a j h; rfl
  | succ m ih =>
    intro q a j h
    cases q with
    | nil => simp
    | cons x r =>
      obtain ⟨j, rfl⟩ : ∃ i, j = i + 1 := ⟨j - 1, by omega⟩
      simp only [List.take_succ_cons, numN]
      rw [ih r _ j (by omega)]

theorem spec_l04Digit.ev (x : Int) (h0 : 0 ≤ x) (h1 : x ≤ 255) : Ev (fun k => spec_l04Digit.f k x) (hexV x) := by
  unfold spec_l04Digit.f
  have h2 : ∀ b, b = decide (97 ≤ x ∧ x ≤ 102) → ¬ (48 ≤ x ∧ x ≤ 57) → Ev (fun k => spec_l04Digit.j1 k x b) (hexV x) := by
    rintro b rfl hn
    apply Ev.succ; simp only [spec_l04Digit.j1]
    unfold hexV
    rw [w64 (x := x) (by omega) (by omega), w64 (x := x - 87) (by omega) (by omega), w64 (x := x - 55) (by omega) (by omega), if_neg hn]
    by_cases c : 97 ≤ x ∧ x ≤ 102
    · refine Ev.ite_pos (by simp [c]) (Ev.done ?_)
      rw [if_pos c]
    · refine Ev.ite_neg (by simp [c]) ?_
      rw [if_neg c]
      by_cases c1 : x ≥ 65
      · refine Ev.ite_pos c1 ?_
        by_cases c2 : x ≤ 70
        · refine Ev.ite_pos c2 (Ev.done ?_); rw [if_pos ⟨c1, c2⟩]
        · refine Ev.ite_neg c2 (Ev.done ?_); rw [if_neg (by omega)]
      · refine Ev.ite_neg c1 (Ev.done ?_); rw [if_neg (by omega)]
  have hj : ∀ b, b = decide (48 ≤ x ∧ x ≤ 57) → Ev (fun k => spec_l04Digit.j0 k x b) (hexV x) := by
    rintro b rfl
    apply Ev.succ; simp only [spec_l04Digit.j0]
    by_cases c : 48 ≤ x ∧ x ≤ 57
    · refine Ev.ite_pos (by simp [c]) (Ev.done ?_)
      rw [w64 (x := x) (by omega) (by omega), w64 (x := x - 48) (by omega) (by omega), hexV, if_pos c]
    · refine Ev.ite_neg (by simp [c]) ?_
      by_cases c1 : x ≥ 97
      · refine Ev.ite_pos c1 (h2 _ ?_ c); rw [Bool.eq_iff_iff]; simp; omega
      · refine Ev.ite_neg c1 (h2 _ ?_ c); rw [Bool.eq_iff_iff]; simp; omega
  by_cases c : x ≥ 48
  · refine Ev.ite_pos c (hj _ ?_); rw [Bool.eq_iff_iff]; simp; omega
  · refine Ev.ite_neg c (hj _ ?_); rw [Bool.eq_iff_iff]; simp; omega

theorem spec_l04Num.l0_ev (s : ByteArray) (hs : s.size ≤ 140737488351232) (m : Nat) (hm : m ≤ 7) : ∀ (a i : Int), 0 ≤ i → i ≤ 140737488351240 → 0 ≤ a → a < 16 ^ (7 - m) →
    Ev (fun k => spec_l04Num.l0 k s (i + m) a i) (numN m (tl s i) a) := by
  induction m with
  | zero =>
    intro a i h0 hi ha0 ha
    apply Ev.succ; simp only [spec_l04Num.l0]
    exact Ev.ite_neg (by omega) (Ev.done rfl)
  | succ m ih =>
    intro a i h0 hi ha0 ha
    have hp : (16 : Int) ^ (7 - (m + 1)) ≤ 16 ^ 7 := by exact_mod_cast Nat.pow_le_pow_right (by decide) (by omega)
    apply Ev.succ; simp only [spec_l04Num.l0]
    refine Ev.ite_pos (by omega) ?_
    by_cases h1 : i ≥ (s.size : Int)
    · rw [tl_nil h1]
      exact Ev.ite_pos h1 (Ev.done rfl)
    · have hb := bt_range s i
      have hv := hexV_range (bt s i)
      rw [tl_cons h0 (by omega)]
      refine Ev.ite_neg h1 (Ev.ite_pos h0 (Ev.ite_pos (by omega) ((spec_l04Digit.ev (bt s i) (by omega) (by omega)).bind ?_)))
      simp only [numN]
      by_cases h2 : hexV (bt s i) < 0
      · rw [if_pos h2]; exact Ev.ite_pos h2 (Ev.done rfl)
      · rw [if_neg h2]
        refine Ev.ite_neg h2 ((spec_l04Digit.ev (bt s i) (by omega) (by omega)).bind ?_)
        rw [w64 (x := a * 16) (by omega) (by omega), w64 (x := a * 16 + hexV (bt s i)) (by omega) (by omega), w64 (x := i + 1) (by omega) (by omega)]
        have := ih (by omega) (a * 16 + hexV (bt s i)) (i + 1) (by omega) (by omega) (by omega) (by
          rw [show 7 - m = (7 - (m + 1)) + 1 from by omega, Int.pow_succ]; omega)
        rw [show i + 1 + (m : Int) = i + ((m + 1 : Nat) : Int) from by omega] at this
        exact this
theorem spec_l04Num.ev (s : ByteArray) (hs : s.size ≤ 140737488351232) (i j : Int) (h0 : 0 ≤ i) (hi : i ≤ 140737488351240) (hij : i ≤ j) (hj : j ≤ i + 7) : Ev (fun k => spec_l04Num.f k s i j) (numN (j - i).toNat (tl s i) 0) := by
  unfold spec_l04Num.f
  have := spec_l04Num.l0_ev s hs (j - i).toNat (by omega) 0 i h0 hi (by omega) (Int.pow_pos (by decide))
  rw [show i + ((j - i).toNat : Int) = j from by omega] at this
  exact this

/-- How many hex figures stand at the begin. -/
def hexRun : List Int → Nat
  | [] => 0
  | x :: r => if hexV x < 0 then 0 else hexRun r + 1
theorem hexRun_le (q : List Int) : hexRun q ≤ q.length := by
  induction q with
  | nil => simp [hexRun]
  | cons x r ih => simp only [hexRun, List.length_cons]; split <;> omega
/-- What stands behind the escape u: the scalar, and how many bytes it takes. -/
def uniL (q : List Int) : Option (Int × Nat) :=
  if q.head? = some 123 then
    (if 1 ≤ hexRun q.tail ∧ hexRun q.tail ≤ 6 ∧ q.tail[hexRun q.tail]? = some 125 ∧ scalB (numN (hexRun q.tail) q.tail 0) = true then some (numN (hexRun q.tail) q.tail 0, hexRun q.tail + 2) else none)
  else if numN 4 q 0 < 0 then none
  else if 55296 ≤ numN 4 q 0 ∧ numN 4 q 0 ≤ 56319 then
    (if q[4]? = some 92 ∧ q[5]? = some 117 ∧ 56320 ≤ numN 4 (q.drop 6) 0 ∧ numN 4 (q.drop 6) 0 ≤ 57343 then some (65536 + 1024 * (numN 4 q 0 - 55296) + numN 4 (q.drop 6) 0 - 56320, 10) else none)
  else if scalB (numN 4 q 0) = true then some (numN 4 q 0, 4) else none
/-- What stands behind a backslash. -/
def escL1 (q : List Int) : Option (Int × Nat) := match q with
  | [] => none
  | x :: r => if x = 34 ∨ x = 92 ∨ x = 47 then some (x, 1) else if x = 98 then some (8, 1) else if x = 116 then some (9, 1) else if x = 110 then some (10, 1) else if x = 102 then some (12, 1) else if x = 114 then some (13, 1)
    else if x = 117 then (uniL r).map fun p => (p.1, p.2 + 1) else none
def atP (i : Int) (o : Option (Int × Nat)) : Int × Int := match o with | none => (-1, i) | some p => (p.1, i + 1 + p.2)
theorem tl_get (s : ByteArray) (i : Int) (h0 : 0 ≤ i) (k : Nat) : (tl s i)[k]? = if i + k < (s.size : Int) then some (bt s (i + k)) else none := by
  unfold tl
  rw [List.getElem?_drop]
  by_cases h : i + k < (s.size : Int)
  · rw [if_pos h, List.getElem?_eq_getElem (by rw [size_bytes]; omega), bytes_get s (i.toNat + k) (by omega), show ((i.toNat + k : Nat) : Int) = i + k from by omega]
  · rw [if_neg h, List.getElem?_eq_none (by rw [size_bytes]; omega)]
theorem tl_drop (s : ByteArray) (i : Int) (h0 : 0 ≤ i) (k : Nat) : (tl s i).drop k = tl s (i + k) := by
  unfold tl
  rw [List.drop_drop, show (i + (k : Int)).toNat = i.toNat + k from by omega]
theorem tl_tail (s : ByteArray) (i : Int) (h0 : 0 ≤ i) : (tl s i).tail = tl s (i + 1) := by
  rw [← List.drop_one, tl_drop s i h0 1]; rfl
theorem tl_head (s : ByteArray) (i : Int) (h0 : 0 ≤ i) : (tl s i).head? = if i < (s.size : Int) then some (bt s i) else none := by
  rw [List.head?_eq_getElem?, tl_get s i h0 0]; simp
theorem spec_l04Rune.j4_ev (s : ByteArray) (hs : s.size ≤ 140737488351232) (i n : Int) (h0 : 0 ≤ i) (hi : i < (s.size : Int)) (hn : 0 ≤ n ∧ n < 268435456) (b : Bool) :
    Ev (fun k => spec_l04Rune.j4 k s i n b) (if b = true then (if 56320 ≤ numN 4 (tl s (i + 8)) 0 ∧ numN 4 (tl s (i + 8)) 0 ≤ 57343 then (65536 + 1024 * (n - 55296) + numN 4 (tl s (i + 8)) 0 - 56320, i + 12) else (-1, i)) else (if scalB n = true then (n, i + 6) else (-1, i))) := by
  apply Ev.succ; simp only [spec_l04Rune.j4]
  rw [w64 (x := i + 8) (by omega) (by omega), w64 (x := i + 12) (by omega) (by omega), w64 (x := i + 6) (by omega) (by omega)]
  cases b with
  | true =>
    rw [if_pos rfl]
    refine Ev.ite_pos rfl ((spec_l04Num.ev s hs (i + 8) (i + 12) (by omega) (by omega) (by omega) (by omega)).bind ?_)
    rw [show (i + 12 - (i + 8)).toNat = 4 from by omega]
    have hr := numN_small 4 (by omega) (tl s (i + 8))
    refine Ev.bindc (spec_l01In.eq _ _ _) ?_
    by_cases c : 56320 ≤ numN 4 (tl s (i + 8)) 0 ∧ numN 4 (tl s (i + 8)) 0 ≤ 57343
    · rw [if_pos c]
      refine Ev.ite_pos (by simp [c]) (Ev.done ?_)
      rw [w64 (x := n - 55296) (by omega) (by omega), w64 (x := 1024 * (n - 55296)) (by omega) (by omega), w64 (x := 65536 + 1024 * (n - 55296)) (by omega) (by omega), w64 (x := 65536 + 1024 * (n - 55296) + numN 4 (tl s (i + 8)) 0) (by omega) (by omega), w64 (by omega) (by omega)]
    · rw [if_neg c]
      exact Ev.ite_neg (by simp; omega) (Ev.done rfl)
  | false =>
    rw [if_neg (by decide)]
    refine Ev.ite_neg (by decide) (Ev.bindc (spec_l02Scalar.eq n) ?_)
    by_cases c : scalB n = true
    · exact Ev.ite_pos c (Ev.done (if_pos c).symm)
    · exact Ev.ite_neg c (Ev.done (if_neg c).symm)
theorem hexRun_at (q : List Int) : ∀ m, m ≤ hexRun q → (m < hexRun q ↔ ∃ x, q[m]? = some x ∧ 0 ≤ hexV x) := by
  induction q with
  | nil => intro m h; simp [hexRun]
  | cons x r ih =>
    intro m h
    simp only [hexRun] at h ⊢
    by_cases c : hexV x < 0
    · rw [if_pos c] at h ⊢
      have : m = 0 := by omega
      subst this
      constructor
      · intro h1; omega
      · rintro ⟨y, h1, h2⟩
        simp at h1; subst h1; omega
    · rw [if_neg c] at h ⊢
      cases m with
      | zero => exact ⟨fun _ => ⟨x, rfl, by omega⟩, fun _ => by omega⟩
      | succ m =>
        have := ih m (by omega)
        rw [List.getElem?_cons_succ, ← this]
        omega
def braceR (s : ByteArray) (i : Int) (h : Nat) : Int × Int :=
  if 1 ≤ h ∧ h ≤ 6 ∧ (tl s (i + 3))[h]? = some 125 ∧ scalB (numN h (tl s (i + 3)) 0) = true then (numN h (tl s (i + 3)) 0, i + 4 + h) else (-1, i)
theorem spec_l04Rune.j3_ev (s : ByteArray) (hs : s.size ≤ 140737488351232) (i : Int) (h0 : 0 ≤ i) (hi : i < (s.size : Int)) (h : Nat) (hh : h ≤ 7) :
    Ev (fun k => spec_l04Rune.j3 k s i (i + 3 + h)) (braceR s i h) := by
  apply Ev.succ; simp only [spec_l04Rune.j3]
  rw [w64 (x := i + 3) (by omega) (by omega), w64 (x := i + 9) (by omega) (by omega), w64 (x := i + 3 + h + 1) (by omega) (by omega)]
  refine (spec_l04Num.ev s hs (i + 3) (i + 3 + h) (by omega) (by omega) (by omega) (by omega)).bind ?_
  rw [show (i + 3 + (h : Int) - (i + 3)).toNat = h from by omega]
  have hg := tl_get s (i + 3) (by omega) h
  by_cases c1 : h = 0
  · refine Ev.ite_pos (by omega) (Ev.done ?_)
    unfold braceR; rw [if_neg (by omega)]
  refine Ev.ite_neg (by omega) ?_
  by_cases c2 : i + 3 + (h : Int) > i + 9
  · refine Ev.ite_pos c2 (Ev.done ?_)
    unfold braceR; rw [if_neg (by omega)]
  refine Ev.ite_neg c2 ?_
  by_cases c3 : i + 3 + (h : Int) ≥ (s.size : Int)
  · rw [if_neg (by omega)] at hg
    refine Ev.ite_pos c3 (Ev.done ?_)
    unfold braceR; rw [if_neg (by rw [hg]; simp)]
  rw [if_pos (by omega)] at hg
  refine Ev.ite_neg c3 (Ev.ite_pos (by omega) (Ev.ite_pos (by omega) ?_))
  by_cases c4 : bt s (i + 3 + h) = 125
  · refine Ev.ite_pos c4 (Ev.bindc (spec_l02Scalar.eq _) ?_)
    by_cases c5 : scalB (numN h (tl s (i + 3)) 0) = true
    · refine Ev.ite_pos c5 (Ev.done ?_)
      unfold braceR; rw [if_pos ⟨by omega, by omega, by rw [hg, c4], c5⟩]
      refine Prod.ext rfl ?_
      show i + 3 + (h : Int) + 1 = i + 4 + h
      omega
    · refine Ev.ite_neg c5 (Ev.done ?_)
      unfold braceR; rw [if_neg (fun z => c5 z.2.2.2)]
  · refine Ev.ite_neg c4 (Ev.done ?_)
    unfold braceR; rw [if_neg (fun z => c4 (by have := z.2.2.1; rw [hg] at this; exact Option.some.inj this))]
theorem spec_l04Rune.l0_ev (s : ByteArray) (hs : s.size ≤ 140737488351232) (i : Int) (h0 : 0 ≤ i) (hi : i < (s.size : Int)) (n : Nat) : ∀ m : Nat, m + n = 7 → m ≤ hexRun (tl s (i + 3)) →
    Ev (fun k => spec_l04Rune.l0 k s i (i + 3 + m)) (braceR s i (hexRun (tl s (i + 3)))) := by
  have big : ∀ h, 7 ≤ h → braceR s i h = braceR s i 7 := by
    intro h hh
    unfold braceR
    rw [if_neg (by omega), if_neg (by omega)]
  induction n with
  | zero =>
    intro m hm hr
    apply Ev.succ; simp only [spec_l04Rune.l0]
    rw [w64 (x := i + 10) (by omega) (by omega)]
    have e : Ev (fun k => spec_l04Rune.j3 k s i (i + 3 + m)) (braceR s i (hexRun (tl s (i + 3)))) := by
      rw [big _ (by omega), show m = 7 from by omega]
      exact spec_l04Rune.j3_ev s hs i h0 hi 7 (by omega)
    by_cases c : i + 3 + (m : Int) < (s.size : Int)
    · exact Ev.ite_pos c (Ev.ite_neg (by omega) e)
    · exact Ev.ite_neg c e
  | succ n ih =>
    intro m hm hr
    have hat := hexRun_at (tl s (i + 3)) m hr
    have hg := tl_get s (i + 3) (by omega) m
    apply Ev.succ; simp only [spec_l04Rune.l0]
    rw [w64 (x := i + 10) (by omega) (by omega), w64 (x := i + 3 + m + 1) (by omega) (by omega)]
    have stop : ¬ (m < hexRun (tl s (i + 3))) → Ev (fun k => spec_l04Rune.j3 k s i (i + 3 + m)) (braceR s i (hexRun (tl s (i + 3)))) := by
      intro hn
      rw [show hexRun (tl s (i + 3)) = m from by omega]
      exact spec_l04Rune.j3_ev s hs i h0 hi m (by omega)
    by_cases c : i + 3 + (m : Int) < (s.size : Int)
    · rw [if_pos c] at hg
      have hb := bt_range s (i + 3 + m)
      refine Ev.ite_pos c (Ev.ite_pos (by omega) (Ev.ite_pos (by omega) ((spec_l04Digit.ev _ hb.1 hb.2).bind ?_)))
      by_cases c1 : hexV (bt s (i + 3 + m)) ≥ 0
      · refine Ev.ite_pos c1 ?_
        have := ih (m + 1) (by omega) (hat.2 ⟨_, hg, c1⟩)
        rw [show i + 3 + ((m + 1 : Nat) : Int) = i + 3 + m + 1 from by omega] at this
        exact this
      · refine Ev.ite_neg c1 (stop ?_)
        intro h1
        obtain ⟨x, hx, hv⟩ := hat.1 h1
        rw [hg] at hx
        obtain rfl := Option.some.inj hx
        exact c1 hv
    · rw [if_neg c] at hg
      refine Ev.ite_neg c (stop ?_)
      intro h1
      obtain ⟨x, hx, hv⟩ := hat.1 h1
      rw [hg] at hx
      cases hx
def atU (i : Int) (o : Option (Int × Nat)) : Int × Int := match o with | none => (-1, i) | some p => (p.1, i + 2 + p.2)
theorem brace_uni (s : ByteArray) (i : Int) (h0 : 0 ≤ i) (hh : (tl s (i + 2)).head? = some 123) : braceR s i (hexRun (tl s (i + 3))) = atU i (uniL (tl s (i + 2))) := by
  unfold uniL braceR
  rw [if_pos hh, tl_tail s (i + 2) (by omega), show i + 2 + 1 = i + 3 from by omega]
  by_cases c : 1 ≤ hexRun (tl s (i + 3)) ∧ hexRun (tl s (i + 3)) ≤ 6 ∧ (tl s (i + 3))[hexRun (tl s (i + 3))]? = some 125 ∧ scalB (numN (hexRun (tl s (i + 3))) (tl s (i + 3)) 0) = true
  · rw [if_pos c, if_pos c]
    refine Prod.ext rfl ?_
    show i + 4 + (hexRun (tl s (i + 3)) : Int) = i + 2 + ((hexRun (tl s (i + 3)) + 2 : Nat) : Int)
    omega
  · rw [if_neg c, if_neg c]; rfl
theorem spec_l04Rune.j1_ev (s : ByteArray) (hs : s.size ≤ 140737488351232) (i : Int) (h0 : 0 ≤ i) (hi : i < (s.size : Int)) (b : Bool) (hb : b = decide ((tl s (i + 2)).head? = some 123)) :
    Ev (fun k => spec_l04Rune.j1 k s i b) (atU i (uniL (tl s (i + 2)))) := by
  subst hb
  apply Ev.succ; simp only [spec_l04Rune.j1]
  rw [w64 (x := i + 3) (by omega) (by omega), w64 (x := i + 2) (by omega) (by omega), w64 (x := i + 6) (by omega) (by omega), w64 (x := i + 7) (by omega) (by omega)]
  by_cases hh : (tl s (i + 2)).head? = some 123
  · refine Ev.ite_pos (by simp [hh]) ?_
    rw [← brace_uni s i h0 hh]
    have := spec_l04Rune.l0_ev s hs i h0 hi 7 0 (by omega) (by omega)
    rw [show i + 3 + ((0 : Nat) : Int) = i + 3 from by omega] at this
    exact this
  · refine Ev.ite_neg (by simp [hh]) ((spec_l04Num.ev s hs (i + 2) (i + 6) (by omega) (by omega) (by omega) (by omega)).bind ?_)
    rw [show (i + 6 - (i + 2)).toNat = 4 from by omega]
    have hr := numN_small 4 (by omega) (tl s (i + 2))
    have g4 := tl_get s (i + 2) (by omega) 4
    have g5 := tl_get s (i + 2) (by omega) 5
    have d6 := tl_drop s (i + 2) (by omega) 6
    rw [show i + 2 + ((4 : Nat) : Int) = i + 6 from by omega] at g4
    rw [show i + 2 + ((5 : Nat) : Int) = i + 7 from by omega] at g5
    rw [show i + 2 + ((6 : Nat) : Int) = i + 8 from by omega] at d6
    have hsz := numN_short 4 (tl s (i + 2)) 0
    have hln : (tl s (i + 2)).length = ((s.size : Int) - (i + 2)).toNat := by unfold tl; rw [List.length_drop, size_bytes]; omega
    unfold uniL
    rw [if_neg hh, g4, g5, d6]
    generalize numN 4 (tl s (i + 2)) 0 = v at *
    by_cases c1 : v < 0
    · rw [if_pos c1]
      exact Ev.ite_pos c1 (Ev.done rfl)
    rw [if_neg c1]
    refine Ev.ite_neg c1 (Ev.bindc (spec_l01In.eq _ _ _) ?_)
    have lo : ∀ b, b = false → ¬ (b = true) := by rintro b rfl; decide
    by_cases c2 : 55296 ≤ v ∧ v ≤ 56319
    · rw [if_pos c2]
      refine Ev.ite_pos (by simp [c2]) ?_
      have sc : scalB v = false := by unfold scalB; simp; omega
      have no : Ev (fun k => spec_l04Rune.j4 k s i v false) (-1, i) := by
        refine (spec_l04Rune.j4_ev s hs i v h0 hi (by omega) false).get ?_
        rw [if_neg (by decide), sc]; rfl
      by_cases c3 : i + 7 < (s.size : Int)
      · refine Ev.ite_pos c3 (Ev.ite_pos (by omega) (Ev.ite_pos (by omega) ?_))
        rw [if_pos (show i + 6 < (s.size : Int) by omega), if_pos c3]
        by_cases c4 : bt s (i + 6) = 92
        · refine Ev.ite_pos c4 (Ev.ite_pos (by omega) ?_)
          by_cases c5 : bt s (i + 7) = 117
          · refine (spec_l04Rune.j4_ev s hs i v h0 hi (by omega) _).get ?_
            rw [c4, c5, if_pos (by decide)]
            by_cases c6 : 56320 ≤ numN 4 (tl s (i + 8)) 0 ∧ numN 4 (tl s (i + 8)) 0 ≤ 57343
            · rw [if_pos c6, if_pos ⟨rfl, rfl, c6.1, c6.2⟩]
              refine Prod.ext rfl ?_
              show i + 12 = i + 2 + ((10 : Nat) : Int)
              omega
            · rw [if_neg c6, if_neg (fun z => c6 ⟨z.2.2.1, z.2.2.2⟩)]; rfl
          · rw [beq_eq_false_iff_ne.2 c5, if_neg (fun z => c5 (Option.some.inj z.2.1))]
            exact no
        · rw [if_neg (fun z => c4 (Option.some.inj z.1))]
          exact Ev.ite_neg c4 no
      · rw [if_neg c3, if_neg (fun z => by cases z.2.1)]
        exact Ev.ite_neg c3 no
    · rw [if_neg c2]
      refine Ev.ite_neg (by simp; omega) ((spec_l04Rune.j4_ev s hs i v h0 hi (by omega) false).get ?_)
      rw [if_neg (by decide)]
      by_cases c3 : scalB v = true
      · rw [if_pos c3, if_pos c3]
        refine Prod.ext rfl ?_
        show i + 6 = i + 2 + ((4 : Nat) : Int)
        omega
      · rw [if_neg c3, if_neg c3]; rfl
theorem spec_l04Rune.j0_ev (s : ByteArray) (hs : s.size ≤ 140737488351232) (i : Int) (h0 : 0 ≤ i) (hi : i + 1 < (s.size : Int)) (b : Bool) (hb : b = decide (bt s (i + 1) = 34 ∨ bt s (i + 1) = 92 ∨ bt s (i + 1) = 47)) :
    Ev (fun k => spec_l04Rune.j0 k s i (bt s (i + 1)) b) (atP i (escL1 (tl s (i + 1)))) := by
  subst hb
  have hx := bt_range s (i + 1)
  have hd := tl_head s (i + 2) (by omega)
  rw [tl_cons (by omega) hi, show i + 1 + 1 = i + 2 from by omega]
  apply Ev.succ; simp only [spec_l04Rune.j0]
  rw [w64 (x := i + 1) (by omega) (by omega), w64 (x := i + 2) (by omega) (by omega), w64 (x := bt s (i + 1)) (by omega) (by omega)]
  have one : ∀ n : Int, atP i (some (n, 1)) = (n, i + 2) := fun n => Prod.ext rfl (by show i + 1 + ((1 : Nat) : Int) = i + 2; omega)
  simp only [escL1]
  generalize bt s (i + 1) = x at *
  by_cases c : x = 34 ∨ x = 92 ∨ x = 47
  · rw [if_pos c, one]
    exact Ev.ite_pos (by simp [c]) (Ev.ite_pos (by omega) (Ev.ite_pos (by omega) (Ev.done rfl)))
  rw [if_neg c]
  refine Ev.ite_neg (by simpa using c) ?_
  by_cases c1 : x = 98
  · rw [if_pos c1, one]; exact Ev.ite_pos c1 (Ev.done rfl)
  rw [if_neg c1]; refine Ev.ite_neg c1 ?_
  by_cases c2 : x = 116
  · rw [if_pos c2, one]; exact Ev.ite_pos c2 (Ev.done rfl)
  rw [if_neg c2]; refine Ev.ite_neg c2 ?_
  by_cases c3 : x = 110
  · rw [if_pos c3, one]; exact Ev.ite_pos c3 (Ev.done rfl)
  rw [if_neg c3]; refine Ev.ite_neg c3 ?_
  by_cases c4 : x = 102
  · rw [if_pos c4, one]; exact Ev.ite_pos c4 (Ev.done rfl)
  rw [if_neg c4]; refine Ev.ite_neg c4 ?_
  by_cases c5 : x = 114
  · rw [if_pos c5, one]; exact Ev.ite_pos c5 (Ev.done rfl)
  rw [if_neg c5]; refine Ev.ite_neg c5 ?_
  by_cases c6 : x = 117
  · rw [if_pos c6]
    refine Ev.ite_pos c6 ?_
    have e : atU i (uniL (tl s (i + 2))) = atP i ((uniL (tl s (i + 2))).map fun p => (p.1, p.2 + 1)) := by
      cases uniL (tl s (i + 2)) with
      | none => rfl
      | some p => exact Prod.ext rfl (by show i + 2 + (p.2 : Int) = i + 1 + ((p.2 + 1 : Nat) : Int); omega)
    rw [← e]
    by_cases c7 : i + 2 < (s.size : Int)
    · rw [if_pos c7] at hd
      refine Ev.ite_pos c7 (Ev.ite_pos (by omega) (spec_l04Rune.j1_ev s hs i h0 (by omega) _ ?_))
      rw [hd, Bool.eq_iff_iff]; simp
    · rw [if_neg c7] at hd
      refine Ev.ite_neg c7 (spec_l04Rune.j1_ev s hs i h0 (by omega) _ ?_)
      rw [hd]; rfl
  · rw [if_neg c6]; exact Ev.ite_neg c6 (Ev.done rfl)
theorem spec_l04Rune.ev (s : ByteArray) (hs : s.size ≤ 140737488351232) (i : Int) (h0 : 0 ≤ i) (hi : i < (s.size : Int)) : Ev (fun k => spec_l04Rune.f k s i) (atP i (escL1 (tl s (i + 1)))) := by
  unfold spec_l04Rune.f
  rw [w64 (x := i + 1) (by omega) (by omega)]
  by_cases c : i + 1 ≥ (s.size : Int)
  · rw [tl_nil c]
    exact Ev.ite_pos c (Ev.done rfl)
  refine Ev.ite_neg c (Ev.ite_pos (by omega) (Ev.ite_pos (by omega) ?_))
  by_cases c1 : bt s (i + 1) = 34
  · refine Ev.ite_pos c1 (spec_l04Rune.j0_ev s hs i h0 (by omega) _ ?_)
    rw [Bool.eq_iff_iff]; simp [c1]
  refine Ev.ite_neg c1 ?_
  by_cases c2 : bt s (i + 1) = 92
  · refine Ev.ite_pos c2 (spec_l04Rune.j0_ev s hs i h0 (by omega) _ ?_)
    rw [Bool.eq_iff_iff]; simp [c2]
  refine Ev.ite_neg c2 (spec_l04Rune.j0_ev s hs i h0 (by omega) _ ?_)
  rw [Bool.eq_iff_iff]; simp; omega

theorem impl_TextOk.eq (s : ByteArray) (hs : s.size ≤ 9223372036854775807) : impl_TextOk.f s = some (textOkS s) := by
  unfold impl_TextOk.f utf8_ValidString.f; rw [if_pos hs]; rfl

theorem impl_in.eq (x a b : Int) : impl_in.f x a b = some (decide (a ≤ x ∧ x ≤ b)) := by
  unfold impl_in.f
  by_cases h : x ≥ a
  · rw [if_pos h]; congr 1; rw [Bool.eq_iff_iff]; simp only [decide_eq_true_eq, Bool.or_eq_true, beq_iff_eq, Bool.false_eq_true, true_iff, false_iff]; omega
  · rw [if_neg h]; congr 1; rw [Bool.eq_iff_iff]; simp only [decide_eq_true_eq, Bool.or_eq_true, beq_iff_eq, Bool.false_eq_true, true_iff, false_iff]; omega

theorem impl_isScalar.eq (x : Int) : impl_isScalar.f x = some (scalB x) := by
  unfold impl_isScalar.f scalB
  simp only [impl_in.eq, Option.bind_some]
  cases decide (0 ≤ x ∧ x ≤ 1114111) <;> simp

theorem utf8_appendRuneNonASCII.ev (l : List Int) (hl : l.length ≤ 1000000) (n : Int) (h0 : 128 ≤ n) (h1 : scalB n = true) : Ev (fun k => utf8_appendRuneNonASCII.f k l n) (l ++ runeL n) := by
  unfold scalB at h1
  simp only [Bool.and_eq_true, decide_eq_true_eq, Bool.not_eq_true', decide_eq_false_iff_not] at h1
  have m : n % 4294967296 = n := by omega
  unfold utf8_appendRuneNonASCII.f runeL
  rw [m, if_neg (by omega)]
  by_cases c2 : n ≤ 2047
  · rw [if_pos (by omega)]
    refine Ev.ite_pos c2 ?_
    rw [show n / 64 % 256 = n / 64 from by omega, or192 (by omega) (by omega)]
    exact Ev.ite_pos (by simp; omega) (Ev.done rfl)
  · rw [if_neg (by omega)]
    refine Ev.ite_neg c2 ?_
    have hj : ∀ b, b = decide (n ≤ 65535) → Ev (fun k => utf8_appendRuneNonASCII.j0 k l n n b) (l ++ if n < 65536 then [224 + n / 4096, 128 + n / 64 % 64, 128 + n % 64] else [240 + n / 262144, 128 + n / 4096 % 64, 128 + n / 64 % 64, 128 + n % 64]) := by
      rintro b rfl
      apply Ev.succ; simp only [utf8_appendRuneNonASCII.j0]
      by_cases c3 : n < 65536
      · rw [if_pos c3]
        refine Ev.ite_pos (by simp; omega) ?_
        rw [show n / 4096 % 256 = n / 4096 from by omega, or224 (by omega) (by omega)]
        exact Ev.ite_pos (by simp; omega) (Ev.done rfl)
      · rw [if_neg c3]
        refine Ev.ite_neg (by simp; omega) (Ev.ite_pos (by omega) (Ev.ite_pos (by omega) ?_))
        rw [show n / 262144 % 256 = n / 262144 from by omega, or240 (by omega) (by omega)]
        exact Ev.ite_pos (by simp; omega) (Ev.done rfl)
    by_cases c3 : n < 55296
    · exact Ev.ite_pos c3 (hj _ (by rw [Bool.eq_iff_iff]; simp; omega))
    · exact Ev.ite_neg c3 (Ev.ite_pos (by omega) (hj _ rfl))

theorem utf8_AppendRune.ev (l : List Int) (hl : l.length ≤ 1000000) (n : Int) (h1 : scalB n = true) : Ev (fun k => utf8_AppendRune.f k l n) (l ++ runeL n) := by
  have h2 := h1
  unfold scalB at h2
  simp only [Bool.and_eq_true, decide_eq_true_eq, Bool.not_eq_true', decide_eq_false_iff_not] at h2
  unfold utf8_AppendRune.f
  by_cases c : n < 128
  · refine Ev.ite_pos (by omega) (Ev.ite_pos (by omega) (Ev.done ?_))
    unfold runeL; rw [if_pos c, show n % 256 = n from by omega]
  · exact Ev.ite_neg (by omega) ((utf8_appendRuneNonASCII.ev l hl n (by omega) h1).bind (Ev.done rfl))

theorem impl_RuneText.ev (n : Int) : Ev (fun k => impl_RuneText.f k n) (runeTextL n) := by
  unfold impl_RuneText.f runeTextL
  refine Ev.bindc (impl_isScalar.eq n) ?_
  cases hs : scalB n with
  | false => exact Ev.ite_neg (by simp) (Ev.done rfl)
  | true =>
    have h2 := hs
    unfold scalB at h2
    simp only [Bool.and_eq_true, decide_eq_true_eq] at h2
    have w : wrap32 n = n := by unfold wrap32; omega
    rw [w]
    exact Ev.ite_pos rfl ((utf8_AppendRune.ev [] (by simp) n hs).bind (Ev.done (by simp)))

theorem strings_IndexByte.eq (s : ByteArray) (x : Int) : strings_IndexByte.f s x = some (Lib.indexByte s.data.toList x.toNat.toUInt8) := rfl

/-- Does a list begin with p. -/
def preB (p l : List Int) : Bool := l.take p.length == p
theorem preB_length {p l : List Int} (h : preB p l = true) : p.length ≤ l.length := by
  unfold preB at h; rw [beq_iff_eq] at h
  have := congrArg List.length h
  rw [List.length_take] at this; omega

theorem stringslite_HasPrefix.eq (a b : ByteArray) : stringslite_HasPrefix.f a b = some (preB (bytesOf b) (bytesOf a)) := by
  have la := size_bytes a
  have lb := size_bytes b
  unfold stringslite_HasPrefix.f
  by_cases h : (a.size : Int) ≥ (b.size : Int)
  · rw [if_pos h, if_pos (by omega), if_pos (by omega), toList_beq, bytes_extract]
    unfold preB; simp [lb]
  · rw [if_neg h]
    cases hp : preB (bytesOf b) (bytesOf a) with
    | false => rfl
    | true => have := preB_length hp; omega

theorem strings_HasPrefix.eq (a b : ByteArray) : strings_HasPrefix.f a b = some (preB (bytesOf b) (bytesOf a)) := by
  unfold strings_HasPrefix.f; rw [stringslite_HasPrefix.eq]; rfl

theorem hexTabV : ∀ n : Fin 256, Lib.indexByte [48, 49, 50, 51, 52, 53, 54, 55, 56, 57, 97, 98, 99, 100, 101, 102] (UInt8.ofNat n.val) = (if 48 ≤ n.val ∧ n.val ≤ 57 then (n.val : Int) - 48 else if 97 ≤ n.val ∧ n.val ≤ 102 then (n.val : Int) - 87 else -1) := by decide +kernel
theorem hexTabV_at {x : Int} (h0 : 0 ≤ x) (h1 : x ≤ 255) : strings_IndexByte.f (⟨#[48, 49, 50, 51, 52, 53, 54, 55, 56, 57, 97, 98, 99, 100, 101, 102]⟩ : ByteArray) x = some (if 48 ≤ x ∧ x ≤ 57 then x - 48 else if 97 ≤ x ∧ x ≤ 102 then x - 87 else -1) := by
  have := hexTabV ⟨x.toNat, by omega⟩
  simp only at this
  rw [show ((x.toNat : Nat) : Int) = x from by omega] at this
  unfold strings_IndexByte.f
  congr 1
  refine Eq.trans this ?_
  by_cases c : 48 ≤ x ∧ x ≤ 57
  · rw [if_pos c, if_pos (by omega)]
  · rw [if_neg c, if_neg (by omega)]
    by_cases c : 97 ≤ x ∧ x ≤ 102
    · rw [if_pos c, if_pos (by omega)]
    · rw [if_neg c, if_neg (by omega)]
theorem impl_readHex.l0_ev (s : ByteArray) (hs : s.size ≤ 7) (m : Nat) : ∀ (a i : Int), 0 ≤ i → (s.size : Int) - i = m → 0 ≤ a → a < 16 ^ i.toNat →
    Ev (fun k => impl_readHex.l0 k s a s.size i) (negF (numN m (tl s i) a) (s.toList != ([] : List UInt8))) := by
  induction m with
  | zero =>
    intro a i h0 hn ha0 ha
    apply Ev.succ; simp only [impl_readHex.l0]
    refine Ev.ite_neg (by omega) (Ev.done ?_)
    rw [numN, negF, if_neg (by omega)]
  | succ m ih =>
    intro a i h0 hn ha0 ha
    have h1 : i < (s.size : Int) := by omega
    have hp : (16 : Int) ^ i.toNat ≤ 16 ^ 7 := by exact_mod_cast Nat.pow_le_pow_right (by decide) (by omega)
    have hb := bt_range s i
    have hv := hexV_range (bt s i)
    have ha2 : a < 268435456 := by omega
    have fin : ∀ v, v = hexV (bt s i) → 0 ≤ v → Ev (fun k => impl_readHex.l0 k s (wrap64 (wrap64 (16 * a) + v)) s.size (wrap64 (i + 1))) (negF (numN (m + 1) (tl s i) a) (s.toList != ([] : List UInt8))) := by
      rintro v rfl h2
      rw [w64 (x := 16 * a) (by omega) (by omega), w64 (x := 16 * a + hexV (bt s i)) (by omega) (by omega), w64 (x := i + 1) (by omega) (by omega), tl_cons h0 h1, numN, if_neg (show ¬ hexV (bt s i) < 0 by omega), show a * 16 = 16 * a from by omega]
      refine ih (16 * a + hexV (bt s i)) (i + 1) (by omega) (by omega) (by omega) ?_
      rw [show (i + 1).toNat = i.toNat + 1 from by omega, Int.pow_succ]; omega
    have bad : hexV (bt s i) < 0 → negF (numN (m + 1) (tl s i) a) (s.toList != ([] : List UInt8)) = (0, false) := by
      intro h2
      rw [tl_cons h0 h1, numN, if_pos h2]
      rfl
    have hj : ∀ b v, b = decide (65 ≤ bt s i ∧ bt s i ≤ 70) → v = (if 48 ≤ bt s i ∧ bt s i ≤ 57 then bt s i - 48 else if 97 ≤ bt s i ∧ bt s i ≤ 102 then bt s i - 87 else -1) →
        Ev (fun k => impl_readHex.j1 k s a i v s.size i b) (negF (numN (m + 1) (tl s i) a) (s.toList != ([] : List UInt8))) := by
      rintro b v rfl hv2
      apply Ev.succ; simp only [impl_readHex.j1]
      by_cases c : 65 ≤ bt s i ∧ bt s i ≤ 70
      · have e1 : (bt s i - 65) % 256 + 10 = hexV (bt s i) := by unfold hexV; rw [if_neg (by omega), if_neg (by omega), if_pos c]; omega
        refine Ev.ite_pos (by simp [c]) (Ev.ite_pos h0 (Ev.ite_pos h1 ?_))
        rw [e1]
        have e2 : ¬ hexV (bt s i) < 0 := by rw [← e1]; omega
        exact Ev.ite_neg e2 (fin _ rfl (by omega))
      · have e1 : v = hexV (bt s i) := by
          rw [hv2]; unfold hexV
          split
          · rfl
          · split
            · rfl
            · first | rfl | rw [if_neg c]
        refine Ev.ite_neg (by simp [c]) ?_
        by_cases h2 : v < 0
        · refine Ev.ite_pos h2 (Ev.done ?_)
          rw [bad (by omega)]
        · exact Ev.ite_neg h2 (fin _ e1 (by omega))
    apply Ev.succ; simp only [impl_readHex.l0]
    refine Ev.ite_pos h1 (Ev.ite_pos h0 (Ev.ite_pos h1 (Ev.bindc (hexTabV_at hb.1 hb.2) ?_)))
    by_cases c : bt s i ≥ 65
    · refine Ev.ite_pos c (hj _ _ ?_ rfl); rw [Bool.eq_iff_iff]; simp; omega
    · refine Ev.ite_neg c (hj _ _ ?_ rfl); rw [Bool.eq_iff_iff]; simp; omega
theorem impl_readHex.ev (s : ByteArray) (hs : s.size ≤ 7) : Ev (fun k => impl_readHex.f k s) (negF (numN s.size (bytesOf s) 0) (decide (s.size ≠ 0))) := by
  unfold impl_readHex.f
  refine (impl_readHex.l0_ev s hs s.size 0 0 (by omega) (by omega) (by omega) (by decide)).get ?_
  rw [tl_zero]
  have : (s.toList != ([] : List UInt8)) = decide (s.size ≠ 0) := by
    have e : s.toList = ([] : List UInt8) ↔ s.size = 0 := by
      rw [toList_eq_bytes, List.map_nil, ← List.length_eq_zero_iff, size_bytes]
    rw [Bool.eq_iff_iff, bne_iff_ne, decide_eq_true_eq, ne_eq, ne_eq, e]
  rw [this]
theorem impl_fourHex.ev (s : ByteArray) : Ev (fun k => impl_fourHex.f k s) (negF (numN 4 (bytesOf s) 0) true) := by
  unfold impl_fourHex.f
  by_cases h : (s.size : Int) < 4
  · refine Ev.ite_pos h (Ev.done ?_)
    rw [numN_short 4 _ _ (by rw [size_bytes]; omega)]; rfl
  · have hz : (s.extract 0 4).size = 4 := by rw [size_extract]; omega
    have hb : bytesOf (s.extract 0 4) = (bytesOf s).take 4 := by rw [bytes_extract]; rfl
    refine Ev.ite_neg h (Ev.ite_pos (by decide) (Ev.ite_pos (by omega) ((impl_readHex.ev (s.extract 0 4) (by omega)).bind (Ev.done ?_))))
    rw [hz, hb, numN_take 4 _ _ 4 (by omega)]
    rfl

theorem numN_run (m : Nat) : ∀ (q : List Int) (a : Int), 0 ≤ a → 0 ≤ numN m q a → m ≤ hexRun q := by
  induction m with
  | zero => intro q a _ _; omega
  | succ m ih =>
    intro q a h0 h
    cases q with
    | nil => exact absurd h (by simp [numN])
    | cons x r =>
      rw [numN] at h
      by_cases c : hexV x < 0
      · rw [if_pos c] at h; exact absurd h (by decide)
      · rw [if_neg c] at h
        have := ih r _ (by omega) h
        rw [hexRun, if_neg c]; omega
theorem numN_of_run (m : Nat) : ∀ (q : List Int) (a : Int), 0 ≤ a → m ≤ hexRun q → 0 ≤ numN m q a := by
  induction m with
  | zero => intro q a h0 _; exact h0
  | succ m ih =>
    intro q a h0 h
    cases q with
    | nil => simp [hexRun] at h
    | cons x r =>
      rw [hexRun] at h
      rw [numN]
      by_cases c : hexV x < 0
      · rw [if_pos c] at h; omega
      · rw [if_neg c] at h ⊢
        exact ih r _ (by omega) (by omega)
theorem bytes_at (s : ByteArray) (k : Nat) : (bytesOf s)[k]? = (s.data.toList[k]?).map fun b => (b.toNat : Int) := by
  unfold bytesOf; rw [List.getElem?_map]
theorem at_ne (s : ByteArray) (k : Nat) (c : UInt8) : s.data.toList[k]? = some c ↔ (bytesOf s)[k]? = some (c.toNat : Int) := by
  rw [bytes_at]
  cases s.data.toList[k]? with
  | none => simp
  | some b =>
    simp only [Option.map_some, Option.some.injEq]
    constructor
    · rintro rfl; rfl
    · intro h; exact UInt8.toNat_inj.1 (by omega)
/-- Where the bracket stands, behind hex figures alone. -/
theorem brace_at (s : ByteArray) (hh : (bytesOf s).head? = some 123) (hg : (bytesOf s).tail[hexRun (bytesOf s).tail]? = some 125) : Lib.indexByte s.data.toList 125 = ((hexRun (bytesOf s).tail + 1 : Nat) : Int) := by
  have h1 : s.data.toList[hexRun (bytesOf s).tail + 1]? = some 125 := by
    rw [at_ne, ← List.getElem?_tail]; exact hg
  have hge := Lib.indexByte_ge s.data.toList 125
  rcases Int.lt_or_le (Lib.indexByte s.data.toList 125) 0 with c | c
  · exact absurd h1 (Lib.indexByte_none (by omega) _)
  · obtain ⟨o, ho⟩ : ∃ o : Nat, Lib.indexByte s.data.toList 125 = o := ⟨(Lib.indexByte s.data.toList 125).toNat, by omega⟩
    obtain ⟨ha, hb⟩ := Lib.indexByte_some ho
    rw [ho]
    rcases Nat.lt_trichotomy o (hexRun (bytesOf s).tail + 1) with c1 | c1 | c1
    · exfalso
      rw [at_ne] at ha
      cases o with
      | zero =>
        rw [← List.head?_eq_getElem?, hh] at ha
        exact absurd (Option.some.inj ha) (by decide)
      | succ o =>
        rw [← List.getElem?_tail] at ha
        obtain ⟨x, hx, hv⟩ := (hexRun_at (bytesOf s).tail o (by omega)).1 (by omega)
        rw [ha] at hx
        obtain rfl := Option.some.inj hx
        exact absurd hv (by decide)
    · rw [c1]
    · exact absurd h1 (hb _ c1)
def okU (o : Option (Int × Nat)) (r : Int × Int × Bool) : Prop := match o with | some p => r = (p.1, (p.2 : Int), true) ∧ p.2 ≤ 10 | none => r.2.2 = false
theorem pre_brace (s : ByteArray) : preB (bytesOf (⟨#[123]⟩ : ByteArray)) (bytesOf s) = decide ((bytesOf s).head? = some 123) := by
  show preB [123] (bytesOf s) = _
  cases bytesOf s with
  | nil => rfl
  | cons x r =>
    unfold preB
    rw [Bool.eq_iff_iff]; simp
theorem pre_bu (l : List Int) : preB [92, 117] l = decide (l[0]? = some 92 ∧ l[1]? = some 117) := by
  unfold preB
  rw [Bool.eq_iff_iff]
  cases l with
  | nil => simp
  | cons x r =>
    cases r with
    | nil => simp
    | cons y r => simp
theorem impl_readUnicode.ev (s : ByteArray) (hs : s.size ≤ 140737488351232) : ∃ r, Ev (fun k => impl_readUnicode.f k s) r ∧ okU (uniL (bytesOf s)) r := by
  have hpre : strings_HasPrefix.f s (⟨#[123]⟩ : ByteArray) = some (decide ((bytesOf s).head? = some 123)) := by
    rw [strings_HasPrefix.eq, pre_brace]
  unfold impl_readUnicode.f
  by_cases hh : (bytesOf s).head? = some 123
  · -- in brackets
    have hix : strings_IndexByte.f s 125 = some (Lib.indexByte s.data.toList 125) := rfl
    have none_of : ∀ e, Lib.indexByte s.data.toList 125 = e → (¬ (2 ≤ e ∧ e ≤ 7)) → uniL (bytesOf s) = none := by
      intro e he hn
      unfold uniL
      rw [if_pos hh, if_neg]
      rintro ⟨h1, h2, h3, _⟩
      have := brace_at s hh h3
      omega
    by_cases ce : 2 ≤ Lib.indexByte s.data.toList 125 ∧ Lib.indexByte s.data.toList 125 ≤ 7
    · obtain ⟨o, ho⟩ : ∃ o : Nat, Lib.indexByte s.data.toList 125 = o := ⟨(Lib.indexByte s.data.toList 125).toNat, by omega⟩
      obtain ⟨ha, hb⟩ := Lib.indexByte_some ho
      have hso : o < s.size := by
        have := List.getElem?_eq_some_iff.1 ha
        obtain ⟨h, _⟩ := this
        rw [data_length] at h; exact h
      have hz : (s.extract 1 o).size = o - 1 := by rw [size_extract]; omega
      have hbb : bytesOf (s.extract 1 o) = (bytesOf s).tail.take (o - 1) := by
        rw [bytes_extract]
        obtain ⟨m, rfl⟩ : ∃ m, o = m + 1 := ⟨o - 1, by omega⟩
        cases bytesOf s with
        | nil => simp
        | cons x r => simp
      have hat : (bytesOf s).tail[o - 1]? = some 125 := by
        rw [List.getElem?_tail, show o - 1 + 1 = o from by omega]
        exact (at_ne s o 125).1 ha
      have hv := numN_take (o - 1) (bytesOf s).tail 0 (o - 1) (by omega)
      have hev : Ev (fun k => impl_readHex.f k (s.extract 1 ((o : Int)).toNat)) (negF (numN (o - 1) (bytesOf s).tail 0) true) := by
        rw [Int.toNat_natCast]
        refine (impl_readHex.ev (s.extract 1 o) (by omega)).get ?_
        rw [hz, hbb, hv, decide_eq_true (by omega)]
      by_cases cv : numN (o - 1) (bytesOf s).tail 0 < 0
      · refine ⟨((0 : Int), wrap64 ((o : Int) + 1), false), Ev.bindc hpre (Ev.ite_pos (by simp [hh]) (Ev.bindc (hix.trans (by rw [ho])) (Ev.bindc (impl_in.eq _ _ _) (Ev.ite_pos (by simp; omega) (Ev.ite_pos (by omega) (Ev.ite_pos (by omega) (hev.bind ?_))))))), ?_⟩
        · unfold negF; rw [if_pos cv]
          exact Ev.ite_neg (by decide) (Ev.done rfl)
        · have : uniL (bytesOf s) = none := by
            unfold uniL
            rw [if_pos hh, if_neg]
            rintro ⟨h1, h2, h3, _⟩
            have h4 := brace_at s hh h3
            have h5 : o - 1 = hexRun (bytesOf s).tail := by omega
            have := numN_of_run (o - 1) (bytesOf s).tail 0 (by omega) (by omega)
            omega
          rw [this]; rfl
      · have hm := numN_run (o - 1) (bytesOf s).tail 0 (by omega) (by omega)
        have hrun : hexRun (bytesOf s).tail = o - 1 := by
          rcases Nat.lt_or_ge (o - 1) (hexRun (bytesOf s).tail) with c | c
          · obtain ⟨x, hx, hxv⟩ := (hexRun_at (bytesOf s).tail (o - 1) hm).1 c
            rw [hat] at hx
            obtain rfl := Option.some.inj hx
            exact absurd hxv (by decide)
          · omega
        refine ⟨(numN (o - 1) (bytesOf s).tail 0, (o : Int) + 1, scalB (numN (o - 1) (bytesOf s).tail 0)), Ev.bindc hpre (Ev.ite_pos (by simp [hh]) (Ev.bindc (hix.trans (by rw [ho])) (Ev.bindc (impl_in.eq _ _ _) (Ev.ite_pos (by simp; omega) (Ev.ite_pos (by omega) (Ev.ite_pos (by omega) (hev.bind ?_))))))), ?_⟩
        · unfold negF; rw [if_neg cv]
          refine Ev.ite_pos rfl (Ev.bindc (impl_isScalar.eq _) (Ev.done ?_))
          rw [w64 (by omega) (by omega)]
        · unfold uniL
          rw [if_pos hh, hrun]
          by_cases cs : scalB (numN (o - 1) (bytesOf s).tail 0) = true
          · rw [if_pos ⟨by omega, by omega, hat, cs⟩]
            refine ⟨?_, by show o - 1 + 2 ≤ 10; omega⟩
            rw [cs]
            show (_, (o : Int) + 1, true) = (_, ((o - 1 + 2 : Nat) : Int), true)
            rw [show ((o - 1 + 2 : Nat) : Int) = (o : Int) + 1 from by omega]
          · rw [if_neg (fun z => cs z.2.2.2)]
            show scalB _ = false
            simpa using cs
    · refine ⟨(0, 0, false), Ev.bindc hpre (Ev.ite_pos (by simp [hh]) (Ev.bindc hix (Ev.bindc (impl_in.eq _ _ _) (Ev.ite_neg (by simp; omega) (Ev.done rfl))))), ?_⟩
      rw [none_of _ rfl ce]; rfl
  · -- four figures, or twice four
    have h4 := impl_fourHex.ev s
    have hr := numN_small 4 (by omega) (bytesOf s)
    have hln := numN_short 4 (bytesOf s) 0
    rw [size_bytes] at hln
    unfold uniL
    rw [if_neg hh]
    generalize hvv : numN 4 (bytesOf s) 0 = v at *
    by_cases c1 : v < 0
    · rw [if_pos c1]
      refine ⟨((0 : Int), 4, false), Ev.bindc hpre (Ev.ite_neg (by simp [hh]) (h4.bind ?_)), rfl⟩
      unfold negF; rw [if_pos c1]
      refine Ev.ite_neg (by decide) ?_
      apply Ev.succ; simp only [impl_readUnicode.j0]
      exact Ev.ite_pos (by first | rfl | trivial) (Ev.ite_neg (by decide) (Ev.done rfl))
    rw [if_neg c1]
    have nf : negF v true = (v, true) := by unfold negF; rw [if_neg c1]
    rw [nf] at h4
    by_cases c2 : 55296 ≤ v ∧ v ≤ 56319
    · rw [if_pos c2]
      have hs4 : 4 ≤ s.size := by
        rcases Nat.lt_or_ge s.size 4 with c | c
        · have := hln c; omega
        · exact c
      have hb4 : bytesOf (s.extract 4 s.size) = (bytesOf s).drop 4 := by
        have := extract_tl s 4; unfold tl at this; exact this
      have hb6 : bytesOf (s.extract 6 s.size) = (bytesOf s).drop 6 := by
        have := extract_tl s 6; unfold tl at this; exact this
      have hp2 : strings_HasPrefix.f (s.extract 4 s.size) (⟨#[92, 117]⟩ : ByteArray) = some (decide ((bytesOf s)[4]? = some 92 ∧ (bytesOf s)[5]? = some 117)) := by
        rw [strings_HasPrefix.eq, hb4]
        show some (preB [92, 117] _) = _
        rw [pre_bu, List.getElem?_drop, List.getElem?_drop]
      have hm := impl_fourHex.ev (s.extract 6 s.size)
      rw [hb6] at hm
      have hr6 := numN_small 4 (by omega) ((bytesOf s).drop 6)
      have hln6 := numN_short 4 ((bytesOf s).drop 6) 0
      generalize numN 4 ((bytesOf s).drop 6) 0 = u at *
      have start : ∀ r, Ev (fun k => impl_readUnicode.j0 k s v true false) r → Ev (fun k => (impl_fourHex.f k s).bind fun bt199 => (if bt199.2 = true then ((impl_in.f bt199.1 55296 56319).bind fun t201 => (impl_readUnicode.j0 k s bt199.1 bt199.2 (!t201))) else (impl_readUnicode.j0 k s bt199.1 bt199.2 true))) r := by
        intro r hr
        refine h4.bind (Ev.ite_pos rfl (Ev.bindc (impl_in.eq _ _ _) ?_))
        rw [decide_eq_true c2]
        exact hr
      by_cases c3 : (bytesOf s)[4]? = some 92 ∧ (bytesOf s)[5]? = some 117
      · have hs6 : 6 ≤ s.size := by
          obtain ⟨h, _⟩ := List.getElem?_eq_some_iff.1 c3.2
          rw [size_bytes] at h; omega
        by_cases c4 : u < 0
        · refine ⟨(wrap64 ((wrap64 ((wrap64 (65536 + (wrap64 (1024 * (wrap64 (v - 55296)))))) + 0)) - 56320), 10, false), Ev.bindc hpre (Ev.ite_neg (by simp [hh]) (start _ ?_)), ?_⟩
          · apply Ev.succ; simp only [impl_readUnicode.j0]
            refine Ev.ite_neg (by decide) (Ev.ite_pos (by omega) (Ev.bindc hp2 (Ev.ite_pos (by simp [c3]) (Ev.ite_pos (by omega) (hm.bind ?_)))))
            unfold negF; rw [if_pos c4]
            exact Ev.ite_neg (by decide) (Ev.done rfl)
          · rw [if_neg (fun z => by have := z.2.2.1; omega)]; rfl
        · refine ⟨(65536 + 1024 * (v - 55296) + u - 56320, 10, decide (56320 ≤ u ∧ u ≤ 57343)), Ev.bindc hpre (Ev.ite_neg (by simp [hh]) (start _ ?_)), ?_⟩
          · apply Ev.succ; simp only [impl_readUnicode.j0]
            refine Ev.ite_neg (by decide) (Ev.ite_pos (by omega) (Ev.bindc hp2 (Ev.ite_pos (by simp [c3]) (Ev.ite_pos (by omega) (hm.bind ?_)))))
            unfold negF; rw [if_neg c4]
            refine Ev.ite_pos rfl (Ev.bindc (impl_in.eq _ _ _) (Ev.done ?_))
            rw [w64 (x := v - 55296) (by omega) (by omega), w64 (x := 1024 * (v - 55296)) (by omega) (by omega), w64 (x := 65536 + 1024 * (v - 55296)) (by omega) (by omega), w64 (x := 65536 + 1024 * (v - 55296) + u) (by omega) (by omega), w64 (by omega) (by omega)]
          · by_cases c5 : 56320 ≤ u ∧ u ≤ 57343
            · rw [if_pos ⟨c3.1, c3.2, c5.1, c5.2⟩, decide_eq_true c5]
              exact ⟨rfl, by show 10 ≤ 10; omega⟩
            · rw [if_neg (fun z => c5 ⟨z.2.2.1, z.2.2.2⟩), decide_eq_false c5]; rfl
      · refine ⟨(0, 0, false), Ev.bindc hpre (Ev.ite_neg (by simp [hh]) (start _ ?_)), ?_⟩
        · apply Ev.succ; simp only [impl_readUnicode.j0]
          exact Ev.ite_neg (by decide) (Ev.ite_pos (by omega) (Ev.bindc hp2 (Ev.ite_neg (by simpa using c3) (Ev.done rfl))))
        · rw [if_neg (fun z => c3 ⟨z.1, z.2.1⟩)]; rfl
    · rw [if_neg c2]
      refine ⟨(v, 4, scalB v), Ev.bindc hpre (Ev.ite_neg (by simp [hh]) (h4.bind (Ev.ite_pos rfl (Ev.bindc (impl_in.eq _ _ _) ?_)))), ?_⟩
      · rw [decide_eq_false c2]
        apply Ev.succ; simp only [impl_readUnicode.j0]
        exact Ev.ite_pos rfl (Ev.ite_pos (by first | rfl | trivial) (Ev.bindc (impl_isScalar.eq _) (Ev.done rfl)))
      · by_cases c3 : scalB v = true
        · rw [if_pos c3, c3]; exact ⟨rfl, by show 4 ≤ 10; omega⟩
        · rw [if_neg c3]
          show scalB v = false
          simpa using c3

def okE (o : Option (Int × Nat)) (r : ByteArray × Int × Bool) : Prop := match o with | some p => r = (runeTextL p.1, (p.2 : Int), true) ∧ p.2 ≤ 11 | none => r.2.2 = false
theorem escTab : ∀ n : Fin 256, Lib.indexByte [34, 92, 98, 116, 110, 102, 114] (UInt8.ofNat n.val) = (if n.val = 34 then 0 else if n.val = 92 then 1 else if n.val = 98 then 2 else if n.val = 116 then 3 else if n.val = 110 then 4 else if n.val = 102 then 5 else if n.val = 114 then 6 else -1) := by decide +kernel
theorem escTab_at {x : Int} (h0 : 0 ≤ x) (h1 : x ≤ 255) : strings_IndexByte.f (⟨#[34, 92, 98, 116, 110, 102, 114]⟩ : ByteArray) x = some (if x = 34 then 0 else if x = 92 then 1 else if x = 98 then 2 else if x = 116 then 3 else if x = 110 then 4 else if x = 102 then 5 else if x = 114 then 6 else -1) := by
  obtain ⟨n, rfl⟩ := Int.eq_ofNat_of_zero_le h0
  have := escTab ⟨n, by omega⟩
  simp only at this
  unfold strings_IndexByte.f
  congr 1
  refine Eq.trans this ?_
  have e : ∀ m : Nat, ((n : Int) = (m : Int)) = (n = m) := fun m => by rw [eq_iff_iff]; omega
  have e34 := e 34; have e92 := e 92; have e98 := e 98; have e116 := e 116; have e110 := e 110; have e102 := e 102; have e114 := e 114
  simp only [Int.cast_ofNat_Int] at e34 e92 e98 e116 e110 e102 e114
  simp only [e34, e92, e98, e116, e110, e102, e114]
theorem impl_readEscape.ev (s : ByteArray) (hs : s.size ≤ 140737488351232) : ∃ r, Ev (fun k => impl_readEscape.f k s) r ∧ okE (escL1 (bytesOf s)) r := by
  have hnil : s.toList = ([] : List UInt8) ↔ s.size = 0 := by
    rw [toList_eq_bytes, List.map_nil, ← List.length_eq_zero_iff, size_bytes]
  by_cases c0 : s.size = 0
  · unfold impl_readEscape.f
    refine ⟨_, Ev.ite_pos (hnil.2 c0) (Ev.done rfl), ?_⟩
    rw [List.length_eq_zero_iff.1 ((size_bytes s).trans c0)]; rfl
  have e : bytesOf s = bt s 0 :: tl s 1 := by rw [← tl_zero, tl_cons (by omega) (by omega)]; rfl
  have hx := bt_range s 0
  rw [e]
  by_cases c1 : bt s 0 = 117
  · unfold impl_readEscape.f
    have h1 : bytesOf (s.extract 1 s.size) = tl s 1 := extract_tl s 1
    obtain ⟨r, hr, ho⟩ := impl_readUnicode.ev (s.extract 1 s.size) (by rw [size_extract]; omega)
    rw [h1] at ho
    refine ⟨(runeTextL r.1, wrap64 (r.2.1 + 1), r.2.2), Ev.ite_neg (fun z => c0 (hnil.1 z)) (Ev.ite_pos (by omega) (Ev.ite_pos c1 (Ev.ite_pos (by omega) (hr.bind ((impl_RuneText.ev r.1).bind (Ev.done rfl)))))), ?_⟩
    rw [c1]
    simp only [escL1]
    rw [if_neg (by decide), if_neg (by decide), if_neg (by decide), if_neg (by decide), if_neg (by decide), if_neg (by decide), if_pos (by first | rfl | trivial)]
    cases hu : uniL (tl s 1) with
    | none => rw [hu] at ho; exact ho
    | some p =>
      rw [hu] at ho
      obtain ⟨h2, h3⟩ := ho
      subst h2
      refine ⟨?_, by show p.2 + 1 ≤ 11; omega⟩
      show (runeTextL p.1, wrap64 ((p.2 : Int) + 1), true) = (runeTextL p.1, ((p.2 + 1 : Nat) : Int), true)
      rw [w64 (by omega) (by omega)]; rfl
  by_cases c2 : bt s 0 = 47
  · unfold impl_readEscape.f
    refine ⟨_, Ev.ite_neg (fun z => c0 (hnil.1 z)) (Ev.ite_pos (by omega) (Ev.ite_neg c1 (Ev.ite_pos c2 (Ev.done rfl)))), ?_⟩
    rw [c2]
    exact ⟨rfl, by decide⟩
  have tab := escTab_at hx.1 hx.2
  have go : ∀ (n : Int) (j : Nat), (if bt s 0 = 34 then (0 : Int) else if bt s 0 = 92 then 1 else if bt s 0 = 98 then 2 else if bt s 0 = 116 then 3 else if bt s 0 = 110 then 4 else if bt s 0 = 102 then 5 else if bt s 0 = 114 then 6 else -1) = (j : Int) → j < 7 →
      (⟨#[34, 92, 8, 9, 10, 12, 13]⟩ : ByteArray).extract j (j + 1) = runeTextL n → escL1 (bt s 0 :: tl s 1) = some (n, 1) →
      ∃ r, Ev (fun k => impl_readEscape.f k s) r ∧ okE (escL1 (bt s 0 :: tl s 1)) r := by
    intro n j hj hj7 hex hesc
    unfold impl_readEscape.f
    refine ⟨(runeTextL n, 1, true), Ev.ite_neg (fun z => c0 (hnil.1 z)) (Ev.ite_pos (by omega) (Ev.ite_neg c1 (Ev.ite_neg c2 (Ev.bindc (tab.trans (by rw [hj])) ?_)))), ?_⟩
    · have hw : wrap64 ((j : Int) + 1) = (j : Int) + 1 := w64 (by omega) (by omega)
      rw [hw]
      refine Ev.ite_neg (by omega) (Ev.ite_pos (by omega) (Ev.ite_pos (by omega) (Ev.ite_pos (by omega) (Ev.done ?_))))
      rw [Int.toNat_natCast, show ((j : Int) + 1).toNat = j + 1 from by omega, hex]
    · rw [hesc]; exact ⟨rfl, by show 1 ≤ 11; omega⟩
  by_cases k1 : bt s 0 = 34
  · exact go 34 0 (by rw [if_pos k1]; rfl) (by omega) (by decide +kernel) (by rw [k1]; rfl)
  by_cases k2 : bt s 0 = 92
  · exact go 92 1 (by rw [if_neg k1, if_pos k2]; rfl) (by omega) (by decide +kernel) (by rw [k2]; rfl)
  by_cases k3 : bt s 0 = 98
  · exact go 8 2 (by rw [if_neg k1, if_neg k2, if_pos k3]; rfl) (by omega) (by decide +kernel) (by rw [k3]; rfl)
  by_cases k4 : bt s 0 = 116
  · exact go 9 3 (by rw [if_neg k1, if_neg k2, if_neg k3, if_pos k4]; rfl) (by omega) (by decide +kernel) (by rw [k4]; rfl)
  by_cases k5 : bt s 0 = 110
  · exact go 10 4 (by rw [if_neg k1, if_neg k2, if_neg k3, if_neg k4, if_pos k5]; rfl) (by omega) (by decide +kernel) (by rw [k5]; rfl)
  by_cases k6 : bt s 0 = 102
  · exact go 12 5 (by rw [if_neg k1, if_neg k2, if_neg k3, if_neg k4, if_neg k5, if_pos k6]; rfl) (by omega) (by decide +kernel) (by rw [k6]; rfl)
  by_cases k7 : bt s 0 = 114
  · exact go 13 6 (by rw [if_neg k1, if_neg k2, if_neg k3, if_neg k4, if_neg k5, if_neg k6, if_pos k7]; rfl) (by omega) (by decide +kernel) (by rw [k7]; rfl)
  unfold impl_readEscape.f
  refine ⟨_, Ev.ite_neg (fun z => c0 (hnil.1 z)) (Ev.ite_pos (by omega) (Ev.ite_neg c1 (Ev.ite_neg c2 (Ev.bindc (tab.trans (by rw [if_neg k1, if_neg k2, if_neg k3, if_neg k4, if_neg k5, if_neg k6, if_neg k7])) (Ev.ite_pos (by decide) (Ev.done rfl)))))), ?_⟩
  simp only [escL1]
  rw [if_neg (by omega), if_neg k3, if_neg k4, if_neg k5, if_neg k6, if_neg k7, if_neg c1]
  rfl

theorem uni_facts (q : List Int) (p : Int × Nat) (h : uniL q = some p) : 0 ≤ p.1 ∧ p.2 ≤ q.length ∧ ∀ k, k < p.2 → ∃ x, q[k]? = some x ∧ 0 ≤ x ∧ x < 128 := by
  have hexs : ∀ x, 0 ≤ hexV x → 0 ≤ x ∧ x < 128 := by
    intro x hx
    unfold hexV at hx
    split at hx
    · omega
    · split at hx
      · omega
      · split at hx <;> omega
  have nums : ∀ (m : Nat) (l : List Int), 0 ≤ numN m l 0 → m ≤ l.length ∧ ∀ k, k < m → ∃ x, l[k]? = some x ∧ 0 ≤ x ∧ x < 128 := by
    intro m l hl
    have h1 := numN_run m l 0 (by omega) hl
    have h2 := hexRun_le l
    refine ⟨by omega, fun k hk => ?_⟩
    obtain ⟨x, hx, hv⟩ := (hexRun_at l k (by omega)).1 (by omega)
    exact ⟨x, hx, hexs x hv⟩
  have sc0 : ∀ n, scalB n = true → 0 ≤ n := by intro n hn; unfold scalB at hn; simp at hn; omega
  unfold uniL at h
  split at h
  · rename_i hh
    split at h
    · rename_i hc
      obtain rfl := Option.some.inj h
      obtain ⟨h1, h2, h3, h4⟩ := hc
      have hn := sc0 _ h4
      obtain ⟨hl, _⟩ := List.getElem?_eq_some_iff.1 h3
      rw [List.length_tail] at hl
      refine ⟨hn, by show hexRun q.tail + 2 ≤ q.length; omega, fun k hk => ?_⟩
      simp only at hk
      cases k with
      | zero => exact ⟨123, by rw [← List.head?_eq_getElem?]; exact hh, by omega, by omega⟩
      | succ k =>
        rw [← List.getElem?_tail]
        by_cases c : k = hexRun q.tail
        · subst c; exact ⟨125, h3, by omega, by omega⟩
        · obtain ⟨x, hx, hv⟩ := (hexRun_at q.tail k (by omega)).1 (by omega)
          exact ⟨x, hx, hexs x hv⟩
    · cases h
  · split at h
    · cases h
    · rename_i c1
      have n4 := nums 4 q (by omega)
      split at h
      · rename_i c2
        split at h
        · rename_i c3
          obtain rfl := Option.some.inj h
          have n6 := nums 4 (q.drop 6) (by omega)
          rw [List.length_drop] at n6
          refine ⟨by show 0 ≤ 65536 + 1024 * (numN 4 q 0 - 55296) + numN 4 (q.drop 6) 0 - 56320; omega, by show 10 ≤ q.length; omega, fun k hk => ?_⟩
          simp only at hk
          rcases Nat.lt_or_ge k 4 with c | c
          · exact n4.2 k c
          · by_cases k4 : k = 4
            · subst k4; exact ⟨92, c3.1, by omega, by omega⟩
            by_cases k5 : k = 5
            · subst k5; exact ⟨117, c3.2.1, by omega, by omega⟩
            have := n6.2 (k - 6) (by omega)
            rw [List.getElem?_drop, show 6 + (k - 6) = k from by omega] at this
            exact this
        · cases h
      · split at h
        · obtain rfl := Option.some.inj h
          exact ⟨by show 0 ≤ numN 4 q 0; omega, n4.1, n4.2⟩
        · cases h
theorem esc_facts (q : List Int) (p : Int × Nat) (h : escL1 q = some p) : 0 ≤ p.1 ∧ p.2 ≤ q.length ∧ ∀ k, k < p.2 → ∃ x, q[k]? = some x ∧ 0 ≤ x ∧ x < 128 := by
  cases q with
  | nil => cases h
  | cons x r =>
    have one : ∀ n : Int, 0 ≤ n → (0 ≤ x ∧ x < 128) → some (n, 1) = some p → 0 ≤ p.1 ∧ p.2 ≤ (x :: r).length ∧ ∀ k, k < p.2 → ∃ y, (x :: r)[k]? = some y ∧ 0 ≤ y ∧ y < 128 := by
      intro n hn hx e
      obtain rfl := Option.some.inj e
      refine ⟨hn, by simp, fun k hk => ?_⟩
      simp only at hk
      obtain rfl : k = 0 := by omega
      exact ⟨x, rfl, hx⟩
    simp only [escL1] at h
    split at h
    · exact one x (by omega) (by omega) h
    split at h
    · exact one 8 (by omega) (by omega) h
    split at h
    · exact one 9 (by omega) (by omega) h
    split at h
    · exact one 10 (by omega) (by omega) h
    split at h
    · exact one 12 (by omega) (by omega) h
    split at h
    · exact one 13 (by omega) (by omega) h
    split at h
    · obtain ⟨p', hp, rfl⟩ := Option.map_eq_some_iff.1 h
      have := uni_facts r p' hp
      refine ⟨this.1, by show p'.2 + 1 ≤ r.length + 1; omega, fun k hk => ?_⟩
      simp only at hk
      cases k with
      | zero => exact ⟨x, rfl, by omega, by omega⟩
      | succ k => rw [List.getElem?_cons_succ]; exact this.2.2 k (by omega)
    · cases h
/-- What stands between the quotes, read byte by byte. -/
def unesc (q : List Int) : Option (List Int) := match q with
  | [] => some []
  | x :: r => if x = 34 ∨ (x < 32 ∧ x ≠ 9) then none
    else if x = 92 then (match escL1 r with | none => none | some p => (unesc (r.drop p.2)).map (bytesOf (runeTextL p.1) ++ ·))
    else (unesc r).map ([x] ++ ·)
termination_by q.length
decreasing_by
  all_goals simp
  all_goals omega
def finU (out : List Int) (o : Option (List Int)) : ByteArray × Bool := match o with
  | none => ((⟨#[]⟩ : ByteArray), false)
  | some l => if ((out ++ l).length : Int) > 200 then ((⟨#[]⟩ : ByteArray), false) else (strOfNums (out ++ l), true)
theorem finU_map (out t : List Int) (o : Option (List Int)) : finU out (o.map (t ++ ·)) = finU (out ++ t) o := by
  cases o with
  | none => rfl
  | some l => simp [finU]
theorem runeTextL_size (n : Int) : (runeTextL n).size ≤ 4 := by
  unfold runeTextL
  split
  · have : (runeL n).length ≤ 4 := by
      unfold runeL
      split
      · simp
      · split
        · simp
        · split <;> simp
    have h : (strOfNums (runeL n)).size = (runeL n).length := by unfold strOfNums; simp [ByteArray.size]
    omega
  · decide
theorem impl_Unescaped.l0_ev (n : Nat) : ∀ (q o : ByteArray), q.size ≤ n → o.size + 4 * q.size ≤ 100000 → Ev (fun k => impl_Unescaped.l0 k q o) (finU (bytesOf o) (unesc (bytesOf q))) := by
  induction n with
  | zero =>
    intro q o hq ho
    have e : bytesOf q = [] := List.length_eq_zero_iff.1 (by rw [size_bytes]; omega)
    apply Ev.succ; simp only [impl_Unescaped.l0]
    rw [e, unesc]
    refine Ev.ite_pos ((toList_eq_bytes q []).2 e) ?_
    unfold finU
    simp only [List.append_nil, size_bytes]
    by_cases c : (o.size : Int) > 200
    · exact Ev.ite_pos c (Ev.done (if_pos c).symm)
    · refine Ev.ite_neg c (Ev.done ?_)
      rw [if_neg c, strOfNums_bytes]
  | succ n ih =>
    intro q o hq ho
    by_cases c0 : q.size = 0
    · exact ih q o (by omega) ho
    have e : bytesOf q = bt q 0 :: tl q 1 := by rw [← tl_zero, tl_cons (by omega) (by omega)]; rfl
    have hne : ¬ q.toList = ([] : List UInt8) := fun z => by
      have := (toList_eq_bytes q []).1 z
      rw [e] at this; cases this
    have hx := bt_range q 0
    have hj : ∀ b, b = decide (bt q 0 = 34 ∨ (bt q 0 < 32 ∧ bt q 0 ≠ 9)) → Ev (fun k => impl_Unescaped.j2 k q o (bt q 0) b) (finU (bytesOf o) (unesc (bytesOf q))) := by
      rintro b rfl
      apply Ev.succ; simp only [impl_Unescaped.j2]
      rw [e, unesc]
      by_cases c1 : bt q 0 = 34 ∨ (bt q 0 < 32 ∧ bt q 0 ≠ 9)
      · rw [if_pos c1]
        exact Ev.ite_pos (decide_eq_true c1) (Ev.done rfl)
      rw [if_neg c1]
      refine Ev.ite_neg (by simpa using c1) ?_
      by_cases c2 : bt q 0 = 92
      · rw [if_pos c2]
        refine Ev.ite_pos c2 (Ev.ite_pos (by omega) ?_)
        have h1 : bytesOf (q.extract 1 q.size) = tl q 1 := extract_tl q 1
        obtain ⟨r, hr, hok⟩ := impl_readEscape.ev (q.extract 1 q.size) (by rw [size_extract]; omega)
        rw [h1] at hok
        refine hr.bind ?_
        cases hu : escL1 (tl q 1) with
        | none =>
          rw [hu] at hok
          have hok : r.2.2 = false := hok
          exact Ev.ite_neg (by rw [hok]; decide) (Ev.done rfl)
        | some p =>
          rw [hu] at hok
          obtain ⟨rfl, hp11⟩ := hok
          have hf := esc_facts _ p hu
          have hln : (tl q 1).length = q.size - 1 := by unfold tl; rw [List.length_drop, size_bytes]; rfl
          have h4 := runeTextL_size p.1
          have hw : wrap64 (1 + (p.2 : Int)) = ((1 + p.2 : Nat) : Int) := by rw [w64 (by omega) (by omega)]; omega
          refine Ev.ite_pos rfl (Ev.ite_pos (by simp only; omega) ?_)
          simp only
          rw [hw]
          refine Ev.ite_pos (by omega) (Ev.ite_pos (by omega) ?_)
          rw [Int.toNat_natCast]
          have hz : (q.extract (1 + p.2) q.size).size = q.size - (1 + p.2) := by rw [size_extract]; omega
          refine (ih (q.extract (1 + p.2) q.size) (o ++ runeTextL p.1) (by omega) (by rw [ByteArray.size_append]; omega)).get ?_
          have hb : bytesOf (q.extract (1 + p.2) q.size) = (tl q 1).drop p.2 := by
            have := extract_tl q ((1 + p.2 : Nat) : Int)
            rw [Int.toNat_natCast] at this
            rw [this, tl_drop q 1 (by omega)]
            congr 1
          have ha : bytesOf (o ++ runeTextL p.1) = bytesOf o ++ bytesOf (runeTextL p.1) := by simp [bytesOf, ByteArray.data_append]
          rw [hb, ha, finU_map]
      · rw [if_neg c2]
        refine Ev.ite_neg c2 (Ev.ite_pos (by omega) (Ev.ite_pos (by omega) ?_))
        have hz1 : (q.extract 0 1).size = 1 := by rw [size_extract]; omega
        have hz : (q.extract 1 q.size).size = q.size - 1 := by rw [size_extract]; omega
        refine Ev.ite_pos (by omega) ((ih (q.extract 1 q.size) (o ++ q.extract 0 1) (by omega) (by rw [ByteArray.size_append]; omega)).get ?_)
        have hb : bytesOf (q.extract 1 q.size) = tl q 1 := extract_tl q 1
        have hb0 : bytesOf (q.extract 0 1) = [bt q 0] := by rw [bytes_extract, e]; rfl
        have ha : bytesOf (o ++ q.extract 0 1) = bytesOf o ++ [bt q 0] := by rw [← hb0]; simp [bytesOf, ByteArray.data_append]
        rw [hb, ha, finU_map]
    apply Ev.succ; simp only [impl_Unescaped.l0]
    refine Ev.ite_neg hne (Ev.ite_pos (by omega) ?_)
    by_cases c1 : bt q 0 = 34
    · exact Ev.ite_pos c1 (hj _ (by simp [c1]))
    refine Ev.ite_neg c1 ?_
    by_cases c2 : bt q 0 < 32
    · refine Ev.ite_pos c2 (hj _ ?_)
      rw [Bool.eq_iff_iff]; simp; omega
    · refine Ev.ite_neg c2 (hj _ ?_)
      rw [Bool.eq_iff_iff]; simp; omega
/-! The reference model's side: rune by rune. -/
theorem unesc_pass (l : List Int) (q : List Int) (h : ∀ x ∈ l, 128 ≤ x) : unesc (l ++ q) = (unesc q).map (l ++ ·) := by
  induction l with
  | nil => rw [List.nil_append]; cases unesc q <;> rfl
  | cons x r ih =>
    have hx := h x (List.mem_cons_self ..)
    rw [List.cons_append, unesc, if_neg (by omega), if_neg (by omega), ih (fun y hy => h y (List.mem_cons_of_mem _ hy))]
    cases unesc q <;> simp
theorem bytes_rune (n : Int) (h : scalB n = true) : bytesOf (runeTextL n) = runeL n := by
  unfold runeTextL
  rw [if_pos h]
  have hn : 0 ≤ n ∧ n ≤ 1114111 := by unfold scalB at h; simp at h; omega
  apply bytes_strOfNums
  intro x hx
  unfold runeL at hx
  split at hx
  · simp at hx; omega
  · split at hx
    · simp at hx; omega
    · split at hx
      · simp at hx; omega
      · simp at hx; omega
/-- The bytes of a scalar that stands at a place. -/
theorem dec_bytes (s : ByteArray) (i : Int) (h0 : 0 ≤ i) (h1 : i < (s.size : Int)) (hv : 0 ≤ (decAt s i).1) :
    scalB (decAt s i).1 = true ∧ tl s i = runeL (decAt s i).1 ++ tl s (i + (decAt s i).2) ∧ ((decAt s i).1 < 128 → (decAt s i).1 = bt s i ∧ (decAt s i).2 = 1) ∧ (128 ≤ (decAt s i).1 → ∀ x ∈ runeL (decAt s i).1, 128 ≤ x) := by
  have b0 := bt_range s i
  have b1 := bt_range s (i + 1)
  have b2 := bt_range s (i + 2)
  have b3 := bt_range s (i + 3)
  have c0 := tl_cons h0 h1
  have c1 : i + 1 < (s.size : Int) → tl s (i + 1) = bt s (i + 1) :: tl s (i + 2) := fun h => by rw [tl_cons (by omega) h, show i + 1 + 1 = i + 2 from by omega]
  have c2 : i + 2 < (s.size : Int) → tl s (i + 2) = bt s (i + 2) :: tl s (i + 3) := fun h => by rw [tl_cons (by omega) h, show i + 2 + 1 = i + 3 from by omega]
  have c3 : i + 3 < (s.size : Int) → tl s (i + 3) = bt s (i + 3) :: tl s (i + 4) := fun h => by rw [tl_cons (by omega) h, show i + 3 + 1 = i + 4 from by omega]
  have sc : ∀ n : Int, 0 ≤ n → n ≤ 1114111 → ¬ (55296 ≤ n ∧ n ≤ 57343) → scalB n = true := by intro n a b c; unfold scalB; simp; omega
  unfold decAt at *
  generalize bt s i = x0 at *
  generalize bt s (i + 1) = x1 at *
  generalize bt s (i + 2) = x2 at *
  generalize bt s (i + 3) = x3 at *
  unfold decZ at *
  split at hv
  · exact absurd hv (by decide)
  rename_i g0
  rw [if_neg g0]
  split at hv
  · rename_i g1
    rw [if_pos g1]
    refine ⟨sc _ (by show 0 ≤ x0; omega) (by show x0 ≤ _; omega) (by show ¬ (_ ≤ x0 ∧ _); omega), ?_, fun _ => ⟨rfl, rfl⟩, fun h => absurd h (by show ¬ 128 ≤ x0; omega)⟩
    show tl s i = runeL x0 ++ tl s (i + 1)
    rw [c0, runeL, if_pos g1]; rfl
  rename_i g1
  rw [if_neg g1]
  split at hv
  · rename_i g2
    rw [if_pos g2]
    simp only
    generalize hn : (x0 - 192) * 64 + x1 - 128 = n at *
    have e : runeL n = [x0, x1] := by
      unfold runeL
      rw [if_neg (by omega), if_pos (by omega), show 192 + n / 64 = x0 from by omega, show 128 + n % 64 = x1 from by omega]
    refine ⟨sc _ (by omega) (by omega) (by omega), ?_, fun h => absurd h (by omega), fun _ x hx => ?_⟩
    · rw [e, c0, c1 (by omega)]; rfl
    · rw [e] at hx; simp at hx; omega
  rename_i g2
  rw [if_neg g2]
  split at hv
  · rename_i g3
    rw [if_pos g3]
    simp only
    generalize hn : ((x0 - 224) * 64 + x1 - 128) * 64 + x2 - 128 = n at *
    have e : runeL n = [x0, x1, x2] := by
      unfold runeL
      rw [if_neg (by omega), if_neg (by omega), if_pos (by omega), show 224 + n / 4096 = x0 from by omega, show 128 + n / 64 % 64 = x1 from by omega, show 128 + n % 64 = x2 from by omega]
    refine ⟨sc _ (by omega) (by omega) (by omega), ?_, fun h => absurd h (by omega), fun _ x hx => ?_⟩
    · rw [e, c0, c1 (by omega), c2 (by omega)]; rfl
    · rw [e] at hx; simp at hx; omega
  rename_i g3
  rw [if_neg g3]
  split at hv
  · rename_i g4
    rw [if_pos g4]
    simp only
    generalize hn : (((x0 - 240) * 64 + x1 - 128) * 64 + x2 - 128) * 64 + x3 - 128 = n at *
    have e : runeL n = [x0, x1, x2, x3] := by
      unfold runeL
      rw [if_neg (by omega), if_neg (by omega), if_neg (by omega), show 240 + n / 262144 = x0 from by omega, show 128 + n / 4096 % 64 = x1 from by omega, show 128 + n / 64 % 64 = x2 from by omega, show 128 + n % 64 = x3 from by omega]
    refine ⟨sc _ (by omega) (by omega) (by omega), ?_, fun h => absurd h (by omega), fun _ x hx => ?_⟩
    · rw [e, c0, c1 (by omega), c2 (by omega), c3 (by omega)]; rfl
    · rw [e] at hx; simp at hx; omega
  · exact absurd hv (by decide)
def vAt (s : ByteArray) (i : Int) : Bool := Lib.validD (s.data.toList.drop i.toNat)
theorem vAt_ascii (s : ByteArray) (i : Int) (h0 : 0 ≤ i) (h1 : i < (s.size : Int)) (hb : bt s i < 128) : vAt s i = vAt s (i + 1) := by
  have hd : decAt s i = (bt s i, 1) := by unfold decAt decZ; rw [if_neg (by omega), if_pos hb]
  have hr := bt_range s i
  rcases dec_step s i h0 h1 with h | h
  · rw [hd] at h; have := (Prod.mk.inj h.1).1; omega
  · rw [hd] at h; exact h.2.2.2.2
theorem vAt_run (s : ByteArray) (m : Nat) : ∀ i : Int, 0 ≤ i → (∀ k, k < m → ∃ x, (tl s i)[k]? = some x ∧ 0 ≤ x ∧ x < 128) → vAt s i = vAt s (i + m) := by
  induction m with
  | zero => intro i _ _; rw [show i + ((0 : Nat) : Int) = i from by omega]
  | succ m ih =>
    intro i h0 h
    obtain ⟨x, hx, hx0, hx1⟩ := h 0 (by omega)
    rw [tl_get s i h0 0] at hx
    split at hx
    · rename_i c
      obtain rfl := Option.some.inj hx
      rw [show i + ((0 : Nat) : Int) = i from by omega] at *
      rw [vAt_ascii s i h0 c hx1, ih (i + 1) (by omega) (fun k hk => ?_), show i + 1 + (m : Int) = i + ((m + 1 : Nat) : Int) from by omega]
      have := h (k + 1) (by omega)
      rw [tl_get s i h0, show i + ((k + 1 : Nat) : Int) = i + 1 + k from by omega, ← tl_get s (i + 1) (by omega)] at this
      exact this
    · cases hx
theorem vAt_end (s : ByteArray) (i : Int) (h : (s.size : Int) ≤ i) : vAt s i = true := by
  unfold vAt
  rw [List.drop_eq_nil_of_le (by rw [data_length]; omega)]
  rfl
theorem spec_Unescaped.l0_ev (s : ByteArray) (hs : s.size ≤ 10000) (n : Nat) : ∀ (out : List Int) (i : Int), 0 ≤ i → i ≤ (s.size : Int) → (s.size : Int) - i ≤ n → (out.length : Int) + 4 * ((s.size : Int) - i) ≤ 100000 →
    Ev (fun k => spec_Unescaped.l0 k s out i) (finU out (if vAt s i = true then unesc (tl s i) else none)) := by
  induction n with
  | zero =>
    intro out i h0 h1 hn ho
    apply Ev.succ; simp only [spec_Unescaped.l0]
    rw [vAt_end s i (by omega), if_pos rfl, tl_nil (by omega), unesc]
    refine Ev.ite_neg (by omega) ?_
    unfold finU
    simp only [List.append_nil]
    by_cases c : (out.length : Int) > 200
    · exact Ev.ite_pos c (Ev.done (if_pos c).symm)
    · exact Ev.ite_neg c (Ev.done (if_neg c).symm)
  | succ n ih =>
    intro out i h0 h1 hn ho
    by_cases c0 : (s.size : Int) ≤ i
    · exact ih out i h0 h1 (by omega) ho
    have hi : i < (s.size : Int) := by omega
    apply Ev.succ; simp only [spec_Unescaped.l0]
    refine Ev.ite_pos hi (Ev.ite_pos h0 ?_)
    by_cases c1 : bt s i = 92
    · refine Ev.ite_pos c1 ((spec_l04Rune.ev s (by omega) i h0 hi).bind ?_)
      have ht : tl s i = 92 :: tl s (i + 1) := by rw [tl_cons h0 hi, c1]
      have hva := vAt_ascii s i h0 hi (by omega)
      cases hu : escL1 (tl s (i + 1)) with
      | none =>
        refine Ev.ite_pos (by show (-1 : Int) < 0; decide) (Ev.done ?_)
        have hn : unesc (92 :: tl s (i + 1)) = none := by
          rw [unesc, if_neg (by decide), if_pos (by first | rfl | trivial), hu]
        rw [ht, hn]
        split <;> rfl
      | some p =>
        have hf := esc_facts _ p hu
        have hln : (tl s (i + 1)).length = ((s.size : Int) - (i + 1)).toNat := by unfold tl; rw [List.length_drop, size_bytes]; omega
        have h4 := runeTextL_size p.1
        have hrun := vAt_run s p.2 (i + 1) (by omega) hf.2.2
        have hlb : (bytesOf (runeTextL p.1)).length = (runeTextL p.1).size := size_bytes _
        refine Ev.ite_neg (by show ¬ p.1 < 0; omega) (Ev.bindc (spec_RuneText.eq p.1) (Ev.ite_pos (by omega) ?_))
        refine (ih (out ++ bytesOf (runeTextL p.1)) (i + 1 + p.2) (by omega) (by omega) (by omega) (by rw [List.length_append, hlb]; omega)).get ?_
        rw [hva, hrun, ht]
        by_cases cv : vAt s (i + 1 + p.2) = true
        · rw [if_pos cv, if_pos cv, unesc, if_neg (by decide), if_pos (by first | rfl | trivial), hu]
          simp only
          rw [finU_map, tl_drop s (i + 1) (by omega)]
        · rw [if_neg cv, if_neg cv]; rfl
    · have hra := spec_RuneAt.ev s (by omega) i
      rw [if_pos h0] at hra
      refine Ev.ite_neg c1 (hra.bind ?_)
      have ht := tl_cons h0 hi
      have hj : ∀ b, b = decide ((decAt s i).1 = 34 ∨ ((decAt s i).1 < 32 ∧ (decAt s i).1 ≠ 9)) → Ev (fun k => spec_Unescaped.j2 k s out (decAt s i).1 (wrap64 (i + (decAt s i).2)) b) (finU out (if vAt s i = true then unesc (tl s i) else none)) := by
        rintro b rfl
        apply Ev.succ; simp only [spec_Unescaped.j2]
        rcases dec_step s i h0 hi with hd | ⟨hd0, hd1, hd4, hd5, hdv⟩
        · have hf : vAt s i = false := hd.2
          rw [hd.1, hf]
          exact Ev.ite_pos (by decide) (Ev.ite_pos (by decide) (Ev.done rfl))
        · obtain ⟨hsc, htl, hlow, hhigh⟩ := dec_bytes s i h0 hi hd0
          have hdv : vAt s i = vAt s (i + (decAt s i).2) := hdv
          generalize (decAt s i).1 = x at *
          generalize (decAt s i).2 = m at *
          by_cases c2 : x = 34 ∨ (x < 32 ∧ x ≠ 9)
          · have hl := (hlow (by omega)).1
            refine Ev.ite_pos (decide_eq_true c2) (Ev.ite_pos (by decide) (Ev.done ?_))
            have hn : unesc (bt s i :: tl s (i + 1)) = none := by
              rw [unesc, ← hl, if_pos c2]
            rw [ht, hn]
            split <;> rfl
          · have h4 := runeTextL_size x
            have hlb : (bytesOf (runeTextL x)).length = (runeTextL x).size := size_bytes _
            refine Ev.ite_neg (by simpa using c2) (Ev.ite_neg (by omega) (Ev.bindc (spec_RuneText.eq x) (Ev.ite_pos (by omega) ?_)))
            rw [w64 (by omega) (by omega)]
            refine (ih (out ++ bytesOf (runeTextL x)) (i + m) (by omega) (by omega) (by omega) (by rw [List.length_append, hlb]; omega)).get ?_
            rw [hdv]
            have hu : unesc (tl s i) = (unesc (tl s (i + m))).map (runeL x ++ ·) := by
              by_cases c3 : x < 128
              · obtain ⟨hl, hm1⟩ := hlow c3
                have er : runeL x = [x] := by unfold runeL; rw [if_pos c3]
                rw [ht, unesc, ← hl, if_neg c2, if_neg (by omega), er, hm1]
              · rw [htl]
                exact unesc_pass _ _ (hhigh (by omega))
            by_cases cv : vAt s (i + m) = true
            · rw [if_pos cv, if_pos cv, hu, finU_map, bytes_rune x hsc]
            · rw [if_neg cv, if_neg cv]; rfl
      by_cases c2 : (decAt s i).1 = 34
      · exact Ev.ite_pos c2 (hj _ (by simp [c2]))
      refine Ev.ite_neg c2 ?_
      by_cases c3 : (decAt s i).1 < 32
      · refine Ev.ite_pos c3 (hj _ ?_)
        rw [Bool.eq_iff_iff]; simp; omega
      · refine Ev.ite_neg c3 (hj _ ?_)
        rw [Bool.eq_iff_iff]; simp; omega
theorem decZ_end (n b0 b1 b2 b3 c1 c2 c3 : Int) (h1 : 1 ≤ n) (e1 : if 1 < n then c1 = b1 else c1 < 128) (e2 : if 2 < n then c2 = b2 else if 2 = n then c2 < 128 else True) (e3 : if 3 < n then c3 = b3 else if 3 = n then c3 < 128 else True) :
    decZ (n + 1) b0 c1 c2 c3 = decZ n b0 b1 b2 b3 := by
  unfold decZ
  rw [if_neg (show ¬ n + 1 ≤ 0 by omega), if_neg (show ¬ n ≤ 0 by omega)]
  by_cases k0 : b0 < 128
  · rw [if_pos k0, if_pos k0]
  rw [if_neg k0, if_neg k0]
  by_cases n1 : 1 < n
  · rw [if_pos n1] at e1
    subst e1
    by_cases n2 : 2 < n
    · rw [if_pos n2] at e2
      subst e2
      by_cases n3 : 3 < n
      · rw [if_pos n3] at e3
        subst e3
        split <;> split <;> (try split) <;> (try split) <;> (try split) <;> (try split) <;> first | rfl | omega
      · rw [if_neg n3] at e3
        have : 3 = n := by omega
        subst this
        rw [if_pos rfl] at e3
        split <;> split <;> (try split) <;> (try split) <;> (try split) <;> (try split) <;> first | rfl | omega
    · have : 2 = n := by omega
      subst this
      rw [if_neg (by decide), if_pos rfl] at e2
      split <;> split <;> (try split) <;> (try split) <;> (try split) <;> (try split) <;> first | rfl | omega
  · rw [if_neg n1] at e1
    split <;> (try split) <;> (try split) <;> (try split) <;> (try split) <;> (try split) <;> first | rfl | omega
theorem bt_inner (s : ByteArray) (j : Int) (h0 : 0 ≤ j) (h1 : j + 2 < (s.size : Int)) : bt (s.extract 1 (s.size - 1)) j = bt s (j + 1) := by
  rw [← rd_bytesOf, ← rd_bytesOf, bytes_extract]
  unfold rd
  rw [List.getD_eq_getElem?_getD, List.getD_eq_getElem?_getD, List.getElem?_drop, List.getElem?_take]
  rw [if_pos (by omega), show (j + 1).toNat = 1 + j.toNat from by omega]
theorem vAt_inner (s : ByteArray) (hz : 2 ≤ s.size) (hl : bt s ((s.size : Int) - 1) = 34) (n : Nat) : ∀ i : Int, 0 ≤ i → i ≤ (s.size : Int) - 2 → (s.size : Int) - 2 - i ≤ n → vAt s (i + 1) = vAt (s.extract 1 (s.size - 1)) i := by
  have hts : ((s.extract 1 (s.size - 1)).size : Int) = (s.size : Int) - 2 := by rw [size_extract]; omega
  have last : vAt s ((s.size : Int) - 2 + 1) = vAt (s.extract 1 (s.size - 1)) ((s.size : Int) - 2) := by
    rw [vAt_end (s.extract 1 (s.size - 1)) _ (by omega), show (s.size : Int) - 2 + 1 = (s.size : Int) - 1 from by omega, vAt_ascii s _ (by omega) (by omega) (by omega), vAt_end s _ (by omega)]
  induction n with
  | zero =>
    intro i h0 h1 hn
    rw [show i = (s.size : Int) - 2 from by omega]; exact last
  | succ n ih =>
    intro i h0 h1 hn
    by_cases c : i = (s.size : Int) - 2
    · rw [c]; exact last
    have e0 := bt_inner s i h0 (by omega)
    have ed : decAt s (i + 1) = decAt (s.extract 1 (s.size - 1)) i := by
      unfold decAt
      rw [hts, e0, show (s.size : Int) - (i + 1) = ((s.size : Int) - 2 - i) + 1 from by omega]
      refine decZ_end _ _ _ _ _ _ _ _ (by omega) ?_ ?_ ?_
      · by_cases k : 1 < (s.size : Int) - 2 - i
        · rw [if_pos k, bt_inner s (i + 1) (by omega) (by omega)]
        · rw [if_neg k, show i + 1 + 1 = (s.size : Int) - 1 from by omega, hl]; decide
      · by_cases k : 2 < (s.size : Int) - 2 - i
        · rw [if_pos k, bt_inner s (i + 2) (by omega) (by omega), show i + 1 + 2 = i + 2 + 1 from by omega]
        · rw [if_neg k]
          by_cases k2 : 2 = (s.size : Int) - 2 - i
          · rw [if_pos k2, show i + 1 + 2 = (s.size : Int) - 1 from by omega, hl]; decide
          · rw [if_neg k2]; trivial
      · by_cases k : 3 < (s.size : Int) - 2 - i
        · rw [if_pos k, bt_inner s (i + 3) (by omega) (by omega), show i + 1 + 3 = i + 3 + 1 from by omega]
        · rw [if_neg k]
          by_cases k2 : 3 = (s.size : Int) - 2 - i
          · rw [if_pos k2, show i + 1 + 3 = (s.size : Int) - 1 from by omega, hl]; decide
          · rw [if_neg k2]; trivial
    have d1 := dec_step s (i + 1) (by omega) (by omega)
    have d2 := dec_step (s.extract 1 (s.size - 1)) i h0 (by omega)
    rw [ed] at d1
    rcases d1 with d1 | d1
    · rcases d2 with d2 | d2
      · exact d1.2.trans d2.2.symm
      · rw [d1.1] at d2; exact absurd d2.1 (by decide)
    · rcases d2 with d2 | d2
      · rw [d2.1] at d1; exact absurd d1.1 (by decide)
      · have a1 : vAt s (i + 1) = vAt s (i + 1 + (decAt (s.extract 1 (s.size - 1)) i).2) := d1.2.2.2.2
        have a2 : vAt (s.extract 1 (s.size - 1)) i = vAt (s.extract 1 (s.size - 1)) (i + (decAt (s.extract 1 (s.size - 1)) i).2) := d2.2.2.2.2
        have b1 := d2.2.1
        have b2 := d2.2.2.2.1
        rw [a1, a2, show i + 1 + (decAt (s.extract 1 (s.size - 1)) i).2 = i + (decAt (s.extract 1 (s.size - 1)) i).2 + 1 from by omega]
        exact ih _ (by omega) (by omega) (by omega)
/-- Both sides' answer. -/
def unescB (s : ByteArray) : ByteArray × Bool :=
  if 2 ≤ s.size ∧ s.size ≤ 1300 ∧ bt s 0 = 34 ∧ bt s ((s.size : Int) - 1) = 34 ∧ textOkS s = true then finU [] (unesc (bytesOf (s.extract 1 (s.size - 1)))) else ((⟨#[]⟩ : ByteArray), false)
theorem spec_Unescaped.j0_true (s : ByteArray) : Ev (fun k => spec_Unescaped.j0 k s true) ((⟨#[]⟩ : ByteArray), false) := by
  apply Ev.succ; simp only [spec_Unescaped.j0]
  exact Ev.ite_pos (by first | rfl | trivial) (Ev.done rfl)
theorem spec_Unescaped.ev (s : ByteArray) (hs : s.size ≤ 140737488351232) : Ev (fun k => spec_Unescaped.f k s) (unescB s) := by
  unfold spec_Unescaped.f
  by_cases c1 : (s.size : Int) < 2
  · refine Ev.ite_pos c1 ((spec_Unescaped.j0_true s).get ?_)
    unfold unescB; rw [if_neg (by omega)]
  refine Ev.ite_neg c1 ?_
  by_cases c2 : (s.size : Int) > 1300
  · refine Ev.ite_pos c2 ((spec_Unescaped.j0_true s).get ?_)
    unfold unescB; rw [if_neg (by omega)]
  refine Ev.ite_neg c2 (Ev.ite_pos (by omega) ?_)
  by_cases c3 : bt s 0 = 34
  rotate_left
  · refine Ev.ite_neg c3 ((spec_Unescaped.j0_true s).get ?_)
    unfold unescB; rw [if_neg (fun z => c3 z.2.2.1)]
  have hw : wrap64 ((s.size : Int) - 1) = (s.size : Int) - 1 := w64 (by omega) (by omega)
  rw [hw]
  refine Ev.ite_pos c3 (Ev.ite_pos (by omega) (Ev.ite_pos (by omega) ?_))
  by_cases c4 : bt s ((s.size : Int) - 1) = 34
  rotate_left
  · rw [bne_iff_ne.2 c4]
    refine (spec_Unescaped.j0_true s).get ?_
    unfold unescB; rw [if_neg (fun z => c4 z.2.2.2.1)]
  rw [bne_eq_false_iff_eq.2 c4]
  apply Ev.succ; simp only [spec_Unescaped.j0]
  rw [hw, show ((s.size : Int) - 1).toNat = s.size - 1 from by omega]
  have hts : ((s.extract 1 (s.size - 1)).size : Int) = (s.size : Int) - 2 := by rw [size_extract]; omega
  refine Ev.ite_neg (by decide) (Ev.ite_pos (by omega) (Ev.ite_pos (by omega) ((spec_Unescaped.l0_ev (s.extract 1 (s.size - 1)) (by omega) (s.size - 2) [] 0 (by omega) (by omega) (by omega) (by simp only [List.length_nil]; omega)).get ?_)))
  have hv : textOkS s = vAt (s.extract 1 (s.size - 1)) 0 := by
    rw [← vAt_inner s (by omega) c4 (s.size - 2) 0 (by omega) (by omega) (by omega), ← vAt_ascii s 0 (by omega) (by omega) (by omega)]
    rfl
  unfold unescB
  rw [tl_zero, ← hv]
  by_cases c5 : textOkS s = true
  · rw [if_pos c5, if_pos ⟨by omega, by omega, c3, c4, c5⟩]
  · rw [if_neg c5, if_neg (fun z => c5 z.2.2.2.2)]; rfl
theorem impl_Unescaped.j0_true (s : ByteArray) : Ev (fun k => impl_Unescaped.j0 k s true) ((⟨#[]⟩ : ByteArray), false) := by
  apply Ev.succ; simp only [impl_Unescaped.j0]
  exact Ev.ite_pos (by first | rfl | trivial) (Ev.done rfl)
theorem impl_Unescaped.ev (s : ByteArray) (hs : s.size ≤ 140737488351232) : Ev (fun k => impl_Unescaped.f k s) (unescB s) := by
  unfold impl_Unescaped.f
  refine Ev.bindc (impl_in.eq _ _ _) ?_
  by_cases c1 : 2 ≤ (s.size : Int) ∧ (s.size : Int) ≤ 1300
  rotate_left
  · refine Ev.ite_neg (by simpa using c1) ((impl_Unescaped.j0_true s).get ?_)
    unfold unescB; rw [if_neg (by omega)]
  refine Ev.ite_pos (by simpa using c1) (Ev.ite_pos (by omega) ?_)
  by_cases c3 : bt s 0 = 34
  rotate_left
  · refine Ev.ite_neg c3 ((impl_Unescaped.j0_true s).get ?_)
    unfold unescB; rw [if_neg (fun z => c3 z.2.2.1)]
  have hw : wrap64 ((s.size : Int) - 1) = (s.size : Int) - 1 := w64 (by omega) (by omega)
  rw [hw]
  refine Ev.ite_pos c3 (Ev.ite_pos (by omega) (Ev.ite_pos (by omega) ?_))
  by_cases c4 : bt s ((s.size : Int) - 1) = 34
  rotate_left
  · refine Ev.ite_neg c4 ((impl_Unescaped.j0_true s).get ?_)
    unfold unescB; rw [if_neg (fun z => c4 z.2.2.2.1)]
  refine Ev.ite_pos c4 (Ev.bindc (impl_TextOk.eq s (by omega)) ?_)
  by_cases c5 : textOkS s = true
  rotate_left
  · rw [Bool.eq_false_iff.2 c5]
    refine (impl_Unescaped.j0_true s).get ?_
    unfold unescB; rw [if_neg (fun z => c5 z.2.2.2.2)]
  rw [c5]
  apply Ev.succ; simp only [impl_Unescaped.j0]
  rw [hw, show ((s.size : Int) - 1).toNat = s.size - 1 from by omega]
  have hts : (s.extract 1 (s.size - 1)).size = s.size - 2 := by rw [size_extract]; omega
  refine Ev.ite_neg (by decide) (Ev.ite_pos (by omega) (Ev.ite_pos (by omega) ((impl_Unescaped.l0_ev (s.size - 2) (s.extract 1 (s.size - 1)) ⟨#[]⟩ (by omega) (by rw [hts]; show 0 + _ ≤ _; omega)).get ?_)))
  unfold unescB
  rw [if_pos ⟨by omega, by omega, c3, c4, c5⟩]
  rfl

theorem FnExactUnescaped : laws_FnExactUnescaped.Pure := by
  intro s hs
  apply Ev.out
  unfold laws_FnExactUnescaped.f
  by_cases h : (s.size : Int) > 1048576
  · exact Ev.ite_pos h (Ev.done rfl)
  · refine Ev.ite_neg h ((spec_Unescaped.ev s hs).bind ((impl_Unescaped.ev s hs).bind ?_))
    exact Ev.ite_pos rfl (Ev.ite_neg (by simp) (Ev.done rfl))


end Go.Proofs.YtlcjpfbnegjieaaDoor.Pure
