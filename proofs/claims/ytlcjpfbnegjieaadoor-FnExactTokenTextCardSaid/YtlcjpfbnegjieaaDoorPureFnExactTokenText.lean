/- For every token whose text is within reach the program's TokenText and the reference's return the same text, in a world whose tables of unicode/utf8 are as the library lays them. -/
import Derived.Test.YtlcjpfbnegjieaaDoorOFnExactTokenTextx3
import Derived.Test.YtlcjpfbnegjieaaDoorBase
namespace Go.Proofs.YtlcjpfbnegjieaaDoor.Pure
open Go.RowKit Go.Proofs.YtlcjpfbnegjieaaDoor.OFnExactTokenText Go.Proofs.YtlcjpfbnegjieaaDoorW.PrintWords Go.Proofs.YtlcjpfbnegjieaaDoorW.PrintLast Go.Proofs.YtlcjpfbnegjieaaDoorW.PrintMore Go.Proofs.YtlcjpfbnegjieaaDoor.Base
set_option linter.unusedVariables false
set_option linter.unusedSimpArgs false

theorem laws_szToken.eq (a : Int) (b : ByteArray) (c n : Int) (hb : b.size ≤ 9223372036854775807) (h0 : 0 ≤ n) (h1 : n ≤ 1048576) : ∃ r, laws_szToken.f a b c n = some r ∧ (r < 0 ∨ (r = n - b.size ∧ 0 ≤ r)) := by
  unfold laws_szToken.f
  rw [w64 (x := n - (b.size : Int)) (by omega) (by omega)]
  by_cases c : n - (b.size : Int) < 0
  · rw [if_pos c]; exact ⟨-1, rfl, Or.inl (by omega)⟩
  · rw [if_neg c]; exact ⟨_, rfl, Or.inr ⟨rfl, by omega⟩⟩

theorem spec_l01In.eq (x a b : Int) : spec_l01In.f x a b = some (decide (a ≤ x ∧ x ≤ b)) := by
  unfold spec_l01In.f
  by_cases h : x ≥ a
  · rw [if_pos h]; congr 1; rw [Bool.eq_iff_iff]; simp only [decide_eq_true_eq]; omega
  · rw [if_neg h]; congr 1; rw [Bool.eq_iff_iff]; simp only [decide_eq_true_eq, Bool.false_eq_true, false_iff]; omega

/-- The bytes of a scalar. -/
def runeL (n : Int) : List Int :=
  if n < 128 then [n] else if n < 2048 then [192 + n / 64, 128 + n % 64]
  else if n < 65536 then [224 + n / 4096, 128 + n / 64 % 64, 128 + n % 64]
  else [240 + n / 262144, 128 + n / 4096 % 64, 128 + n / 64 % 64, 128 + n % 64]
def scalB (n : Int) : Bool := decide (0 ≤ n ∧ n ≤ 1114111) && !decide (55296 ≤ n ∧ n ≤ 57343)
def runeTextL (n : Int) : ByteArray := if scalB n = true then strOfNums (runeL n) else (⟨#[]⟩ : ByteArray)
theorem or_low (h : Nat) (hh : h = 192 ∨ h = 224 ∨ h = 240 ∨ h = 128) (b m : Nat) (hb : b < m) (hm : m = if h = 192 then 32 else if h = 224 then 16 else if h = 240 then 8 else 64) : Go.bits .or .u8 (h : Int) (b : Int) = (h : Int) + b := by
  have t : (∀ b : Fin 32, Go.bits .or .u8 ((192 : Nat) : Int) (b.val : Int) = ((192 : Nat) : Int) + b.val) ∧ (∀ b : Fin 16, Go.bits .or .u8 ((224 : Nat) : Int) (b.val : Int) = ((224 : Nat) : Int) + b.val) ∧ (∀ b : Fin 8, Go.bits .or .u8 ((240 : Nat) : Int) (b.val : Int) = ((240 : Nat) : Int) + b.val) ∧ (∀ b : Fin 64, Go.bits .or .u8 ((128 : Nat) : Int) (b.val : Int) = ((128 : Nat) : Int) + b.val) := by decide +kernel
  obtain ⟨t1, t2, t3, t4⟩ := t
  rcases hh with rfl | rfl | rfl | rfl
  · exact t1 ⟨b, by simp at hm; omega⟩
  · exact t2 ⟨b, by simp at hm; omega⟩
  · exact t3 ⟨b, by simp at hm; omega⟩
  · exact t4 ⟨b, by simp at hm; omega⟩
theorem or192 {x : Int} (h0 : 0 ≤ x) (h1 : x < 32) : Go.bits .or .u8 192 x = 192 + x := by
  have := or_low 192 (by simp) x.toNat 32 (by omega) (by simp)
  rw [show ((x.toNat : Nat) : Int) = x from by omega] at this; exact this
theorem or224 {x : Int} (h0 : 0 ≤ x) (h1 : x < 16) : Go.bits .or .u8 224 x = 224 + x := by
  have := or_low 224 (by simp) x.toNat 16 (by omega) (by simp)
  rw [show ((x.toNat : Nat) : Int) = x from by omega] at this; exact this
theorem or240 {x : Int} (h0 : 0 ≤ x) (h1 : x < 8) : Go.bits .or .u8 240 x = 240 + x := by
  have := or_low 240 (by simp) x.toNat 8 (by omega) (by simp)
  rw [show ((x.toNat : Nat) : Int) = x from by omega] at this; exact this
theorem or128 {x : Int} (h0 : 0 ≤ x) (h1 : x < 64) : Go.bits .or .u8 128 x = 128 + x := by
  have := or_low 128 (by simp) x.toNat 64 (by omega) (by simp)
  rw [show ((x.toNat : Nat) : Int) = x from by omega] at this; exact this
theorem and63T : ∀ n : Fin 256, Go.bits .and .u8 (n.val : Int) 63 = (n.val : Int) % 64 := by decide +kernel
theorem and63 {x : Int} : Go.bits .and .u8 (x % 256) 63 = x % 64 := by
  have := and63T ⟨(x % 256).toNat, by omega⟩
  simp only at this
  rw [show (((x % 256).toNat : Nat) : Int) = x % 256 from by omega] at this; rw [this]; omega

theorem spec_l02Scalar.eq (x : Int) : spec_l02Scalar.f x = some (scalB x) := by
  unfold spec_l02Scalar.f scalB
  simp only [spec_l01In.eq, Option.bind_some]
  cases decide (0 ≤ x ∧ x ≤ 1114111) <;> simp

theorem spec_RuneText.eq (n : Int) : spec_RuneText.f n = some (runeTextL n) := by
  unfold spec_RuneText.f runeTextL
  rw [spec_l02Scalar.eq]; simp only [Option.bind_some]
  cases hs : scalB n with
  | false => rfl
  | true =>
    have hr : 0 ≤ n ∧ n ≤ 1114111 := by unfold scalB at hs; simp only [Bool.and_eq_true, decide_eq_true_eq] at hs; exact hs.1
    have d1 : ∀ m : Int, 0 < m → Int.tdiv n m = n / m := fun m _ => Int.tdiv_eq_ediv_of_nonneg hr.1
    have d2 : ∀ a m : Int, 0 ≤ a → Int.tmod a m = a % m := fun a m h => Int.tmod_eq_emod_of_nonneg h
    rw [if_pos rfl, if_pos rfl]
    unfold runeL
    rw [d1 64 (by omega), d1 4096 (by omega), d1 262144 (by omega), d2 n 64 hr.1, w64 (x := n / 64) (by omega) (by omega), w64 (x := n / 4096) (by omega) (by omega), w64 (x := n / 262144) (by omega) (by omega), d2 (n / 64) 64 (by omega), d2 (n / 4096) 64 (by omega)]
    rw [w64 (x := 192 + n / 64) (by omega) (by omega), w64 (x := 128 + n % 64) (by omega) (by omega), w64 (x := 224 + n / 4096) (by omega) (by omega), w64 (x := 128 + n / 64 % 64) (by omega) (by omega), w64 (x := 240 + n / 262144) (by omega) (by omega), w64 (x := 128 + n / 4096 % 64) (by omega) (by omega)]
    by_cases c1 : n < 128
    · rw [if_pos c1, if_pos c1]; congr 2; simp; omega
    · rw [if_neg c1, if_neg c1]
      by_cases c2 : n < 2048
      · rw [if_pos c2, if_pos c2]; congr 2; simp; omega
      · rw [if_neg c2, if_neg c2]
        by_cases c3 : n < 65536
        · rw [if_pos c3, if_pos c3]; congr 2; simp; omega
        · rw [if_neg c3, if_neg c3]; congr 2; simp; omega

/-- The scalar at the begin of what is left (n bytes, the first four of them b0 .. b3), and how many bytes it takes; -1: none. -/
def decZ (n b0 b1 b2 b3 : Int) : Int × Int :=
  if n ≤ 0 then (-1, 0)
  else if b0 < 128 then (b0, 1)
  else if 194 ≤ b0 ∧ b0 < 224 ∧ 2 ≤ n ∧ 128 ≤ b1 ∧ b1 ≤ 191 then ((b0 - 192) * 64 + b1 - 128, 2)
  else if 224 ≤ b0 ∧ b0 < 240 ∧ 3 ≤ n ∧ 128 ≤ b1 ∧ b1 ≤ 191 ∧ 128 ≤ b2 ∧ b2 ≤ 191 ∧ 2048 ≤ ((b0 - 224) * 64 + b1 - 128) * 64 + b2 - 128 ∧ ¬ (55296 ≤ ((b0 - 224) * 64 + b1 - 128) * 64 + b2 - 128 ∧ ((b0 - 224) * 64 + b1 - 128) * 64 + b2 - 128 ≤ 57343) then (((b0 - 224) * 64 + b1 - 128) * 64 + b2 - 128, 3)
  else if 240 ≤ b0 ∧ b0 < 245 ∧ 4 ≤ n ∧ 128 ≤ b1 ∧ b1 ≤ 191 ∧ 128 ≤ b2 ∧ b2 ≤ 191 ∧ 128 ≤ b3 ∧ b3 ≤ 191 ∧ 65536 ≤ (((b0 - 240) * 64 + b1 - 128) * 64 + b2 - 128) * 64 + b3 - 128 ∧ (((b0 - 240) * 64 + b1 - 128) * 64 + b2 - 128) * 64 + b3 - 128 ≤ 1114111 then ((((b0 - 240) * 64 + b1 - 128) * 64 + b2 - 128) * 64 + b3 - 128, 4)
  else (-1, 0)
def decAt (s : ByteArray) (i : Int) : Int × Int := decZ ((s.size : Int) - i) (bt s i) (bt s (i + 1)) (bt s (i + 2)) (bt s (i + 3))
/-- Go's decoder's answer, as RuneAt tells it. -/
def asAt (d : Nat × Nat) : Int × Int := if d.1 = 65533 ∧ d.2 < 2 then (-1, 0) else ((d.1 : Int), (d.2 : Int))
theorem asAt_bad : asAt (65533, 1) = (-1, 0) := rfl
theorem asAt_ok (a b : Nat) (h : ¬ (a = 65533 ∧ b < 2)) : asAt (a, b) = ((a : Int), (b : Int)) := by unfold asAt; rw [if_neg h]
theorem dec_go (n b0 b1 b2 b3 : Nat) (hn : 1 ≤ n) (h0 : b0 < 256) (h1 : b1 < 256) (h2 : b2 < 256) (h3 : b3 < 256) :
    asAt (Lib.decodeN n b0 b1 b2 b3) = decZ n b0 b1 b2 b3 := by
  by_cases c0 : b0 < 128
  · have l : Lib.decodeN n b0 b1 b2 b3 = (b0, 1) := by unfold Lib.decodeN; rw [if_pos c0]
    have r : decZ n b0 b1 b2 b3 = ((b0 : Int), 1) := by unfold decZ; rw [if_neg (by omega), if_pos (by omega)]
    rw [l, r, asAt_ok _ _ (by omega)]; rfl
  by_cases k2 : b0 / 32 = 6 ∧ (1 < n ∧ b1 / 64 = 2)
  · by_cases c : b0 % 32 * 64 + b1 % 64 ≥ 128
    · have l : Lib.decodeN n b0 b1 b2 b3 = (b0 % 32 * 64 + b1 % 64, 2) := by unfold Lib.decodeN; rw [if_neg c0, if_pos k2, if_pos c]
      have r : decZ n b0 b1 b2 b3 = (((b0 : Int) - 192) * 64 + b1 - 128, 2) := by unfold decZ; rw [if_neg (by omega), if_neg (by omega), if_pos (by omega)]
      rw [l, r, asAt_ok _ _ (by omega)]
      refine Prod.ext ?_ ?_ <;> simp only [] <;> omega
    · have l : Lib.decodeN n b0 b1 b2 b3 = (65533, 1) := by unfold Lib.decodeN; rw [if_neg c0, if_pos k2, if_neg c]
      have r : decZ n b0 b1 b2 b3 = (-1, 0) := by unfold decZ; rw [if_neg (by omega), if_neg (by omega), if_neg (by omega), if_neg (by omega), if_neg (by omega)]
      rw [l, r]; rfl
  by_cases k3 : b0 / 16 = 14 ∧ (1 < n ∧ b1 / 64 = 2) ∧ (2 < n ∧ b2 / 64 = 2)
  · by_cases c : b0 % 16 * 4096 + b1 % 64 * 64 + b2 % 64 ≥ 2048 ∧ (b0 % 16 * 4096 + b1 % 64 * 64 + b2 % 64 < 55296 ∨ (57344 ≤ b0 % 16 * 4096 + b1 % 64 * 64 + b2 % 64 ∧ b0 % 16 * 4096 + b1 % 64 * 64 + b2 % 64 ≤ 1114111))
    · have l : Lib.decodeN n b0 b1 b2 b3 = (b0 % 16 * 4096 + b1 % 64 * 64 + b2 % 64, 3) := by unfold Lib.decodeN; rw [if_neg c0, if_neg k2, if_pos k3, if_pos c]
      have r : decZ n b0 b1 b2 b3 = ((((b0 : Int) - 224) * 64 + b1 - 128) * 64 + b2 - 128, 3) := by unfold decZ; rw [if_neg (by omega), if_neg (by omega), if_neg (by omega), if_pos (by omega)]
      rw [l, r, asAt_ok _ _ (by omega)]
      refine Prod.ext ?_ ?_ <;> simp only [] <;> omega
    · have l : Lib.decodeN n b0 b1 b2 b3 = (65533, 1) := by unfold Lib.decodeN; rw [if_neg c0, if_neg k2, if_pos k3, if_neg c]
      have r : decZ n b0 b1 b2 b3 = (-1, 0) := by unfold decZ; rw [if_neg (by omega), if_neg (by omega), if_neg (by omega), if_neg (by omega), if_neg (by omega)]
      rw [l, r]; rfl
  by_cases k4 : b0 / 8 = 30 ∧ (1 < n ∧ b1 / 64 = 2) ∧ (2 < n ∧ b2 / 64 = 2) ∧ (3 < n ∧ b3 / 64 = 2)
  · by_cases c : b0 % 8 * 262144 + b1 % 64 * 4096 + b2 % 64 * 64 + b3 % 64 ≥ 65536 ∧ (b0 % 8 * 262144 + b1 % 64 * 4096 + b2 % 64 * 64 + b3 % 64 < 55296 ∨ (57344 ≤ b0 % 8 * 262144 + b1 % 64 * 4096 + b2 % 64 * 64 + b3 % 64 ∧ b0 % 8 * 262144 + b1 % 64 * 4096 + b2 % 64 * 64 + b3 % 64 ≤ 1114111))
    · have l : Lib.decodeN n b0 b1 b2 b3 = (b0 % 8 * 262144 + b1 % 64 * 4096 + b2 % 64 * 64 + b3 % 64, 4) := by unfold Lib.decodeN; rw [if_neg c0, if_neg k2, if_neg k3, if_pos k4, if_pos c]
      have r : decZ n b0 b1 b2 b3 = (((((b0 : Int) - 240) * 64 + b1 - 128) * 64 + b2 - 128) * 64 + b3 - 128, 4) := by unfold decZ; rw [if_neg (by omega), if_neg (by omega), if_neg (by omega), if_neg (by omega), if_pos (by omega)]
      rw [l, r, asAt_ok _ _ (by omega)]
      refine Prod.ext ?_ ?_ <;> simp only [] <;> omega
    · have l : Lib.decodeN n b0 b1 b2 b3 = (65533, 1) := by unfold Lib.decodeN; rw [if_neg c0, if_neg k2, if_neg k3, if_pos k4, if_neg c]
      have r : decZ n b0 b1 b2 b3 = (-1, 0) := by unfold decZ; rw [if_neg (by omega), if_neg (by omega), if_neg (by omega), if_neg (by omega), if_neg (by omega)]
      rw [l, r]; rfl
  have l : Lib.decodeN n b0 b1 b2 b3 = (65533, 1) := by unfold Lib.decodeN; rw [if_neg c0, if_neg k2, if_neg k3, if_neg k4]
  have r : decZ n b0 b1 b2 b3 = (-1, 0) := by unfold decZ; rw [if_neg (by omega), if_neg (by omega), if_neg (by omega), if_neg (by omega), if_neg (by omega)]
  rw [l, r]; rfl
theorem bt_get (s : ByteArray) (k : Nat) : (((s.get! k).toNat : Nat) : Int) = bt s k := by
  unfold bt
  by_cases h : k < s.size
  · rw [dif_pos (by simpa using h)]
    have : s.get! k = s[k]'h := by
      show s.data[k]! = s.data[k]'h
      exact getElem!_pos s.data k h
    rw [this]; rfl
  · rw [dif_neg (by simpa using h)]
    have : s.get! k = 0 := by
      show s.data[k]! = 0
      rw [getElem!_neg s.data k (by exact h)]; rfl
    rw [this]; rfl
theorem bt_tl (s : ByteArray) (i : Int) (h0 : 0 ≤ i) (k : Nat) : bt (s.extract i.toNat s.size) k = bt s (i + k) := by
  rw [← rd_bytesOf, ← rd_bytesOf, extract_tl]
  unfold rd tl
  simp only [Int.toNat_natCast, List.getD_eq_getElem?_getD, List.getElem?_drop]
  rw [show (i + (k : Int)).toNat = i.toNat + k from by omega]
theorem get_lt (s : ByteArray) (k : Nat) : (s.get! k).toNat < 256 := (s.get! k).toNat_lt
theorem decAt_zero (t : ByteArray) (h : 0 < t.size) : asAt (Utf8.decode t 0) = decAt t 0 := by
  rw [Lib.decode_at t 0, dec_go _ _ _ _ _ (by omega) (get_lt _ _) (get_lt _ _) (get_lt _ _) (get_lt _ _)]
  unfold decAt
  rw [bt_get, bt_get, bt_get, bt_get]
  simp
theorem decAt_tl (s : ByteArray) (i : Int) (h0 : 0 ≤ i) (h1 : i < (s.size : Int)) : decAt (s.extract i.toNat s.size) 0 = decAt s i := by
  have hs : ((s.extract i.toNat s.size).size : Int) = (s.size : Int) - i := by rw [size_extract]; omega
  unfold decAt
  rw [hs]
  have e0 := bt_tl s i h0 0
  have e1 := bt_tl s i h0 1
  have e2 := bt_tl s i h0 2
  have e3 := bt_tl s i h0 3
  have z0 : bt (s.extract i.toNat s.size) 0 = bt s i := by have := e0; rwa [show ((0 : Nat) : Int) = 0 from rfl, Int.add_zero] at this
  have z1 : bt (s.extract i.toNat s.size) (0 + 1) = bt s (i + 1) := e1
  have z2 : bt (s.extract i.toNat s.size) (0 + 2) = bt s (i + 2) := e2
  have z3 : bt (s.extract i.toNat s.size) (0 + 3) = bt s (i + 3) := e3
  rw [z0, z1, z2, z3, Int.sub_zero]
theorem decAt_out (s : ByteArray) (i : Int) (h1 : (s.size : Int) ≤ i) : decAt s i = (-1, 0) := by
  unfold decAt decZ; rw [if_pos (by omega)]
theorem runeText_size (n : Int) : ((runeTextL n).size : Int) = if scalB n = true then (if n < 128 then 1 else if n < 2048 then 2 else if n < 65536 then 3 else 4) else 0 := by
  unfold runeTextL
  by_cases h : scalB n = true
  · rw [if_pos h, if_pos h, ← size_bytes]
    unfold strOfNums bytesOf runeL
    by_cases c1 : n < 128
    · rw [if_pos c1, if_pos c1]; rfl
    · rw [if_neg c1, if_neg c1]
      by_cases c2 : n < 2048
      · rw [if_pos c2, if_pos c2]; rfl
      · rw [if_neg c2, if_neg c2]
        by_cases c3 : n < 65536
        · rw [if_pos c3, if_pos c3]; rfl
        · rw [if_neg c3, if_neg c3]; rfl
  · rw [if_neg h, if_neg h]; rfl
theorem rs2 (n : Int) : ((runeTextL n).size : Int) = 2 ↔ 128 ≤ n ∧ n < 2048 := by
  rw [runeText_size]
  by_cases h : scalB n = true
  · rw [if_pos h]; repeat' split
    all_goals omega
  · rw [if_neg h]
    constructor
    · intro h; omega
    · intro g; exfalso; apply h; unfold scalB; simp; omega
theorem rs3 (n : Int) : ((runeTextL n).size : Int) = 3 ↔ (2048 ≤ n ∧ n < 65536 ∧ ¬ (55296 ≤ n ∧ n ≤ 57343)) := by
  rw [runeText_size]
  by_cases h : scalB n = true
  · have g := h
    unfold scalB at g; simp only [Bool.and_eq_true, decide_eq_true_eq, Bool.not_eq_true', decide_eq_false_iff_not] at g
    rw [if_pos h]; repeat' split
    all_goals omega
  · rw [if_neg h]
    constructor
    · intro h; omega
    · intro g; exfalso; apply h; unfold scalB; simp; omega
theorem rs4 (n : Int) : ((runeTextL n).size : Int) = 4 ↔ (65536 ≤ n ∧ n ≤ 1114111) := by
  rw [runeText_size]
  by_cases h : scalB n = true
  · have g := h
    unfold scalB at g; simp only [Bool.and_eq_true, decide_eq_true_eq, Bool.not_eq_true', decide_eq_false_iff_not] at g
    rw [if_pos h]; repeat' split
    all_goals omega
  · rw [if_neg h]
    constructor
    · intro h; omega
    · intro g; exfalso; apply h; unfold scalB; simp; omega

theorem spec_RuneAt.last (s : ByteArray) (i m n : Int) : Ev (fun k => spec_RuneAt.l0 k s i m n m) (if ((runeTextL n).size : Int) = m then (n, m) else (-1, 0)) := by
  apply Ev.succ; simp only [spec_RuneAt.l0]
  refine Ev.ite_neg (by omega) (Ev.bindc (spec_RuneText.eq n) ?_)
  by_cases c : ((runeTextL n).size : Int) = m
  · have e : (if ((runeTextL n).size : Int) = m then (n, m) else ((-1 : Int), (0 : Int))) = (n, m) := if_pos c
    rw [e]; exact Ev.ite_pos c (Ev.done rfl)
  · have e : (if ((runeTextL n).size : Int) = m then (n, m) else ((-1 : Int), (0 : Int))) = (-1, 0) := if_neg c
    rw [e]; exact Ev.ite_neg c (Ev.done rfl)
theorem spec_RuneAt.step (s : ByteArray) (hs : s.size ≤ 140737488351232) (i m n j : Int) (r : Int × Int) (h0 : 0 ≤ i) (hj0 : 0 ≤ j) (hj : j < m) (hm : m ≤ 4) (hi : i + m ≤ (s.size : Int)) (hn : 0 ≤ n) (hn1 : n ≤ 1000000)
    (h : 128 ≤ bt s (i + j) → bt s (i + j) ≤ 191 → Ev (fun k => spec_RuneAt.l0 k s i m (n * 64 + bt s (i + j) - 128) (j + 1)) r) (hb : ¬ (128 ≤ bt s (i + j) ∧ bt s (i + j) ≤ 191) → r = (-1, 0)) :
    Ev (fun k => spec_RuneAt.l0 k s i m n j) r := by
  have hr := bt_range s (i + j)
  apply Ev.succ; simp only [spec_RuneAt.l0]
  rw [w64 (x := i + j) (by omega) (by omega), w64 (x := bt s (i + j)) (by omega) (by omega), w64 (x := n * 64) (by omega) (by omega), w64 (x := n * 64 + bt s (i + j)) (by omega) (by omega), w64 (x := n * 64 + bt s (i + j) - 128) (by omega) (by omega), w64 (x := j + 1) (by omega) (by omega)]
  refine Ev.ite_pos hj (Ev.ite_pos (by omega) (Ev.ite_pos (by omega) ?_))
  by_cases c1 : bt s (i + j) < 128
  · rw [hb (by omega)]; exact Ev.ite_pos c1 (Ev.done rfl)
  · refine Ev.ite_neg c1 ?_
    by_cases c2 : bt s (i + j) > 191
    · rw [hb (by omega)]; exact Ev.ite_pos c2 (Ev.done rfl)
    · exact Ev.ite_neg c2 (h (by omega) (by omega))
theorem spec_RuneAt.two (s : ByteArray) (hs : s.size ≤ 140737488351232) (i : Int) (h0 : 0 ≤ i) (h1 : i < (s.size : Int)) (hb : 194 ≤ bt s i ∧ bt s i < 224) : Ev (fun k => spec_RuneAt.j3 k s i 2 (bt s i - 192)) (decAt s i) := by
  apply Ev.succ; simp only [spec_RuneAt.j3]
  rw [w64 (x := i + 2) (by omega) (by omega)]
  have hD : decAt s i = if 2 ≤ (s.size : Int) - i ∧ 128 ≤ bt s (i + 1) ∧ bt s (i + 1) ≤ 191 then ((bt s i - 192) * 64 + bt s (i + 1) - 128, 2) else (-1, 0) := by
    unfold decAt decZ
    rw [if_neg (by omega), if_neg (by omega)]
    by_cases g : 2 ≤ (s.size : Int) - i ∧ 128 ≤ bt s (i + 1) ∧ bt s (i + 1) ≤ 191
    · rw [if_pos ⟨hb.1, hb.2, g⟩, if_pos g]
    · rw [if_neg (fun h => g h.2.2), if_neg (by omega), if_neg (by omega), if_neg g]
  by_cases c : i + 2 > (s.size : Int)
  · rw [hD, if_neg (by omega)]; exact Ev.ite_pos c (Ev.done rfl)
  · refine Ev.ite_neg c (spec_RuneAt.step s hs i 2 _ 1 _ h0 (by omega) (by omega) (by omega) (by omega) (by omega) (by omega) ?_ ?_)
    · intro a1 a2
      rw [hD, if_pos (by omega)]
      refine (spec_RuneAt.last s i 2 _).get ?_
      rw [if_pos ((rs2 _).2 (by omega))]
    · intro hn
      rw [hD, if_neg (by omega)]
theorem spec_RuneAt.three (s : ByteArray) (hs : s.size ≤ 140737488351232) (i : Int) (h0 : 0 ≤ i) (h1 : i < (s.size : Int)) (hb : 224 ≤ bt s i ∧ bt s i < 240) : Ev (fun k => spec_RuneAt.j3 k s i 3 (bt s i - 224)) (decAt s i) := by
  apply Ev.succ; simp only [spec_RuneAt.j3]
  rw [w64 (x := i + 3) (by omega) (by omega)]
  have hr1 := bt_range s (i + 1)
  have hr2 := bt_range s (i + 2)
  generalize hN : ((bt s i - 224) * 64 + bt s (i + 1) - 128) * 64 + bt s (i + 2) - 128 = N
  have hD : decAt s i = if 3 ≤ (s.size : Int) - i ∧ 128 ≤ bt s (i + 1) ∧ bt s (i + 1) ≤ 191 ∧ 128 ≤ bt s (i + 2) ∧ bt s (i + 2) ≤ 191 ∧ 2048 ≤ N ∧ ¬ (55296 ≤ N ∧ N ≤ 57343) then (N, 3) else (-1, 0) := by
    unfold decAt decZ
    rw [if_neg (by omega), if_neg (by omega), if_neg (by omega), hN]
    by_cases g : 3 ≤ (s.size : Int) - i ∧ 128 ≤ bt s (i + 1) ∧ bt s (i + 1) ≤ 191 ∧ 128 ≤ bt s (i + 2) ∧ bt s (i + 2) ≤ 191 ∧ 2048 ≤ N ∧ ¬ (55296 ≤ N ∧ N ≤ 57343)
    · rw [if_pos ⟨hb.1, hb.2, g⟩, if_pos g]
    · rw [if_neg (fun h => g h.2.2), if_neg (fun h => absurd h.1 (by omega)), if_neg g]
  by_cases c : i + 3 > (s.size : Int)
  · rw [hD, if_neg (fun h => absurd h.1 (by omega))]; exact Ev.ite_pos c (Ev.done rfl)
  · refine Ev.ite_neg c (spec_RuneAt.step s hs i 3 _ 1 _ h0 (by omega) (by omega) (by omega) (by omega) (by omega) (by omega) ?_ ?_)
    · intro a1 a2
      refine spec_RuneAt.step s hs i 3 _ 2 _ h0 (by omega) (by omega) (by omega) (by omega) (by omega) (by omega) ?_ ?_
      · intro a3 a4
        refine (spec_RuneAt.last s i 3 _).get ?_
        rw [hN, hD]
        by_cases g : 2048 ≤ N ∧ ¬ (55296 ≤ N ∧ N ≤ 57343)
        · rw [if_pos ((rs3 N).2 ⟨g.1, by omega, g.2⟩), if_pos ⟨by omega, a1, a2, a3, a4, g⟩]
        · rw [if_neg (fun h => g ⟨((rs3 N).1 h).1, ((rs3 N).1 h).2.2⟩), if_neg (fun h => g h.2.2.2.2.2)]
      · intro hn
        rw [hD, if_neg (fun h => hn ⟨h.2.2.2.1, h.2.2.2.2.1⟩)]
    · intro hn
      rw [hD, if_neg (fun h => hn ⟨h.2.1, h.2.2.1⟩)]
theorem spec_RuneAt.four (s : ByteArray) (hs : s.size ≤ 140737488351232) (i : Int) (h0 : 0 ≤ i) (h1 : i < (s.size : Int)) (hb : 240 ≤ bt s i ∧ bt s i < 245) : Ev (fun k => spec_RuneAt.j3 k s i 4 (bt s i - 240)) (decAt s i) := by
  apply Ev.succ; simp only [spec_RuneAt.j3]
  rw [w64 (x := i + 4) (by omega) (by omega)]
  have hr1 := bt_range s (i + 1)
  have hr2 := bt_range s (i + 2)
  have hr3 := bt_range s (i + 3)
  generalize hN : (((bt s i - 240) * 64 + bt s (i + 1) - 128) * 64 + bt s (i + 2) - 128) * 64 + bt s (i + 3) - 128 = N
  have hD : decAt s i = if 4 ≤ (s.size : Int) - i ∧ 128 ≤ bt s (i + 1) ∧ bt s (i + 1) ≤ 191 ∧ 128 ≤ bt s (i + 2) ∧ bt s (i + 2) ≤ 191 ∧ 128 ≤ bt s (i + 3) ∧ bt s (i + 3) ≤ 191 ∧ 65536 ≤ N ∧ N ≤ 1114111 then (N, 4) else (-1, 0) := by
    unfold decAt decZ
    rw [if_neg (by omega), if_neg (by omega), if_neg (by omega), if_neg (fun h => absurd h.2.1 (by omega)), hN]
    by_cases g : 4 ≤ (s.size : Int) - i ∧ 128 ≤ bt s (i + 1) ∧ bt s (i + 1) ≤ 191 ∧ 128 ≤ bt s (i + 2) ∧ bt s (i + 2) ≤ 191 ∧ 128 ≤ bt s (i + 3) ∧ bt s (i + 3) ≤ 191 ∧ 65536 ≤ N ∧ N ≤ 1114111
    · rw [if_pos ⟨hb.1, hb.2, g⟩, if_pos g]
    · rw [if_neg (fun h => g h.2.2), if_neg g]
  by_cases c : i + 4 > (s.size : Int)
  · rw [hD, if_neg (fun h => absurd h.1 (by omega))]; exact Ev.ite_pos c (Ev.done rfl)
  · refine Ev.ite_neg c (spec_RuneAt.step s hs i 4 _ 1 _ h0 (by omega) (by omega) (by omega) (by omega) (by omega) (by omega) ?_ ?_)
    · intro a1 a2
      refine spec_RuneAt.step s hs i 4 _ 2 _ h0 (by omega) (by omega) (by omega) (by omega) (by omega) (by omega) ?_ ?_
      · intro a3 a4
        refine spec_RuneAt.step s hs i 4 _ 3 _ h0 (by omega) (by omega) (by omega) (by omega) (by omega) (by omega) ?_ ?_
        · intro a5 a6
          refine (spec_RuneAt.last s i 4 _).get ?_
          rw [hN, hD]
          by_cases g : 65536 ≤ N ∧ N ≤ 1114111
          · rw [if_pos ((rs4 N).2 g), if_pos ⟨by omega, a1, a2, a3, a4, a5, a6, g⟩]
          · rw [if_neg (fun h => g ((rs4 N).1 h)), if_neg (fun h => g h.2.2.2.2.2.2.2)]
        · intro hn
          rw [hD, if_neg (fun h => hn ⟨h.2.2.2.2.2.1, h.2.2.2.2.2.2.1⟩)]
      · intro hn
        rw [hD, if_neg (fun h => hn ⟨h.2.2.2.1, h.2.2.2.2.1⟩)]
    · intro hn
      rw [hD, if_neg (fun h => hn ⟨h.2.1, h.2.2.1⟩)]
theorem spec_RuneAt.ev (s : ByteArray) (hs : s.size ≤ 140737488351232) (i : Int) : Ev (fun k => spec_RuneAt.f k s i) (if 0 ≤ i then decAt s i else (-1, 0)) := by
  unfold spec_RuneAt.f
  by_cases c0 : i < 0
  · rw [if_neg (by omega)]
    refine Ev.ite_pos c0 ?_
    apply Ev.succ; simp only [spec_RuneAt.j0, if_true]; exact Ev.done rfl
  · rw [if_pos (by omega)]
    refine Ev.ite_neg c0 ?_
    apply Ev.succ; simp only [spec_RuneAt.j0]
    by_cases c1 : i ≥ (s.size : Int)
    · rw [decAt_out s i c1]; exact Ev.ite_pos (by simp; omega) (Ev.done rfl)
    · have hr := bt_range s i
      rw [w64 (x := bt s i) (by omega) (by omega)]
      refine Ev.ite_neg (by simp; omega) (Ev.ite_pos (by omega) (Ev.ite_pos (by omega) ?_))
      by_cases c2 : bt s i < 128
      · refine Ev.ite_pos c2 (Ev.done ?_)
        unfold decAt decZ; rw [if_neg (by omega), if_pos c2]
      · refine Ev.ite_neg c2 ?_
        have w1 : wrap64 (bt s i - 192) = bt s i - 192 := w64 (by omega) (by omega)
        have w2 : wrap64 (bt s i - 224) = bt s i - 224 := w64 (by omega) (by omega)
        have w3 : wrap64 (bt s i - 240) = bt s i - 240 := w64 (by omega) (by omega)
        have hbad : ¬ (194 ≤ bt s i ∧ bt s i < 224) → ¬ (224 ≤ bt s i ∧ bt s i < 240) → ¬ (240 ≤ bt s i ∧ bt s i < 245) → decAt s i = (-1, 0) := by
          intro a b c
          unfold decAt decZ; rw [if_neg (by omega), if_neg c2, if_neg (by omega), if_neg (by omega), if_neg (by omega)]
        have hj2 : ¬ (194 ≤ bt s i ∧ bt s i < 224) → ∀ b, b = decide (224 ≤ bt s i ∧ bt s i < 240) → Ev (fun k => spec_RuneAt.j2 k s i (bt s i) b) (decAt s i) := by
          rintro g b rfl
          apply Ev.succ; simp only [spec_RuneAt.j2, w2, w3]
          by_cases d : 224 ≤ bt s i ∧ bt s i < 240
          · exact Ev.ite_pos (by simp [d]) (spec_RuneAt.three s hs i (by omega) (by omega) d)
          · refine Ev.ite_neg (by simpa using d) ?_
            by_cases d2 : bt s i ≥ 240
            · refine Ev.ite_pos d2 ?_
              by_cases d3 : bt s i < 245
              · exact Ev.ite_pos d3 (spec_RuneAt.four s hs i (by omega) (by omega) ⟨d2, d3⟩)
              · rw [hbad g d (by omega)]; exact Ev.ite_neg d3 (Ev.done rfl)
            · rw [hbad g d (by omega)]; exact Ev.ite_neg d2 (Ev.done rfl)
        have hj1 : ∀ b, b = decide (194 ≤ bt s i ∧ bt s i < 224) → Ev (fun k => spec_RuneAt.j1 k s i (bt s i) b) (decAt s i) := by
          rintro b rfl
          apply Ev.succ; simp only [spec_RuneAt.j1, w1]
          by_cases d : 194 ≤ bt s i ∧ bt s i < 224
          · exact Ev.ite_pos (by simp [d]) (spec_RuneAt.two s hs i (by omega) (by omega) d)
          · refine Ev.ite_neg (by simpa using d) ?_
            by_cases d2 : bt s i ≥ 224
            · exact Ev.ite_pos d2 (hj2 d _ (by rw [Bool.eq_iff_iff]; simp; omega))
            · exact Ev.ite_neg d2 (hj2 d _ (by rw [Bool.eq_iff_iff]; simp; omega))
        by_cases d : bt s i ≥ 194
        · exact Ev.ite_pos d (hj1 _ (by rw [Bool.eq_iff_iff]; simp; omega))
        · exact Ev.ite_neg d (hj1 _ (by rw [Bool.eq_iff_iff]; simp; omega))

def textOkS (s : ByteArray) : Bool := Lib.validD s.data.toList
theorem decAt_of (s : ByteArray) (i : Nat) (h : i < s.size) : asAt (Utf8.decode s i) = decAt s i := by
  rw [Lib.decode_at s i, dec_go _ _ _ _ _ (by omega) (get_lt _ _) (get_lt _ _) (get_lt _ _) (get_lt _ _)]
  unfold decAt
  rw [bt_get, bt_get, bt_get, bt_get]
  rw [show ((s.size - i : Nat) : Int) = (s.size : Int) - (i : Int) from by omega]; rfl
/-- What a step of the decoder comes to. -/
theorem dec_step (s : ByteArray) (i : Int) (h0 : 0 ≤ i) (h1 : i < (s.size : Int)) :
    (decAt s i = (-1, 0) ∧ Lib.validD (s.data.toList.drop i.toNat) = false) ∨
    (0 ≤ (decAt s i).1 ∧ 1 ≤ (decAt s i).2 ∧ (decAt s i).2 ≤ 4 ∧ i + (decAt s i).2 ≤ (s.size : Int) ∧ Lib.validD (s.data.toList.drop i.toNat) = Lib.validD (s.data.toList.drop (i + (decAt s i).2).toNat)) := by
  obtain ⟨p, rfl⟩ := Int.eq_ofNat_of_zero_le h0
  have hp : p < s.size := by omega
  have hl : s.data.toList.length = s.size := by rw [Array.length_toList]; rfl
  have hne : s.data.toList.drop p ≠ [] := by
    intro h; have := congrArg List.length h; rw [List.length_drop, hl] at this; simp at this; omega
  have hw := Lib.decodeL_width (s.data.toList.drop p)
  have hle := Lib.decodeL_le (s.data.toList.drop p) hne
  have hst := Lib.validD_step (s.data.toList.drop p) hne
  rw [Lib.decodeL_drop] at hw hle hst
  have ha := decAt_of s p hp
  have h4 : (Utf8.decode s p).2 ≤ 4 := by
    rw [Lib.decode_at]; unfold Lib.decodeN
    repeat' split
    all_goals (simp only []; omega)
  rw [List.length_drop, hl] at hle
  rw [Int.toNat_natCast]
  by_cases c : (Utf8.decode s p).1 = 65533 ∧ (Utf8.decode s p).2 = 1
  · left
    rw [if_pos c] at hst
    refine ⟨?_, hst⟩
    rw [← ha]; unfold asAt; rw [if_pos ⟨c.1, by omega⟩]
  · right
    rw [if_neg c] at hst
    have e : decAt s p = (((Utf8.decode s p).1 : Int), ((Utf8.decode s p).2 : Int)) := by
      rw [← ha]; unfold asAt; rw [if_neg (fun h => c ⟨h.1, by omega⟩)]
    rw [e]
    refine ⟨by simp only []; omega, by simp only []; omega, by simp only []; omega, by simp only []; omega, ?_⟩
    rw [hst, List.drop_drop]
    congr 2

theorem spec_TextOk.l0_ev (s : ByteArray) (hs : s.size ≤ 140737488351232) (n : Nat) : ∀ i : Int, 0 ≤ i → i ≤ (s.size : Int) → (s.size : Int) - i ≤ n →
    Ev (fun k => spec_TextOk.l0 k s i) (Lib.validD (s.data.toList.drop i.toNat)) := by
  induction n with
  | zero =>
    intro i h0 h2 hn
    apply Ev.succ; simp only [spec_TextOk.l0]
    refine Ev.ite_neg (by omega) (Ev.done ?_)
    rw [List.drop_eq_nil_of_le (by rw [Array.length_toList]; show s.size ≤ i.toNat; omega)]; rfl
  | succ n ih =>
    intro i h0 h2 hn
    by_cases h1 : i < (s.size : Int)
    · have hd := spec_RuneAt.ev s hs i
      rw [if_pos h0] at hd
      apply Ev.succ; simp only [spec_TextOk.l0]
      refine Ev.ite_pos h1 (hd.bind ?_)
      rcases dec_step s i h0 h1 with ⟨e, hv⟩ | ⟨g1, g2, g3, g4, hv⟩
      · rw [hv, e]; exact Ev.ite_pos (by simp) (Ev.done rfl)
      · rw [hv, w64 (x := i + (decAt s i).2) (by omega) (by omega)]
        exact Ev.ite_neg (by omega) (ih _ (by omega) g4 (by omega))
    · apply Ev.succ; simp only [spec_TextOk.l0]
      refine Ev.ite_neg h1 (Ev.done ?_)
      rw [List.drop_eq_nil_of_le (by rw [Array.length_toList]; show s.size ≤ i.toNat; omega)]; rfl
theorem spec_TextOk.ev (s : ByteArray) (hs : s.size ≤ 140737488351232) : Ev (fun k => spec_TextOk.f k s) (textOkS s) := by
  unfold spec_TextOk.f
  exact (spec_TextOk.l0_ev s hs s.size 0 (by omega) (by omega) (by omega)).get (by unfold textOkS; simp)

def hexD (n : Int) : Int := if n < 10 then 48 + n else 87 + n
def hexL : List Int → List Int
  | [] => []
  | x :: r => hexD (x / 16) :: hexD (x % 16) :: hexL r
theorem hexL_length (l : List Int) : (hexL l).length = 2 * l.length := by
  induction l with
  | nil => rfl
  | cons x r ih => simp [hexL, ih]; omega
theorem hexD_range {n : Int} (h0 : 0 ≤ n) (h1 : n < 16) : 0 ≤ hexD n ∧ hexD n ≤ 255 := by unfold hexD; split <;> omega
theorem hexTab : ∀ n : Fin 16, bt (⟨#[48, 49, 50, 51, 52, 53, 54, 55, 56, 57, 97, 98, 99, 100, 101, 102]⟩ : ByteArray) (n.val : Int) = hexD (n.val : Int) := by decide +kernel
theorem hexTab_at {x : Int} (h0 : 0 ≤ x) (h1 : x < 16) : bt (⟨#[48, 49, 50, 51, 52, 53, 54, 55, 56, 57, 97, 98, 99, 100, 101, 102]⟩ : ByteArray) x = hexD x := by
  have := hexTab ⟨x.toNat, by omega⟩
  simp only at this
  rw [show ((x.toNat : Nat) : Int) = x from by omega] at this; exact this
theorem and15 : ∀ n : Fin 256, Go.bits .and .u8 (n.val : Int) 15 = (n.val : Int) % 16 := by decide +kernel
theorem and15_at {x : Int} (h0 : 0 ≤ x) (h1 : x ≤ 255) : Go.bits .and .u8 x 15 = x % 16 := by
  have := and15 ⟨x.toNat, by omega⟩
  simp only at this
  rw [show ((x.toNat : Nat) : Int) = x from by omega] at this; exact this

theorem spec_l04Hex4.low (x : Int) (h0 : 0 ≤ x) (h1 : x ≤ 255) : spec_l04Hex4.f x = some (strOfNums [48, 48, hexD (x / 16), hexD (x % 16)]) := by
  have t1 : ∀ m : Int, Int.tdiv x m = x / m := fun m => Int.tdiv_eq_ediv_of_nonneg h0
  have t2 : ∀ a m : Int, 0 ≤ a → Int.tmod a m = a % m := fun a m h => Int.tmod_eq_emod_of_nonneg h
  unfold spec_l04Hex4.f
  rw [t1, t1, t1, w64 (x := x / 4096) (by omega) (by omega), w64 (x := x / 256) (by omega) (by omega), w64 (x := x / 16) (by omega) (by omega), t2 _ _ (by omega), t2 _ _ (by omega), t2 _ _ (by omega), t2 _ _ (by omega)]
  have e1 : x / 4096 % 16 = 0 := by omega
  have e2 : x / 256 % 16 = 0 := by omega
  have e3 : x / 16 % 16 = x / 16 := by omega
  rw [e1, e2, e3, if_pos (by omega), if_pos (by omega), if_pos (by omega), if_pos (by omega), if_pos (by omega), if_pos (by omega), if_pos (by omega), if_pos (by omega), hexTab_at (x := 0) (by omega) (by omega), hexTab_at (x := x / 16) (by omega) (by omega), hexTab_at (x := x % 16) (by omega) (by omega)]
  rfl

theorem str_append (a b : List Int) : strOfNums a ++ strOfNums b = strOfNums (a ++ b) := by
  unfold strOfNums
  apply ByteArray.ext
  rw [ByteArray.data_append]; simp
theorem str_size (a : List Int) : (strOfNums a).size = a.length := by
  unfold strOfNums
  show (List.toArray _).size = _
  simp
theorem str_one (s : ByteArray) (i : Int) (h0 : 0 ≤ i) (h1 : i < (s.size : Int)) : s.extract i.toNat (i + 1).toNat = strOfNums [bt s i] := by
  apply bytes_inj
  have hr := bt_range s i
  rw [bytes_extract, bytes_strOfNums _ (by intro x hx; simp at hx; subst hx; exact hr)]
  have ht := tl_cons h0 h1
  unfold tl at ht
  rw [List.drop_take, ht, show (i + 1).toNat - i.toNat = 1 from by omega]; rfl

def escB (x : Int) : List Int :=
  if x = 34 ∨ x = 92 then [92, x] else if x = 8 then [92, 98] else if x = 9 then [92, 116] else if x = 10 then [92, 110] else if x = 12 then [92, 102] else if x = 13 then [92, 114]
  else if x < 32 ∨ x = 127 then [92, 117, 48, 48, hexD (x / 16), hexD (x % 16)] else [x]
def escL : List Int → List Int
  | [] => []
  | x :: r => escB x ++ escL r
def escS (s : ByteArray) : ByteArray := if textOkS s = true ∧ s.size ≤ 200 then strOfNums (34 :: escL (bytesOf s) ++ [34]) else (⟨#[]⟩ : ByteArray)
theorem escB_len (x : Int) : 1 ≤ (escB x).length ∧ (escB x).length ≤ 6 := by
  unfold escB; repeat' split
  all_goals simp

theorem spec_Escaped.l0_ev (s : ByteArray) (hs : s.size ≤ 200) (n : Nat) : ∀ (i : Int) (acc : List Int), 0 ≤ i → (s.size : Int) - i = n → acc.length ≤ 6 * i + 1 →
    Ev (fun k => spec_Escaped.l0 k s (strOfNums acc) i) (strOfNums (acc ++ escL (tl s i) ++ [34])) := by
  have q34 : (⟨#[34]⟩ : ByteArray) = strOfNums [34] := rfl
  have q92 : (⟨#[92]⟩ : ByteArray) = strOfNums [92] := rfl
  have q8 : (⟨#[92, 98]⟩ : ByteArray) = strOfNums [92, 98] := rfl
  have q9 : (⟨#[92, 116]⟩ : ByteArray) = strOfNums [92, 116] := rfl
  have q10 : (⟨#[92, 110]⟩ : ByteArray) = strOfNums [92, 110] := rfl
  have q12 : (⟨#[92, 102]⟩ : ByteArray) = strOfNums [92, 102] := rfl
  have q13 : (⟨#[92, 114]⟩ : ByteArray) = strOfNums [92, 114] := rfl
  have qu : (⟨#[92, 117]⟩ : ByteArray) = strOfNums [92, 117] := rfl
  induction n with
  | zero =>
    intro i acc h0 hn ha
    apply Ev.succ; simp only [spec_Escaped.l0, q34, str_append, str_size]
    rw [tl_nil (by omega)]
    exact Ev.ite_neg (by omega) (Ev.ite_pos (by omega) (Ev.done (by simp [escL])))
  | succ n ih =>
    intro i acc h0 hn ha
    have h1 : i < (s.size : Int) := by omega
    have hr := bt_range s i
    have w1 : wrap64 (i + 1) = i + 1 := w64 (by omega) (by omega)
    have hl := escB_len (bt s i)
    have next : ∀ b : List Int, b = escB (bt s i) → Ev (fun k => spec_Escaped.l0 k s (strOfNums (acc ++ b)) (i + 1)) (strOfNums (acc ++ escL (tl s i) ++ [34])) := by
      rintro b rfl
      refine (ih (i + 1) (acc ++ escB (bt s i)) (by omega) (by omega) (by simp; omega)).get ?_
      rw [tl_cons h0 h1]; simp [escL]
    have hone := str_one s i h0 h1
    have hj : ∀ b, b = decide (bt s i = 34 ∨ bt s i = 92) → Ev (fun k => spec_Escaped.j2 k s (strOfNums acc) i (bt s i) b) (strOfNums (acc ++ escL (tl s i) ++ [34])) := by
      rintro b rfl
      apply Ev.succ
      simp only [spec_Escaped.j2, w1, hone, q92, q8, q9, q10, q12, q13, qu, str_append, str_size, w64 (x := bt s i) (by omega) (by omega), spec_l04Hex4.low (bt s i) hr.1 hr.2, Option.bind_some]
      have key : escB (bt s i) = escB (bt s i) := rfl
      by_cases c : bt s i = 34 ∨ bt s i = 92
      · refine Ev.ite_pos (by simp [c]) (Ev.ite_pos (by omega) (Ev.ite_pos h0 (Ev.ite_pos (by omega) (Ev.ite_pos (by omega) (Ev.ite_pos (by simp; omega) ?_)))))
        rw [List.append_assoc]; exact next _ (by unfold escB; rw [if_pos c]; rfl)
      refine Ev.ite_neg (by simpa using c) ?_
      by_cases c8 : bt s i = 8
      · refine Ev.ite_pos c8 (Ev.ite_pos (by omega) (next _ ?_)); unfold escB; rw [if_neg c, if_pos c8]
      refine Ev.ite_neg c8 ?_
      by_cases c9 : bt s i = 9
      · refine Ev.ite_pos c9 (Ev.ite_pos (by omega) (next _ ?_)); unfold escB; rw [if_neg c, if_neg c8, if_pos c9]
      refine Ev.ite_neg c9 ?_
      by_cases c10 : bt s i = 10
      · refine Ev.ite_pos c10 (Ev.ite_pos (by omega) (next _ ?_)); unfold escB; rw [if_neg c, if_neg c8, if_neg c9, if_pos c10]
      refine Ev.ite_neg c10 ?_
      by_cases c12 : bt s i = 12
      · refine Ev.ite_pos c12 (Ev.ite_pos (by omega) (next _ ?_)); unfold escB; rw [if_neg c, if_neg c8, if_neg c9, if_neg c10, if_pos c12]
      refine Ev.ite_neg c12 ?_
      by_cases c13 : bt s i = 13
      · refine Ev.ite_pos c13 (Ev.ite_pos (by omega) (next _ ?_)); unfold escB; rw [if_neg c, if_neg c8, if_neg c9, if_neg c10, if_neg c12, if_pos c13]
      refine Ev.ite_neg c13 ?_
      by_cases c32 : bt s i < 32
      · refine Ev.ite_pos c32 (Ev.ite_pos (by omega) (Ev.ite_pos (by simp; omega) ?_))
        rw [List.append_assoc]; refine next _ ?_; unfold escB; rw [if_neg c, if_neg c8, if_neg c9, if_neg c10, if_neg c12, if_neg c13, if_pos (Or.inl c32)]; rfl
      refine Ev.ite_neg c32 ?_
      by_cases c127 : bt s i = 127
      · refine Ev.ite_pos c127 (Ev.ite_pos (by omega) (Ev.ite_pos (by simp; omega) ?_))
        rw [List.append_assoc]; refine next _ ?_; unfold escB; rw [if_neg c, if_neg c8, if_neg c9, if_neg c10, if_neg c12, if_neg c13, if_pos (Or.inr c127)]; rfl
      refine Ev.ite_neg c127 (Ev.ite_pos h0 (Ev.ite_pos (by omega) (Ev.ite_pos (by omega) (Ev.ite_pos (by simp; omega) (next _ ?_)))))
      unfold escB; rw [if_neg c, if_neg c8, if_neg c9, if_neg c10, if_neg c12, if_neg c13, if_neg (by omega)]
    apply Ev.succ; simp only [spec_Escaped.l0]
    refine Ev.ite_pos h1 (Ev.ite_pos h0 ?_)
    by_cases c : bt s i = 34
    · exact Ev.ite_pos c (hj _ (by simp [c]))
    · refine Ev.ite_neg c (hj _ ?_)
      rw [Bool.eq_iff_iff]; simp [c]
theorem spec_Escaped.ev (s : ByteArray) (hs : s.size ≤ 140737488351232) : Ev (fun k => spec_Escaped.f k s) (escS s) := by
  have hj : Ev (fun k => spec_Escaped.j0 k s true) (⟨#[]⟩ : ByteArray) := by
    apply Ev.succ; simp only [spec_Escaped.j0, if_true]; exact Ev.done rfl
  unfold spec_Escaped.f
  refine (spec_TextOk.ev s hs).bind ?_
  unfold escS
  cases ht : textOkS s with
  | false => exact Ev.ite_neg (by simp) (hj.get (by rw [if_neg (by simp)]))
  | true =>
    refine Ev.ite_pos rfl ?_
    by_cases c : s.size ≤ 200
    · have e : decide ((s.size : Int) > 200) = false := decide_eq_false (by omega)
      rw [e, if_pos ⟨rfl, c⟩]
      apply Ev.succ; simp only [spec_Escaped.j0]
      have q34 : (⟨#[34]⟩ : ByteArray) = strOfNums [34] := rfl
      rw [q34]
      refine Ev.ite_neg (by simp) ((spec_Escaped.l0_ev s c s.size 0 [34] (by omega) (by omega) (by simp)).get ?_)
      rw [tl_zero]; rfl
    · have e : decide ((s.size : Int) > 200) = true := decide_eq_true (by omega)
      rw [e, if_neg (fun h => c h.2)]; exact hj

theorem impl_TextOk.eq (s : ByteArray) (hs : s.size ≤ 9223372036854775807) : impl_TextOk.f s = some (textOkS s) := by
  unfold impl_TextOk.f utf8_ValidString.f; rw [if_pos hs]; rfl

theorem strings_IndexByte.eq (s : ByteArray) (x : Int) : strings_IndexByte.f s x = some (Lib.indexByte s.data.toList x.toNat.toUInt8) := rfl

def escIdx (n : Nat) : Int := Lib.indexByte [34, 92, 8, 9, 10, 12, 13] n.toUInt8
theorem escTab : ∀ n : Fin 256, ((0 ≤ escIdx n.val → escIdx n.val < 7 ∧ [92, bt (⟨#[34, 92, 98, 116, 110, 102, 114]⟩ : ByteArray) (escIdx n.val)] = escB (n.val : Int)) ∧
    (¬ 0 ≤ escIdx n.val → escB (n.val : Int) = if (n.val : Int) < 32 ∨ (n.val : Int) = 127 then [92, 117, 48, 48, hexD ((n.val : Int) / 16), hexD ((n.val : Int) % 16)] else [(n.val : Int)])) := by decide +kernel
theorem escTab_at (x : Int) (h0 : 0 ≤ x) (h1 : x ≤ 255) : ∃ t : Int, Lib.indexByte (⟨#[34, 92, 8, 9, 10, 12, 13]⟩ : ByteArray).data.toList x.toNat.toUInt8 = t ∧ (0 ≤ t → t < 7 ∧ [92, bt (⟨#[34, 92, 98, 116, 110, 102, 114]⟩ : ByteArray) t] = escB x) ∧ (¬ 0 ≤ t → escB x = if x < 32 ∨ x = 127 then [92, 117, 48, 48, hexD (x / 16), hexD (x % 16)] else [x]) := by
  have h := escTab ⟨x.toNat, by omega⟩
  simp only at h
  rw [show ((x.toNat : Nat) : Int) = x from by omega] at h
  exact ⟨_, rfl, h⟩
theorem impl_Escaped.l0_ev (s : ByteArray) (hs : s.size ≤ 200) (n : Nat) : ∀ (i : Int) (acc : List Int), 0 ≤ i → (s.size : Int) - i = n → acc.length ≤ 6 * i + 1 →
    Ev (fun k => impl_Escaped.l0 k s acc (s.size : Int) i) (strOfNums (acc ++ escL (tl s i) ++ [34])) := by
  induction n with
  | zero =>
    intro i acc h0 hn ha
    apply Ev.succ; simp only [impl_Escaped.l0]
    rw [tl_nil (by omega)]
    exact Ev.ite_neg (by omega) (Ev.ite_pos (by omega) (Ev.done (by simp [escL])))
  | succ n ih =>
    intro i acc h0 hn ha
    have h1 : i < (s.size : Int) := by omega
    have hr := bt_range s i
    have w1 : wrap64 (i + 1) = i + 1 := w64 (by omega) (by omega)
    have hl := escB_len (bt s i)
    have next : ∀ b : List Int, b = escB (bt s i) → Ev (fun k => impl_Escaped.l0 k s (acc ++ b) (s.size : Int) (i + 1)) (strOfNums (acc ++ escL (tl s i) ++ [34])) := by
      rintro b rfl
      refine (ih (i + 1) (acc ++ escB (bt s i)) (by omega) (by omega) (by simp; omega)).get ?_
      rw [tl_cons h0 h1]; simp [escL]
    obtain ⟨t, ht, hp, hm⟩ := escTab_at (bt s i) hr.1 hr.2
    have g1 : 0 ≤ bt s i / 16 := by omega
    have g2 : bt s i / 16 < 16 := by omega
    have g3 : 0 ≤ bt s i % 16 := by omega
    have g4 : bt s i % 16 < 16 := by omega
    apply Ev.succ
    simp only [impl_Escaped.l0, strings_IndexByte.eq, ht, w1, Option.bind_some, and15_at hr.1 hr.2, hexTab_at g1 g2, hexTab_at g3 g4]
    refine Ev.ite_pos h1 (Ev.ite_pos h0 (Ev.ite_pos h1 ?_))
    by_cases c : 0 ≤ t
    · obtain ⟨p1, p2⟩ := hp c
      refine Ev.ite_pos c (Ev.ite_pos c (Ev.ite_pos p1 ?_))
      exact Ev.ite_pos (by simp; omega) (next _ p2)
    · have he := hm c
      refine Ev.ite_neg c ?_
      by_cases c32 : bt s i < 32
      · rw [if_pos (Or.inl c32)] at he
        exact Ev.ite_pos c32 (Ev.ite_pos g1 (Ev.ite_pos g2 (Ev.ite_pos g3 (Ev.ite_pos g4 (Ev.ite_pos (by simp; omega) (next _ he.symm))))))
      · refine Ev.ite_neg c32 ?_
        by_cases c127 : bt s i = 127
        · rw [if_pos (Or.inr c127)] at he
          exact Ev.ite_pos c127 (Ev.ite_pos g1 (Ev.ite_pos g2 (Ev.ite_pos g3 (Ev.ite_pos g4 (Ev.ite_pos (by simp; omega) (next _ he.symm))))))
        · rw [if_neg (by omega)] at he
          exact Ev.ite_neg c127 (Ev.ite_pos (by omega) (next _ he.symm))
theorem impl_Escaped.ev (s : ByteArray) (hs : s.size ≤ 140737488351232) : Ev (fun k => impl_Escaped.f k s) (escS s) := by
  have hj : Ev (fun k => impl_Escaped.j0 k s true) (⟨#[]⟩ : ByteArray) := by
    apply Ev.succ; simp only [impl_Escaped.j0, if_true]; exact Ev.done rfl
  unfold impl_Escaped.f
  refine Ev.bindc (impl_TextOk.eq s (by omega)) ?_
  unfold escS
  cases ht : textOkS s with
  | false => exact Ev.ite_neg (by simp) (hj.get (by rw [if_neg (by simp)]))
  | true =>
    refine Ev.ite_pos rfl ?_
    by_cases c : s.size ≤ 200
    · have e : decide ((s.size : Int) > 200) = false := decide_eq_false (by omega)
      rw [e, if_pos ⟨rfl, c⟩]
      apply Ev.succ; simp only [impl_Escaped.j0]
      refine Ev.ite_neg (by simp) ((impl_Escaped.l0_ev s c s.size 0 [34] (by omega) (by omega) (by simp)).get ?_)
      rw [tl_zero]; rfl
    · have e : decide ((s.size : Int) > 200) = true := decide_eq_true (by omega)
      rw [e, if_neg (fun h => c h.2)]; exact hj

theorem FnExactTokenText (a : Int) (b : ByteArray) (c : Int) (ha : (Lit.int .i64 a).wf = true) (hb : b.size ≤ maxLen) (hc : (Lit.int .i64 c).wf = true) : ∃ k, laws_FnExactTokenText.f k a b c = some true := by
  unfold maxLen at hb
  apply Ev.out
  unfold laws_FnExactTokenText.f
  obtain ⟨r, hr, hcc⟩ := laws_szToken.eq a b c 1048576 hb (by omega) (by omega)
  refine Ev.bindc hr ?_
  by_cases h : r < 0
  · exact Ev.ite_pos h (Ev.done rfl)
  · refine Ev.ite_neg h (Ev.bindc (a := (a, b, c)) rfl ?_)
    have hs : b.size ≤ 140737488351232 := by omega
    have e1 : Ev (fun k => spec_TokenText.f k a b c) (if a = 5 then escS b else b) := by
      unfold spec_TokenText.f
      by_cases c5 : a = 5
      · rw [if_pos c5]; exact Ev.ite_pos c5 ((spec_Escaped.ev b hs).bind (Ev.done rfl))
      · have e : (if a = 5 then escS b else b) = b := if_neg c5
        rw [e]; exact Ev.ite_neg c5 (Ev.done rfl)
    have e2 : Ev (fun k => impl_TokenText.f k a b c) (if a = 5 then escS b else b) := by
      unfold impl_TokenText.f
      by_cases c5 : a = 5
      · rw [if_pos c5]; exact Ev.ite_pos c5 ((impl_Escaped.ev b hs).bind (Ev.done rfl))
      · have e : (if a = 5 then escS b else b) = b := if_neg c5
        rw [e]; exact Ev.ite_neg c5 (Ev.done rfl)
    exact e1.bind (Ev.bindc (a := (a, b, c)) rfl (e2.bind (Ev.ite_pos rfl (Ev.done rfl))))


end Go.Proofs.YtlcjpfbnegjieaaDoor.Pure
