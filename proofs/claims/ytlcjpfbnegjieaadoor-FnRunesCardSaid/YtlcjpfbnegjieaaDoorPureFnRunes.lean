/- The plain law behind FnRunes. -/
import Derived.Test.YtlcjpfbnegjieaaDoorOFnRunesx3
import Derived.Test.YtlcjpfbnegjieaaDoorBase
namespace Go.Proofs.YtlcjpfbnegjieaaDoor.Pure
open Go.RowKit Go.Proofs.YtlcjpfbnegjieaaDoor.OFnRunes Go.Proofs.YtlcjpfbnegjieaaDoorW.PrintWords Go.Proofs.YtlcjpfbnegjieaaDoorW.PrintLast Go.Proofs.YtlcjpfbnegjieaaDoorW.PrintMore Go.Proofs.YtlcjpfbnegjieaaDoor.Base
set_option linter.unusedVariables false
set_option linter.unusedSimpArgs false

theorem impl_in.eq (x a b : Int) : impl_in.f x a b = some (decide (a ≤ x ∧ x ≤ b)) := by
  unfold impl_in.f
  by_cases h : x ≥ a
  · rw [if_pos h]; congr 1; rw [Bool.eq_iff_iff]; simp only [decide_eq_true_eq, Bool.or_eq_true, beq_iff_eq, Bool.false_eq_true, true_iff, false_iff]; omega
  · rw [if_neg h]; congr 1; rw [Bool.eq_iff_iff]; simp only [decide_eq_true_eq, Bool.or_eq_true, beq_iff_eq, Bool.false_eq_true, true_iff, false_iff]; omega

/-- The bytes of a scalar. -/
def runeL (n : Int) : List Int :=
  if n < 128 then [n] else if n < 2048 then [192 + n / 64, 128 + n % 64]
  else if n < 65536 then [224 + n / 4096, 128 + n / 64 % 64, 128 + n % 64]
  else [240 + n / 262144, 128 + n / 4096 % 64, 128 + n / 64 % 64, 128 + n % 64]
def scalB (n : Int) : Bool := decide (0 ≤ n ∧ n ≤ 1114111) && !decide (55296 ≤ n ∧ n ≤ 57343)
def runeTextL (n : Int) : ByteArray := if scalB n = true then strOfNums (runeL n) else (⟨#[]⟩ : ByteArray)
theorem or_low (h : Nat) (hh : h = 192 ∨ h = 224 ∨ h = 240 ∨ h = 128) (b m : Nat) (hb : b < m) (hm : m = if h = 192 then 32 else if h = 224 then 16 else if h = 240 then 8 else 64) : Go.bits .or .u8 (h : Int) (b : Int) = (h : Int) + b := by
  have t : (∀ b : Fin 32, Go.bits .or .u8 ((192 : Nat) : Int) (b.val : Int) = ((192 : Nat) : Int) + b.val) ∧ (∀ b : Fin 16, Go.bits .or .u8 ((224 : Nat) : Int) (b.val : Int) = ((224 : Nat) : Int) + b.val) ∧ (∀ b : Fin 8, Go.bits .or .u8 ((240 : Nat) : Int) (b.val : Int) = ((240 : Nat) : Int) + b.val) ∧ (∀ b : Fin 64, Go.bits .or .u8 ((128 : Nat) : Int) (b.val : Int) = ((128 : Nat) : Int) + b.val) := by decide +kernel
  obtain ⟨t1, t2, t3, t4⟩ := t
  rcases hh with rfl | rfl | rfl | rfl
  · exact t1 ⟨b, by simp at hm; omega⟩
  · exact t2 ⟨b, by simp at hm; omega⟩
  · exact t3 ⟨b, by simp at hm; omega⟩
  · exact t4 ⟨b, by simp at hm; omega⟩
theorem or192 {x : Int} (h0 : 0 ≤ x) (h1 : x < 32) : Go.bits .or .u8 192 x = 192 + x := by
  have := or_low 192 (by simp) x.toNat 32 (by omega) (by simp)
  rw [show ((x.toNat : Nat) : Int) = x from by omega] at this; exact this
theorem or224 {x : Int} (h0 : 0 ≤ x) (h1 : x < 16) : Go.bits .or .u8 224 x = 224 + x := by
  have := or_low 224 (by simp) x.toNat 16 (by omega) (by simp)
  rw [show ((x.toNat : Nat) : Int) = x from by omega] at this; exact this
theorem or240 {x : Int} (h0 : 0 ≤ x) (h1 : x < 8) : Go.bits .or .u8 240 x = 240 + x := by
  have := or_low 240 (by simp) x.toNat 8 (by omega) (by simp)
  rw [show ((x.toNat : Nat) : Int) = x from by omega] at this; exact this
theorem or128 {x : Int} (h0 : 0 ≤ x) (h1 : x < 64) : Go.bits .or .u8 128 x = 128 + x := by
  have := or_low 128 (by simp) x.toNat 64 (by omega) (by simp)
  rw [show ((x.toNat : Nat) : Int) = x from by omega] at this; exact this
theorem and63T : ∀ n : Fin 256, Go.bits .and .u8 (n.val : Int) 63 = (n.val : Int) % 64 := by decide +kernel
theorem and63 {x : Int} : Go.bits .and .u8 (x % 256) 63 = x % 64 := by
  have := and63T ⟨(x % 256).toNat, by omega⟩
  simp only at this
  rw [show (((x % 256).toNat : Nat) : Int) = x % 256 from by omega] at this; rw [this]; omega

/-- The scalar at the begin of what is left (n bytes, the first four of them b0 .. b3), and how many bytes it takes; -1: none. -/
def decZ (n b0 b1 b2 b3 : Int) : Int × Int :=
  if n ≤ 0 then (-1, 0)
  else if b0 < 128 then (b0, 1)
  else if 194 ≤ b0 ∧ b0 < 224 ∧ 2 ≤ n ∧ 128 ≤ b1 ∧ b1 ≤ 191 then ((b0 - 192) * 64 + b1 - 128, 2)
  else if 224 ≤ b0 ∧ b0 < 240 ∧ 3 ≤ n ∧ 128 ≤ b1 ∧ b1 ≤ 191 ∧ 128 ≤ b2 ∧ b2 ≤ 191 ∧ 2048 ≤ ((b0 - 224) * 64 + b1 - 128) * 64 + b2 - 128 ∧ ¬ (55296 ≤ ((b0 - 224) * 64 + b1 - 128) * 64 + b2 - 128 ∧ ((b0 - 224) * 64 + b1 - 128) * 64 + b2 - 128 ≤ 57343) then (((b0 - 224) * 64 + b1 - 128) * 64 + b2 - 128, 3)
  else if 240 ≤ b0 ∧ b0 < 245 ∧ 4 ≤ n ∧ 128 ≤ b1 ∧ b1 ≤ 191 ∧ 128 ≤ b2 ∧ b2 ≤ 191 ∧ 128 ≤ b3 ∧ b3 ≤ 191 ∧ 65536 ≤ (((b0 - 240) * 64 + b1 - 128) * 64 + b2 - 128) * 64 + b3 - 128 ∧ (((b0 - 240) * 64 + b1 - 128) * 64 + b2 - 128) * 64 + b3 - 128 ≤ 1114111 then ((((b0 - 240) * 64 + b1 - 128) * 64 + b2 - 128) * 64 + b3 - 128, 4)
  else (-1, 0)
def decAt (s : ByteArray) (i : Int) : Int × Int := decZ ((s.size : Int) - i) (bt s i) (bt s (i + 1)) (bt s (i + 2)) (bt s (i + 3))
/-- Go's decoder's answer, as RuneAt tells it. -/
def asAt (d : Nat × Nat) : Int × Int := if d.1 = 65533 ∧ d.2 < 2 then (-1, 0) else ((d.1 : Int), (d.2 : Int))
theorem asAt_bad : asAt (65533, 1) = (-1, 0) := rfl
theorem asAt_ok (a b : Nat) (h : ¬ (a = 65533 ∧ b < 2)) : asAt (a, b) = ((a : Int), (b : Int)) := by unfold asAt; rw [if_neg h]
theorem dec_go (n b0 b1 b2 b3 : Nat) (hn : 1 ≤ n) (h0 : b0 < 256) (h1 : b1 < 256) (h2 : b2 < 256) (h3 : b3 < 256) :
    asAt (Lib.decodeN n b0 b1 b2 b3) = decZ n b0 b1 b2 b3 := by
  by_cases c0 : b0 < 128
  · have l : Lib.decodeN n b0 b1 b2 b3 = (b0, 1) := by unfold Lib.decodeN; rw [if_pos c0]
    have r : decZ n b0 b1 b2 b3 = ((b0 : Int), 1) := by unfold decZ; rw [if_neg (by omega), if_pos (by omega)]
    rw [l, r, asAt_ok _ _ (by omega)]; rfl
  by_cases k2 : b0 / 32 = 6 ∧ (1 < n ∧ b1 / 64 = 2)
  · by_cases c : b0 % 32 * 64 + b1 % 64 ≥ 128
    · have l : Lib.decodeN n b0 b1 b2 b3 = (b0 % 32 * 64 + b1 % 64, 2) := by unfold Lib.decodeN; rw [if_neg c0, if_pos k2, if_pos c]
      have r : decZ n b0 b1 b2 b3 = (((b0 : Int) - 192) * 64 + b1 - 128, 2) := by unfold decZ; rw [if_neg (by omega), if_neg (by omega), if_pos (by omega)]
      rw [l, r, asAt_ok _ _ (by omega)]
      refine Prod.ext ?_ ?_ <;> simp only [] <;> omega
    · have l : Lib.decodeN n b0 b1 b2 b3 = (65533, 1) := by unfold Lib.decodeN; rw [if_neg c0, if_pos k2, if_neg c]
      have r : decZ n b0 b1 b2 b3 = (-1, 0) := by unfold decZ; rw [if_neg (by omega), if_neg (by omega), if_neg (by omega), if_neg (by omega), if_neg (by omega)]
      rw [l, r]; rfl
  by_cases k3 : b0 / 16 = 14 ∧ (1 < n ∧ b1 / 64 = 2) ∧ (2 < n ∧ b2 / 64 = 2)
  · by_cases c : b0 % 16 * 4096 + b1 % 64 * 64 + b2 % 64 ≥ 2048 ∧ (b0 % 16 * 4096 + b1 % 64 * 64 + b2 % 64 < 55296 ∨ (57344 ≤ b0 % 16 * 4096 + b1 % 64 * 64 + b2 % 64 ∧ b0 % 16 * 4096 + b1 % 64 * 64 + b2 % 64 ≤ 1114111))
    · have l : Lib.decodeN n b0 b1 b2 b3 = (b0 % 16 * 4096 + b1 % 64 * 64 + b2 % 64, 3) := by unfold Lib.decodeN; rw [if_neg c0, if_neg k2, if_pos k3, if_pos c]
      have r : decZ n b0 b1 b2 b3 = ((((b0 : Int) - 224) * 64 + b1 - 128) * 64 + b2 - 128, 3) := by unfold decZ; rw [if_neg (by omega), if_neg (by omega), if_neg (by omega), if_pos (by omega)]
      rw [l, r, asAt_ok _ _ (by omega)]
      refine Prod.ext ?_ ?_ <;> simp only [] <;> omega
    · have l : Lib.decodeN n b0 b1 b2 b3 = (65533, 1) := by unfold Lib.decodeN; rw [if_neg c0, if_neg k2, if_pos k3, if_neg c]
      have r : decZ n b0 b1 b2 b3 = (-1, 0) := by unfold decZ; rw [if_neg (by omega), if_neg (by omega), if_neg (by omega), if_neg (by omega), if_neg (by omega)]
      rw [l, r]; rfl
  by_cases k4 : b0 / 8 = 30 ∧ (1 < n ∧ b1 / 64 = 2) ∧ (2 < n ∧ b2 / 64 = 2) ∧ (3 < n ∧ b3 / 64 = 2)
  · by_cases c : b0 % 8 * 262144 + b1 % 64 * 4096 + b2 % 64 * 64 + b3 % 64 ≥ 65536 ∧ (b0 % 8 * 262144 + b1 % 64 * 4096 + b2 % 64 * 64 + b3 % 64 < 55296 ∨ (57344 ≤ b0 % 8 * 262144 + b1 % 64 * 4096 + b2 % 64 * 64 + b3 % 64 ∧ b0 % 8 * 262144 + b1 % 64 * 4096 + b2 % 64 * 64 + b3 % 64 ≤ 1114111))
    · have l : Lib.decodeN n b0 b1 b2 b3 = (b0 % 8 * 262144 + b1 % 64 * 4096 + b2 % 64 * 64 + b3 % 64, 4) := by unfold Lib.decodeN; rw [if_neg c0, if_neg k2, if_neg k3, if_pos k4, if_pos c]
      have r : decZ n b0 b1 b2 b3 = (((((b0 : Int) - 240) * 64 + b1 - 128) * 64 + b2 - 128) * 64 + b3 - 128, 4) := by unfold decZ; rw [if_neg (by omega), if_neg (by omega), if_neg (by omega), if_neg (by omega), if_pos (by omega)]
      rw [l, r, asAt_ok _ _ (by omega)]
      refine Prod.ext ?_ ?_ <;> simp only [] <;> omega
    · have l : Lib.decodeN n b0 b1 b2 b3 = (65533, 1) := by unfold Lib.decodeN; rw [if_neg c0, if_neg k2, if_neg k3, if_pos k4, if_neg c]
      have r : decZ n b0 b1 b2 b3 = (-1, 0) := by unfold decZ; rw [if_neg (by omega), if_neg (by omega), if_neg (by omega), if_neg (by omega), if_neg (by omega)]
      rw [l, r]; rfl
  have l : Lib.decodeN n b0 b1 b2 b3 = (65533, 1) := by unfold Lib.decodeN; rw [if_neg c0, if_neg k2, if_neg k3, if_neg k4]
  have r : decZ n b0 b1 b2 b3 = (-1, 0) := by unfold decZ; rw [if_neg (by omega), if_neg (by omega), if_neg (by omega), if_neg (by omega), if_neg (by omega)]
  rw [l, r]; rfl
theorem bt_get (s : ByteArray) (k : Nat) : (((s.get! k).toNat : Nat) : Int) = bt s k := by
  unfold bt
  by_cases h : k < s.size
  · rw [dif_pos (by simpa using h)]
    have : s.get! k = s[k]'h := by
      show s.data[k]! = s.data[k]'h
      exact getElem!_pos s.data k h
    rw [this]; rfl
  · rw [dif_neg (by simpa using h)]
    have : s.get! k = 0 := by
      show s.data[k]! = 0
      rw [getElem!_neg s.data k (by exact h)]; rfl
    rw [this]; rfl
theorem bt_tl (s : ByteArray) (i : Int) (h0 : 0 ≤ i) (k : Nat) : bt (s.extract i.toNat s.size) k = bt s (i + k) := by
  rw [← rd_bytesOf, ← rd_bytesOf, extract_tl]
  unfold rd tl
  simp only [Int.toNat_natCast, List.getD_eq_getElem?_getD, List.getElem?_drop]
  rw [show (i + (k : Int)).toNat = i.toNat + k from by omega]
theorem get_lt (s : ByteArray) (k : Nat) : (s.get! k).toNat < 256 := (s.get! k).toNat_lt
theorem decAt_zero (t : ByteArray) (h : 0 < t.size) : asAt (Utf8.decode t 0) = decAt t 0 := by
  rw [Lib.decode_at t 0, dec_go _ _ _ _ _ (by omega) (get_lt _ _) (get_lt _ _) (get_lt _ _) (get_lt _ _)]
  unfold decAt
  rw [bt_get, bt_get, bt_get, bt_get]
  simp
theorem decAt_tl (s : ByteArray) (i : Int) (h0 : 0 ≤ i) (h1 : i < (s.size : Int)) : decAt (s.extract i.toNat s.size) 0 = decAt s i := by
  have hs : ((s.extract i.toNat s.size).size : Int) = (s.size : Int) - i := by rw [size_extract]; omega
  unfold decAt
  rw [hs]
  have e0 := bt_tl s i h0 0
  have e1 := bt_tl s i h0 1
  have e2 := bt_tl s i h0 2
  have e3 := bt_tl s i h0 3
  have z0 : bt (s.extract i.toNat s.size) 0 = bt s i := by have := e0; rwa [show ((0 : Nat) : Int) = 0 from rfl, Int.add_zero] at this
  have z1 : bt (s.extract i.toNat s.size) (0 + 1) = bt s (i + 1) := e1
  have z2 : bt (s.extract i.toNat s.size) (0 + 2) = bt s (i + 2) := e2
  have z3 : bt (s.extract i.toNat s.size) (0 + 3) = bt s (i + 3) := e3
  rw [z0, z1, z2, z3, Int.sub_zero]
theorem decAt_out (s : ByteArray) (i : Int) (h1 : (s.size : Int) ≤ i) : decAt s i = (-1, 0) := by
  unfold decAt decZ; rw [if_pos (by omega)]
theorem runeText_size (n : Int) : ((runeTextL n).size : Int) = if scalB n = true then (if n < 128 then 1 else if n < 2048 then 2 else if n < 65536 then 3 else 4) else 0 := by
  unfold runeTextL
  by_cases h : scalB n = true
  · rw [if_pos h, if_pos h, ← size_bytes]
    unfold strOfNums bytesOf runeL
    by_cases c1 : n < 128
    · rw [if_pos c1, if_pos c1]; rfl
    · rw [if_neg c1, if_neg c1]
      by_cases c2 : n < 2048
      · rw [if_pos c2, if_pos c2]; rfl
      · rw [if_neg c2, if_neg c2]
        by_cases c3 : n < 65536
        · rw [if_pos c3, if_pos c3]; rfl
        · rw [if_neg c3, if_neg c3]; rfl
  · rw [if_neg h, if_neg h]; rfl
theorem rs2 (n : Int) : ((runeTextL n).size : Int) = 2 ↔ 128 ≤ n ∧ n < 2048 := by
  rw [runeText_size]
  by_cases h : scalB n = true
  · rw [if_pos h]; repeat' split
    all_goals omega
  · rw [if_neg h]
    constructor
    · intro h; omega
    · intro g; exfalso; apply h; unfold scalB; simp; omega
theorem rs3 (n : Int) : ((runeTextL n).size : Int) = 3 ↔ (2048 ≤ n ∧ n < 65536 ∧ ¬ (55296 ≤ n ∧ n ≤ 57343)) := by
  rw [runeText_size]
  by_cases h : scalB n = true
  · have g := h
    unfold scalB at g; simp only [Bool.and_eq_true, decide_eq_true_eq, Bool.not_eq_true', decide_eq_false_iff_not] at g
    rw [if_pos h]; repeat' split
    all_goals omega
  · rw [if_neg h]
    constructor
    · intro h; omega
    · intro g; exfalso; apply h; unfold scalB; simp; omega
theorem rs4 (n : Int) : ((runeTextL n).size : Int) = 4 ↔ (65536 ≤ n ∧ n ≤ 1114111) := by
  rw [runeText_size]
  by_cases h : scalB n = true
  · have g := h
    unfold scalB at g; simp only [Bool.and_eq_true, decide_eq_true_eq, Bool.not_eq_true', decide_eq_false_iff_not] at g
    rw [if_pos h]; repeat' split
    all_goals omega
  · rw [if_neg h]
    constructor
    · intro h; omega
    · intro g; exfalso; apply h; unfold scalB; simp; omega

theorem utf8_DecodeRuneInString.eq (s : ByteArray) (i : Int) (h0 : 0 ≤ i) (h1 : i < (s.size : Int)) : ∃ a b : Nat, utf8_DecodeRuneInString.f (s.extract i.toNat s.size) = some ((a : Int), (b : Int)) ∧ asAt (a, b) = decAt s i ∧ a ≤ 1114111 ∧ b ≤ 4 := by
  have hs : (s.extract i.toNat s.size).size ≠ 0 := by rw [size_extract]; omega
  refine ⟨(Utf8.decode (s.extract i.toNat s.size) 0).1, (Utf8.decode (s.extract i.toNat s.size) 0).2, ?_, ?_, ?_⟩
  · unfold utf8_DecodeRuneInString.f Lib.decodeGo; rw [if_neg hs]
  · rw [← decAt_tl s i h0 h1, ← decAt_zero _ (by omega)]
  · rw [Lib.decode_at]
    have a0 := get_lt (s.extract i.toNat s.size) 0
    have a1 := get_lt (s.extract i.toNat s.size) 1
    have a2 := get_lt (s.extract i.toNat s.size) 2
    have a3 := get_lt (s.extract i.toNat s.size) 3
    generalize ((s.extract i.toNat s.size).get! 0).toNat = b0 at *
    simp only [Nat.zero_add]
    generalize ((s.extract i.toNat s.size).get! 1).toNat = b1 at *
    generalize ((s.extract i.toNat s.size).get! 2).toNat = b2 at *
    generalize ((s.extract i.toNat s.size).get! 3).toNat = b3 at *
    unfold Lib.decodeN
    repeat' split
    all_goals (constructor <;> simp only [] <;> omega)

theorem impl_RuneAt.eq (s : ByteArray) (hs : s.size ≤ 140737488351232) (i : Int) : impl_RuneAt.f s i = some (if 0 ≤ i then decAt s i else (-1, 0)) := by
  unfold impl_RuneAt.f
  simp only [impl_in.eq, Option.bind_some, w64 (x := (s.size : Int) - 1) (by omega) (by omega)]
  by_cases h : 0 ≤ i ∧ i ≤ (s.size : Int) - 1
  · have e : decide (0 ≤ i ∧ i ≤ (s.size : Int) - 1) = true := decide_eq_true h
    rw [if_pos e, if_pos h.1, if_pos (by omega), if_pos h.1]
    obtain ⟨a, b, hd, hat, ha, hb⟩ := utf8_DecodeRuneInString.eq s i h.1 (by omega)
    rw [hd]; simp only [Option.bind_some]
    rw [← hat, w64 (x := (a : Int)) (by omega) (by omega)]
    unfold asAt
    by_cases c : (a : Int) = 65533
    · rw [if_pos c]
      by_cases c2 : (b : Int) < 2
      · rw [if_pos c2, if_pos ⟨by simp only []; omega, by simp only []; omega⟩]
      · rw [if_neg c2, if_neg (fun h => c2 (by have := h.2; simp only [] at this; omega))]
    · rw [if_neg c, if_neg (fun h => c (by have := h.1; simp only [] at this; omega))]
  · have e : decide (0 ≤ i ∧ i ≤ (s.size : Int) - 1) = false := decide_eq_false h
    rw [if_neg (by simp [e])]
    by_cases h0 : 0 ≤ i
    · rw [if_pos h0, decAt_out s i (by omega)]
    · rw [if_neg h0]

def textOkS (s : ByteArray) : Bool := Lib.validD s.data.toList
theorem decAt_of (s : ByteArray) (i : Nat) (h : i < s.size) : asAt (Utf8.decode s i) = decAt s i := by
  rw [Lib.decode_at s i, dec_go _ _ _ _ _ (by omega) (get_lt _ _) (get_lt _ _) (get_lt _ _) (get_lt _ _)]
  unfold decAt
  rw [bt_get, bt_get, bt_get, bt_get]
  rw [show ((s.size - i : Nat) : Int) = (s.size : Int) - (i : Int) from by omega]; rfl
/-- What a step of the decoder comes to. -/
theorem dec_step (s : ByteArray) (i : Int) (h0 : 0 ≤ i) (h1 : i < (s.size : Int)) :
    (decAt s i = (-1, 0) ∧ Lib.validD (s.data.toList.drop i.toNat) = false) ∨
    (0 ≤ (decAt s i).1 ∧ 1 ≤ (decAt s i).2 ∧ (decAt s i).2 ≤ 4 ∧ i + (decAt s i).2 ≤ (s.size : Int) ∧ Lib.validD (s.data.toList.drop i.toNat) = Lib.validD (s.data.toList.drop (i + (decAt s i).2).toNat)) := by
  obtain ⟨p, rfl⟩ := Int.eq_ofNat_of_zero_le h0
  have hp : p < s.size := by omega
  have hl : s.data.toList.length = s.size := by rw [Array.length_toList]; rfl
  have hne : s.data.toList.drop p ≠ [] := by
    intro h; have := congrArg List.length h; rw [List.length_drop, hl] at this; simp at this; omega
  have hw := Lib.decodeL_width (s.data.toList.drop p)
  have hle := Lib.decodeL_le (s.data.toList.drop p) hne
  have hst := Lib.validD_step (s.data.toList.drop p) hne
  rw [Lib.decodeL_drop] at hw hle hst
  have ha := decAt_of s p hp
  have h4 : (Utf8.decode s p).2 ≤ 4 := by
    rw [Lib.decode_at]; unfold Lib.decodeN
    repeat' split
    all_goals (simp only []; omega)
  rw [List.length_drop, hl] at hle
  rw [Int.toNat_natCast]
  by_cases c : (Utf8.decode s p).1 = 65533 ∧ (Utf8.decode s p).2 = 1
  · left
    rw [if_pos c] at hst
    refine ⟨?_, hst⟩
    rw [← ha]; unfold asAt; rw [if_pos ⟨c.1, by omega⟩]
  · right
    rw [if_neg c] at hst
    have e : decAt s p = (((Utf8.decode s p).1 : Int), ((Utf8.decode s p).2 : Int)) := by
      rw [← ha]; unfold asAt; rw [if_neg (fun h => c ⟨h.1, by omega⟩)]
    rw [e]
    refine ⟨by simp only []; omega, by simp only []; omega, by simp only []; omega, by simp only []; omega, ?_⟩
    rw [hst, List.drop_drop]
    congr 2

theorem impl_TextOk.eq (s : ByteArray) (hs : s.size ≤ 9223372036854775807) : impl_TextOk.f s = some (textOkS s) := by
  unfold impl_TextOk.f utf8_ValidString.f; rw [if_pos hs]; rfl

theorem spec_l01In.eq (x a b : Int) : spec_l01In.f x a b = some (decide (a ≤ x ∧ x ≤ b)) := by
  unfold spec_l01In.f
  by_cases h : x ≥ a
  · rw [if_pos h]; congr 1; rw [Bool.eq_iff_iff]; simp only [decide_eq_true_eq]; omega
  · rw [if_neg h]; congr 1; rw [Bool.eq_iff_iff]; simp only [decide_eq_true_eq, Bool.false_eq_true, false_iff]; omega

theorem spec_l02Scalar.eq (x : Int) : spec_l02Scalar.f x = some (scalB x) := by
  unfold spec_l02Scalar.f scalB
  simp only [spec_l01In.eq, Option.bind_some]
  cases decide (0 ≤ x ∧ x ≤ 1114111) <;> simp

theorem spec_RuneText.eq (n : Int) : spec_RuneText.f n = some (runeTextL n) := by
  unfold spec_RuneText.f runeTextL
  rw [spec_l02Scalar.eq]; simp only [Option.bind_some]
  cases hs : scalB n with
  | false => rfl
  | true =>
    have hr : 0 ≤ n ∧ n ≤ 1114111 := by unfold scalB at hs; simp only [Bool.and_eq_true, decide_eq_true_eq] at hs; exact hs.1
    have d1 : ∀ m : Int, 0 < m → Int.tdiv n m = n / m := fun m _ => Int.tdiv_eq_ediv_of_nonneg hr.1
    have d2 : ∀ a m : Int, 0 ≤ a → Int.tmod a m = a % m := fun a m h => Int.tmod_eq_emod_of_nonneg h
    rw [if_pos rfl, if_pos rfl]
    unfold runeL
    rw [d1 64 (by omega), d1 4096 (by omega), d1 262144 (by omega), d2 n 64 hr.1, w64 (x := n / 64) (by omega) (by omega), w64 (x := n / 4096) (by omega) (by omega), w64 (x := n / 262144) (by omega) (by omega), d2 (n / 64) 64 (by omega), d2 (n / 4096) 64 (by omega)]
    rw [w64 (x := 192 + n / 64) (by omega) (by omega), w64 (x := 128 + n % 64) (by omega) (by omega), w64 (x := 224 + n / 4096) (by omega) (by omega), w64 (x := 128 + n / 64 % 64) (by omega) (by omega), w64 (x := 240 + n / 262144) (by omega) (by omega), w64 (x := 128 + n / 4096 % 64) (by omega) (by omega)]
    by_cases c1 : n < 128
    · rw [if_pos c1, if_pos c1]; congr 2; simp; omega
    · rw [if_neg c1, if_neg c1]
      by_cases c2 : n < 2048
      · rw [if_pos c2, if_pos c2]; congr 2; simp; omega
      · rw [if_neg c2, if_neg c2]
        by_cases c3 : n < 65536
        · rw [if_pos c3, if_pos c3]; congr 2; simp; omega
        · rw [if_neg c3, if_neg c3]; congr 2; simp; omega

theorem impl_isScalar.eq (x : Int) : impl_isScalar.f x = some (scalB x) := by
  unfold impl_isScalar.f scalB
  simp only [impl_in.eq, Option.bind_some]
  cases decide (0 ≤ x ∧ x ≤ 1114111) <;> simp

theorem utf8_appendRuneNonASCII.ev (l : List Int) (hl : l.length ≤ 1000000) (n : Int) (h0 : 128 ≤ n) (h1 : scalB n = true) : Ev (fun k => utf8_appendRuneNonASCII.f k l n) (l ++ runeL n) := by
  unfold scalB at h1
  simp only [Bool.and_eq_true, decide_eq_true_eq, Bool.not_eq_true', decide_eq_false_iff_not] at h1
  have m : n % 4294967296 = n := by omega
  unfold utf8_appendRuneNonASCII.f runeL
  rw [m, if_neg (by omega)]
  by_cases c2 : n ≤ 2047
  · rw [if_pos (by omega)]
    refine Ev.ite_pos c2 ?_
    rw [show n / 64 % 256 = n / 64 from by omega, or192 (by omega) (by omega)]
    exact Ev.ite_pos (by simp; omega) (Ev.done rfl)
  · rw [if_neg (by omega)]
    refine Ev.ite_neg c2 ?_
    have hj : ∀ b, b = decide (n ≤ 65535) → Ev (fun k => utf8_appendRuneNonASCII.j0 k l n n b) (l ++ if n < 65536 then [224 + n / 4096, 128 + n / 64 % 64, 128 + n % 64] else [240 + n / 262144, 128 + n / 4096 % 64, 128 + n / 64 % 64, 128 + n % 64]) := by
      rintro b rfl
      apply Ev.succ; simp only [utf8_appendRuneNonASCII.j0]
      by_cases c3 : n < 65536
      · rw [if_pos c3]
        refine Ev.ite_pos (by simp; omega) ?_
        rw [show n / 4096 % 256 = n / 4096 from by omega, or224 (by omega) (by omega)]
        exact Ev.ite_pos (by simp; omega) (Ev.done rfl)
      · rw [if_neg c3]
        refine Ev.ite_neg (by simp; omega) (Ev.ite_pos (by omega) (Ev.ite_pos (by omega) ?_))
        rw [show n / 262144 % 256 = n / 262144 from by omega, or240 (by omega) (by omega)]
        exact Ev.ite_pos (by simp; omega) (Ev.done rfl)
    by_cases c3 : n < 55296
    · exact Ev.ite_pos c3 (hj _ (by rw [Bool.eq_iff_iff]; simp; omega))
    · exact Ev.ite_neg c3 (Ev.ite_pos (by omega) (hj _ rfl))

theorem utf8_AppendRune.ev (l : List Int) (hl : l.length ≤ 1000000) (n : Int) (h1 : scalB n = true) : Ev (fun k => utf8_AppendRune.f k l n) (l ++ runeL n) := by
  have h2 := h1
  unfold scalB at h2
  simp only [Bool.and_eq_true, decide_eq_true_eq, Bool.not_eq_true', decide_eq_false_iff_not] at h2
  unfold utf8_AppendRune.f
  by_cases c : n < 128
  · refine Ev.ite_pos (by omega) (Ev.ite_pos (by omega) (Ev.done ?_))
    unfold runeL; rw [if_pos c, show n % 256 = n from by omega]
  · exact Ev.ite_neg (by omega) ((utf8_appendRuneNonASCII.ev l hl n (by omega) h1).bind (Ev.done rfl))

theorem impl_RuneText.ev (n : Int) : Ev (fun k => impl_RuneText.f k n) (runeTextL n) := by
  unfold impl_RuneText.f runeTextL
  refine Ev.bindc (impl_isScalar.eq n) ?_
  cases hs : scalB n with
  | false => exact Ev.ite_neg (by simp) (Ev.done rfl)
  | true =>
    have h2 := hs
    unfold scalB at h2
    simp only [Bool.and_eq_true, decide_eq_true_eq] at h2
    have w : wrap32 n = n := by unfold wrap32; omega
    rw [w]
    exact Ev.ite_pos rfl ((utf8_AppendRune.ev [] (by simp) n hs).bind (Ev.done (by simp)))

-- the cursor of the draws
theorem and255 (x : Int) : 0 ≤ Go.bits .and .i64 x 255 ∧ Go.bits .and .i64 x 255 ≤ 255 := by
  simp only [Go.bits, BitVec.toNat_and]
  have h : (BitVec.ofInt IntKind.i64.bits x).toNat &&& (BitVec.ofInt IntKind.i64.bits 255).toNat ≤ 255 := Nat.and_le_right
  generalize (BitVec.ofInt IntKind.i64.bits x).toNat &&& (BitVec.ofInt IntKind.i64.bits 255).toNat = m at *
  rw [IntKind.wrap_i64]; omega
theorem drawByte (b : List Int) (hb : b.length ≤ 140737488351232) (i h : Int) (h0 : 0 ≤ i) : ∃ x j g, spec_l01Byte.f b i h = some (x, j, g) ∧ 0 ≤ x ∧ x ≤ 255 ∧ 0 ≤ j := by
  unfold spec_l01Byte.f
  by_cases c : i < (b.length : Int)
  · rw [if_pos c, if_pos h0]
    refine ⟨_, _, _, rfl, (and255 _).1, (and255 _).2, ?_⟩
    rw [w64 (by omega) (by omega)]; omega
  · rw [if_neg c]
    exact ⟨_, _, _, rfl, (and255 _).1, (and255 _).2, h0⟩
theorem drawBelow (b : List Int) (hb : b.length ≤ 140737488351232) (i h n : Int) (h0 : 0 ≤ i) (n0 : 0 < n) (n1 : n ≤ 256) : ∃ x j g, spec_l01Below.f b i h n = some (x, j, g) ∧ 0 ≤ x ∧ x < n ∧ 0 ≤ j := by
  obtain ⟨x, j, g, e, x0, x1, j0⟩ := drawByte b hb i h h0
  unfold spec_l01Below.f
  rw [if_neg (by omega), if_pos n1, e]
  refine ⟨Int.tmod x n, j, g, ?_, ?_, ?_, j0⟩
  · show (if n = 0 then none else _) = _
    rw [if_neg (by omega)]
  · exact Int.tmod_nonneg _ x0
  · exact Int.tmod_lt_of_pos _ n0
theorem drawBig (b : List Int) (hb : b.length ≤ 140737488351232) (i h n : Int) (h0 : 0 ≤ i) (n0 : 256 < n) (n1 : n ≤ 4000000000) : ∃ x j g, spec_l01Below.f b i h n = some (x, j, g) ∧ 0 ≤ x ∧ x < n ∧ 0 ≤ j := by
  obtain ⟨x, j, g, e, x0, x1, j0⟩ := drawByte b hb i h h0
  obtain ⟨y, j2, g2, e2, y0, y1, j20⟩ := drawByte b hb j g j0
  obtain ⟨z, j3, g3, e3, z0, z1, j30⟩ := drawByte b hb j2 g2 j20
  obtain ⟨u, j4, g4, e4, u0, u1, j40⟩ := drawByte b hb j3 g3 j30
  unfold spec_l01Below.f
  rw [if_neg (by omega), if_neg (by omega), e]
  simp only [Option.bind_some, e2, e3, e4]
  rw [if_neg (by omega), w64 (x := x * 16777216) (by omega) (by omega), w64 (x := y * 65536) (by omega) (by omega), w64 (x := z * 256) (by omega) (by omega), w64 (x := x * 16777216 + y * 65536) (by omega) (by omega), w64 (x := x * 16777216 + y * 65536 + z * 256) (by omega) (by omega), w64 (x := x * 16777216 + y * 65536 + z * 256 + u) (by omega) (by omega)]
  exact ⟨_, _, _, rfl, Int.tmod_nonneg _ (by omega), Int.tmod_lt_of_pos _ (by omega), j40⟩

def hexD (n : Int) : Int := if n < 10 then 48 + n else 87 + n
def hexL : List Int → List Int
  | [] => []
  | x :: r => hexD (x / 16) :: hexD (x % 16) :: hexL r
theorem hexL_length (l : List Int) : (hexL l).length = 2 * l.length := by
  induction l with
  | nil => rfl
  | cons x r ih => simp [hexL, ih]; omega
theorem hexD_range {n : Int} (h0 : 0 ≤ n) (h1 : n < 16) : 0 ≤ hexD n ∧ hexD n ≤ 255 := by unfold hexD; split <;> omega
theorem hexTab : ∀ n : Fin 16, bt (⟨#[48, 49, 50, 51, 52, 53, 54, 55, 56, 57, 97, 98, 99, 100, 101, 102]⟩ : ByteArray) (n.val : Int) = hexD (n.val : Int) := by decide +kernel
theorem hexTab_at {x : Int} (h0 : 0 ≤ x) (h1 : x < 16) : bt (⟨#[48, 49, 50, 51, 52, 53, 54, 55, 56, 57, 97, 98, 99, 100, 101, 102]⟩ : ByteArray) x = hexD x := by
  have := hexTab ⟨x.toNat, by omega⟩
  simp only at this
  rw [show ((x.toNat : Nat) : Int) = x from by omega] at this; exact this
theorem and15 : ∀ n : Fin 256, Go.bits .and .u8 (n.val : Int) 15 = (n.val : Int) % 16 := by decide +kernel
theorem and15_at {x : Int} (h0 : 0 ≤ x) (h1 : x ≤ 255) : Go.bits .and .u8 x 15 = x % 16 := by
  have := and15 ⟨x.toNat, by omega⟩
  simp only at this
  rw [show ((x.toNat : Nat) : Int) = x from by omega] at this; exact this

theorem str_append (a b : List Int) : strOfNums a ++ strOfNums b = strOfNums (a ++ b) := by
  unfold strOfNums
  apply ByteArray.ext
  rw [ByteArray.data_append]; simp
theorem str_size (a : List Int) : (strOfNums a).size = a.length := by
  unfold strOfNums
  show (List.toArray _).size = _
  simp
theorem str_one (s : ByteArray) (i : Int) (h0 : 0 ≤ i) (h1 : i < (s.size : Int)) : s.extract i.toNat (i + 1).toNat = strOfNums [bt s i] := by
  apply bytes_inj
  have hr := bt_range s i
  rw [bytes_extract, bytes_strOfNums _ (by intro x hx; simp at hx; subst hx; exact hr)]
  have ht := tl_cons h0 h1
  unfold tl at ht
  rw [List.drop_take, ht, show (i + 1).toNat - i.toNat = 1 from by omega]; rfl

def escB (x : Int) : List Int :=
  if x = 34 ∨ x = 92 then [92, x] else if x = 8 then [92, 98] else if x = 9 then [92, 116] else if x = 10 then [92, 110] else if x = 12 then [92, 102] else if x = 13 then [92, 114]
  else if x < 32 ∨ x = 127 then [92, 117, 48, 48, hexD (x / 16), hexD (x % 16)] else [x]
def escL : List Int → List Int
  | [] => []
  | x :: r => escB x ++ escL r
def escS (s : ByteArray) : ByteArray := if textOkS s = true ∧ s.size ≤ 200 then strOfNums (34 :: escL (bytesOf s) ++ [34]) else (⟨#[]⟩ : ByteArray)
theorem escB_len (x : Int) : 1 ≤ (escB x).length ∧ (escB x).length ≤ 6 := by
  unfold escB; repeat' split
  all_goals simp

def hexV (x : Int) : Int := if 48 ≤ x ∧ x ≤ 57 then x - 48 else if 97 ≤ x ∧ x ≤ 102 then x - 87 else if 65 ≤ x ∧ x ≤ 70 then x - 55 else -1
theorem hexV_range (x : Int) : -1 ≤ hexV x ∧ hexV x ≤ 15 := by
  unfold hexV
  split
  · omega
  · split
    · omega
    · split <;> omega
def negF (v : Int) (b : Bool) : Int × Bool := if v < 0 then (0, false) else (v, b)
/-- The number that m hex figures spell, behind one that is spelled already; -1: there are not so many. -/
def numN : Nat → List Int → Int → Int
  | 0, _, a => a
  | _ + 1, [], _ => -1
  | m + 1, x :: r, a => if hexV x < 0 then -1 else numN m r (a * 16 + hexV x)
theorem numN_range (m : Nat) : ∀ (q : List Int) (a : Int), 0 ≤ a → numN m q a = -1 ∨ (0 ≤ numN m q a ∧ numN m q a < (a + 1) * 16 ^ m) := by
  induction m with
  | zero => intro q a h; right; simp only [numN]; omega
  | succ m ih =>
    intro q a h
    cases q with
    | nil => left; rfl
    | cons x r =>
      simp only [numN]
      have hx := hexV_range x
      split
      · left; rfl
      · rcases ih r (a * 16 + hexV x) (by omega) with h1 | h1
        · exact Or.inl h1
        · right
          refine ⟨h1.1, Int.lt_of_lt_of_le h1.2 ?_⟩
          rw [Int.pow_succ, show (a + 1) * (16 ^ m * 16) = ((a + 1) * 16) * 16 ^ m from by rw [Int.mul_assoc, Int.mul_comm 16]]
          exact Int.mul_le_mul_of_nonneg_right (by omega) (Int.le_of_lt (Int.pow_pos (by decide)))
theorem numN_small (m : Nat) (hm : m ≤ 7) (q : List Int) : -1 ≤ numN m q 0 ∧ numN m q 0 < 268435456 := by
  have hp : (16 : Int) ^ m ≤ 16 ^ 7 := by exact_mod_cast Nat.pow_le_pow_right (by decide) hm
  rcases numN_range m q 0 (by omega) with h | h
  · omega
  · omega
theorem numN_short (m : Nat) : ∀ (q : List Int) (a : Int), q.length < m → numN m q a = -1 := by
  induction m with
  | zero => intro q a h; omega
  | succ m ih =>
    intro q a h
    cases q with
    | nil => rfl
    | cons x r =>
      simp only [numN]
      split
      · rfl
      · exact ih r _ (by simp at h; omega)
theorem numN_take (m : Nat) : ∀ (q : List Int) (a : Int) (j : Nat), m ≤ j → numN m (q.take j) a = numN m q a := by
  induction m with
  | zero => intro q a j h; rfl
  | succ m ih =>
    intro q a j h
    cases q with
    | nil => simp
    | cons x r =>
      obtain ⟨j, rfl⟩ : ∃ i, j = i + 1 := ⟨j - 1, by omega⟩
      simp only [List.take_succ_cons, numN]
      rw [ih r _ j (by omega)]

/-- How many hex figures stand at the begin. -/
def hexRun : List Int → Nat
  | [] => 0
  | x :: r => if hexV x < 0 then 0 else hexRun r + 1
theorem hexRun_le (q : List Int) : hexRun q ≤ q.length := by
  induction q with
  | nil => simp [hexRun]
  | cons x r ih => simp only [hexRun, List.length_cons]; split <;> omega
/-- What stands behind the escape u: the scalar, and how many bytes it takes. -/
def uniL (q : List Int) : Option (Int × Nat) :=
  if q.head? = some 123 then
    (if 1 ≤ hexRun q.tail ∧ hexRun q.tail ≤ 6 ∧ q.tail[hexRun q.tail]? = some 125 ∧ scalB (numN (hexRun q.tail) q.tail 0) = true then some (numN (hexRun q.tail) q.tail 0, hexRun q.tail + 2) else none)
  else if numN 4 q 0 < 0 then none
  else if 55296 ≤ numN 4 q 0 ∧ numN 4 q 0 ≤ 56319 then
    (if q[4]? = some 92 ∧ q[5]? = some 117 ∧ 56320 ≤ numN 4 (q.drop 6) 0 ∧ numN 4 (q.drop 6) 0 ≤ 57343 then some (65536 + 1024 * (numN 4 q 0 - 55296) + numN 4 (q.drop 6) 0 - 56320, 10) else none)
  else if scalB (numN 4 q 0) = true then some (numN 4 q 0, 4) else none
/-- What stands behind a backslash. -/
def escL1 (q : List Int) : Option (Int × Nat) := match q with
  | [] => none
  | x :: r => if x = 34 ∨ x = 92 ∨ x = 47 then some (x, 1) else if x = 98 then some (8, 1) else if x = 116 then some (9, 1) else if x = 110 then some (10, 1) else if x = 102 then some (12, 1) else if x = 114 then some (13, 1)
    else if x = 117 then (uniL r).map fun p => (p.1, p.2 + 1) else none
def atP (i : Int) (o : Option (Int × Nat)) : Int × Int := match o with | none => (-1, i) | some p => (p.1, i + 1 + p.2)
theorem tl_get (s : ByteArray) (i : Int) (h0 : 0 ≤ i) (k : Nat) : (tl s i)[k]? = if i + k < (s.size : Int) then some (bt s (i + k)) else none := by
  unfold tl
  rw [List.getElem?_drop]
  by_cases h : i + k < (s.size : Int)
  · rw [if_pos h, List.getElem?_eq_getElem (by rw [size_bytes]; omega), bytes_get s (i.toNat + k) (by omega), show ((i.toNat + k : Nat) : Int) = i + k from by omega]
  · rw [if_neg h, List.getElem?_eq_none (by rw [size_bytes]; omega)]
theorem tl_drop (s : ByteArray) (i : Int) (h0 : 0 ≤ i) (k : Nat) : (tl s i).drop k = tl s (i + k) := by
  unfold tl
  rw [List.drop_drop, show (i + (k : Int)).toNat = i.toNat + k from by omega]
theorem tl_tail (s : ByteArray) (i : Int) (h0 : 0 ≤ i) : (tl s i).tail = tl s (i + 1) := by
  rw [← List.drop_one, tl_drop s i h0 1]; rfl
theorem tl_head (s : ByteArray) (i : Int) (h0 : 0 ≤ i) : (tl s i).head? = if i < (s.size : Int) then some (bt s i) else none := by
  rw [List.head?_eq_getElem?, tl_get s i h0 0]; simp
theorem hexRun_at (q : List Int) : ∀ m, m ≤ hexRun q → (m < hexRun q ↔ ∃ x, q[m]? = some x ∧ 0 ≤ hexV x) := by
  induction q with
  | nil => intro m h; simp [hexRun]
  | cons x r ih =>
    intro m h
    simp only [hexRun] at h ⊢
    by_cases c : hexV x < 0
    · rw [if_pos c] at h ⊢
      have : m = 0 := by omega
      subst this
      constructor
      · intro h1; omega
      · rintro ⟨y, h1, h2⟩
        simp at h1; subst h1; omega
    · rw [if_neg c] at h ⊢
      cases m with
      | zero => exact ⟨fun _ => ⟨x, rfl, by omega⟩, fun _ => by omega⟩
      | succ m =>
        have := ih m (by omega)
        rw [List.getElem?_cons_succ, ← this]
        omega
theorem numN_run (m : Nat) : ∀ (q : List Int) (a : Int), 0 ≤ a → 0 ≤ numN m q a → m ≤ hexRun q := by
  induction m with
  | zero => intro q a _ _; omega
  | succ m ih =>
    intro q a h0 h
    cases q with
    | nil => exact absurd h (by simp [numN])
    | cons x r =>
      rw [numN] at h
      by_cases c : hexV x < 0
      · rw [if_pos c] at h; exact absurd h (by decide)
      · rw [if_neg c] at h
        have := ih r _ (by omega) h
        rw [hexRun, if_neg c]; omega
theorem numN_of_run (m : Nat) : ∀ (q : List Int) (a : Int), 0 ≤ a → m ≤ hexRun q → 0 ≤ numN m q a := by
  induction m with
  | zero => intro q a h0 _; exact h0
  | succ m ih =>
    intro q a h0 h
    cases q with
    | nil => simp [hexRun] at h
    | cons x r =>
      rw [hexRun] at h
      rw [numN]
      by_cases c : hexV x < 0
      · rw [if_pos c] at h; omega
      · rw [if_neg c] at h ⊢
        exact ih r _ (by omega) (by omega)

theorem uni_facts (q : List Int) (p : Int × Nat) (h : uniL q = some p) : 0 ≤ p.1 ∧ p.2 ≤ q.length ∧ ∀ k, k < p.2 → ∃ x, q[k]? = some x ∧ 0 ≤ x ∧ x < 128 := by
  have hexs : ∀ x, 0 ≤ hexV x → 0 ≤ x ∧ x < 128 := by
    intro x hx
    unfold hexV at hx
    split at hx
    · omega
    · split at hx
      · omega
      · split at hx <;> omega
  have nums : ∀ (m : Nat) (l : List Int), 0 ≤ numN m l 0 → m ≤ l.length ∧ ∀ k, k < m → ∃ x, l[k]? = some x ∧ 0 ≤ x ∧ x < 128 := by
    intro m l hl
    have h1 := numN_run m l 0 (by omega) hl
    have h2 := hexRun_le l
    refine ⟨by omega, fun k hk => ?_⟩
    obtain ⟨x, hx, hv⟩ := (hexRun_at l k (by omega)).1 (by omega)
    exact ⟨x, hx, hexs x hv⟩
  have sc0 : ∀ n, scalB n = true → 0 ≤ n := by intro n hn; unfold scalB at hn; simp at hn; omega
  unfold uniL at h
  split at h
  · rename_i hh
    split at h
    · rename_i hc
      obtain rfl := Option.some.inj h
      obtain ⟨h1, h2, h3, h4⟩ := hc
      have hn := sc0 _ h4
      obtain ⟨hl, _⟩ := List.getElem?_eq_some_iff.1 h3
      rw [List.length_tail] at hl
      refine ⟨hn, by show hexRun q.tail + 2 ≤ q.length; omega, fun k hk => ?_⟩
      simp only at hk
      cases k with
      | zero => exact ⟨123, by rw [← List.head?_eq_getElem?]; exact hh, by omega, by omega⟩
      | succ k =>
        rw [← List.getElem?_tail]
        by_cases c : k = hexRun q.tail
        · subst c; exact ⟨125, h3, by omega, by omega⟩
        · obtain ⟨x, hx, hv⟩ := (hexRun_at q.tail k (by omega)).1 (by omega)
          exact ⟨x, hx, hexs x hv⟩
    · cases h
  · split at h
    · cases h
    · rename_i c1
      have n4 := nums 4 q (by omega)
      split at h
      · rename_i c2
        split at h
        · rename_i c3
          obtain rfl := Option.some.inj h
          have n6 := nums 4 (q.drop 6) (by omega)
          rw [List.length_drop] at n6
          refine ⟨by show 0 ≤ 65536 + 1024 * (numN 4 q 0 - 55296) + numN 4 (q.drop 6) 0 - 56320; omega, by show 10 ≤ q.length; omega, fun k hk => ?_⟩
          simp only at hk
          rcases Nat.lt_or_ge k 4 with c | c
          · exact n4.2 k c
          · by_cases k4 : k = 4
            · subst k4; exact ⟨92, c3.1, by omega, by omega⟩
            by_cases k5 : k = 5
            · subst k5; exact ⟨117, c3.2.1, by omega, by omega⟩
            have := n6.2 (k - 6) (by omega)
            rw [List.getElem?_drop, show 6 + (k - 6) = k from by omega] at this
            exact this
        · cases h
      · split at h
        · obtain rfl := Option.some.inj h
          exact ⟨by show 0 ≤ numN 4 q 0; omega, n4.1, n4.2⟩
        · cases h
theorem esc_facts (q : List Int) (p : Int × Nat) (h : escL1 q = some p) : 0 ≤ p.1 ∧ p.2 ≤ q.length ∧ ∀ k, k < p.2 → ∃ x, q[k]? = some x ∧ 0 ≤ x ∧ x < 128 := by
  cases q with
  | nil => cases h
  | cons x r =>
    have one : ∀ n : Int, 0 ≤ n → (0 ≤ x ∧ x < 128) → some (n, 1) = some p → 0 ≤ p.1 ∧ p.2 ≤ (x :: r).length ∧ ∀ k, k < p.2 → ∃ y, (x :: r)[k]? = some y ∧ 0 ≤ y ∧ y < 128 := by
      intro n hn hx e
      obtain rfl := Option.some.inj e
      refine ⟨hn, by simp, fun k hk => ?_⟩
      simp only at hk
      obtain rfl : k = 0 := by omega
      exact ⟨x, rfl, hx⟩
    simp only [escL1] at h
    split at h
    · exact one x (by omega) (by omega) h
    split at h
    · exact one 8 (by omega) (by omega) h
    split at h
    · exact one 9 (by omega) (by omega) h
    split at h
    · exact one 10 (by omega) (by omega) h
    split at h
    · exact one 12 (by omega) (by omega) h
    split at h
    · exact one 13 (by omega) (by omega) h
    split at h
    · obtain ⟨p', hp, rfl⟩ := Option.map_eq_some_iff.1 h
      have := uni_facts r p' hp
      refine ⟨this.1, by show p'.2 + 1 ≤ r.length + 1; omega, fun k hk => ?_⟩
      simp only at hk
      cases k with
      | zero => exact ⟨x, rfl, by omega, by omega⟩
      | succ k => rw [List.getElem?_cons_succ]; exact this.2.2 k (by omega)
    · cases h
/-- What stands between the quotes, read byte by byte. -/
def unesc (q : List Int) : Option (List Int) := match q with
  | [] => some []
  | x :: r => if x = 34 ∨ (x < 32 ∧ x ≠ 9) then none
    else if x = 92 then (match escL1 r with | none => none | some p => (unesc (r.drop p.2)).map (bytesOf (runeTextL p.1) ++ ·))
    else (unesc r).map ([x] ++ ·)
termination_by q.length
decreasing_by
  all_goals simp
  all_goals omega
def finU (out : List Int) (o : Option (List Int)) : ByteArray × Bool := match o with
  | none => ((⟨#[]⟩ : ByteArray), false)
  | some l => if ((out ++ l).length : Int) > 200 then ((⟨#[]⟩ : ByteArray), false) else (strOfNums (out ++ l), true)
theorem finU_map (out t : List Int) (o : Option (List Int)) : finU out (o.map (t ++ ·)) = finU (out ++ t) o := by
  cases o with
  | none => rfl
  | some l => simp [finU]
theorem runeTextL_size (n : Int) : (runeTextL n).size ≤ 4 := by
  unfold runeTextL
  split
  · have : (runeL n).length ≤ 4 := by
      unfold runeL
      split
      · simp
      · split
        · simp
        · split <;> simp
    have h : (strOfNums (runeL n)).size = (runeL n).length := by unfold strOfNums; simp [ByteArray.size]
    omega
  · decide
theorem unesc_pass (l : List Int) (q : List Int) (h : ∀ x ∈ l, 128 ≤ x) : unesc (l ++ q) = (unesc q).map (l ++ ·) := by
  induction l with
  | nil => rw [List.nil_append]; cases unesc q <;> rfl
  | cons x r ih =>
    have hx := h x (List.mem_cons_self ..)
    rw [List.cons_append, unesc, if_neg (by omega), if_neg (by omega), ih (fun y hy => h y (List.mem_cons_of_mem _ hy))]
    cases unesc q <;> simp
theorem bytes_rune (n : Int) (h : scalB n = true) : bytesOf (runeTextL n) = runeL n := by
  unfold runeTextL
  rw [if_pos h]
  have hn : 0 ≤ n ∧ n ≤ 1114111 := by unfold scalB at h; simp at h; omega
  apply bytes_strOfNums
  intro x hx
  unfold runeL at hx
  split at hx
  · simp at hx; omega
  · split at hx
    · simp at hx; omega
    · split at hx
      · simp at hx; omega
      · simp at hx; omega
/-- The bytes of a scalar that stands at a place. -/
theorem dec_bytes (s : ByteArray) (i : Int) (h0 : 0 ≤ i) (h1 : i < (s.size : Int)) (hv : 0 ≤ (decAt s i).1) :
    scalB (decAt s i).1 = true ∧ tl s i = runeL (decAt s i).1 ++ tl s (i + (decAt s i).2) ∧ ((decAt s i).1 < 128 → (decAt s i).1 = bt s i ∧ (decAt s i).2 = 1) ∧ (128 ≤ (decAt s i).1 → ∀ x ∈ runeL (decAt s i).1, 128 ≤ x) := by
  have b0 := bt_range s i
  have b1 := bt_range s (i + 1)
  have b2 := bt_range s (i + 2)
  have b3 := bt_range s (i + 3)
  have c0 := tl_cons h0 h1
  have c1 : i + 1 < (s.size : Int) → tl s (i + 1) = bt s (i + 1) :: tl s (i + 2) := fun h => by rw [tl_cons (by omega) h, show i + 1 + 1 = i + 2 from by omega]
  have c2 : i + 2 < (s.size : Int) → tl s (i + 2) = bt s (i + 2) :: tl s (i + 3) := fun h => by rw [tl_cons (by omega) h, show i + 2 + 1 = i + 3 from by omega]
  have c3 : i + 3 < (s.size : Int) → tl s (i + 3) = bt s (i + 3) :: tl s (i + 4) := fun h => by rw [tl_cons (by omega) h, show i + 3 + 1 = i + 4 from by omega]
  have sc : ∀ n : Int, 0 ≤ n → n ≤ 1114111 → ¬ (55296 ≤ n ∧ n ≤ 57343) → scalB n = true := by intro n a b c; unfold scalB; simp; omega
  unfold decAt at *
  generalize bt s i = x0 at *
  generalize bt s (i + 1) = x1 at *
  generalize bt s (i + 2) = x2 at *
  generalize bt s (i + 3) = x3 at *
  unfold decZ at *
  split at hv
  · exact absurd hv (by decide)
  rename_i g0
  rw [if_neg g0]
  split at hv
  · rename_i g1
    rw [if_pos g1]
    refine ⟨sc _ (by show 0 ≤ x0; omega) (by show x0 ≤ _; omega) (by show ¬ (_ ≤ x0 ∧ _); omega), ?_, fun _ => ⟨rfl, rfl⟩, fun h => absurd h (by show ¬ 128 ≤ x0; omega)⟩
    show tl s i = runeL x0 ++ tl s (i + 1)
    rw [c0, runeL, if_pos g1]; rfl
  rename_i g1
  rw [if_neg g1]
  split at hv
  · rename_i g2
    rw [if_pos g2]
    simp only
    generalize hn : (x0 - 192) * 64 + x1 - 128 = n at *
    have e : runeL n = [x0, x1] := by
      unfold runeL
      rw [if_neg (by omega), if_pos (by omega), show 192 + n / 64 = x0 from by omega, show 128 + n % 64 = x1 from by omega]
    refine ⟨sc _ (by omega) (by omega) (by omega), ?_, fun h => absurd h (by omega), fun _ x hx => ?_⟩
    · rw [e, c0, c1 (by omega)]; rfl
    · rw [e] at hx; simp at hx; omega
  rename_i g2
  rw [if_neg g2]
  split at hv
  · rename_i g3
    rw [if_pos g3]
    simp only
    generalize hn : ((x0 - 224) * 64 + x1 - 128) * 64 + x2 - 128 = n at *
    have e : runeL n = [x0, x1, x2] := by
      unfold runeL
      rw [if_neg (by omega), if_neg (by omega), if_pos (by omega), show 224 + n / 4096 = x0 from by omega, show 128 + n / 64 % 64 = x1 from by omega, show 128 + n % 64 = x2 from by omega]
    refine ⟨sc _ (by omega) (by omega) (by omega), ?_, fun h => absurd h (by omega), fun _ x hx => ?_⟩
    · rw [e, c0, c1 (by omega), c2 (by omega)]; rfl
    · rw [e] at hx; simp at hx; omega
  rename_i g3
  rw [if_neg g3]
  split at hv
  · rename_i g4
    rw [if_pos g4]
    simp only
    generalize hn : (((x0 - 240) * 64 + x1 - 128) * 64 + x2 - 128) * 64 + x3 - 128 = n at *
    have e : runeL n = [x0, x1, x2, x3] := by
      unfold runeL
      rw [if_neg (by omega), if_neg (by omega), if_neg (by omega), show 240 + n / 262144 = x0 from by omega, show 128 + n / 4096 % 64 = x1 from by omega, show 128 + n / 64 % 64 = x2 from by omega, show 128 + n % 64 = x3 from by omega]
    refine ⟨sc _ (by omega) (by omega) (by omega), ?_, fun h => absurd h (by omega), fun _ x hx => ?_⟩
    · rw [e, c0, c1 (by omega), c2 (by omega), c3 (by omega)]; rfl
    · rw [e] at hx; simp at hx; omega
  · exact absurd hv (by decide)
def vAt (s : ByteArray) (i : Int) : Bool := Lib.validD (s.data.toList.drop i.toNat)
theorem vAt_ascii (s : ByteArray) (i : Int) (h0 : 0 ≤ i) (h1 : i < (s.size : Int)) (hb : bt s i < 128) : vAt s i = vAt s (i + 1) := by
  have hd : decAt s i = (bt s i, 1) := by unfold decAt decZ; rw [if_neg (by omega), if_pos hb]
  have hr := bt_range s i
  rcases dec_step s i h0 h1 with h | h
  · rw [hd] at h; have := (Prod.mk.inj h.1).1; omega
  · rw [hd] at h; exact h.2.2.2.2
theorem vAt_run (s : ByteArray) (m : Nat) : ∀ i : Int, 0 ≤ i → (∀ k, k < m → ∃ x, (tl s i)[k]? = some x ∧ 0 ≤ x ∧ x < 128) → vAt s i = vAt s (i + m) := by
  induction m with
  | zero => intro i _ _; rw [show i + ((0 : Nat) : Int) = i from by omega]
  | succ m ih =>
    intro i h0 h
    obtain ⟨x, hx, hx0, hx1⟩ := h 0 (by omega)
    rw [tl_get s i h0 0] at hx
    split at hx
    · rename_i c
      obtain rfl := Option.some.inj hx
      rw [show i + ((0 : Nat) : Int) = i from by omega] at *
      rw [vAt_ascii s i h0 c hx1, ih (i + 1) (by omega) (fun k hk => ?_), show i + 1 + (m : Int) = i + ((m + 1 : Nat) : Int) from by omega]
      have := h (k + 1) (by omega)
      rw [tl_get s i h0, show i + ((k + 1 : Nat) : Int) = i + 1 + k from by omega, ← tl_get s (i + 1) (by omega)] at this
      exact this
    · cases hx
theorem vAt_end (s : ByteArray) (i : Int) (h : (s.size : Int) ≤ i) : vAt s i = true := by
  unfold vAt
  rw [List.drop_eq_nil_of_le (by rw [data_length]; omega)]
  rfl
theorem decZ_end (n b0 b1 b2 b3 c1 c2 c3 : Int) (h1 : 1 ≤ n) (e1 : if 1 < n then c1 = b1 else c1 < 128) (e2 : if 2 < n then c2 = b2 else if 2 = n then c2 < 128 else True) (e3 : if 3 < n then c3 = b3 else if 3 = n then c3 < 128 else True) :
    decZ (n + 1) b0 c1 c2 c3 = decZ n b0 b1 b2 b3 := by
  unfold decZ
  rw [if_neg (show ¬ n + 1 ≤ 0 by omega), if_neg (show ¬ n ≤ 0 by omega)]
  by_cases k0 : b0 < 128
  · rw [if_pos k0, if_pos k0]
  rw [if_neg k0, if_neg k0]
  by_cases n1 : 1 < n
  · rw [if_pos n1] at e1
    subst e1
    by_cases n2 : 2 < n
    · rw [if_pos n2] at e2
      subst e2
      by_cases n3 : 3 < n
      · rw [if_pos n3] at e3
        subst e3
        split <;> split <;> (try split) <;> (try split) <;> (try split) <;> (try split) <;> first | rfl | omega
      · rw [if_neg n3] at e3
        have : 3 = n := by omega
        subst this
        rw [if_pos rfl] at e3
        split <;> split <;> (try split) <;> (try split) <;> (try split) <;> (try split) <;> first | rfl | omega
    · have : 2 = n := by omega
      subst this
      rw [if_neg (by decide), if_pos rfl] at e2
      split <;> split <;> (try split) <;> (try split) <;> (try split) <;> (try split) <;> first | rfl | omega
  · rw [if_neg n1] at e1
    split <;> (try split) <;> (try split) <;> (try split) <;> (try split) <;> (try split) <;> first | rfl | omega
theorem bt_inner (s : ByteArray) (j : Int) (h0 : 0 ≤ j) (h1 : j + 2 < (s.size : Int)) : bt (s.extract 1 (s.size - 1)) j = bt s (j + 1) := by
  rw [← rd_bytesOf, ← rd_bytesOf, bytes_extract]
  unfold rd
  rw [List.getD_eq_getElem?_getD, List.getD_eq_getElem?_getD, List.getElem?_drop, List.getElem?_take]
  rw [if_pos (by omega), show (j + 1).toNat = 1 + j.toNat from by omega]
theorem vAt_inner (s : ByteArray) (hz : 2 ≤ s.size) (hl : bt s ((s.size : Int) - 1) = 34) (n : Nat) : ∀ i : Int, 0 ≤ i → i ≤ (s.size : Int) - 2 → (s.size : Int) - 2 - i ≤ n → vAt s (i + 1) = vAt (s.extract 1 (s.size - 1)) i := by
  have hts : ((s.extract 1 (s.size - 1)).size : Int) = (s.size : Int) - 2 := by rw [size_extract]; omega
  have last : vAt s ((s.size : Int) - 2 + 1) = vAt (s.extract 1 (s.size - 1)) ((s.size : Int) - 2) := by
    rw [vAt_end (s.extract 1 (s.size - 1)) _ (by omega), show (s.size : Int) - 2 + 1 = (s.size : Int) - 1 from by omega, vAt_ascii s _ (by omega) (by omega) (by omega), vAt_end s _ (by omega)]
  induction n with
  | zero =>
    intro i h0 h1 hn
    rw [show i = (s.size : Int) - 2 from by omega]; exact last
  | succ n ih =>
    intro i h0 h1 hn
    by_cases c : i = (s.size : Int) - 2
    · rw [c]; exact last
    have e0 := bt_inner s i h0 (by omega)
    have ed : decAt s (i + 1) = decAt (s.extract 1 (s.size - 1)) i := by
      unfold decAt
      rw [hts, e0, show (s.size : Int) - (i + 1) = ((s.size : Int) - 2 - i) + 1 from by omega]
      refine decZ_end _ _ _ _ _ _ _ _ (by omega) ?_ ?_ ?_
      · by_cases k : 1 < (s.size : Int) - 2 - i
        · rw [if_pos k, bt_inner s (i + 1) (by omega) (by omega)]
        · rw [if_neg k, show i + 1 + 1 = (s.size : Int) - 1 from by omega, hl]; decide
      · by_cases k : 2 < (s.size : Int) - 2 - i
        · rw [if_pos k, bt_inner s (i + 2) (by omega) (by omega), show i + 1 + 2 = i + 2 + 1 from by omega]
        · rw [if_neg k]
          by_cases k2 : 2 = (s.size : Int) - 2 - i
          · rw [if_pos k2, show i + 1 + 2 = (s.size : Int) - 1 from by omega, hl]; decide
          · rw [if_neg k2]; trivial
      · by_cases k : 3 < (s.size : Int) - 2 - i
        · rw [if_pos k, bt_inner s (i + 3) (by omega) (by omega), show i + 1 + 3 = i + 3 + 1 from by omega]
        · rw [if_neg k]
          by_cases k2 : 3 = (s.size : Int) - 2 - i
          · rw [if_pos k2, show i + 1 + 3 = (s.size : Int) - 1 from by omega, hl]; decide
          · rw [if_neg k2]; trivial
    have d1 := dec_step s (i + 1) (by omega) (by omega)
    have d2 := dec_step (s.extract 1 (s.size - 1)) i h0 (by omega)
    rw [ed] at d1
    rcases d1 with d1 | d1
    · rcases d2 with d2 | d2
      · exact d1.2.trans d2.2.symm
      · rw [d1.1] at d2; exact absurd d2.1 (by decide)
    · rcases d2 with d2 | d2
      · rw [d2.1] at d1; exact absurd d1.1 (by decide)
      · have a1 : vAt s (i + 1) = vAt s (i + 1 + (decAt (s.extract 1 (s.size - 1)) i).2) := d1.2.2.2.2
        have a2 : vAt (s.extract 1 (s.size - 1)) i = vAt (s.extract 1 (s.size - 1)) (i + (decAt (s.extract 1 (s.size - 1)) i).2) := d2.2.2.2.2
        have b1 := d2.2.1
        have b2 := d2.2.2.2.1
        rw [a1, a2, show i + 1 + (decAt (s.extract 1 (s.size - 1)) i).2 = i + (decAt (s.extract 1 (s.size - 1)) i).2 + 1 from by omega]
        exact ih _ (by omega) (by omega) (by omega)
/-- Both sides' answer. -/
def unescB (s : ByteArray) : ByteArray × Bool :=
  if 2 ≤ s.size ∧ s.size ≤ 1300 ∧ bt s 0 = 34 ∧ bt s ((s.size : Int) - 1) = 34 ∧ textOkS s = true then finU [] (unesc (bytesOf (s.extract 1 (s.size - 1)))) else ((⟨#[]⟩ : ByteArray), false)

/-- Where a text in quotes ends: from place i on; odd: behind an odd number of signs 92. -/
def strE : Bool → List Int → Int → Int
  | _, [], _ => -1
  | odd, x :: r, i => if x = 10 ∨ x = 13 then -1 else if x = 34 ∧ odd = false then i + 1 else strE (x == 92 && !odd) r (i + 1)
def strEndL (s : ByteArray) (i : Int) : Int := if 0 ≤ i ∧ i < (s.size : Int) ∧ bt s i = 34 then strE false (tl s (i + 1)) (i + 1) else -1

-- what FnStrings asks of lists of bytes
/-- A list of bytes that is scalars, one behind the other. -/
def Sc (l : List Int) (R : List Int) : Prop := (∀ x ∈ R, scalB x = true) ∧ l = R.flatMap runeL
theorem Sc.nil : Sc [] [] := ⟨by simp, rfl⟩
theorem Sc.append {a b R Q : List Int} (h : Sc a R) (g : Sc b Q) : Sc (a ++ b) (R ++ Q) := by
  refine ⟨fun x hx => ?_, by rw [List.flatMap_append, h.2, g.2]⟩
  rcases List.mem_append.1 hx with hx | hx
  · exact h.1 x hx
  · exact g.1 x hx
theorem scal_low {x : Int} (h0 : 0 ≤ x) (h1 : x < 128) : scalB x = true := by unfold scalB; simp; omega
theorem scal_range {x : Int} (h : scalB x = true) : 0 ≤ x ∧ x ≤ 1114111 ∧ ¬ (55296 ≤ x ∧ x ≤ 57343) := by unfold scalB at h; simp at h; omega
theorem runeL_low {x : Int} (h1 : x < 128) : runeL x = [x] := by unfold runeL; rw [if_pos h1]
theorem runeL_high {x : Int} (h : scalB x = true) (h1 : 128 ≤ x) : ∀ y ∈ runeL x, 128 ≤ y ∧ y ≤ 255 := by
  have := scal_range h
  unfold runeL
  rw [if_neg (by omega)]
  intro y hy
  split at hy
  · simp at hy; omega
  · split at hy <;> (simp at hy; omega)
theorem runeL_range {x : Int} (h : scalB x = true) : ∀ y ∈ runeL x, 0 ≤ y ∧ y ≤ 255 := by
  have := scal_range h
  by_cases c : x < 128
  · rw [runeL_low c]; intro y hy; simp at hy; omega
  · intro y hy; have := runeL_high h (by omega) y hy; omega
theorem runeL_len {x : Int} : 1 ≤ (runeL x).length ∧ (runeL x).length ≤ 4 := by
  unfold runeL; repeat' split
  all_goals simp
theorem Sc.ascii {l : List Int} (h : ∀ x ∈ l, 0 ≤ x ∧ x < 128) : Sc l l := by
  refine ⟨fun x hx => scal_low (h x hx).1 (h x hx).2, ?_⟩
  induction l with
  | nil => rfl
  | cons x r ih =>
    rw [List.flatMap_cons, runeL_low (h x (by simp)).2, ← ih fun y hy => h y (by simp [hy])]; rfl
theorem Sc.one {x : Int} (h : scalB x = true) : Sc (runeL x) [x] := ⟨by simpa using h, by simp⟩
theorem Sc.range {l R : List Int} (h : Sc l R) : ∀ y ∈ l, 0 ≤ y ∧ y ≤ 255 := by
  intro y hy
  rw [h.2] at hy
  obtain ⟨x, hx, hy⟩ := List.mem_flatMap.1 hy
  exact runeL_range (h.1 x hx) y hy
theorem Sc.len {l R : List Int} (h : Sc l R) : l.length ≤ 4 * R.length := by
  obtain ⟨hs, rfl⟩ := h
  induction R with
  | nil => simp
  | cons x r ih => rw [List.flatMap_cons, List.length_append, List.length_cons]; have := @runeL_len x; have ih := ih fun y hy => hs y (by simp [hy]); omega
theorem escL_append (a b : List Int) : escL (a ++ b) = escL a ++ escL b := by
  induction a with
  | nil => rfl
  | cons x r ih => simp only [List.cons_append, escL, ih, List.append_assoc]
theorem escL_high (a : List Int) (h : ∀ x ∈ a, 128 ≤ x) : escL a = a := by
  induction a with
  | nil => rfl
  | cons x r ih =>
    have hx := h x (by simp)
    have : escB x = [x] := by unfold escB; repeat' (rw [if_neg (by omega)])
    rw [escL, this, ih fun y hy => h y (by simp [hy])]; rfl
theorem hexD_ascii {n : Int} (h0 : 0 ≤ n) (h1 : n < 16) : 0 ≤ hexD n ∧ hexD n < 128 := by unfold hexD; split <;> omega
theorem escB_ascii {x : Int} (h0 : 0 ≤ x) (h1 : x < 128) : ∀ y ∈ escB x, 0 ≤ y ∧ y < 128 := by
  have a := hexD_ascii (n := x / 16) (by omega) (by omega)
  have b := hexD_ascii (n := x % 16) (by omega) (by omega)
  unfold escB
  repeat' split
  all_goals (intro y hy; simp at hy; omega)
/-- A text with escapes is scalars again. -/
theorem Sc.esc {l R : List Int} (h : Sc l R) : ∃ Q, Sc (escL l) Q := by
  obtain ⟨hs, rfl⟩ := h
  induction R with
  | nil => exact ⟨[], Sc.nil⟩
  | cons x r ih =>
    obtain ⟨Q, hQ⟩ := ih fun y hy => hs y (by simp [hy])
    rw [List.flatMap_cons, escL_append]
    have hx := hs x (by simp)
    have hr := scal_range hx
    by_cases c : x < 128
    · rw [runeL_low c]
      have : escL [x] = escB x := by simp [escL]
      rw [this]
      exact ⟨_, (Sc.ascii (escB_ascii (by omega) c)).append hQ⟩
    · rw [escL_high _ fun y hy => (runeL_high hx (by omega) y hy).1]
      exact ⟨_, (Sc.one hx).append hQ⟩
theorem escL_len (l : List Int) : l.length ≤ (escL l).length ∧ (escL l).length ≤ 6 * l.length := by
  induction l with
  | nil => simp [escL]
  | cons x r ih => have := escB_len x; simp only [escL, List.length_append, List.length_cons]; omega
theorem hexV_hexD {n : Int} (h0 : 0 ≤ n) (h1 : n < 16) : hexV (hexD n) = n := by
  unfold hexD
  split
  · unfold hexV; rw [if_pos (by omega)]; omega
  · unfold hexV; rw [if_neg (by omega), if_pos (by omega)]; omega
theorem uni_four {x : Int} (h0 : 0 ≤ x) (h1 : x < 256) (r : List Int) : uniL ([48, 48, hexD (x / 16), hexD (x % 16)] ++ r) = some (x, 4) := by
  have n4 : numN 4 ([48, 48, hexD (x / 16), hexD (x % 16)] ++ r) 0 = x := by
    simp only [List.cons_append, numN, hexV_hexD (n := x / 16) (by omega) (by omega), hexV_hexD (n := x % 16) (by omega) (by omega)]
    have e : hexV 48 = 0 := by decide
    rw [e, if_neg (by omega), if_neg (by omega), if_neg (by omega), if_neg (by omega)]; omega
  unfold uniL
  rw [n4, if_neg (by simp), if_neg (by omega), if_neg (by omega), if_pos (by unfold scalB; simp; omega)]
theorem numN_app (m : Nat) : ∀ (q r : List Int) (a : Int), q.length = m → numN m (q ++ r) a = numN m q a := by
  induction m with
  | zero => intro q r a h; rfl
  | succ m ih =>
    intro q r a h
    cases q with
    | nil => simp at h
    | cons x q => simp only [List.cons_append, numN]; rw [ih q r _ (by simpa using h)]
/-- The six figures of a scalar. -/
def hex6 (n : Int) : List Int := hexL [n / 65536, n / 256 % 256, n % 256]
theorem uni_six {x : Int} (h : scalB x = true) (r : List Int) : uniL (123 :: (hex6 x ++ 125 :: r)) = some (x, 8) := by
  have hr := scal_range h
  have n6 : numN 6 (hex6 x ++ 125 :: r) 0 = x := by
    simp only [hex6, hexL, List.cons_append, List.nil_append, numN]
    rw [hexV_hexD (by omega) (by omega), hexV_hexD (by omega) (by omega), hexV_hexD (by omega) (by omega), hexV_hexD (by omega) (by omega), hexV_hexD (by omega) (by omega), hexV_hexD (by omega) (by omega)]
    rw [if_neg (by omega), if_neg (by omega), if_neg (by omega), if_neg (by omega), if_neg (by omega), if_neg (by omega)]
    omega
  have run : hexRun (hex6 x ++ 125 :: r) = 6 := by
    simp only [hex6, hexL, List.cons_append, List.nil_append, hexRun]
    rw [hexV_hexD (by omega) (by omega), hexV_hexD (by omega) (by omega), hexV_hexD (by omega) (by omega), hexV_hexD (by omega) (by omega), hexV_hexD (by omega) (by omega), hexV_hexD (by omega) (by omega)]
    rw [if_neg (by omega), if_neg (by omega), if_neg (by omega), if_neg (by omega), if_neg (by omega), if_neg (by omega)]
    rw [if_pos (by decide)]
  unfold uniL
  rw [if_pos (by simp), List.tail_cons, run, n6, if_pos ⟨by omega, by omega, by simp [hex6, hexL], h⟩]
theorem unesc_esc1 {y : Int} (q : List Int) (m : Nat) (p : List Int) (h : escL1 (p ++ q) = some (y, m)) (hm : p.length = m) : unesc (92 :: (p ++ q)) = (unesc q).map (bytesOf (runeTextL y) ++ ·) := by
  rw [unesc, if_neg (by decide), if_pos rfl, h]
  simp only
  rw [← hm, List.drop_left]
theorem bytes_low {x : Int} (h0 : 0 ≤ x) (h1 : x < 128) : bytesOf (runeTextL x) = [x] := by rw [bytes_rune x (scal_low h0 h1), runeL_low h1]
theorem unesc_byte {x : Int} (h0 : 0 ≤ x) (h1 : x ≤ 255) (q : List Int) : unesc (escB x ++ q) = (unesc q).map ([x] ++ ·) := by
  unfold escB
  by_cases c : x = 34 ∨ x = 92
  · rw [if_pos c]
    have := unesc_esc1 (y := x) q 1 [x] (by simp only [List.cons_append, escL1]; rw [if_pos (by omega)]) rfl
    rw [bytes_low (by omega) (by omega)] at this
    exact this
  rw [if_neg c]
  by_cases c8 : x = 8
  · rw [if_pos c8]; subst c8; exact unesc_esc1 (y := 8) q 1 [98] (by simp [escL1]) rfl
  rw [if_neg c8]
  by_cases c9 : x = 9
  · rw [if_pos c9]; subst c9; exact unesc_esc1 (y := 9) q 1 [116] (by simp [escL1]) rfl
  rw [if_neg c9]
  by_cases c10 : x = 10
  · rw [if_pos c10]; subst c10; exact unesc_esc1 (y := 10) q 1 [110] (by simp [escL1]) rfl
  rw [if_neg c10]
  by_cases c12 : x = 12
  · rw [if_pos c12]; subst c12; exact unesc_esc1 (y := 12) q 1 [102] (by simp [escL1]) rfl
  rw [if_neg c12]
  by_cases c13 : x = 13
  · rw [if_pos c13]; subst c13; exact unesc_esc1 (y := 13) q 1 [114] (by simp [escL1]) rfl
  rw [if_neg c13]
  by_cases c32 : x < 32 ∨ x = 127
  · rw [if_pos c32]
    have := unesc_esc1 (y := x) q 5 [117, 48, 48, hexD (x / 16), hexD (x % 16)] (by
      show escL1 (117 :: ([48, 48, hexD (x / 16), hexD (x % 16)] ++ q)) = _
      rw [escL1, if_neg (by omega), if_neg (by omega), if_neg (by omega), if_neg (by omega), if_neg (by omega), if_neg (by omega), if_pos rfl, uni_four h0 (by omega)]; rfl) rfl
    rw [bytes_low (by omega) (by omega)] at this
    exact this
  rw [if_neg c32]
  show unesc (x :: q) = _
  rw [unesc, if_neg (by omega), if_neg (by omega)]
theorem unesc_escL (l : List Int) (h : ∀ x ∈ l, 0 ≤ x ∧ x ≤ 255) (q : List Int) : unesc (escL l ++ q) = (unesc q).map (l ++ ·) := by
  induction l with
  | nil => simp [escL]
  | cons x r ih =>
    have hx := h x (by simp)
    rw [escL, List.append_assoc, unesc_byte hx.1 hx.2, ih fun y hy => h y (by simp [hy])]
    cases unesc q <;> simp
theorem unesc_all (l : List Int) (h : ∀ x ∈ l, 0 ≤ x ∧ x ≤ 255) : unesc (escL l) = some l := by
  have := unesc_escL l h []
  rw [List.append_nil, unesc] at this
  rw [this]; simp
/-- The escapes of scalars. -/
def uL (R : List Int) : List Int := R.flatMap fun n => [92, 117, 123] ++ hex6 n ++ [125]
theorem unesc_u (R : List Int) (h : ∀ x ∈ R, scalB x = true) : unesc (uL R) = some (R.flatMap runeL) := by
  induction R with
  | nil => simp [uL, unesc]
  | cons x r ih =>
    have hx := h x (by simp)
    have h6 : (hex6 x).length = 6 := by simp [hex6, hexL]
    have ih := ih fun y hy => h y (by simp [hy])
    have e : uL (x :: r) = 92 :: ((117 :: 123 :: (hex6 x ++ [125])) ++ uL r) := by simp [uL]
    rw [e, unesc_esc1 (y := x) (uL r) 9 _ (by
      show escL1 (117 :: (123 :: (hex6 x ++ [125]) ++ uL r)) = _
      rw [escL1, if_neg (by omega), if_neg (by omega), if_neg (by omega), if_neg (by omega), if_neg (by omega), if_neg (by omega), if_pos rfl]
      rw [show (123 :: (hex6 x ++ [125]) ++ uL r) = 123 :: (hex6 x ++ 125 :: uL r) from by simp, uni_six hx]; rfl) (by simp [h6]), ih, bytes_rune x hx]
    simp
theorem hex6_ascii {x : Int} (h : scalB x = true) : ∀ y ∈ hex6 x, 0 ≤ y ∧ y < 128 := by
  have hr := scal_range h
  intro y hy
  have a := hexD_ascii (n := x / 65536 / 16) (by omega) (by omega)
  have b := hexD_ascii (n := x / 65536 % 16) (by omega) (by omega)
  have c := hexD_ascii (n := x / 256 % 256 / 16) (by omega) (by omega)
  have d := hexD_ascii (n := x / 256 % 256 % 16) (by omega) (by omega)
  have e := hexD_ascii (n := x % 256 / 16) (by omega) (by omega)
  have f := hexD_ascii (n := x % 256 % 16) (by omega) (by omega)
  simp only [hex6, hexL, List.mem_cons, List.not_mem_nil, or_false] at hy
  rcases hy with rfl | rfl | rfl | rfl | rfl | rfl <;> assumption
theorem uL_ascii (R : List Int) (h : ∀ x ∈ R, scalB x = true) : ∀ y ∈ uL R, 0 ≤ y ∧ y < 128 := by
  intro y hy
  obtain ⟨x, hx, hy⟩ := List.mem_flatMap.1 hy
  rcases List.mem_append.1 hy with hy | hy
  · rcases List.mem_append.1 hy with hy | hy
    · simp at hy; omega
    · exact hex6_ascii (h x hx) y hy
  · simp at hy; omega
theorem uL_len (R : List Int) : (uL R).length = 10 * R.length := by
  induction R with
  | nil => rfl
  | cons x r ih => rw [show uL (x :: r) = ([92, 117, 123] ++ hex6 x ++ [125]) ++ uL r from by simp [uL], List.length_append, ih]; simp [hex6, hexL]; omega
/-- Where a text with escapes ends. -/
theorem hexD_plain {n : Int} (h0 : 0 ≤ n) (h1 : n < 16) : hexD n ≠ 10 ∧ hexD n ≠ 13 ∧ hexD n ≠ 34 ∧ hexD n ≠ 92 := by unfold hexD; split <;> omega
theorem strE_plain {x : Int} (odd : Bool) (r : List Int) (i : Int) (h : x ≠ 10 ∧ x ≠ 13 ∧ x ≠ 34 ∧ x ≠ 92) : strE odd (x :: r) i = strE false r (i + 1) := by
  rw [strE, if_neg (by omega), if_neg (by omega)]
  have : (x == 92 && !odd) = false := by simp [h.2.2.2]
  rw [this]
theorem strE_odd {x : Int} (r : List Int) (i : Int) (h : x ≠ 10 ∧ x ≠ 13) : strE false (92 :: x :: r) i = strE false r (i + 2) := by
  rw [strE, if_neg (by omega), if_neg (by omega), strE, if_neg (by omega), if_neg (by simp)]
  have : (x == 92 && !(92 == (92 : Int) && !false)) = false := by simp
  rw [this, Int.add_assoc]; rfl
theorem strE_byte {x : Int} (h0 : 0 ≤ x) (h1 : x ≤ 255) (q : List Int) (i : Int) : strE false (escB x ++ q) i = strE false q (i + (escB x).length) := by
  unfold escB
  by_cases c : x = 34 ∨ x = 92
  · rw [if_pos c]; exact strE_odd q i (by omega)
  rw [if_neg c]
  by_cases c8 : x = 8
  · rw [if_pos c8]; exact strE_odd q i (by omega)
  rw [if_neg c8]
  by_cases c9 : x = 9
  · rw [if_pos c9]; exact strE_odd q i (by omega)
  rw [if_neg c9]
  by_cases c10 : x = 10
  · rw [if_pos c10]; exact strE_odd q i (by omega)
  rw [if_neg c10]
  by_cases c12 : x = 12
  · rw [if_pos c12]; exact strE_odd q i (by omega)
  rw [if_neg c12]
  by_cases c13 : x = 13
  · rw [if_pos c13]; exact strE_odd q i (by omega)
  rw [if_neg c13]
  by_cases c32 : x < 32 ∨ x = 127
  · rw [if_pos c32]
    show strE false (92 :: 117 :: 48 :: 48 :: hexD (x / 16) :: hexD (x % 16) :: q) i = _
    rw [strE_odd _ _ (by omega), strE_plain _ _ _ (by omega), strE_plain _ _ _ (by omega), strE_plain _ _ _ (hexD_plain (by omega) (by omega)), strE_plain _ _ _ (hexD_plain (by omega) (by omega))]
    congr 1; simp; omega
  rw [if_neg c32]
  exact strE_plain _ _ _ (by omega)
theorem strE_escL (l : List Int) (h : ∀ x ∈ l, 0 ≤ x ∧ x ≤ 255) (q : List Int) : ∀ i : Int, strE false (escL l ++ q) i = strE false q (i + (escL l).length) := by
  induction l with
  | nil => intro i; simp [escL]
  | cons x r ih =>
    intro i
    have hx := h x (by simp)
    rw [escL, List.append_assoc, strE_byte hx.1 hx.2, ih fun y hy => h y (by simp [hy])]
    congr 1; rw [List.length_append]; omega
/-- A text with escapes that ends with the sign 34 has a backslash ahead of it. -/
theorem escB_last {x : Int} (h0 : 0 ≤ x) (h1 : x ≤ 255) : (escB x).getLast? = some 34 → x = 34 := by
  have a := hexD_plain (n := x % 16) (by omega) (by omega)
  unfold escB
  repeat' split
  all_goals (intro h; simp at h; try omega)
theorem unesc_cut (l : List Int) (h : ∀ x ∈ l, 0 ≤ x ∧ x ≤ 255) : unesc (escL l ++ [92]) = none := by
  rw [unesc_escL l h, unesc, if_neg (by decide), if_pos rfl]; rfl
theorem bt_of_tl (s : ByteArray) (i : Int) (h0 : 0 ≤ i) (k : Nat) (y : Int) (h : (tl s i)[k]? = some y) : i + k < (s.size : Int) ∧ bt s (i + k) = y := by
  rw [tl_get s i h0] at h
  by_cases c : i + k < (s.size : Int)
  · rw [if_pos c] at h; exact ⟨c, Option.some.inj h⟩
  · rw [if_neg c] at h; cases h
/-- A scalar's bytes decode to it. -/
theorem sc_dec (s : ByteArray) (i : Int) (h0 : 0 ≤ i) (x : Int) (hx : scalB x = true) (r : List Int) (h : tl s i = runeL x ++ r) : i < (s.size : Int) ∧ decAt s i = (x, ((runeL x).length : Int)) := by
  have hr := scal_range hx
  have g := bt_of_tl s i h0
  rw [h] at g
  by_cases c1 : x < 128
  · rw [runeL_low c1] at g
    obtain ⟨a, b⟩ := g 0 x rfl
    simp only [Int.natCast_zero, Int.add_zero] at a b
    refine ⟨a, ?_⟩
    unfold decAt decZ
    rw [if_neg (by omega), if_pos (by omega), b, runeL_low c1]; rfl
  by_cases c2 : x < 2048
  · have e : runeL x = [192 + x / 64, 128 + x % 64] := by unfold runeL; rw [if_neg c1, if_pos c2]
    rw [e] at g
    obtain ⟨a0, b0⟩ := g 0 _ rfl
    obtain ⟨a1, b1⟩ := g 1 _ rfl
    have b1 : bt s (i + 1) = _ := b1
    simp only [Int.natCast_zero, Int.add_zero, Int.natCast_one] at a0 b0 a1
    refine ⟨a0, ?_⟩
    unfold decAt decZ
    rw [if_neg (by omega), if_neg (by omega), if_pos (by omega), e]
    refine Prod.ext ?_ rfl
    simp only []; omega
  by_cases c3 : x < 65536
  · have e : runeL x = [224 + x / 4096, 128 + x / 64 % 64, 128 + x % 64] := by unfold runeL; rw [if_neg c1, if_neg c2, if_pos c3]
    rw [e] at g
    obtain ⟨a0, b0⟩ := g 0 _ rfl
    obtain ⟨a1, b1⟩ := g 1 _ rfl
    obtain ⟨a2, b2⟩ := g 2 _ rfl
    have b1 : bt s (i + 1) = _ := b1
    have b2 : bt s (i + 2) = _ := b2
    have a2 : i + 2 < _ := a2
    simp only [Int.natCast_zero, Int.add_zero, Int.natCast_one] at a0 b0 a1
    refine ⟨a0, ?_⟩
    unfold decAt decZ
    rw [if_neg (by omega), if_neg (by omega), if_neg (by omega), if_pos (by omega), e]
    refine Prod.ext ?_ rfl
    simp only []; omega
  · have e : runeL x = [240 + x / 262144, 128 + x / 4096 % 64, 128 + x / 64 % 64, 128 + x % 64] := by unfold runeL; rw [if_neg c1, if_neg c2, if_neg c3]
    rw [e] at g
    obtain ⟨a0, b0⟩ := g 0 _ rfl
    obtain ⟨a1, b1⟩ := g 1 _ rfl
    obtain ⟨a2, b2⟩ := g 2 _ rfl
    obtain ⟨a3, b3⟩ := g 3 _ rfl
    have b1 : bt s (i + 1) = _ := b1
    have b2 : bt s (i + 2) = _ := b2
    have b3 : bt s (i + 3) = _ := b3
    have a3 : i + 3 < _ := a3
    simp only [Int.natCast_zero, Int.add_zero, Int.natCast_one] at a0 b0 a1
    refine ⟨a0, ?_⟩
    unfold decAt decZ
    rw [if_neg (by omega), if_neg (by omega), if_neg (by omega), if_neg (by omega), if_pos (by omega), e]
    refine Prod.ext ?_ rfl
    simp only []; omega
theorem sc_step (s : ByteArray) (i : Int) (h0 : 0 ≤ i) (x : Int) (hx : scalB x = true) (r : List Int) (h : tl s i = runeL x ++ r) : vAt s i = vAt s (i + (runeL x).length) ∧ tl s (i + (runeL x).length) = r ∧ i + (runeL x).length ≤ (s.size : Int) := by
  obtain ⟨h1, hd⟩ := sc_dec s i h0 x hx r h
  have hr := scal_range hx
  have hl := @runeL_len x
  have ht : tl s (i + (runeL x).length) = r := by rw [← tl_drop s i h0, h, List.drop_left]
  rcases dec_step s i h0 h1 with hs | ⟨g0, g1, g4, g5, gv⟩
  · rw [hd] at hs; have := congrArg Prod.fst hs.1; simp at this; omega
  · rw [hd] at gv g5
    exact ⟨gv, ht, g5⟩
theorem sc_ok (s : ByteArray) (R : List Int) : ∀ i : Int, 0 ≤ i → Sc (tl s i) R → vAt s i = true := by
  induction R with
  | nil =>
    intro i h0 h
    have hl := congrArg List.length h.2
    unfold tl at hl
    rw [List.length_drop, size_bytes] at hl
    exact vAt_end s i (by simp at hl; omega)
  | cons x r ih =>
    intro i h0 h
    have hx := h.1 x (by simp)
    obtain ⟨a, b, _⟩ := sc_step s i h0 x hx (r.flatMap runeL) (by rw [h.2, List.flatMap_cons])
    rw [a]
    exact ih _ (by omega) ⟨fun y hy => h.1 y (by simp [hy]), b⟩
theorem sc_text (s : ByteArray) (R : List Int) (h : Sc (bytesOf s) R) : textOkS s = true := by
  have := sc_ok s R 0 (by omega) (by rw [tl_zero]; exact h)
  unfold vAt at this
  simpa [textOkS] using this
theorem bt_at (s : ByteArray) (l : List Int) (h : bytesOf s = l) (k : Nat) (y : Int) (hy : l[k]? = some y) : bt s (k : Int) = y := by
  have := (bt_of_tl s 0 (by omega) k y (by rw [tl_zero, h]; exact hy)).2
  rwa [Int.zero_add] at this
theorem un_ok (q Q w : List Int) (hq : Sc q Q) (hl : q.length ≤ 1298) (hw : unesc q = some w) (hw2 : w.length ≤ 200) : unescB (strOfNums (34 :: q ++ [34])) = (strOfNums w, true) := by
  have a34 : Sc [34] [34] := Sc.ascii (by intro x hx; simp at hx; omega)
  have hS : Sc (34 :: q ++ [34]) ([34] ++ Q ++ [34]) := (a34.append hq).append a34
  have hb : bytesOf (strOfNums (34 :: q ++ [34])) = 34 :: q ++ [34] := bytes_strOfNums _ hS.range
  have hz : (strOfNums (34 :: q ++ [34])).size = q.length + 2 := by rw [str_size]; simp
  have hok := sc_text _ _ (by rw [hb]; exact hS)
  have b0 := bt_at _ _ hb 0 34 (by simp)
  have b1 := bt_at _ _ hb (q.length + 1) 34 (by simp)
  have hin : bytesOf ((strOfNums (34 :: q ++ [34])).extract 1 ((strOfNums (34 :: q ++ [34])).size - 1)) = q := by
    rw [bytes_extract, hb, hz]; simp
  unfold unescB
  rw [hin, hw, if_pos ⟨by omega, by omega, b0, by rw [hz, show ((q.length + 2 : Nat) : Int) - 1 = ((q.length + 1 : Nat) : Int) from by omega]; exact b1, hok⟩]
  unfold finU
  simp only [List.nil_append]
  rw [if_neg (by omega)]
theorem un_no (l : List Int) (h : ∀ x ∈ l, 0 ≤ x ∧ x ≤ 255) : (unescB (strOfNums (34 :: escL l))).2 = false := by
  have hr0 : ∀ x ∈ escL l, 0 ≤ x ∧ x ≤ 255 := by
    intro y hy
    induction l with
    | nil => simp [escL] at hy
    | cons x r ih =>
      rw [escL] at hy
      have hx := h x (by simp)
      rcases List.mem_append.1 hy with hy | hy
      · by_cases c : x < 128
        · have := escB_ascii hx.1 c y hy; omega
        · have : escB x = [x] := by unfold escB; repeat' (rw [if_neg (by omega)])
          rw [this] at hy; simp at hy; omega
      · exact ih (fun y hy => h y (by simp [hy])) hy
  have hr : ∀ x ∈ (34 :: escL l), 0 ≤ x ∧ x ≤ 255 := by
    intro y hy
    rcases List.mem_cons.1 hy with rfl | hy
    · omega
    · exact hr0 y hy
  have hb := bytes_strOfNums _ hr
  have hz : (strOfNums (34 :: escL l)).size = (escL l).length + 1 := by rw [str_size]; simp
  unfold unescB
  split
  · rename_i hc
    obtain ⟨c1, _, _, c4, _⟩ := hc
    have hne : l ≠ [] := by rintro rfl; rw [hz] at c1; simp [escL] at c1
    obtain ⟨l', x, rfl⟩ : ∃ l' x, l = l' ++ [x] := ⟨l.dropLast, l.getLast hne, (List.dropLast_concat_getLast hne).symm⟩
    have hx := h x (by simp)
    have e1 : escL (l' ++ [x]) = escL l' ++ escB x := by rw [escL_append]; simp [escL]
    have hB := escB_len x
    have hlast : (escB x).getLast? = some 34 := by
      rw [List.getLast?_eq_getElem?]
      have : (34 :: escL (l' ++ [x]))[(escL (l' ++ [x])).length]? = (escB x)[(escB x).length - 1]? := by
        rw [e1, List.length_append]
        obtain ⟨m, hm⟩ : ∃ m, (escB x).length = m + 1 := ⟨(escB x).length - 1, by omega⟩
        rw [show (escL l').length + (escB x).length = ((escL l').length + m) + 1 from by omega, List.getElem?_cons_succ, List.getElem?_append_right (by omega), hm]
        congr 1; omega
      rw [← this]
      have hlt : (escL (l' ++ [x])).length < (34 :: escL (l' ++ [x])).length := by simp
      rw [List.getElem?_eq_getElem hlt]
      have t1 := bt_at _ _ hb _ _ (List.getElem?_eq_getElem hlt)
      have t2 := c4
      rw [hz, show (((escL (l' ++ [x])).length + 1 : Nat) : Int) - 1 = (((escL (l' ++ [x])).length : Nat) : Int) from by omega] at t2
      exact congrArg some (t1.symm.trans t2)
    have hx34 := escB_last hx.1 hx.2 hlast
    subst hx34
    have hin : bytesOf ((strOfNums (34 :: escL (l' ++ [34]))).extract 1 ((strOfNums (34 :: escL (l' ++ [34]))).size - 1)) = escL l' ++ [92] := by
      have e2 : escL (l' ++ [34]) = (escL l' ++ [92]) ++ [34] := by rw [e1]; simp [escB]
      have e3 : (escL l' ++ [92] ++ [34] : List Int).length + 1 - 1 = (34 :: (escL l' ++ [92]) : List Int).length := by simp
      rw [bytes_extract, hb, hz, e2, e3]
      show List.drop 1 (List.take _ ((34 :: (escL l' ++ [92])) ++ [34])) = _
      rw [List.take_left]; rfl
    rw [hin, unesc_cut l' fun y hy => h y (by simp [hy])]; rfl
  · rfl
theorem end_at (S : ByteArray) (p : Nat) (l q : List Int) (hl : ∀ x ∈ l, 0 ≤ x ∧ x ≤ 255) (h : tl S p = 34 :: (escL l ++ 34 :: q)) : strEndL S p = p + 1 + (escL l).length + 1 := by
  have h0 := bt_of_tl S p (by omega) 0 34 (by rw [h]; rfl)
  simp only [Int.natCast_zero, Int.add_zero] at h0
  have ht : tl S ((p : Int) + 1) = escL l ++ 34 :: q := by
    have := tl_drop S p (by omega) 1
    rw [h] at this
    exact this.symm
  unfold strEndL
  rw [if_pos ⟨by omega, h0.1, h0.2⟩, ht, strE_escL l hl, strE, if_neg (by omega), if_pos ⟨rfl, rfl⟩]

theorem drawRune (b : List Int) (hb : b.length ≤ 140737488351232) (i h : Int) (h0 : 0 ≤ i) : ∃ x j g, spec_l02Rune.f b i h = some (x, j, g) ∧ scalB x = true ∧ 0 ≤ j := by
  obtain ⟨x, j, g, e, x0, x1, j0⟩ := drawBelow b hb i h 19 h0 (by omega) (by omega)
  have hall : ∀ k : Fin 19, scalB (rd [65, 97, 122, 48, 32, 10, 34, 92, 233, 2047, 2048, 8364, 65535, 65536, 128512, 1114111, 9, 127, 31] (k.val : Int)) = true := by decide
  have hx := hall ⟨x.toNat, by omega⟩
  simp only [show ((x.toNat : Nat) : Int) = x from by omega] at hx
  refine ⟨_, j, g, ?_, hx, j0⟩
  unfold spec_l02Rune.f spec_l01PickInt.f
  have e' : spec_l01Below.f b i h (([65, 97, 122, 48, 32, 10, 34, 92, 233, 2047, 2048, 8364, 65535, 65536, 128512, 1114111, 9, 127, 31] : List Int).length : Int) = some (x, j, g) := e
  rw [e']
  show (Option.bind (if 0 ≤ x then (if x < 19 then _ else none) else none) _) = _
  rw [if_pos x0, if_pos x1]; rfl
theorem bytes_append (a b : ByteArray) : bytesOf (a ++ b) = bytesOf a ++ bytesOf b := by
  unfold bytesOf; rw [ByteArray.data_append]; simp
theorem drawText_l0 (b : List Int) (hb : b.length ≤ 140737488351232) (n : Nat) : ∀ (s : ByteArray) (R : List Int) (x i h : Int), 0 ≤ i → 0 ≤ x → 7 - x ≤ n → Sc (bytesOf s) R → (R.length : Int) ≤ x → x ≤ 7 →
    ∃ (t : ByteArray) (Q : List Int) (j g : Int), Ev (fun k => spec_l02Text.l0 k s x b i h) (t, j, g) ∧ Sc (bytesOf t) Q ∧ Q.length ≤ 7 := by
  induction n with
  | zero =>
    intro s R x i h h0 x0 hn hs hR hx7
    obtain ⟨y, j, g, e, y0, y1, j0⟩ := drawBelow b hb i h 8 h0 (by omega) (by omega)
    refine ⟨s, R, j, g, ?_, hs, by omega⟩
    apply Ev.succ; simp only [spec_l02Text.l0, e, Option.bind_some]
    exact Ev.ite_neg (by omega) (Ev.done rfl)
  | succ n ih =>
    intro s R x i h h0 x0 hn hs hR hx7
    obtain ⟨y, j, g, e, y0, y1, j0⟩ := drawBelow b hb i h 8 h0 (by omega) (by omega)
    by_cases c : x < y
    · obtain ⟨z, j2, g2, e2, hz, j20⟩ := drawRune b hb j g j0
      have h4 := runeTextL_size z
      have hl := hs.len
      rw [size_bytes] at hl
      obtain ⟨t, Q, j3, g3, hE, hQ, hQl⟩ := ih (s ++ runeTextL z) (R ++ [z]) (x + 1) j2 g2 j20 (by omega) (by omega)
        (by rw [bytes_append, bytes_rune z hz]; exact hs.append (Sc.one hz)) (by simp; omega) (by omega)
      refine ⟨t, Q, j3, g3, ?_, hQ, hQl⟩
      apply Ev.succ; simp only [spec_l02Text.l0, e, Option.bind_some, e2, spec_RuneText.eq z, w64 (x := x + 1) (by omega) (by omega)]
      exact Ev.ite_pos c (Ev.ite_pos (by omega) hE)
    · refine ⟨s, R, j, g, ?_, hs, by omega⟩
      apply Ev.succ; simp only [spec_l02Text.l0, e, Option.bind_some]
      exact Ev.ite_neg c (Ev.done rfl)
theorem drawNew (b : List Int) (hb : b.length ≤ 140737488351232) (n : Nat) : ∀ (h i : Int), 0 ≤ i → (b.length : Int) - i ≤ n → ∃ g, Ev (fun k => spec_l01New.l0 k b h i) (b, 0, g) := by
  induction n with
  | zero =>
    intro h i h0 hn
    refine ⟨h, ?_⟩
    apply Ev.succ; simp only [spec_l01New.l0]
    exact Ev.ite_neg (by omega) (Ev.done rfl)
  | succ n ih =>
    intro h i h0 hn
    by_cases c : i < (b.length : Int)
    · by_cases c2 : i < 4000
      · obtain ⟨g, hg⟩ := ih (Go.bits .and .i64 (wrap64 ((wrap64 ((wrap64 (h * 131)) + (wrap64 (rd b i)))) + 7)) 1073741823) (i + 1) (by omega) (by omega)
        refine ⟨g, ?_⟩
        apply Ev.succ; simp only [spec_l01New.l0, w64 (x := i + 1) (by omega) (by omega)]
        exact Ev.ite_pos c (Ev.ite_pos c2 (Ev.ite_pos h0 hg))
      · refine ⟨h, ?_⟩
        apply Ev.succ; simp only [spec_l01New.l0]
        exact Ev.ite_pos c (Ev.ite_neg c2 (Ev.done rfl))
    · refine ⟨h, ?_⟩
      apply Ev.succ; simp only [spec_l01New.l0]
      exact Ev.ite_neg c (Ev.done rfl)
theorem drawText (b : List Int) (hb : b.length ≤ 140737488351232) : ∃ (s : ByteArray) (R : List Int), Ev (fun k => spec_DrawText.f k b) s ∧ Sc (bytesOf s) R ∧ R.length ≤ 7 := by
  obtain ⟨g, hg⟩ := drawNew b hb b.length (wrap64 (94701 + (b.length : Int))) 0 (by omega) (by omega)
  obtain ⟨t, Q, j, g2, hE, hQ, hQl⟩ := drawText_l0 b hb 7 (⟨#[]⟩ : ByteArray) [] 0 0 g (by omega) (by omega) (by omega) (by show Sc [] []; exact Sc.nil) (by simp) (by omega)
  refine ⟨t, Q, ?_, hQ, hQl⟩
  unfold spec_DrawText.f
  refine Ev.bind (a := (b, 0, g)) hg ?_
  exact Ev.bind (a := (t, j, g2)) hE (Ev.done rfl)

theorem places_l0 (b : List Int) (hb : b.length ≤ 140737488351232) (n : Nat) : ∀ (acc : List Int) (x i h : Int), 0 ≤ i → 0 ≤ x → x ≤ 12 → 12 - x ≤ n → (acc.length : Int) = x → (∀ y ∈ acc, 0 ≤ y ∧ y < 10000) →
    ∃ p : List Int, Ev (fun k => spec_DrawPlaces.l0 k acc x b i h) p ∧ p.length = 12 ∧ ∀ y ∈ p, 0 ≤ y ∧ y < 10000 := by
  induction n with
  | zero =>
    intro acc x i h h0 x0 x12 hn hl ha
    refine ⟨acc, ?_, by omega, ha⟩
    apply Ev.succ; simp only [spec_DrawPlaces.l0]
    exact Ev.ite_neg (by omega) (Ev.done rfl)
  | succ n ih =>
    intro acc x i h h0 x0 x12 hn hl ha
    by_cases c : x < 12
    · obtain ⟨y, j, g, e, y0, y1, j0⟩ := drawBig b hb i h 10000 h0 (by omega) (by omega)
      obtain ⟨p, hE, hp⟩ := ih (acc ++ [y]) (x + 1) j g j0 (by omega) (by omega) (by omega) (by simp; omega) (by
        intro z hz
        rcases List.mem_append.1 hz with hz | hz
        · exact ha z hz
        · simp at hz; omega)
      refine ⟨p, ?_, hp⟩
      apply Ev.succ; simp only [spec_DrawPlaces.l0]
      rw [w64 (x := x + 1) (by omega) (by omega)]
      refine Ev.ite_pos c (Ev.bindc e (Ev.ite_pos (by omega) hE))
    · exact ih acc x i h h0 x0 x12 (by omega) hl ha
theorem drawPlaces (b : List Int) (hb : b.length ≤ 140737488351232) : ∃ p : List Int, Ev (fun k => spec_DrawPlaces.f k b) p ∧ p.length = 12 ∧ ∀ y ∈ p, 0 ≤ y ∧ y < 10000 := by
  obtain ⟨g, hg⟩ := drawNew b hb b.length (wrap64 (94701 + (b.length : Int))) 0 (by omega) (by omega)
  obtain ⟨x, j, g2, e, x0, x1, j0⟩ := drawByte b hb 0 g (by omega)
  obtain ⟨p, hE, hp⟩ := places_l0 b hb 12 [] 0 j g2 j0 (by omega) (by omega) (by omega) rfl (by simp)
  refine ⟨p, ?_, hp⟩
  unfold spec_DrawPlaces.f
  exact Ev.bind (a := (b, 0, g)) hg (Ev.bindc e hE)
theorem place_at (p : List Int) (hl : p.length = 12) (hp : ∀ y ∈ p, 0 ≤ y ∧ y < 10000) (i : Int) (h0 : 0 ≤ i) (h1 : i < 12) : 0 ≤ rd p i ∧ rd p i < 10000 := by
  unfold rd
  rw [List.getD_eq_getElem?_getD, List.getElem?_eq_getElem (by omega)]
  exact hp _ (List.getElem_mem _)

/-- The scalars of a text that is valid. -/
theorem runs_sc (s : ByteArray) (n : Nat) : ∀ p : Nat, p ≤ s.size → s.size - p ≤ n → vAt s (p : Int) = true → Sc (tl s p) (impl_RunesOf.runs s n p) := by
  induction n with
  | zero =>
    intro p hp hn hv
    rw [tl_nil (by omega)]
    exact Sc.nil
  | succ n ih =>
    intro p hp hn hv
    by_cases c : p < s.size
    · rw [impl_RunesOf.runs, if_pos c]
      rcases dec_step s p (by omega) (by omega) with ⟨_, hd⟩ | ⟨g0, g1, g4, g5, gv⟩
      · unfold vAt at hv; rw [hd] at hv; cases hv
      have ha := decAt_of s p c
      have hx : ¬ ((Utf8.decode s p).1 = 65533 ∧ (Utf8.decode s p).2 < 2) := by
        intro h
        unfold asAt at ha
        rw [if_pos h] at ha
        rw [← ha] at g0; simp at g0
      unfold asAt at ha
      rw [if_neg hx] at ha
      obtain ⟨hsc, htl, _, _⟩ := dec_bytes s p (by omega) (by omega) g0
      rw [← ha] at hsc htl g5 gv g1
      simp only at hsc htl g5 gv g1
      have hv2 : vAt s ((p : Int) + ((Utf8.decode s p).2 : Int)) = true := by
        unfold vAt at hv ⊢
        rw [← gv]; exact hv
      have := ih (p + (Utf8.decode s p).2) (by omega) (by omega) (by rw [Int.natCast_add]; exact hv2)
      rw [Int.natCast_add] at this
      rw [htl]
      exact (Sc.one hsc).append this
    · rw [impl_RunesOf.runs, if_neg c, tl_nil (by omega)]
      exact Sc.nil
theorem runs_text (s : ByteArray) (h : textOkS s = true) : Sc (bytesOf s) (impl_RunesOf.runs s s.size 0) := by
  have := runs_sc s s.size 0 (by omega) (by omega) (by unfold vAt; simpa [textOkS] using h)
  rwa [show ((0 : Nat) : Int) = 0 from rfl, tl_zero] at this
theorem Sc.len2 {l R : List Int} (h : Sc l R) : R.length ≤ l.length := by
  obtain ⟨hs, rfl⟩ := h
  induction R with
  | nil => simp
  | cons x r ih => rw [List.flatMap_cons, List.length_append, List.length_cons]; have := @runeL_len x; have := ih (fun y hy => hs y (by simp [hy])); omega
theorem impl_RunesOf.eq (s : ByteArray) (hs : s.size ≤ 10000000000) : impl_RunesOf.f s = some (if textOkS s = true then impl_RunesOf.runs s s.size 0 else []) := by
  unfold impl_RunesOf.f
  rw [impl_TextOk.eq s (by omega)]
  show (if textOkS s = true then _ else _) = _
  by_cases c : textOkS s = true
  · rw [if_pos c, if_pos (by omega), if_pos c]
  · rw [if_neg c, if_neg c]

/-- Scalars, and what lies behind them. -/
theorem sc_run (s : ByteArray) (q : List Int) (R : List Int) : ∀ i : Int, 0 ≤ i → (∀ x ∈ R, scalB x = true) → tl s i = R.flatMap runeL ++ q → vAt s i = vAt s (i + (R.flatMap runeL).length) := by
  induction R with
  | nil => intro i h0 _ _; simp
  | cons x r ih =>
    intro i h0 hR h
    obtain ⟨a, b, _⟩ := sc_step s i h0 x (hR x (by simp)) (r.flatMap runeL ++ q) (by rw [h, List.flatMap_cons, List.append_assoc])
    rw [a, ih _ (by omega) (fun y hy => hR y (by simp [hy])) b]
    congr 1; rw [List.flatMap_cons, List.length_append]; omega
theorem bad_end (s : ByteArray) (R : List Int) (h : Sc (bytesOf s) R) : textOkS (s ++ (⟨#[255]⟩ : ByteArray)) = false := by
  have e : bytesOf (s ++ (⟨#[255]⟩ : ByteArray)) = bytesOf s ++ [255] := by rw [bytes_append]; rfl
  have hz : (s ++ (⟨#[255]⟩ : ByteArray)).size = s.size + 1 := by rw [ByteArray.size_append]; rfl
  have hl := congrArg List.length h.2
  rw [size_bytes] at hl
  have h1 := sc_run (s ++ (⟨#[255]⟩ : ByteArray)) [255] R 0 (by omega) h.1 (by rw [tl_zero, e, h.2])
  have hb : bt (s ++ (⟨#[255]⟩ : ByteArray)) (s.size : Int) = 255 := bt_at _ _ e s.size 255 (by rw [List.getElem?_append_right (by rw [size_bytes]; omega), size_bytes]; simp)
  have hv : textOkS (s ++ (⟨#[255]⟩ : ByteArray)) = vAt (s ++ (⟨#[255]⟩ : ByteArray)) 0 := by unfold vAt textOkS; simp
  rw [hv, h1, ← hl, Int.zero_add]
  have hd : decAt (s ++ (⟨#[255]⟩ : ByteArray)) (s.size : Int) = (-1, 0) := by
    unfold decAt decZ
    rw [if_neg (by omega), if_neg (by omega), if_neg (by omega), if_neg (by omega), if_neg (by omega)]
  rcases dec_step (s ++ (⟨#[255]⟩ : ByteArray)) (s.size : Int) (by omega) (by omega) with h | h
  · exact h.2
  · rw [hd] at h; exact absurd h.1 (by decide)
theorem rune_dec (n : Int) (h : scalB n = true) : decAt (runeTextL n) 0 = (n, ((runeTextL n).size : Int)) := by
  have hb := bytes_rune n h
  have := (sc_dec (runeTextL n) 0 (by omega) n h [] (by rw [tl_zero, hb]; simp)).2
  rw [this, ← size_bytes, hb]
theorem rune_none (n : Int) (h : ¬ scalB n = true) : runeTextL n = (⟨#[]⟩ : ByteArray) := by unfold runeTextL; rw [if_neg h]
theorem rune_ne (n : Int) : ((runeTextL n).toList != ([] : List UInt8)) = scalB n := by
  have hl : ((runeTextL n).toList = []) ↔ (runeTextL n).size = 0 := by
    rw [ByteArray.toList_eq]
    constructor
    · intro h; have := congrArg List.length h; simpa using this
    · intro h; exact List.eq_nil_of_length_eq_zero (by simpa using h)
  have hz := runeText_size n
  by_cases c : scalB n = true
  · rw [c, bne_iff_ne]
    intro h
    have h0 := hl.1 h
    rw [if_pos c] at hz
    split at hz
    · omega
    · split at hz
      · omega
      · split at hz <;> omega
  · rw [Bool.eq_false_iff.2 c, bne_eq_false_iff_eq]
    rw [if_neg c] at hz
    exact hl.2 (by omega)
theorem FnRunes.end (s : ByteArray) (R p : List Int) (hs : Sc (bytesOf s) R) (hz : s.size ≤ 1000) (hp : p.length = 12) (hp2 : ∀ y ∈ p, 0 ≤ y ∧ y < 10000) :
    Ev (fun k => laws_FnRunes.l0 k s R p s (s.size : Int) (R.length : Int)) true := by
  have p0 := place_at p hp hp2 0 (by omega) (by omega)
  have p1 := place_at p hp hp2 1 (by omega) (by omega)
  have hok := sc_text s R hs
  have hbad := bad_end s R hs
  have z1 : (s ++ (⟨#[255]⟩ : ByteArray)).size = s.size + 1 := by rw [ByteArray.size_append]; rfl
  have hout : decAt s (s.size : Int) = (-1, 0) := decAt_out s _ (by omega)
  apply Ev.succ; simp only [laws_FnRunes.l0]
  rw [w64 (x := rd p 0 * 111) (by omega) (by omega), w64 (x := rd p 0 * 111 + rd p 1) (by omega) (by omega)]
  generalize hn : rd p 0 * 111 + rd p 1 = n
  have hn0 : 0 ≤ n := by omega
  have h4 := runeTextL_size n
  refine Ev.ite_neg (by omega) (Ev.ite_pos (by omega) (Ev.ite_pos (by omega) ((impl_RuneText.ev n).bind (Ev.bindc (impl_RuneAt.eq _ (by omega) 0) (Ev.bindc (impl_RuneAt.eq s (by omega) _) ?_)))))
  simp only [show (0 : Int) ≤ 0 from by omega, if_true, show (0 : Int) ≤ (s.size : Int) from by omega, hout, rune_ne]
  have tok : Ev (fun _ => impl_TextOk.f s) true := Ev.const (by rw [impl_TextOk.eq s (by omega), hok])
  have tbad : Ev (fun _ => impl_TextOk.f (s ++ (⟨#[255]⟩ : ByteArray))) false := Ev.const (by rw [impl_TextOk.eq _ (by omega), hbad])
  by_cases c1 : n ≤ 1114111
  · refine Ev.ite_pos c1 ?_
    by_cases c2 : n < 55296
    · have hsc : scalB n = true := by unfold scalB; simp; omega
      rw [rune_dec n hsc, hsc]
      refine Ev.ite_pos c2 (Ev.bind tok (Ev.ite_pos rfl (Ev.ite_pos (by omega) (Ev.bind tbad (Ev.ite_neg (by decide) (Ev.ite_pos (by decide) (Ev.ite_pos rfl (Ev.done (by simp)))))))))
    · refine Ev.ite_neg c2 (Ev.bind tok (Ev.ite_pos rfl (Ev.ite_pos (by omega) (Ev.bind tbad (Ev.ite_neg (by decide) ?_)))))
      by_cases c3 : n > 57343
      · have hsc : scalB n = true := by unfold scalB; simp; omega
        rw [rune_dec n hsc, hsc]
        exact Ev.ite_pos (by simp [c3]) (Ev.ite_pos c3 (Ev.ite_pos rfl (Ev.done (by simp))))
      · have hsc : scalB n = false := by unfold scalB; simp; omega
        rw [hsc]
        exact Ev.ite_pos (by simp; omega) (Ev.ite_neg c3 (Ev.done rfl))
  · have hsc : scalB n = false := by unfold scalB; simp; omega
    rw [hsc]
    exact Ev.ite_neg c1 (Ev.bind tok (Ev.ite_pos rfl (Ev.ite_pos (by omega) (Ev.bind tbad (Ev.ite_neg (by decide) (Ev.ite_pos (by decide) (Ev.done rfl)))))))
theorem FnRunes.l0_ev (s : ByteArray) (R p : List Int) (hs : Sc (bytesOf s) R) (hz : s.size ≤ 1000) (hp : p.length = 12) (hp2 : ∀ y ∈ p, 0 ≤ y ∧ y < 10000) (n : Nat) : ∀ (i : Nat) (t : ByteArray) (at_ : Int), i ≤ R.length → R.length - i = n → bytesOf t = (R.take i).flatMap runeL → at_ = (t.size : Int) →
    Ev (fun k => laws_FnRunes.l0 k s R p t at_ (i : Int)) true := by
  induction n with
  | zero =>
    intro i t at_ hi hn ht ha
    obtain rfl : i = R.length := by omega
    rw [List.take_length, ← hs.2] at ht
    obtain rfl := bytes_inj ht
    subst ha
    exact FnRunes.end t R p hs hz hp hp2
  | succ n ih =>
    intro i t at_ hi hn ht ha
    have hi2 : i < R.length := by omega
    have hl2 := hs.len2
    rw [size_bytes] at hl2
    have hrd : rd R (i : Int) = R[i] := by
      unfold rd; rw [Int.toNat_natCast, List.getD_eq_getElem?_getD, List.getElem?_eq_getElem hi2]; rfl
    have hx := hs.1 R[i] (List.getElem_mem hi2)
    have hsplit : bytesOf s = bytesOf t ++ (runeL R[i] ++ (R.drop (i + 1)).flatMap runeL) := by
      rw [ht, hs.2]
      conv => lhs; rw [← List.take_append_drop i R, List.drop_eq_getElem_cons hi2]
      rw [List.flatMap_append, List.flatMap_cons]
    have htl : tl s at_ = runeL R[i] ++ (R.drop (i + 1)).flatMap runeL := by
      unfold tl
      rw [ha, hsplit, Int.toNat_natCast, ← size_bytes t, List.drop_left]
    have ha0 : 0 ≤ at_ := by omega
    obtain ⟨h1, hd⟩ := sc_dec s at_ ha0 R[i] hx _ htl
    have hbr := bytes_rune R[i] hx
    have hsz : ((runeTextL R[i]).size : Int) = ((runeL R[i]).length : Int) := by rw [← size_bytes, hbr]
    have h4 := runeTextL_size R[i]
    apply Ev.succ; simp only [laws_FnRunes.l0]
    refine Ev.ite_pos (by omega) (Ev.bindc (impl_RuneAt.eq s (by omega) at_) ?_)
    simp only [if_pos ha0, hd, hrd]
    rw [w64 (x := (i : Int) + 1) (by omega) (by omega), w64 (x := at_ + ((runeL R[i]).length : Int)) (by omega) (by omega)]
    refine Ev.ite_pos (by omega) (Ev.ite_pos (by first | rfl | trivial) ((impl_RuneText.ev _).bind (Ev.ite_pos hsz.symm ((impl_RuneText.ev _).bind (Ev.ite_pos (by omega) ?_)))))
    have hE := ih (i + 1) (t ++ runeTextL R[i]) (at_ + ((runeL R[i]).length : Int)) (by omega) (by omega) (by
      rw [bytes_append, ht, hbr, List.take_succ_eq_append_getElem hi2, List.flatMap_append]; simp only [List.flatMap_cons, List.flatMap_nil, List.append_nil]) (by rw [ByteArray.size_append]; omega)
    exact hE
theorem FnRunes : laws_FnRunes.Pure := by
  intro l0 hl hl2 hx
  have hl3 : l0.length ≤ 140737488351232 := by omega
  apply Ev.out
  unfold laws_FnRunes.f laws_big.f
  refine Ev.bindc rfl ?_
  by_cases h : (l0.length : Int) > 1048576
  · exact Ev.ite_pos (decide_eq_true h) (Ev.done rfl)
  · refine Ev.ite_neg (by simpa using h) ?_
    obtain ⟨s, R, hE, hs, hR⟩ := drawText l0 hl3
    obtain ⟨p, hP, hp, hp2⟩ := drawPlaces l0 hl3
    have hlen := hs.len
    have hz := size_bytes s
    have hok := sc_text s R hs
    refine hE.bind (Ev.bindc (impl_RunesOf.eq s (by omega)) (hP.bind ?_))
    rw [if_pos hok]
    exact FnRunes.l0_ev s _ p (runs_text s hok) (by omega) hp hp2 _ 0 (⟨#[]⟩ : ByteArray) 0 (by omega) rfl (by rw [List.take_zero]; rfl) rfl


end Go.Proofs.YtlcjpfbnegjieaaDoor.Pure
