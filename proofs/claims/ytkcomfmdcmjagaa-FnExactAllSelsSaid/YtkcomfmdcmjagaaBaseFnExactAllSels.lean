/- Plain lemmas on strings read as lists of numbers, and on rounds that suffice; no statement of the program is proved here. No conditions. -/
import Derived.Test.YtkcomfmdcmjagaaZFnExactAllSels0
namespace Go.Proofs.Ytkcomfmdcmjagaa.Base
open Go.RowKit Go.Proofs.YtkcomfmdcmjagaaW.PrintWords Go.Proofs.YtkcomfmdcmjagaaW.PrintLast
set_option linter.unusedVariables false
set_option linter.unusedSimpArgs false

theorem w64 {x : Int} (h0 : -9223372036854775808 ≤ x) (h1 : x ≤ 9223372036854775807) : wrap64 x = x := by
 unfold wrap64; omega

/-- What lies in a string from place i on. -/
def tl (s : ByteArray) (i : Int) : List Int := (bytesOf s).drop i.toNat

theorem size_bytes (s : ByteArray) : (bytesOf s).length = s.size := bytesOf_length s

theorem bytes_get (s : ByteArray) (n : Nat) (h : n < s.size) : (bytesOf s)[n]'(by rw [bytesOf_length]; exact h) = bt s n := by
 have := rd_bytesOf s (n : Int)
 unfold rd at this
 rw [← this]
 simp only [Int.toNat_natCast]
 rw [List.getD_eq_getElem?_getD, List.getElem?_eq_getElem (by rw [bytesOf_length]; exact h)]
 rfl

theorem tl_cons {s : ByteArray} {i : Int} (h0 : 0 ≤ i) (h : i < (s.size : Int)) : tl s i = bt s i :: tl s (i + 1) := by
 obtain ⟨n, rfl⟩ := Int.eq_ofNat_of_zero_le h0
 have hn : n < s.size := by omega
 unfold tl
 have e : ((n : Int) + 1).toNat = n + 1 := by omega
 rw [e, Int.toNat_natCast]
 rw [List.drop_eq_getElem_cons (by rw [bytesOf_length]; exact hn), bytes_get s n hn]

theorem tl_nil {s : ByteArray} {i : Int} (h : (s.size : Int) ≤ i) : tl s i = [] := by
 unfold tl
 apply List.drop_eq_nil_of_le
 rw [bytesOf_length]; omega

theorem tl_zero (s : ByteArray) : tl s 0 = bytesOf s := by unfold tl; simp

theorem bytes_range {s : ByteArray} {x : Int} (h : x ∈ bytesOf s) : 0 ≤ x ∧ x ≤ 255 := by
 unfold bytesOf at h
 obtain ⟨b, _, rfl⟩ := List.mem_map.1 h
 have := b.toNat_lt
 omega

theorem bytes_inj {a b : ByteArray} (h : bytesOf a = bytesOf b) : a = b := by
 unfold bytesOf at h
 have hf : ∀ x y : UInt8, ((x.toNat : Int) = y.toNat) → x = y := by
  intro x y hxy
  apply UInt8.toNat_inj.1; omega
 have h2 : a.data.toList = b.data.toList := by
  revert h
  generalize a.data.toList = l
  generalize b.data.toList = m
  induction l generalizing m with
  | nil => intro h; cases m with
   | nil => rfl
   | cons y ys => simp at h
  | cons x xs ih => intro h; cases m with
   | nil => simp at h
   | cons y ys =>
    simp only [List.map_cons, List.cons.injEq] at h
    rw [hf x y h.1, ih ys h.2]
 apply ByteArray.ext
 exact Array.toList_inj.1 h2

theorem toList_eq_bytes (a : ByteArray) (l : List UInt8) : a.toList = l ↔ bytesOf a = l.map fun b => (b.toNat : Int) := by
 rw [ByteArray.toList_eq]
 constructor
 ·intro h; unfold bytesOf; rw [h]
 ·intro h
  have : a = ⟨l.toArray⟩ := by
   apply bytes_inj
   rw [h]; unfold bytesOf; simp
  rw [this]

theorem toList_inj {a b : ByteArray} : a.toList = b.toList ↔ a = b := by
 constructor
 ·intro h
  rw [ByteArray.toList_eq, ByteArray.toList_eq] at h
  exact ByteArray.ext (Array.toList_inj.1 h)
 ·rintro rfl; rfl

theorem toList_iff {a b : ByteArray} : a.toList = b.toList ↔ bytesOf a = bytesOf b := by
 rw [toList_inj]; exact ⟨fun h => by rw [h], bytes_inj⟩

theorem toList_beq (a b : ByteArray) : (a.toList == b.toList) = (bytesOf a == bytesOf b) := by
 rw [Bool.eq_iff_iff, beq_iff_eq, beq_iff_eq]; exact toList_iff

theorem toList_beq_lit (a : ByteArray) (l : List UInt8) : (a.toList == l) = (bytesOf a == l.map fun b => (b.toNat : Int)) := by
 rw [Bool.eq_iff_iff, beq_iff_eq, beq_iff_eq]; exact toList_eq_bytes a l

theorem bytes_mk (l : List UInt8) : bytesOf ⟨l.toArray⟩ = l.map fun b => (b.toNat : Int) := by
 unfold bytesOf; simp

theorem bytes_extract (s : ByteArray) (a b : Nat) : bytesOf (s.extract a b) = ((bytesOf s).take b).drop a := by
 unfold bytesOf
 rw [ByteArray.data_extract, Array.toList_extract, List.extract_eq_take_drop, List.map_take, List.map_drop]
 rw [List.drop_take]

theorem extract_tl (s : ByteArray) (i : Int) : bytesOf (s.extract i.toNat s.size) = tl s i := by
 rw [bytes_extract, List.take_of_length_le (by rw [bytesOf_length]; exact Nat.le_refl _)]; rfl

theorem size_extract (s : ByteArray) (a b : Nat) : (s.extract a b).size = min b s.size - a := by
 rw [← bytesOf_length, bytes_extract, List.length_drop, List.length_take, bytesOf_length]

/-- The string of numbers. -/
theorem bytes_strOfNums (xs : List Int) (h : ∀ x ∈ xs, 0 ≤ x ∧ x ≤ 255) : bytesOf (strOfNums xs) = xs := by
 unfold bytesOf strOfNums
 simp only [List.map_map]
 conv => rhs; rw [← List.map_id xs]
 apply List.map_congr_left
 intro x hx
 have := h x hx
 simp
 omega

theorem strOfNums_bytes (s : ByteArray) : strOfNums (bytesOf s) = s := by
 apply bytes_inj; exact bytes_strOfNums _ fun x hx => bytes_range hx

end Go.Proofs.Ytkcomfmdcmjagaa.Base
namespace Go.Proofs.YtkcomfmdcmjagaaW.PrintWords
-- rounds that suffice
theorem Ev.ite_pos {α : Type} {c : Prop} [Decidable c] {f g : Nat → Option α} {r : α} (hc : c) (h : Ev f r) : Ev (fun k => if c then f k else g k) r := by
 obtain ⟨K, h⟩ := h; exact ⟨K, fun k hk => (if_pos hc).trans (h k hk)⟩
theorem Ev.ite_neg {α : Type} {c : Prop} [Decidable c] {f g : Nat → Option α} {r : α} (hc : ¬ c) (h : Ev g r) : Ev (fun k => if c then f k else g k) r := by
 obtain ⟨K, h⟩ := h; exact ⟨K, fun k hk => (if_neg hc).trans (h k hk)⟩
theorem Ev.const {α : Type} {o : Option α} {r : α} (h : o = some r) : Ev (fun _ => o) r := ⟨0, fun _ _ => h⟩
theorem Ev.done {α : Type} {a r : α} (h : a = r) : Ev (fun _ => some a) r := ⟨0, fun _ _ => by rw [h]⟩
theorem Ev.get {α : Type} {g : Nat → Option α} {a r : α} (h : Ev g a) (e : a = r) : Ev g r := e ▸ h
theorem Ev.bindc {α β : Type} {o : Option α} {f : Nat → α → Option β} {a : α} {r : β} (h : o = some a) (k : Ev (fun n => f n a) r) : Ev (fun n => o.bind (f n)) r := by
 obtain ⟨K, k⟩ := k; exact ⟨K, fun n hn => (congrArg (fun o => o.bind (f n)) h).trans (k n hn)⟩

theorem Ev.succ {α : Type} {g : Nat → Option α} {r : α} (h : Ev (fun k => g (k + 1)) r) : Ev g r := Ev.step (fun _ => rfl) h
theorem Ev.out {α : Type} {g : Nat → Option α} {r : α} (h : Ev g r) : ∃ k, g k = some r := h.rounds

end Go.Proofs.YtkcomfmdcmjagaaW.PrintWords
namespace Go.Proofs.Ytkcomfmdcmjagaa.Base
open Go.RowKit Go.Proofs.YtkcomfmdcmjagaaW.PrintWords Go.Proofs.YtkcomfmdcmjagaaW.PrintLast

-- signs
def figB (x : Int) : Bool := decide (48 ≤ x ∧ x ≤ 57)
def lowB (x : Int) : Bool := decide (97 ≤ x ∧ x ≤ 122) || decide (65 ≤ x ∧ x ≤ 90)
def nameB (x : Int) : Bool := lowB x || figB x || x == 95

def nameOkL (l : List Int) : Bool := decide (1 ≤ l.length) && decide (l.length ≤ 30) && !figB (l.headD 0) && l.all nameB

end Go.Proofs.Ytkcomfmdcmjagaa.Base
-- narrow
