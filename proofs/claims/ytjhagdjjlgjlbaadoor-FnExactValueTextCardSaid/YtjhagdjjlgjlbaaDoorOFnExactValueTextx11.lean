/- The machine side of one law, written by a program. -/
import Derived.Test.YtjhagdjjlgjlbaaDoorOFnExactValueTextx0
import Derived.Test.YtjhagdjjlgjlbaaDoorOFnExactValueTextx10
namespace Go.Proofs.YtjhagdjjlgjlbaaDoor.OFnExactValueText
open Go.Proofs.YtjhagdjjlgjlbaaDoor.GlU Go.Proofs.YtjhagdjjlgjlbaaDoor.Ix
open Go.RowKit Go.Proofs.YtjhagdjjlgjlbaaDoorW.PrintWords Go.Proofs.YtjhagdjjlgjlbaaDoorW.PrintLast Go.Proofs.YtjhagdjjlgjlbaaDoorW.PrintMore
attribute [local go_sem] max2_int min2_int max_two min_two max_three min_three max_four min_four
set_option linter.unusedVariables false
set_option linter.unusedSimpArgs false

theorem strings_IndexAny.wrap_two : IntKind.i64.wrap 2 = 2 := by decide
attribute [local go_sem] strings_IndexAny.wrap_two
set_option maxHeartbeats 8000000 in
set_option maxRecDepth 100000 in
theorem strings_IndexAny.rune_hi (c : Int) (h0 : 128 ≤ c) (h1 : c ≤ 1114111) (hne : c ≠ 65533) (w : World) : Calls Tryd.prog 96 #[.string (⟨#[101, 69]⟩ : ByteArray), .int .i32 c] w fun e w' => e = .returned (.int .i64 (-1)) ∧ Below w.heap.size w w' := by
 have b0 : decide (0 ≤ c) = true := decide_eq_true (by omega)
 have b1 : decide (c < 128) = false := decide_eq_false (by omega)
 have b2 : (c == 65533) = false := beq_eq_false_iff_ne.2 hne
 by_cases hv : Lib.validRune c = true
 ·have hE : ∃ E : ByteArray, Utf8.encode c = E ∧ 2 ≤ E.size ∧ E.size ≤ 4 ∧ ∀ h : E.size - 1 < E.size, 128 ≤ (E[E.size - 1]'h).toNat := ⟨_, rfl, encode_facts c (by unfold Lib.validRune at hv; unfold Utf8.valid; simp at hv ⊢; omega) h0⟩
  obtain ⟨E, hE, z2, z4, hl⟩ := hE
  have ww : wrap64 ((E.size : Int) - 1) = (E.size : Int) - 1 := by unfold wrap64; omega
  have cv : Calls Tryd.prog 111 #[.int .i32 c] w fun e w' => e = .returned (.bool true) ∧ w' = w := by rw [← hv]; exact Tryd.utf8_ValidRune c w
  by_cases c2 : E.size = 2
  ·obtain ⟨b, hb, hb128⟩ : ∃ b : Int, ((E[1]'(by omega)).toNat : Int) = b ∧ 128 ≤ b := ⟨_, rfl, by have := hl (by omega); simp only [c2] at this; exact_mod_cast this⟩
   have n1 : ((69 : Int) == b) = false := beq_eq_false_iff_ne.2 (by omega)
   have n2 : ((69 : Int) != b) = true := bne_iff_ne.2 (by omega)
   have hI : ∀ x : UInt8, Lib.indexByte ByteArray.empty.data.toList x = -1 := fun x => rfl
   have cI : ∀ W, Calls Tryd.prog 79 #[.string ByteArray.empty, .int .u8 b] W fun e w' => e = .returned (.int .i64 (-1)) ∧ w' = W := fun W => by have z := Tryd.strings_IndexByte ByteArray.empty b W; rw [hI] at z; exact z
   have n3 : ((((⟨#[101, 69]⟩ : ByteArray)[1]'(by decide)).toNat : Int) != b) = true := n2
   have n4 : ((((⟨#[101, 69]⟩ : ByteArray)[1]'(by decide)).toNat : Int) == b) = false := n1
   have n5 : ((((⟨#[101, 69]⟩ : ByteArray)[1]'(by decide)).toNat : Int) = b) = False := eq_false (by show ¬ (69 : Int) = b; omega)
   go_enter Tryd.func96, Tryd.ntmps96
   go_wp2_with (go_at_call 111; refine cv.mono ?_; rintro e w' ⟨rfl, rfl⟩)
   go_step3
   go_wp2_with (fail)
   go_loopg [9] 1 (fun _ v9 wx => v9 = .int .i64 1 ∧ wx = w')
   case atStart => exact ⟨rfl, rfl⟩
   case round =>
    obtain ⟨rfl, rfl⟩ := hrel
    go_wp2_with (fail)
    go_step3
    go_wp2_with (fail)
    go_quiet (fail)
    go_wp2_with (fail)
    go_quiet (first | (go_at_call 79; refine (cI _).mono ?_; rintro e w2 ⟨rfl, rfl⟩; exact ⟨rfl, _, rfl⟩))
    go_wp2_with (fail)
    go_simp
    go_ret
    exact ⟨rfl, pw_below_drewN (Below.refl _ _) _⟩
  ·have c34 : E.size = 3 ∨ E.size = 4 := by omega
   rcases c34 with c3 | c3
   all_goals
    go_enter Tryd.func96, Tryd.ntmps96
    go_wp2_with (go_at_call 111; refine cv.mono ?_; rintro e w' ⟨rfl, rfl⟩)
    go_step3
    go_wp2_with (fail)
    go_loopg [9] 1 (fun _ v9 wx => v9 = .int .i64 ((E.size : Int) - 1) ∧ wx = w')
    case atStart => exact ⟨by rw [c3]; rfl, rfl⟩
    case round =>
     obtain ⟨rfl, rfl⟩ := hrel; rw [c3]
     go_wp2_with (fail)
     go_simp
     go_ret
     exact ⟨rfl, Below.refl _ _⟩
 ·replace hv := Bool.eq_false_iff.2 hv
  go_enter Tryd.func96, Tryd.ntmps96
  go_wp2_with (first | (go_at_call 111; refine (Tryd.utf8_ValidRune _ _).mono ?_; rintro e w' ⟨rfl, rfl⟩; rw [hv]))
  go_ret
  exact ⟨rfl, Below.refl _ _⟩

set_option maxHeartbeats 8000000 in
set_option maxRecDepth 100000 in
theorem strings_IndexAny.rune_err (w : World) : Calls Tryd.prog 96 #[.string (⟨#[101, 69]⟩ : ByteArray), .int .i32 65533] w fun e w' => e = .returned (.int .i64 (-1)) ∧ Below w.heap.size w w' := by
 go_enter Tryd.func96, Tryd.ntmps96
 go_wp2_with (fail)
 go_loopg [] 2 (fun g wx => ∃ pos : Nat, wx = w.iter (⟨#[101, 69]⟩ : ByteArray) pos ∧ pos + g = 2)
 case atStart => exact ⟨0, rfl, rfl⟩
 case round =>
  obtain ⟨pos, rfl, hg⟩ := hrel
  obtain ⟨g', rfl⟩ | hg0 : (∃ g', gk = g' + 1) ∨ gk = 0 := by cases gk with | zero => exact .inr rfl | succ n => exact .inl ⟨n, rfl⟩
  ·have hp : pos = 0 ∨ pos = 1 := by omega
   have hb : ∃ x : Nat, ((⟨#[101, 69]⟩ : ByteArray)[pos]'(by show pos < 2; omega)).toNat = x ∧ x < 128 := ⟨_, rfl, by
    rcases hp with rfl | rfl
    ·show (101 : Nat) < 128; decide
    ·show (69 : Nat) < 128; decide⟩
   obtain ⟨x, hx, hx1⟩ := hb
   have hnx := fun ty => run_next_ascii (P := Tryd.prog) w (⟨#[101, 69]⟩ : ByteArray) pos ty (by show pos < 2; omega) (by rw [hx]; exact hx1)
   rw [hx] at hnx; clear hx
   have hne : ((x : Int) == 65533) = false := beq_eq_false_iff_ne.2 (by omega)
   go_wp2_with (fail)
   go_roundg g'
   case measure => omega
   case rel => exact ⟨pos + 1, rfl, by omega⟩
  ·have hnx := run_next_end (P := Tryd.prog) w (⟨#[101, 69]⟩ : ByteArray) pos
   have h2 : ¬ pos < (⟨#[101, 69]⟩ : ByteArray).size := by show ¬ pos < 2; omega
   have hnx := fun ty => hnx ty h2
   go_wp2_with (fail)
   go_simp
   go_ret
   exact ⟨rfl, (Below.refl _ w).alloc (Nat.le_refl _) _⟩
def strings_IndexAny.ixR (c : Int) : Int := if c = 101 then 0 else if c = 69 then 1 else -1
theorem strings_IndexAny.ixR_low : ∀ c : Fin 128, Lib.indexByte (⟨#[101, 69]⟩ : ByteArray).data.toList ((c.val : Int)).toNat.toUInt8 = strings_IndexAny.ixR (c.val : Int) := by decide +kernel
theorem strings_IndexAny.rune_all (c : Nat) (h1 : c ≤ 1114111) (w : World) : Calls Tryd.prog 96 #[.string (⟨#[101, 69]⟩ : ByteArray), .int .i32 c] w fun e w' => e = .returned (.int .i64 (strings_IndexAny.ixR c)) ∧ Below w.heap.size w w' := by
 by_cases c1 : c < 128
 ·have h := strings_IndexAny.ixR_low ⟨c, c1⟩
  simp only at h
  rw [← h]
  exact (Tryd.strings_IndexRune_ascii _ _ w (by omega) (by omega)).mono fun e w' ⟨he, hw⟩ => ⟨he, hw ▸ Below.refl _ _⟩
 ·have e : strings_IndexAny.ixR (c : Int) = -1 := by unfold strings_IndexAny.ixR; rw [if_neg (by omega), if_neg (by omega)]
  rw [e]
  by_cases c2 : (c : Int) = 65533
  ·rw [c2]; exact strings_IndexAny.rune_err w
  ·exact strings_IndexAny.rune_hi c (by omega) (by omega) c2 w
/-- The first sign among two, rune by rune. -/
def strings_IndexAny.ixRun (s : ByteArray) : Nat → Nat → Int
 | 0, _ => -1
 | n + 1, p => if p < s.size then (if 0 ≤ strings_IndexAny.ixR ((Utf8.decode s p).1 : Int) then (p : Int) else strings_IndexAny.ixRun s n (p + (Utf8.decode s p).2)) else -1
set_option maxHeartbeats 8000000 in
set_option maxRecDepth 100000 in
theorem strings_IndexAny.any_short (s : ByteArray) (h8 : s.size ≤ 8) (w : World) : Calls Tryd.prog 76 #[.string s, .string (⟨#[101, 69]⟩ : ByteArray)] w fun e w' => e = .returned (.int .i64 (strings_IndexAny.ixRun s s.size 0)) ∧ Below w.heap.size w w' := by
 have h8z : decide ((8 : Int) < (s.size : Int)) = false := decide_eq_false (by omega)
 obtain ⟨r, hr⟩ : ∃ r, strings_IndexAny.ixRun s s.size 0 = r := ⟨_, rfl⟩
 rw [hr]; have HR := Aside0.mk hr; clear hr
 go_enter Tryd.func76, Tryd.ntmps76
 go_wp2_with (go_at_call 97; refine (Tryd.strings_shouldUseASCIISet _ _).mono ?_; rintro e w' ⟨rfl, hw⟩; rw [hw, h8z])
 go_loopg [] s.size (fun g wx => ∃ pos : Nat, wx.heap[w.heap.size]? = some (.stringIter s pos) ∧ Aside0 (strings_IndexAny.ixRun s g pos = r) ∧ Aside0 (s.size ≤ pos + g) ∧ Aside0 (Below w.heap.size w wx))
 case atStart => exact ⟨0, World.iter_heap _ _ _, HR, ⟨by omega⟩, ⟨(Below.refl _ w).alloc (Nat.le_refl _) _⟩⟩
 case round =>
  obtain ⟨pos, hit, HA, HF, HB⟩ := hrel
  by_cases hlt : pos < s.size
  ·obtain ⟨g', rfl⟩ : ∃ g', gk = g' + 1 := ⟨gk - 1, by have := HF.out; omega⟩
   have hnx : ∀ ty, (Instr.next (.pointer (some ⟨w.heap.size, 0, none⟩)) true ty).run Tryd.prog wr = _ := fun ty => Lib.run_next_any_at wr w.heap.size s pos ty hit hlt
   have HA2 : Aside0 ((if 0 ≤ strings_IndexAny.ixR ((Utf8.decode s pos).1 : Int) then (pos : Int) else strings_IndexAny.ixRun s g' (pos + (Utf8.decode s pos).2)) = r) := ⟨by
    have := HA.out
    rwa [strings_IndexAny.ixRun, if_pos hlt] at this⟩
   have hwd : 1 ≤ (Utf8.decode s pos).2 := by
    have := Lib.width_pos s pos
    omega
   have hrl := Lib.rune_le s pos
   obtain ⟨R, hR⟩ : ∃ R, (Utf8.decode s pos).1 = R := ⟨_, rfl⟩
   obtain ⟨K, hK⟩ : ∃ K, (Utf8.decode s pos).2 = K := ⟨_, rfl⟩
   rw [hR, hK] at hnx; rw [hR, hK] at HA2; rw [hK] at hwd; rw [hR] at hrl; have hit2 := Lib.iterAt_heap wr w.heap.size s pos (pos + K) hit; have HB2 := Aside0.mk (Lib.below_iterAt HB.out (k := w.heap.size) (Nat.le_refl _) s (pos + K))
   obtain ⟨W, hWd⟩ : ∃ W, wr.iterAt w.heap.size s (pos + K) = W := ⟨_, rfl⟩
   rw [hWd] at hnx hit2 HB2; have hitlt : w.heap.size < W.heap.size := (Array.getElem?_eq_some_iff.1 hit2).1; have cR : ∀ X, Calls Tryd.prog 96 #[.string (⟨#[101, 69]⟩ : ByteArray), .int .i32 (R : Int)] X fun e w' => e = .returned (.int .i64 (strings_IndexAny.ixR R)) ∧ Below X.heap.size X w' := fun X => strings_IndexAny.rune_all R hrl X; clear hit HB HA hWd hR hK
   obtain ⟨i, hi⟩ : ∃ i, strings_IndexAny.ixR (R : Int) = i := ⟨_, rfl⟩
   rw [hi] at HA2; rw [hi] at cR; clear hi
   by_cases c : 0 ≤ i
   ·rw [if_pos c] at HA2; obtain rfl := HA2.out; have c1 : decide (0 ≤ i) = true := decide_eq_true c; clear HA2
    go_wp2_with (go_at_call 96; refine (cR _).mono ?_; rintro e w3 ⟨rfl, hb⟩)
    go_ret
    exact ⟨rfl, below_step HB2.out hb⟩
   ·rw [if_neg c] at HA2; have c1 : decide (0 ≤ i) = false := decide_eq_false c
    go_wp2_with (go_at_call 96; refine (cR _).mono ?_; rintro e w3 ⟨rfl, hb⟩)
    go_roundg g'
    case measure => omega
    case rel => exact ⟨pos + K, (hb.block _ hitlt).trans hit2, HA2, ⟨by have := HF.out; omega⟩, ⟨below_step HB2.out hb⟩⟩
  ·have hnx : ∀ ty, (Instr.next (.pointer (some ⟨w.heap.size, 0, none⟩)) true ty).run Tryd.prog wr = _ := fun ty => Lib.run_next_end_at wr w.heap.size s pos ty hit hlt
   have he : r = -1 := by
    have := HA.out
    cases gk with
    | zero => simpa [strings_IndexAny.ixRun] using this.symm
    | succ n => rw [strings_IndexAny.ixRun, if_neg hlt] at this; exact this.symm
   subst he
   go_wp2
   go_ret
   exact ⟨rfl, HB.out⟩
def strings_IndexAny.f (a0 : ByteArray) (a1 : ByteArray) : Option (Int) := if a1 = (⟨#[101, 69]⟩ : ByteArray) then (if a0.size ≤ 8 then some (strings_IndexAny.ixRun a0 a0.size 0) else if a0.size < 4294967281 then some (Lib.indexAny a0.data.toList [101, 69]) else none) else none
theorem strings_IndexAny.calls (a0 : ByteArray) (a1 : ByteArray) (r : Int) (w : World) (h : strings_IndexAny.f a0 a1 = some r) :
  Calls Tryd.prog 76 #[.string a0, .string a1] w fun e w' => e = .returned (.int .i64 r) ∧ Below w.heap.size w w' := by
 unfold strings_IndexAny.f at h
 by_cases h1 : a1 = (⟨#[101, 69]⟩ : ByteArray)
 ·rw [if_pos h1] at h; subst h1
  by_cases h8 : a0.size ≤ 8
  ·rw [if_pos h8] at h; obtain rfl := Option.some.inj h; exact strings_IndexAny.any_short a0 h8 w
  ·rw [if_neg h8] at h
   by_cases hs : a0.size < 4294967281
   ·rw [if_pos hs] at h; obtain rfl := Option.some.inj h
    exact (Tryd.strings_IndexAny_long (zero_of_info (n := 256) (by kernel_rfl)).1 a0 (⟨#[101, 69]⟩ : ByteArray) w (by decide) (by omega) hs (by decide) (fun j b hb => of_decide_eq_true (List.all_eq_true.1 (show (([101, 69] : List UInt8).all fun b => decide (b.toNat < 128)) = true by decide) b (List.mem_of_getElem? hb)))).mono fun e w' ⟨h1, h2⟩ => ⟨h1, by
     rw [h2]
     exact (((Below.refl _ _).alloc (Nat.le_refl _) _).alloc (by simp) _)⟩
   ·rw [if_neg hs] at h; cases h
 ·rw [if_neg h1] at h; cases h

def stringslite_Index.f (a0 : ByteArray) (a1 : ByteArray) : Option (Int) := if h : a1.size = 1 then some (Lib.indexByte a0.data.toList (a1[0]'(by omega))) else none
theorem stringslite_Index.calls (a0 : ByteArray) (a1 : ByteArray) (r : Int) (w : World) (h : stringslite_Index.f a0 a1 = some r) :
  Calls Tryd.prog 109 #[.string a0, .string a1] w fun e w' => e = .returned (.int .i64 r) ∧ Drawn0 w w' := by
 unfold stringslite_Index.f at h
 split at h
 ·rename_i hs
  obtain rfl := Option.some.inj h
  obtain ⟨c, hc⟩ : ∃ c : UInt8, a1[0]'(by omega) = c := ⟨_, rfl⟩
  have e1 : a1 = (⟨#[c]⟩ : ByteArray) := by
   apply ByteArray.ext
   apply Array.ext
   ·exact hs
   ·intro i h1 h2; have h3 : i < 1 := h2
    have : i = 0 := by omega
    subst this; exact hc
  rw [hc]; subst e1; refine (Tryd.stringslite_Index_one a0 c w).mono ?_
  rintro e w' ⟨rfl, rfl⟩
  exact ⟨rfl, Drawn0.refl _⟩
 ·cases h

def stringslite_Cut.f (a0 : ByteArray) (a1 : ByteArray) : Option (ByteArray × ByteArray × Bool) := (stringslite_Index.f a0 a1).bind fun t277 => (if t277 ≥ 0 then (if 0 ≤ t277 then (if t277 ≤ (a0.size : Int) then (if 0 ≤ (wrap64 (t277 + (a1.size : Int))) then (if (wrap64 (t277 + (a1.size : Int))) ≤ (a0.size : Int) then (some (a0.extract 0 (t277 : Int).toNat, a0.extract ((wrap64 (t277 + (a1.size : Int))) : Int).toNat a0.size, true)) else (none)) else (none)) else (none)) else (none)) else (some (a0, (⟨#[]⟩ : ByteArray), false)))
set_option maxHeartbeats 8000000 in
set_option maxRecDepth 100000 in
theorem stringslite_Cut.calls (a0 : ByteArray) (a1 : ByteArray) (r1 : ByteArray) (r2 : ByteArray) (r3 : Bool) (w : World) (h : stringslite_Cut.f a0 a1 = some (r1, r2, r3)) :
  Calls Tryd.prog 100 #[.string a0, .string a1] w fun e w' => e = .returned (.tuple #[.string r1, .string r2, .bool r3]) ∧ Drawn0 w w' := by
 have H : ((stringslite_Index.f a0 a1).bind fun t277 => (if t277 ≥ 0 then (if 0 ≤ t277 then (if t277 ≤ (a0.size : Int) then (if 0 ≤ (wrap64 (t277 + (a1.size : Int))) then (if (wrap64 (t277 + (a1.size : Int))) ≤ (a0.size : Int) then (some (a0.extract 0 (t277 : Int).toNat, a0.extract ((wrap64 (t277 + (a1.size : Int))) : Int).toNat a0.size, true)) else (none)) else (none)) else (none)) else (none)) else (some (a0, (⟨#[]⟩ : ByteArray), false)))) = some (r1, r2, r3) := h; clear h; replace H := Option.bind_eq_some_iff.mp H; obtain ⟨t277, A30, H⟩ := H; replace H : (if t277 ≥ 0 then (if 0 ≤ t277 then (if t277 ≤ (a0.size : Int) then (if 0 ≤ (wrap64 (t277 + (a1.size : Int))) then (if (wrap64 (t277 + (a1.size : Int))) ≤ (a0.size : Int) then (some (a0.extract 0 (t277 : Int).toNat, a0.extract ((wrap64 (t277 + (a1.size : Int))) : Int).toNat a0.size, true)) else (none)) else (none)) else (none)) else (none)) else (some (a0, (⟨#[]⟩ : ByteArray), false))) = some (r1, r2, r3) := H; have A3 := Aside0.mk A30; clear A30
 by_cases c4 : t277 ≥ 0
 ·rw [if_pos c4] at H; have c4b0 := decide_eq_true c4; clear c4
  by_cases c5 : 0 ≤ t277
  ·rw [if_pos c5] at H; have c5b0 := eq_true c5; have c5b1 := decide_eq_true c5; clear c5
   by_cases c6 : t277 ≤ (a0.size : Int)
   ·rw [if_pos c6] at H; have c6b0 := eq_true c6; have c6b1 := decide_eq_true c6; clear c6
    obtain ⟨ji7, hji7⟩ : ∃ j_ : Int, (wrap64 (t277 + (a1.size : Int))) = j_ := ⟨_, rfl⟩
    replace H : (if 0 ≤ (ji7) then (if (ji7) ≤ (a0.size : Int) then (some (a0.extract 0 (t277 : Int).toNat, a0.extract ((ji7) : Int).toNat a0.size, true)) else (none)) else (none)) = some (r1, r2, r3) := by first | (rw [hji7] at H; exact H) | (simp only [hji7] at H ⊢; exact H)
    (try rw [hji7] at A3)
    have hji7w : (IntKind.i64.wrap (t277 + (a1.size : Int))) = ji7 := (i64_w _).trans hji7
    by_cases c8 : 0 ≤ (ji7)
    ·rw [if_pos c8] at H; have c8b0 := eq_true c8; have c8b1 := decide_eq_true c8; clear c8
     by_cases c9 : (ji7) ≤ (a0.size : Int)
     ·rw [if_pos c9] at H; have c9b0 := eq_true c9; have c9b1 := decide_eq_true c9; clear c9
      simp only [Option.some.injEq, Prod.mk.injEq] at H
      obtain ⟨rfl, rfl, rfl⟩ := H
      go_enter Tryd.func100, Tryd.ntmps100
      go_wp2_with (first | (go_at_call 109; (with_reducible refine (stringslite_Index.calls a0 a1 t277 _ A3.out).mono ?_); rintro e w' ⟨rfl, ⟨nd, rfl⟩⟩; (try exact ddA)))
      repeat (go_quiet (first | (go_at_call 109; (with_reducible refine (stringslite_Index.calls a0 a1 t277 _ A3.out).mono ?_); rintro e w' ⟨rfl, ⟨nd, rfl⟩⟩; (try exact ddA))); try go_wp2_with (first | (go_at_call 109; (with_reducible refine (stringslite_Index.calls a0 a1 t277 _ A3.out).mono ?_); rintro e w' ⟨rfl, ⟨nd, rfl⟩⟩; (try exact ddA))))
      go_ret3
      exact ⟨by first | rfl | (simp; done) | (simp only [← hji7] <;> (first | rfl | (simp; done))) | (simp [*]; done), drA⟩
     ·rw [if_neg c9] at H
      exact absurd H (by simp)
    ·rw [if_neg c8] at H
     exact absurd H (by simp)
   ·rw [if_neg c6] at H
    exact absurd H (by simp)
  ·rw [if_neg c5] at H
   exact absurd H (by simp)
 ·rw [if_neg c4] at H; have c4b0 := decide_eq_false c4; clear c4
  simp only [Option.some.injEq, Prod.mk.injEq] at H
  obtain ⟨rfl, rfl, rfl⟩ := H
  go_enter Tryd.func100, Tryd.ntmps100
  go_wp2_with (first | (go_at_call 109; (with_reducible refine (stringslite_Index.calls a0 a1 t277 _ A3.out).mono ?_); rintro e w' ⟨rfl, ⟨nd, rfl⟩⟩; (try exact ddA)))
  repeat (go_quiet (first | (go_at_call 109; (with_reducible refine (stringslite_Index.calls a0 a1 t277 _ A3.out).mono ?_); rintro e w' ⟨rfl, ⟨nd, rfl⟩⟩; (try exact ddA))); try go_wp2_with (first | (go_at_call 109; (with_reducible refine (stringslite_Index.calls a0 a1 t277 _ A3.out).mono ?_); rintro e w' ⟨rfl, ⟨nd, rfl⟩⟩; (try exact ddA))))
  go_ret3
  exact ⟨enA, drA⟩

def strings_Cut.f (a0 : ByteArray) (a1 : ByteArray) : Option (ByteArray × ByteArray × Bool) := (stringslite_Cut.f a0 a1).bind fun bt278 => (some (bt278.1, bt278.2.1, bt278.2.2))
set_option maxHeartbeats 8000000 in
set_option maxRecDepth 100000 in
theorem strings_Cut.calls (a0 : ByteArray) (a1 : ByteArray) (r1 : ByteArray) (r2 : ByteArray) (r3 : Bool) (w : World) (h : strings_Cut.f a0 a1 = some (r1, r2, r3)) :
  Calls Tryd.prog 77 #[.string a0, .string a1] w fun e w' => e = .returned (.tuple #[.string r1, .string r2, .bool r3]) ∧ Drawn0 w w' := by
 have H : ((stringslite_Cut.f a0 a1).bind fun bt278 => (some (bt278.1, bt278.2.1, bt278.2.2))) = some (r1, r2, r3) := h; clear h; replace H := Option.bind_eq_some_iff.mp H; obtain ⟨⟨t278, t279, t280⟩, A30, H⟩ := H; replace H : (some (t278, t279, t280)) = some (r1, r2, r3) := H; have A3 := Aside0.mk A30; clear A30
 simp only [Option.some.injEq, Prod.mk.injEq] at H
 obtain ⟨rfl, rfl, rfl⟩ := H
 go_enter Tryd.func77, Tryd.ntmps77
 go_wp2_with (first | ((with_reducible refine gate_callee (f := 100) rfl ?_); refine goesL_ (some 9) rfl rfl Tryd.func100 (by kernel_rfl) rfl #[.string a0, .string a1] rfl mapA ?_; (with_reducible refine (stringslite_Cut.calls a0 a1 t278 t279 t280 _ A3.out).mono ?_); rintro e w' ⟨rfl, ⟨nd, rfl⟩⟩; refine ⟨_, rfl, ?_⟩))
 go_ret3
 exact ⟨enA, drA⟩

mutual
def impl_FloatOk.j0 : Nat → ByteArray → ByteArray → Int → Bool → Option (Bool)
 | 0, _, _, _, _ => none
 | k + 1, x3, x4, x5, x35 => if x35 = true then (if 1 ≤ (x4.size : Int) then (impl_FloatOk.j1 k x3 (x4.extract 1 x4.size) x5) else (none)) else (impl_FloatOk.j1 k x3 x4 x5)
def impl_FloatOk.j1 : Nat → ByteArray → ByteArray → Int → Option (Bool)
 | 0, _, _, _ => none
 | k + 1, x3, x4, x5 => (impl_figures.f k x4).bind fun t282 => (if t282 = true then ((strings_Cut.f x3 (⟨#[46]⟩ : ByteArray)).bind fun bt283 => ((impl_IntOk.f k bt283.1).bind fun t286 => (if t286 = true then (if bt283.2.2 = true then ((impl_figures.f k bt283.2.1).bind fun t287 => (some t287)) else (if x5 ≥ 0 then (some true) else (some false))) else (some false)))) else (some false))
end
def impl_FloatOk.f (k : Nat) (a0 : ByteArray) : Option (Bool) := if (a0.size : Int) > 40 then (some false) else ((strings_IndexAny.f a0 (⟨#[101, 69]⟩ : ByteArray)).bind fun t281 => (if t281 ≥ 0 then (if 0 ≤ t281 then (if t281 ≤ (a0.size : Int) then (if 0 ≤ (wrap64 (t281 + 1)) then (if (wrap64 (t281 + 1)) ≤ (a0.size : Int) then (if (a0.extract ((wrap64 (t281 + 1)) : Int).toNat a0.size).toList = ([] : List UInt8) then (impl_FloatOk.j0 k (a0.extract 0 (t281 : Int).toNat) (a0.extract ((wrap64 (t281 + 1)) : Int).toNat a0.size) t281 false) else (if 0 < ((a0.extract ((wrap64 (t281 + 1)) : Int).toNat a0.size).size : Int) then (if (bt (a0.extract ((wrap64 (t281 + 1)) : Int).toNat a0.size) 0) = 43 then (impl_FloatOk.j0 k (a0.extract 0 (t281 : Int).toNat) (a0.extract ((wrap64 (t281 + 1)) : Int).toNat a0.size) t281 true) else (impl_FloatOk.j0 k (a0.extract 0 (t281 : Int).toNat) (a0.extract ((wrap64 (t281 + 1)) : Int).toNat a0.size) t281 ((bt (a0.extract ((wrap64 (t281 + 1)) : Int).toNat a0.size) 0) == 45))) else (none))) else (none)) else (none)) else (none)) else (none)) else ((strings_Cut.f a0 (⟨#[46]⟩ : ByteArray)).bind fun bt288 => ((impl_IntOk.f k bt288.1).bind fun t291 => (if t291 = true then (if bt288.2.2 = true then ((impl_figures.f k bt288.2.1).bind fun t292 => (some t292)) else (some false)) else (some false))))))
theorem impl_FloatOk.mono_l : ∀ k, (∀ y0 y1 y2 y3, LeO (impl_FloatOk.j0 k y0 y1 y2 y3) (impl_FloatOk.j0 (k + 1) y0 y1 y2 y3)) ∧ (∀ y0 y1 y2, LeO (impl_FloatOk.j1 k y0 y1 y2) (impl_FloatOk.j1 (k + 1) y0 y1 y2))
 | 0 => ⟨fun _ _ _ _ r h => by simp [impl_FloatOk.j0] at h, fun _ _ _ r h => by simp [impl_FloatOk.j1] at h⟩
 | k + 1 => by
  obtain ⟨ih0, ih1⟩ := impl_FloatOk.mono_l k; refine ⟨?_, ?_⟩
  ·intro y0 y1 y2 y3; unfold impl_FloatOk.j0
   repeat' first
   | (with_reducible first | exact ih0 _ _ _ _ | exact ih1 _ _ _ | exact impl_IntOk.mono _ _ | exact impl_figures.mono _ _ | exact LeO.refl _ | exact LeO.none _ | refine LeO.ite ?_ ?_ | refine LeO.bind ?_ (fun _ => ?_))
   | exact ih0 _ _ _ _ | exact ih1 _ _ _ | exact impl_IntOk.mono _ _ | exact impl_figures.mono _ _ | exact LeO.none _ | refine LeO.ite ?_ ?_ | refine LeO.bind ?_ (fun _ => ?_)
  ·intro y0 y1 y2; unfold impl_FloatOk.j1
   repeat' first
   | (with_reducible first | exact ih0 _ _ _ _ | exact ih1 _ _ _ | exact impl_IntOk.mono _ _ | exact impl_figures.mono _ _ | exact LeO.refl _ | exact LeO.none _ | refine LeO.ite ?_ ?_ | refine LeO.bind ?_ (fun _ => ?_))
   | exact ih0 _ _ _ _ | exact ih1 _ _ _ | exact impl_IntOk.mono _ _ | exact impl_figures.mono _ _ | exact LeO.none _ | refine LeO.ite ?_ ?_ | refine LeO.bind ?_ (fun _ => ?_)
theorem impl_FloatOk.mono : ∀ a0 k, LeO (impl_FloatOk.f k a0) (impl_FloatOk.f (k + 1) a0) := by
 intro a0 k; obtain ⟨ih0, ih1⟩ := impl_FloatOk.mono_l k; unfold impl_FloatOk.f
 repeat' first
   | (with_reducible first | exact ih0 _ _ _ _ | exact ih1 _ _ _ | exact impl_IntOk.mono _ _ | exact impl_figures.mono _ _ | exact LeO.refl _ | exact LeO.none _ | refine LeO.ite ?_ ?_ | refine LeO.bind ?_ (fun _ => ?_))
   | exact ih0 _ _ _ _ | exact ih1 _ _ _ | exact impl_IntOk.mono _ _ | exact impl_figures.mono _ _ | exact LeO.none _ | refine LeO.ite ?_ ?_ | refine LeO.bind ?_ (fun _ => ?_)
set_option maxHeartbeats 8000000 in
set_option maxRecDepth 100000 in
theorem impl_FloatOk.calls (k : Nat) (a0 : ByteArray) (r : Bool) (w : World) (h : impl_FloatOk.f k a0 = some r) :
  Calls Tryd.prog 40 #[.string a0] w fun e w' => e = .returned (.bool r) ∧ Below w.heap.size w w' := by
 have HB := Aside0.mk (Below.refl w.heap.size w); have H : (if (a0.size : Int) > 40 then (some false) else ((strings_IndexAny.f a0 (⟨#[101, 69]⟩ : ByteArray)).bind fun t281 => (if t281 ≥ 0 then (if 0 ≤ t281 then (if t281 ≤ (a0.size : Int) then (if 0 ≤ (wrap64 (t281 + 1)) then (if (wrap64 (t281 + 1)) ≤ (a0.size : Int) then (if (a0.extract ((wrap64 (t281 + 1)) : Int).toNat a0.size).toList = ([] : List UInt8) then (impl_FloatOk.j0 k (a0.extract 0 (t281 : Int).toNat) (a0.extract ((wrap64 (t281 + 1)) : Int).toNat a0.size) t281 false) else (if 0 < ((a0.extract ((wrap64 (t281 + 1)) : Int).toNat a0.size).size : Int) then (if (bt (a0.extract ((wrap64 (t281 + 1)) : Int).toNat a0.size) 0) = 43 then (impl_FloatOk.j0 k (a0.extract 0 (t281 : Int).toNat) (a0.extract ((wrap64 (t281 + 1)) : Int).toNat a0.size) t281 true) else (impl_FloatOk.j0 k (a0.extract 0 (t281 : Int).toNat) (a0.extract ((wrap64 (t281 + 1)) : Int).toNat a0.size) t281 ((bt (a0.extract ((wrap64 (t281 + 1)) : Int).toNat a0.size) 0) == 45))) else (none))) else (none)) else (none)) else (none)) else (none)) else ((strings_Cut.f a0 (⟨#[46]⟩ : ByteArray)).bind fun bt288 => ((impl_IntOk.f k bt288.1).bind fun t291 => (if t291 = true then (if bt288.2.2 = true then ((impl_figures.f k bt288.2.1).bind fun t292 => (some t292)) else (some false)) else (some false))))))) = some r := h; clear h
 by_cases c2 : (a0.size : Int) > 40
 ·rw [if_pos c2] at H; have c2b0 := decide_eq_true c2
  have c2b1 : decide (40 < a0.size) = true := decide_eq_true (by omega)
  clear c2; obtain rfl := Option.some.inj H
  go_enter Tryd.func40, Tryd.ntmps40
  go_wp2
  repeat (go_quiet (fail); try go_wp2)
  go_ret
  exact ⟨erA, belB HB⟩
 ·rw [if_neg c2] at H; have c2b0 := decide_eq_false c2
  have c2b1 : decide (40 < a0.size) = false := decide_eq_false (by omega)
  clear c2; replace H := Option.bind_eq_some_iff.mp H; obtain ⟨t281, A30, H⟩ := H; replace H : (if t281 ≥ 0 then (if 0 ≤ t281 then (if t281 ≤ (a0.size : Int) then (if 0 ≤ (wrap64 (t281 + 1)) then (if (wrap64 (t281 + 1)) ≤ (a0.size : Int) then (if (a0.extract ((wrap64 (t281 + 1)) : Int).toNat a0.size).toList = ([] : List UInt8) then (impl_FloatOk.j0 k (a0.extract 0 (t281 : Int).toNat) (a0.extract ((wrap64 (t281 + 1)) : Int).toNat a0.size) t281 false) else (if 0 < ((a0.extract ((wrap64 (t281 + 1)) : Int).toNat a0.size).size : Int) then (if (bt (a0.extract ((wrap64 (t281 + 1)) : Int).toNat a0.size) 0) = 43 then (impl_FloatOk.j0 k (a0.extract 0 (t281 : Int).toNat) (a0.extract ((wrap64 (t281 + 1)) : Int).toNat a0.size) t281 true) else (impl_FloatOk.j0 k (a0.extract 0 (t281 : Int).toNat) (a0.extract ((wrap64 (t281 + 1)) : Int).toNat a0.size) t281 ((bt (a0.extract ((wrap64 (t281 + 1)) : Int).toNat a0.size) 0) == 45))) else (none))) else (none)) else (none)) else (none)) else (none)) else ((strings_Cut.f a0 (⟨#[46]⟩ : ByteArray)).bind fun bt288 => ((impl_IntOk.f k bt288.1).bind fun t291 => (if t291 = true then (if bt288.2.2 = true then ((impl_figures.f k bt288.2.1).bind fun t292 => (some t292)) else (some false)) else (some false))))) = some r := H; have A3 := Aside0.mk A30; clear A30
  by_cases c4 : t281 ≥ 0
  ·rw [if_pos c4] at H; have c4b0 := decide_eq_true c4; clear c4
   by_cases c5 : 0 ≤ t281
   ·rw [if_pos c5] at H; have c5b0 := eq_true c5; have c5b1 := decide_eq_true c5; clear c5
    by_cases c6 : t281 ≤ (a0.size : Int)
    ·rw [if_pos c6] at H; have c6b0 := eq_true c6; have c6b1 := decide_eq_true c6; clear c6
     obtain ⟨ji7, hji7⟩ : ∃ j_ : Int, (wrap64 (t281 + 1)) = j_ := ⟨_, rfl⟩
     replace H : (if 0 ≤ (ji7) then (if (ji7) ≤ (a0.size : Int) then (if (a0.extract ((ji7) : Int).toNat a0.size).toList = ([] : List UInt8) then (impl_FloatOk.j0 k (a0.extract 0 (t281 : Int).toNat) (a0.extract ((ji7) : Int).toNat a0.size) t281 false) else (if 0 < ((a0.extract ((ji7) : Int).toNat a0.size).size : Int) then (if (bt (a0.extract ((ji7) : Int).toNat a0.size) 0) = 43 then (impl_FloatOk.j0 k (a0.extract 0 (t281 : Int).toNat) (a0.extract ((ji7) : Int).toNat a0.size) t281 true) else (impl_FloatOk.j0 k (a0.extract 0 (t281 : Int).toNat) (a0.extract ((ji7) : Int).toNat a0.size) t281 ((bt (a0.extract ((ji7) : Int).toNat a0.size) 0) == 45))) else (none))) else (none)) else (none)) = some r := by first | (rw [hji7] at H; exact H) | (simp only [hji7] at H ⊢; exact H)
     (try rw [hji7] at A3)
     have hji7w : (IntKind.i64.wrap (t281 + 1)) = ji7 := (i64_w _).trans hji7
     by_cases c8 : 0 ≤ (ji7)
     ·rw [if_pos c8] at H; have c8b0 := eq_true c8; have c8b1 := decide_eq_true c8; clear c8
      by_cases c9 : (ji7) ≤ (a0.size : Int)
      ·rw [if_pos c9] at H; have c9b0 := eq_true c9; have c9b1 := decide_eq_true c9; clear c9; have HC10 := Aside0.mk H; clear H
       go_enter Tryd.func40, Tryd.ntmps40
       go_upto_region 7 with (first | (go_at_call 76; (with_reducible refine (strings_IndexAny.calls a0 (⟨#[101, 69]⟩ : ByteArray) t281 _ A3.out).mono ?_); rintro e w11 ⟨rfl, hb⟩; replace HB := Aside0.mk (below_step (belB HB) hb); (try clear hb)))
       repeat (go_quiet (first | (go_at_call 76; (with_reducible refine (strings_IndexAny.calls a0 (⟨#[101, 69]⟩ : ByteArray) t281 _ A3.out).mono ?_); rintro e w11 ⟨rfl, hb⟩; replace HB := Aside0.mk (below_step (belB HB) hb); (try clear hb))); go_upto_region 7 with (first | (go_at_call 76; (with_reducible refine (strings_IndexAny.calls a0 (⟨#[101, 69]⟩ : ByteArray) t281 _ A3.out).mono ?_); rintro e w11 ⟨rfl, hb⟩; replace HB := Aside0.mk (below_step (belB HB) hb); (try clear hb))))
       (try simp only [Act.put, List.setIfInBounds_toArray, List.set_cons_zero, List.set_cons_succ])
       go_cut [35] (fun v35 wc => ∃ (kq : Nat) (x35_9 : Bool), v35 = .bool x35_9 ∧ Aside0 (impl_FloatOk.j0 kq (a0.extract 0 (t281 : Int).toNat) (a0.extract ((ji7) : Int).toNat a0.size) t281 x35_9 = some r) ∧ Aside0 (kq ≤ k) ∧ Aside0 (Below w.heap.size w wc))
       case first =>
        have H := HC10.out; clear HC10
        by_cases c12 : (a0.extract ((ji7) : Int).toNat a0.size).toList = ([] : List UInt8)
        ·rw [if_pos c12] at H; have c12b0 := beq_iff_eq.mpr c12; have c12b1 := bne_eq_false_iff_eq.mpr c12; clear c12
         (first | rw [c12b0] | (simp only [i64_w, i32_w]; rw [c12b0]) | skip)
         have H' := Aside0.mk H
         clear H
         go_wp2
         repeat (go_quiet (fail); try go_wp2)
         go_meet
         case rel => exact ⟨_, (false), enA, (by first | exact H' | (subst hji7; exact H')), ⟨by first | omega | exact Nat.le_refl _⟩, ⟨belB HB⟩⟩
        ·rw [if_neg c12] at H; have c12b0 := beq_eq_false_iff_ne.mpr c12; have c12b1 := bne_iff_ne.mpr c12
         (first | rw [c12b0] | (simp only [i64_w, i32_w]; rw [c12b0]) | skip)
         by_cases c13 : 0 < ((a0.extract ((ji7) : Int).toNat a0.size).size : Int)
         ·rw [if_pos c13] at H; have c13b0 := decide_eq_true c13
          have c13x : 0 < a0.size - ji7.toNat := by have z_ := of_decide_eq_true c13b0; simp only [ByteArray.size_extract, Nat.min_self] at z_; omega
          have c13x0 := eq_true c13x; have c13x1 : decide (0 < a0.size - ji7.toNat) = true := decide_eq_true c13x
          have c13x2 : (((a0.size - ji7.toNat : Nat) : Int) < 1) = False := eq_false (by omega)
          have c13x3 : ((0 : Int) < ((a0.size - ji7.toNat : Nat) : Int)) = True := eq_true (by omega)
          have c13b1 : decide (0 < (a0.extract ((ji7) : Int).toNat a0.size).size) = true := decide_eq_true (by omega)
          clear c13
          by_cases c15 : (bt (a0.extract ((ji7) : Int).toNat a0.size) 0) = 43
          ·rw [if_pos c15] at H; have c15b0 := beq_iff_eq.mpr c15; have c15b1 := bne_eq_false_iff_eq.mpr c15; clear c15
           have H' := Aside0.mk H
           clear H
           have p14 : 0 ≤ (0 : Int) := (by omega)
           have q14 : 0 < (a0.extract ((ji7) : Int).toNat a0.size).size := (by have : (0 : Int) < ((a0.extract ((ji7) : Int).toNat a0.size).size : Int) := odA; omega)
           have hx14 : ∀ h : 0 < (a0.extract ((ji7) : Int).toNat a0.size).size, (((a0.extract ((ji7) : Int).toNat a0.size)[0]'h).toNat : Int) = bt (a0.extract ((ji7) : Int).toNat a0.size) 0 := bt_at (a0.extract ((ji7) : Int).toNat a0.size) 0; clear p14; have qi14 : (0 < ((a0.extract ((ji7) : Int).toNat a0.size).size : Int)) = True := eq_true odA; replace q14 := eq_true q14
           go_wp2
           repeat (go_quiet (fail); try go_wp2)
           go_meet
           case rel => exact ⟨_, (true), enA, (by first | exact H' | (subst hji7; exact H')), ⟨by first | omega | exact Nat.le_refl _⟩, ⟨belB HB⟩⟩
          ·rw [if_neg c15] at H; have c15b0 := beq_eq_false_iff_ne.mpr c15; have c15b1 := bne_iff_ne.mpr c15
           have H' := Aside0.mk H
           clear H
           have p14 : 0 ≤ (0 : Int) := (by omega)
           have q14 : 0 < (a0.extract ((ji7) : Int).toNat a0.size).size := (by have : (0 : Int) < ((a0.extract ((ji7) : Int).toNat a0.size).size : Int) := odA; omega)
           have hx14 : ∀ h : 0 < (a0.extract ((ji7) : Int).toNat a0.size).size, (((a0.extract ((ji7) : Int).toNat a0.size)[0]'h).toNat : Int) = bt (a0.extract ((ji7) : Int).toNat a0.size) 0 := bt_at (a0.extract ((ji7) : Int).toNat a0.size) 0; clear p14; have qi14 : (0 < ((a0.extract ((ji7) : Int).toNat a0.size).size : Int)) = True := eq_true odA; replace q14 := eq_true q14
           have p16 : 0 ≤ (0 : Int) := (by omega)
           have q16 : 0 < (a0.extract ((ji7) : Int).toNat a0.size).size := (by have : (0 : Int) < ((a0.extract ((ji7) : Int).toNat a0.size).size : Int) := odA; omega)
           have hx16 : ∀ h : 0 < (a0.extract ((ji7) : Int).toNat a0.size).size, (((a0.extract ((ji7) : Int).toNat a0.size)[0]'h).toNat : Int) = bt (a0.extract ((ji7) : Int).toNat a0.size) 0 := bt_at (a0.extract ((ji7) : Int).toNat a0.size) 0; clear p16; have qi16 : (0 < ((a0.extract ((ji7) : Int).toNat a0.size).size : Int)) = True := eq_true odA; replace q16 := eq_true q16
           go_wp2
           repeat (go_quiet (fail); try go_wp2)
           go_meet
           case rel => exact ⟨_, (((bt (a0.extract ((ji7) : Int).toNat a0.size) 0) == 45)), (by first | rfl | (simp; done) | (simp only [← hji7] <;> (first | rfl | (simp; done))) | (simp [*]; done)), (by first | exact H' | (subst hji7; exact H')), ⟨by first | omega | exact Nat.le_refl _⟩, ⟨belB HB⟩⟩
         ·rw [if_neg c13] at H
          exact absurd H (by simp)
       case rest =>
        clear HC10
        try clear c1
        try clear p1
        try clear q1
        try clear hx1
        try clear qi1
        try clear c2
        try clear c2b0
        try clear c2b1
        try clear p2
        try clear c4
        try clear c4b0
        try clear c5
        try clear c5b0
        try clear c5b1
        try clear c6
        try clear c6b0
        try clear c6b1
        try clear p6
        try clear c8
        try clear c8b0
        try clear c8b1
        try clear c9
        try clear c9b0
        try clear c9b1
        try clear c12
        try clear c12b0
        try clear c12b1
        try clear c13
        try clear c13b0
        try clear c13b1
        try clear p14
        try clear q14
        try clear hx14
        try clear qi14
        try clear c15
        try clear c15b0
        try clear c15b1
        try clear p16
        try clear q16
        try clear hx16
        try clear qi16
        try clear p14
        try clear p16
        try clear q14
        try clear q16
        obtain ⟨kq, x35_9, rfl, HA, HJ9, HB⟩ := hcut
        cases kq with
        | zero => exact absurd HA.out (by simp [impl_FloatOk.j0])
        | succ kj9 =>
         have H := HA.out; clear HA
         simp only [impl_FloatOk.j0] at H
         have HC17 := Aside0.mk H; clear H
         go_upto_if 35 with (fail)
         repeat (go_quiet (fail); go_upto_if 35 with (fail))
         go_cut [4] (fun v4 wc => ∃ (kq : Nat) (x4_16 : ByteArray), v4 = .string x4_16 ∧ Aside0 (impl_FloatOk.j1 kq (a0.extract 0 (t281 : Int).toNat) x4_16 t281 = some r) ∧ Aside0 (kq ≤ kj9) ∧ Aside0 (Below w.heap.size w wc))
         case first =>
          have H := HC17.out; clear HC17
          by_cases c18 : x35_9 = true
          ·subst c18
           have H1 : (if 1 ≤ ((a0.extract ((ji7) : Int).toNat a0.size).size : Int) then (impl_FloatOk.j1 kj9 (a0.extract 0 (t281 : Int).toNat) ((a0.extract ((ji7) : Int).toNat a0.size).extract 1 (a0.extract ((ji7) : Int).toNat a0.size).size) t281) else (none)) = some r := by rw [if_pos rfl] at H; exact H
           clear H; have H := H1; clear H1
           by_cases c19 : 1 ≤ ((a0.extract ((ji7) : Int).toNat a0.size).size : Int)
           ·rw [if_pos c19] at H; have c19b0 := eq_true c19
            have c19x : 0 < a0.size - ji7.toNat := by have z_ := c19; simp only [ByteArray.size_extract, Nat.min_self] at z_; omega
            have c19x0 := eq_true c19x
            have c19x2 : (((a0.size - ji7.toNat : Nat) : Int) < 1) = False := eq_false (by omega)
            have c19x3 : ((1 : Int) ≤ ((a0.size - ji7.toNat : Nat) : Int)) = True := eq_true (by omega)
            have c19b1 := decide_eq_true c19; clear c19
            have H' := Aside0.mk H
            clear H
            go_wp2
            repeat (go_quiet (fail); try go_wp2)
            go_meet
            case rel => exact ⟨_, ((a0.extract ((ji7) : Int).toNat a0.size).extract 1 (a0.extract ((ji7) : Int).toNat a0.size).size), (by first | rfl | (simp; done) | (simp only [← hji7] <;> (first | rfl | (simp; done))) | (simp [*]; done)), (by first | exact H' | (subst hji7; exact H')), ⟨by have := HJ9.out; first | omega | exact Nat.le_refl _⟩, ⟨belB HB⟩⟩
           ·rw [if_neg c19] at H
            exact absurd H (by simp)
          ·replace c18 := Bool.eq_false_iff.mpr c18; subst c18
           have H1 : (impl_FloatOk.j1 kj9 (a0.extract 0 (t281 : Int).toNat) (a0.extract ((ji7) : Int).toNat a0.size) t281) = some r := by rw [if_neg (show ¬ (false = true) by decide)] at H; exact H
           clear H; have H := H1; clear H1
           have H' := Aside0.mk H
           clear H
           go_wp2
           repeat (go_quiet (fail); try go_wp2)
           go_meet
           case rel => exact ⟨_, ((a0.extract ((ji7) : Int).toNat a0.size)), (by first | rfl | (simp; done) | (simp only [← hji7] <;> (first | rfl | (simp; done))) | (simp [*]; done)), (by first | exact H' | (subst hji7; exact H')), ⟨by have := HJ9.out; first | omega | exact Nat.le_refl _⟩, ⟨belB HB⟩⟩
         case rest =>
          clear HC17
          try clear c1
          try clear p1
          try clear q1
          try clear hx1
          try clear qi1
          try clear c2
          try clear c2b0
          try clear c2b1
          try clear p2
          try clear c4
          try clear c4b0
          try clear c5
          try clear c5b0
          try clear c5b1
          try clear c6
          try clear c6b0
          try clear c6b1
          try clear p6
          try clear c8
          try clear c8b0
          try clear c8b1
          try clear c9
          try clear c9b0
          try clear c9b1
          try clear c12
          try clear c12b0
          try clear c12b1
          try clear c13
          try clear c13b0
          try clear c13b1
          try clear p14
          try clear q14
          try clear hx14
          try clear qi14
          try clear c15
          try clear c15b0
          try clear c15b1
          try clear p16
          try clear q16
          try clear hx16
          try clear qi16
          try clear c18
          try clear c19
          try clear c19b0
          try clear c19b1
          try clear p1
          try clear p14
          try clear p16
          try clear p2
          try clear p6
          try clear q1
          try clear q14
          try clear q16
          obtain ⟨kq, x4_16, rfl, HA, HJ16, HB⟩ := hcut
          cases kq with
          | zero => exact absurd HA.out (by simp [impl_FloatOk.j1])
          | succ kj16 =>
           have H := HA.out; clear HA
           simp only [impl_FloatOk.j1] at H
           replace H := Option.bind_eq_some_iff.mp H; obtain ⟨t282, A200, H⟩ := H; replace H : (if t282 = true then ((strings_Cut.f (a0.extract 0 (t281 : Int).toNat) (⟨#[46]⟩ : ByteArray)).bind fun bt283 => ((impl_IntOk.f kj16 bt283.1).bind fun t286 => (if t286 = true then (if bt283.2.2 = true then ((impl_figures.f kj16 bt283.2.1).bind fun t287 => (some t287)) else (if t281 ≥ 0 then (some true) else (some false))) else (some false)))) else (some false)) = some r := H; have A20 := Aside0.mk A200; clear A200
           by_cases c21 : t282 = true
           ·subst c21
            have H1 : ((strings_Cut.f (a0.extract 0 (t281 : Int).toNat) (⟨#[46]⟩ : ByteArray)).bind fun bt283 => ((impl_IntOk.f kj16 bt283.1).bind fun t286 => (if t286 = true then (if bt283.2.2 = true then ((impl_figures.f kj16 bt283.2.1).bind fun t287 => (some t287)) else (if t281 ≥ 0 then (some true) else (some false))) else (some false)))) = some r := by rw [if_pos rfl] at H; exact H
            clear H; have H := H1; clear H1; replace H := Option.bind_eq_some_iff.mp H; obtain ⟨⟨t283, t284, t285⟩, A220, H⟩ := H; replace H : ((impl_IntOk.f kj16 t283).bind fun t286 => (if t286 = true then (if t285 = true then ((impl_figures.f kj16 t284).bind fun t287 => (some t287)) else (if t281 ≥ 0 then (some true) else (some false))) else (some false))) = some r := H; have A22 := Aside0.mk A220; clear A220; replace H := Option.bind_eq_some_iff.mp H; obtain ⟨t286, A230, H⟩ := H; replace H : (if t286 = true then (if t285 = true then ((impl_figures.f kj16 t284).bind fun t287 => (some t287)) else (if t281 ≥ 0 then (some true) else (some false))) else (some false)) = some r := H; have A23 := Aside0.mk A230; clear A230
            by_cases c24 : t286 = true
            ·subst c24
             have H1 : (if t285 = true then ((impl_figures.f kj16 t284).bind fun t287 => (some t287)) else (if t281 ≥ 0 then (some true) else (some false))) = some r := by rw [if_pos rfl] at H; exact H
             clear H; have H := H1; clear H1
             by_cases c25 : t285 = true
             ·subst c25
              have H1 : ((impl_figures.f kj16 t284).bind fun t287 => (some t287)) = some r := by rw [if_pos rfl] at H; exact H
              clear H; have H := H1; clear H1; replace H := Option.bind_eq_some_iff.mp H; obtain ⟨t287, A260, H⟩ := H; replace H : (some t287) = some r := H; have A26 := Aside0.mk A260; clear A260; obtain rfl := Option.some.inj H
              go_wp2_with (first | (go_at_call 75; (with_reducible refine (impl_figures.calls kj16 x4_16 true _ A20.out).mono ?_); rintro e w' ⟨rfl, ⟨nd, rfl⟩⟩; (try exact ddA)) | (go_at_call 77; (with_reducible refine (strings_Cut.calls (a0.extract 0 (t281 : Int).toNat) (⟨#[46]⟩ : ByteArray) t283 t284 true _ A22.out).mono ?_); rintro e w' ⟨rfl, ⟨nd, rfl⟩⟩; (try exact ddA)) | (go_at_call 39; (with_reducible refine (impl_IntOk.calls kj16 t283 true _ A23.out).mono ?_); rintro e w' ⟨rfl, ⟨nd, rfl⟩⟩; (try exact ddA)) | (go_at_call 75; (with_reducible refine (impl_figures.calls kj16 t284 t287 _ A26.out).mono ?_); rintro e w' ⟨rfl, ⟨nd, rfl⟩⟩; (try exact ddA)))
              repeat (go_quiet (first | (go_at_call 75; (with_reducible refine (impl_figures.calls kj16 x4_16 true _ A20.out).mono ?_); rintro e w' ⟨rfl, ⟨nd, rfl⟩⟩; (try exact ddA)) | (go_at_call 77; (with_reducible refine (strings_Cut.calls (a0.extract 0 (t281 : Int).toNat) (⟨#[46]⟩ : ByteArray) t283 t284 true _ A22.out).mono ?_); rintro e w' ⟨rfl, ⟨nd, rfl⟩⟩; (try exact ddA)) | (go_at_call 39; (with_reducible refine (impl_IntOk.calls kj16 t283 true _ A23.out).mono ?_); rintro e w' ⟨rfl, ⟨nd, rfl⟩⟩; (try exact ddA)) | (go_at_call 75; (with_reducible refine (impl_figures.calls kj16 t284 t287 _ A26.out).mono ?_); rintro e w' ⟨rfl, ⟨nd, rfl⟩⟩; (try exact ddA))); try go_wp2_with (first | (go_at_call 75; (with_reducible refine (impl_figures.calls kj16 x4_16 true _ A20.out).mono ?_); rintro e w' ⟨rfl, ⟨nd, rfl⟩⟩; (try exact ddA)) | (go_at_call 77; (with_reducible refine (strings_Cut.calls (a0.extract 0 (t281 : Int).toNat) (⟨#[46]⟩ : ByteArray) t283 t284 true _ A22.out).mono ?_); rintro e w' ⟨rfl, ⟨nd, rfl⟩⟩; (try exact ddA)) | (go_at_call 39; (with_reducible refine (impl_IntOk.calls kj16 t283 true _ A23.out).mono ?_); rintro e w' ⟨rfl, ⟨nd, rfl⟩⟩; (try exact ddA)) | (go_at_call 75; (with_reducible refine (impl_figures.calls kj16 t284 t287 _ A26.out).mono ?_); rintro e w' ⟨rfl, ⟨nd, rfl⟩⟩; (try exact ddA))))
              go_ret
              exact ⟨by first | rfl | (simp [errW_none, errW_some] <;> rfl) | (simp only [← hji7]; first | rfl | (simp [errW_none, errW_some] <;> rfl)) | (simp [*, errW_none, errW_some] <;> rfl), belB HB⟩
             ·replace c25 := Bool.eq_false_iff.mpr c25; subst c25
              have H1 : (if t281 ≥ 0 then (some true) else (some false)) = some r := by rw [if_neg (show ¬ (false = true) by decide)] at H; exact H
              clear H; have H := H1; clear H1
              by_cases c27 : t281 ≥ 0
              ·rw [if_pos c27] at H; have c27b0 := decide_eq_true c27; clear c27; obtain rfl := Option.some.inj H
               go_wp2_with (first | (go_at_call 75; (with_reducible refine (impl_figures.calls kj16 x4_16 true _ A20.out).mono ?_); rintro e w' ⟨rfl, ⟨nd, rfl⟩⟩; (try exact ddA)) | (go_at_call 77; (with_reducible refine (strings_Cut.calls (a0.extract 0 (t281 : Int).toNat) (⟨#[46]⟩ : ByteArray) t283 t284 false _ A22.out).mono ?_); rintro e w' ⟨rfl, ⟨nd, rfl⟩⟩; (try exact ddA)) | (go_at_call 39; (with_reducible refine (impl_IntOk.calls kj16 t283 true _ A23.out).mono ?_); rintro e w' ⟨rfl, ⟨nd, rfl⟩⟩; (try exact ddA)))
               repeat (go_quiet (first | (go_at_call 75; (with_reducible refine (impl_figures.calls kj16 x4_16 true _ A20.out).mono ?_); rintro e w' ⟨rfl, ⟨nd, rfl⟩⟩; (try exact ddA)) | (go_at_call 77; (with_reducible refine (strings_Cut.calls (a0.extract 0 (t281 : Int).toNat) (⟨#[46]⟩ : ByteArray) t283 t284 false _ A22.out).mono ?_); rintro e w' ⟨rfl, ⟨nd, rfl⟩⟩; (try exact ddA)) | (go_at_call 39; (with_reducible refine (impl_IntOk.calls kj16 t283 true _ A23.out).mono ?_); rintro e w' ⟨rfl, ⟨nd, rfl⟩⟩; (try exact ddA))); try go_wp2_with (first | (go_at_call 75; (with_reducible refine (impl_figures.calls kj16 x4_16 true _ A20.out).mono ?_); rintro e w' ⟨rfl, ⟨nd, rfl⟩⟩; (try exact ddA)) | (go_at_call 77; (with_reducible refine (strings_Cut.calls (a0.extract 0 (t281 : Int).toNat) (⟨#[46]⟩ : ByteArray) t283 t284 false _ A22.out).mono ?_); rintro e w' ⟨rfl, ⟨nd, rfl⟩⟩; (try exact ddA)) | (go_at_call 39; (with_reducible refine (impl_IntOk.calls kj16 t283 true _ A23.out).mono ?_); rintro e w' ⟨rfl, ⟨nd, rfl⟩⟩; (try exact ddA))))
               go_ret
               exact ⟨by first | rfl | (simp [errW_none, errW_some] <;> rfl) | (simp only [← hji7]; first | rfl | (simp [errW_none, errW_some] <;> rfl)) | (simp [*, errW_none, errW_some] <;> rfl), belB HB⟩
              ·rw [if_neg c27] at H; have c27b0 := decide_eq_false c27; clear c27; obtain rfl := Option.some.inj H
               go_wp2_with (first | (go_at_call 75; (with_reducible refine (impl_figures.calls kj16 x4_16 true _ A20.out).mono ?_); rintro e w' ⟨rfl, ⟨nd, rfl⟩⟩; (try exact ddA)) | (go_at_call 77; (with_reducible refine (strings_Cut.calls (a0.extract 0 (t281 : Int).toNat) (⟨#[46]⟩ : ByteArray) t283 t284 false _ A22.out).mono ?_); rintro e w' ⟨rfl, ⟨nd, rfl⟩⟩; (try exact ddA)) | (go_at_call 39; (with_reducible refine (impl_IntOk.calls kj16 t283 true _ A23.out).mono ?_); rintro e w' ⟨rfl, ⟨nd, rfl⟩⟩; (try exact ddA)))
               repeat (go_quiet (first | (go_at_call 75; (with_reducible refine (impl_figures.calls kj16 x4_16 true _ A20.out).mono ?_); rintro e w' ⟨rfl, ⟨nd, rfl⟩⟩; (try exact ddA)) | (go_at_call 77; (with_reducible refine (strings_Cut.calls (a0.extract 0 (t281 : Int).toNat) (⟨#[46]⟩ : ByteArray) t283 t284 false _ A22.out).mono ?_); rintro e w' ⟨rfl, ⟨nd, rfl⟩⟩; (try exact ddA)) | (go_at_call 39; (with_reducible refine (impl_IntOk.calls kj16 t283 true _ A23.out).mono ?_); rintro e w' ⟨rfl, ⟨nd, rfl⟩⟩; (try exact ddA))); try go_wp2_with (first | (go_at_call 75; (with_reducible refine (impl_figures.calls kj16 x4_16 true _ A20.out).mono ?_); rintro e w' ⟨rfl, ⟨nd, rfl⟩⟩; (try exact ddA)) | (go_at_call 77; (with_reducible refine (strings_Cut.calls (a0.extract 0 (t281 : Int).toNat) (⟨#[46]⟩ : ByteArray) t283 t284 false _ A22.out).mono ?_); rintro e w' ⟨rfl, ⟨nd, rfl⟩⟩; (try exact ddA)) | (go_at_call 39; (with_reducible refine (impl_IntOk.calls kj16 t283 true _ A23.out).mono ?_); rintro e w' ⟨rfl, ⟨nd, rfl⟩⟩; (try exact ddA))))
               go_ret
               exact ⟨by first | rfl | (simp [errW_none, errW_some] <;> rfl) | (simp only [← hji7]; first | rfl | (simp [errW_none, errW_some] <;> rfl)) | (simp [*, errW_none, errW_some] <;> rfl), belB HB⟩
            ·replace c24 := Bool.eq_false_iff.mpr c24; subst c24
             have H1 : (some false) = some r := by rw [if_neg (show ¬ (false = true) by decide)] at H; exact H
             clear H; have H := H1; clear H1; obtain rfl := Option.some.inj H
             go_wp2_with (first | (go_at_call 75; (with_reducible refine (impl_figures.calls kj16 x4_16 true _ A20.out).mono ?_); rintro e w' ⟨rfl, ⟨nd, rfl⟩⟩; (try exact ddA)) | (go_at_call 77; (with_reducible refine (strings_Cut.calls (a0.extract 0 (t281 : Int).toNat) (⟨#[46]⟩ : ByteArray) t283 t284 t285 _ A22.out).mono ?_); rintro e w' ⟨rfl, ⟨nd, rfl⟩⟩; (try exact ddA)) | (go_at_call 39; (with_reducible refine (impl_IntOk.calls kj16 t283 false _ A23.out).mono ?_); rintro e w' ⟨rfl, ⟨nd, rfl⟩⟩; (try exact ddA)))
             repeat (go_quiet (first | (go_at_call 75; (with_reducible refine (impl_figures.calls kj16 x4_16 true _ A20.out).mono ?_); rintro e w' ⟨rfl, ⟨nd, rfl⟩⟩; (try exact ddA)) | (go_at_call 77; (with_reducible refine (strings_Cut.calls (a0.extract 0 (t281 : Int).toNat) (⟨#[46]⟩ : ByteArray) t283 t284 t285 _ A22.out).mono ?_); rintro e w' ⟨rfl, ⟨nd, rfl⟩⟩; (try exact ddA)) | (go_at_call 39; (with_reducible refine (impl_IntOk.calls kj16 t283 false _ A23.out).mono ?_); rintro e w' ⟨rfl, ⟨nd, rfl⟩⟩; (try exact ddA))); try go_wp2_with (first | (go_at_call 75; (with_reducible refine (impl_figures.calls kj16 x4_16 true _ A20.out).mono ?_); rintro e w' ⟨rfl, ⟨nd, rfl⟩⟩; (try exact ddA)) | (go_at_call 77; (with_reducible refine (strings_Cut.calls (a0.extract 0 (t281 : Int).toNat) (⟨#[46]⟩ : ByteArray) t283 t284 t285 _ A22.out).mono ?_); rintro e w' ⟨rfl, ⟨nd, rfl⟩⟩; (try exact ddA)) | (go_at_call 39; (with_reducible refine (impl_IntOk.calls kj16 t283 false _ A23.out).mono ?_); rintro e w' ⟨rfl, ⟨nd, rfl⟩⟩; (try exact ddA))))
             go_ret
             exact ⟨by first | rfl | (simp [errW_none, errW_some] <;> rfl) | (simp only [← hji7]; first | rfl | (simp [errW_none, errW_some] <;> rfl)) | (simp [*, errW_none, errW_some] <;> rfl), belB HB⟩
           ·replace c21 := Bool.eq_false_iff.mpr c21; subst c21
            have H1 : (some false) = some r := by rw [if_neg (show ¬ (false = true) by decide)] at H; exact H
            clear H; have H := H1; clear H1; obtain rfl := Option.some.inj H
            go_wp2_with (first | (go_at_call 75; (with_reducible refine (impl_figures.calls kj16 x4_16 false _ A20.out).mono ?_); rintro e w' ⟨rfl, ⟨nd, rfl⟩⟩; (try exact ddA)))
            repeat (go_quiet (first | (go_at_call 75; (with_reducible refine (impl_figures.calls kj16 x4_16 false _ A20.out).mono ?_); rintro e w' ⟨rfl, ⟨nd, rfl⟩⟩; (try exact ddA))); try go_wp2_with (first | (go_at_call 75; (with_reducible refine (impl_figures.calls kj16 x4_16 false _ A20.out).mono ?_); rintro e w' ⟨rfl, ⟨nd, rfl⟩⟩; (try exact ddA))))
            go_ret
            exact ⟨by first | rfl | (simp [errW_none, errW_some] <;> rfl) | (simp only [← hji7]; first | rfl | (simp [errW_none, errW_some] <;> rfl)) | (simp [*, errW_none, errW_some] <;> rfl), belB HB⟩
      ·rw [if_neg c9] at H
       exact absurd H (by simp)
     ·rw [if_neg c8] at H
      exact absurd H (by simp)
    ·rw [if_neg c6] at H
     exact absurd H (by simp)
   ·rw [if_neg c5] at H
    exact absurd H (by simp)
  ·rw [if_neg c4] at H; have c4b0 := decide_eq_false c4; clear c4; replace H := Option.bind_eq_some_iff.mp H; obtain ⟨⟨t288, t289, t290⟩, A280, H⟩ := H; replace H : ((impl_IntOk.f k t288).bind fun t291 => (if t291 = true then (if t290 = true then ((impl_figures.f k t289).bind fun t292 => (some t292)) else (some false)) else (some false))) = some r := H; have A28 := Aside0.mk A280; clear A280; replace H := Option.bind_eq_some_iff.mp H; obtain ⟨t291, A290, H⟩ := H; replace H : (if t291 = true then (if t290 = true then ((impl_figures.f k t289).bind fun t292 => (some t292)) else (some false)) else (some false)) = some r := H; have A29 := Aside0.mk A290; clear A290
   by_cases c30 : t291 = true
   ·subst c30
    have H1 : (if t290 = true then ((impl_figures.f k t289).bind fun t292 => (some t292)) else (some false)) = some r := by rw [if_pos rfl] at H; exact H
    clear H; have H := H1; clear H1
    by_cases c31 : t290 = true
    ·subst c31
     have H1 : ((impl_figures.f k t289).bind fun t292 => (some t292)) = some r := by rw [if_pos rfl] at H; exact H
     clear H; have H := H1; clear H1; replace H := Option.bind_eq_some_iff.mp H; obtain ⟨t292, A320, H⟩ := H; replace H : (some t292) = some r := H; have A32 := Aside0.mk A320; clear A320; obtain rfl := Option.some.inj H
     go_enter Tryd.func40, Tryd.ntmps40
     go_wp2_with (first | (go_at_call 76; (with_reducible refine (strings_IndexAny.calls a0 (⟨#[101, 69]⟩ : ByteArray) t281 _ A3.out).mono ?_); rintro e w33 ⟨rfl, hb⟩; replace HB := Aside0.mk (below_step (belB HB) hb); (try clear hb)) | (go_at_call 77; (with_reducible refine (strings_Cut.calls a0 (⟨#[46]⟩ : ByteArray) t288 t289 true _ A28.out).mono ?_); rintro e w' ⟨rfl, ⟨nd, rfl⟩⟩; (try exact ddA)) | (go_at_call 39; (with_reducible refine (impl_IntOk.calls k t288 true _ A29.out).mono ?_); rintro e w' ⟨rfl, ⟨nd, rfl⟩⟩; (try exact ddA)) | (go_at_call 75; (with_reducible refine (impl_figures.calls k t289 t292 _ A32.out).mono ?_); rintro e w' ⟨rfl, ⟨nd, rfl⟩⟩; (try exact ddA)))
     repeat (go_quiet (first | (go_at_call 76; (with_reducible refine (strings_IndexAny.calls a0 (⟨#[101, 69]⟩ : ByteArray) t281 _ A3.out).mono ?_); rintro e w33 ⟨rfl, hb⟩; replace HB := Aside0.mk (below_step (belB HB) hb); (try clear hb)) | (go_at_call 77; (with_reducible refine (strings_Cut.calls a0 (⟨#[46]⟩ : ByteArray) t288 t289 true _ A28.out).mono ?_); rintro e w' ⟨rfl, ⟨nd, rfl⟩⟩; (try exact ddA)) | (go_at_call 39; (with_reducible refine (impl_IntOk.calls k t288 true _ A29.out).mono ?_); rintro e w' ⟨rfl, ⟨nd, rfl⟩⟩; (try exact ddA)) | (go_at_call 75; (with_reducible refine (impl_figures.calls k t289 t292 _ A32.out).mono ?_); rintro e w' ⟨rfl, ⟨nd, rfl⟩⟩; (try exact ddA))); try go_wp2_with (first | (go_at_call 76; (with_reducible refine (strings_IndexAny.calls a0 (⟨#[101, 69]⟩ : ByteArray) t281 _ A3.out).mono ?_); rintro e w33 ⟨rfl, hb⟩; replace HB := Aside0.mk (below_step (belB HB) hb); (try clear hb)) | (go_at_call 77; (with_reducible refine (strings_Cut.calls a0 (⟨#[46]⟩ : ByteArray) t288 t289 true _ A28.out).mono ?_); rintro e w' ⟨rfl, ⟨nd, rfl⟩⟩; (try exact ddA)) | (go_at_call 39; (with_reducible refine (impl_IntOk.calls k t288 true _ A29.out).mono ?_); rintro e w' ⟨rfl, ⟨nd, rfl⟩⟩; (try exact ddA)) | (go_at_call 75; (with_reducible refine (impl_figures.calls k t289 t292 _ A32.out).mono ?_); rintro e w' ⟨rfl, ⟨nd, rfl⟩⟩; (try exact ddA))))
     go_ret
     exact ⟨erA, belB HB⟩
    ·replace c31 := Bool.eq_false_iff.mpr c31; subst c31
     have H1 : (some false) = some r := by rw [if_neg (show ¬ (false = true) by decide)] at H; exact H
     clear H; have H := H1; clear H1; obtain rfl := Option.some.inj H
     go_enter Tryd.func40, Tryd.ntmps40
     go_wp2_with (first | (go_at_call 76; (with_reducible refine (strings_IndexAny.calls a0 (⟨#[101, 69]⟩ : ByteArray) t281 _ A3.out).mono ?_); rintro e w34 ⟨rfl, hb⟩; replace HB := Aside0.mk (below_step (belB HB) hb); (try clear hb)) | (go_at_call 77; (with_reducible refine (strings_Cut.calls a0 (⟨#[46]⟩ : ByteArray) t288 t289 false _ A28.out).mono ?_); rintro e w' ⟨rfl, ⟨nd, rfl⟩⟩; (try exact ddA)) | (go_at_call 39; (with_reducible refine (impl_IntOk.calls k t288 true _ A29.out).mono ?_); rintro e w' ⟨rfl, ⟨nd, rfl⟩⟩; (try exact ddA)))
     repeat (go_quiet (first | (go_at_call 76; (with_reducible refine (strings_IndexAny.calls a0 (⟨#[101, 69]⟩ : ByteArray) t281 _ A3.out).mono ?_); rintro e w34 ⟨rfl, hb⟩; replace HB := Aside0.mk (below_step (belB HB) hb); (try clear hb)) | (go_at_call 77; (with_reducible refine (strings_Cut.calls a0 (⟨#[46]⟩ : ByteArray) t288 t289 false _ A28.out).mono ?_); rintro e w' ⟨rfl, ⟨nd, rfl⟩⟩; (try exact ddA)) | (go_at_call 39; (with_reducible refine (impl_IntOk.calls k t288 true _ A29.out).mono ?_); rintro e w' ⟨rfl, ⟨nd, rfl⟩⟩; (try exact ddA))); try go_wp2_with (first | (go_at_call 76; (with_reducible refine (strings_IndexAny.calls a0 (⟨#[101, 69]⟩ : ByteArray) t281 _ A3.out).mono ?_); rintro e w34 ⟨rfl, hb⟩; replace HB := Aside0.mk (below_step (belB HB) hb); (try clear hb)) | (go_at_call 77; (with_reducible refine (strings_Cut.calls a0 (⟨#[46]⟩ : ByteArray) t288 t289 false _ A28.out).mono ?_); rintro e w' ⟨rfl, ⟨nd, rfl⟩⟩; (try exact ddA)) | (go_at_call 39; (with_reducible refine (impl_IntOk.calls k t288 true _ A29.out).mono ?_); rintro e w' ⟨rfl, ⟨nd, rfl⟩⟩; (try exact ddA))))
     go_ret
     exact ⟨erA, belB HB⟩
   ·replace c30 := Bool.eq_false_iff.mpr c30; subst c30
    have H1 : (some false) = some r := by rw [if_neg (show ¬ (false = true) by decide)] at H; exact H
    clear H; have H := H1; clear H1; obtain rfl := Option.some.inj H
    go_enter Tryd.func40, Tryd.ntmps40
    go_wp2_with (first | (go_at_call 76; (with_reducible refine (strings_IndexAny.calls a0 (⟨#[101, 69]⟩ : ByteArray) t281 _ A3.out).mono ?_); rintro e w35 ⟨rfl, hb⟩; replace HB := Aside0.mk (below_step (belB HB) hb); (try clear hb)) | (go_at_call 77; (with_reducible refine (strings_Cut.calls a0 (⟨#[46]⟩ : ByteArray) t288 t289 t290 _ A28.out).mono ?_); rintro e w' ⟨rfl, ⟨nd, rfl⟩⟩; (try exact ddA)) | (go_at_call 39; (with_reducible refine (impl_IntOk.calls k t288 false _ A29.out).mono ?_); rintro e w' ⟨rfl, ⟨nd, rfl⟩⟩; (try exact ddA)))
    repeat (go_quiet (first | (go_at_call 76; (with_reducible refine (strings_IndexAny.calls a0 (⟨#[101, 69]⟩ : ByteArray) t281 _ A3.out).mono ?_); rintro e w35 ⟨rfl, hb⟩; replace HB := Aside0.mk (below_step (belB HB) hb); (try clear hb)) | (go_at_call 77; (with_reducible refine (strings_Cut.calls a0 (⟨#[46]⟩ : ByteArray) t288 t289 t290 _ A28.out).mono ?_); rintro e w' ⟨rfl, ⟨nd, rfl⟩⟩; (try exact ddA)) | (go_at_call 39; (with_reducible refine (impl_IntOk.calls k t288 false _ A29.out).mono ?_); rintro e w' ⟨rfl, ⟨nd, rfl⟩⟩; (try exact ddA))); try go_wp2_with (first | (go_at_call 76; (with_reducible refine (strings_IndexAny.calls a0 (⟨#[101, 69]⟩ : ByteArray) t281 _ A3.out).mono ?_); rintro e w35 ⟨rfl, hb⟩; replace HB := Aside0.mk (below_step (belB HB) hb); (try clear hb)) | (go_at_call 77; (with_reducible refine (strings_Cut.calls a0 (⟨#[46]⟩ : ByteArray) t288 t289 t290 _ A28.out).mono ?_); rintro e w' ⟨rfl, ⟨nd, rfl⟩⟩; (try exact ddA)) | (go_at_call 39; (with_reducible refine (impl_IntOk.calls k t288 false _ A29.out).mono ?_); rintro e w' ⟨rfl, ⟨nd, rfl⟩⟩; (try exact ddA))))
    go_ret
    exact ⟨erA, belB HB⟩

def utf8_ValidString.f (a0 : ByteArray) : Option (Bool) := if a0.size ≤ 9223372036854775807 then some (Lib.validD a0.data.toList) else none
theorem utf8_ValidString.calls (a0 : ByteArray) (r : Bool) (w : World) (hG : Gl w) (h : utf8_ValidString.f a0 = some r) :
  Calls Tryd.prog 101 #[.string a0] w fun e w' => e = .returned (.bool r) ∧ Below w.heap.size w w' := by
 unfold utf8_ValidString.f at h
 split at h
 ·rename_i hs
  obtain rfl := Option.some.inj h; exact Tryd.utf8_ValidString a0 w hs hG.tabs
 ·cases h

def impl_TextOk.f (a0 : ByteArray) : Option (Bool) := (utf8_ValidString.f a0).bind fun t293 => (some t293)
set_option maxHeartbeats 8000000 in
set_option maxRecDepth 100000 in
theorem impl_TextOk.calls (a0 : ByteArray) (r : Bool) (w : World) (hG : Gl w) (h : impl_TextOk.f a0 = some r) :
  Calls Tryd.prog 78 #[.string a0] w fun e w' => e = .returned (.bool r) ∧ Below w.heap.size w w' := by
 have HG := Aside0.mk hG; clear hG; have HB := Aside0.mk (Below.refl w.heap.size w); have H : ((utf8_ValidString.f a0).bind fun t293 => (some t293)) = some r := h; clear h; replace H := Option.bind_eq_some_iff.mp H; obtain ⟨t293, A20, H⟩ := H; replace H : (some t293) = some r := H; have A2 := Aside0.mk A20; clear A20; obtain rfl := Option.some.inj H
 go_enter Tryd.func78, Tryd.ntmps78
 go_wp2_with (first | ((with_reducible refine gate_callee (f := 101) rfl ?_); refine goesL_ (some 4) rfl rfl Tryd.func101 (by kernel_rfl) rfl #[.string a0] rfl mapA ?_; (with_reducible refine (utf8_ValidString.calls a0 t293 _ (Gl.below HG.out (belB HB)) A2.out).mono ?_); rintro e w3 ⟨rfl, hb⟩; refine ⟨_, rfl, ?_⟩; replace HB := Aside0.mk (below_step (belB HB) hb); (try clear hb)))
 go_ret
 exact ⟨erA, belB HB⟩

def strings_IndexByte.f (a0 : ByteArray) (a1 : Int) : Option (Int) := some (Lib.indexByte a0.data.toList a1.toNat.toUInt8)
theorem strings_IndexByte.calls (a0 : ByteArray) (a1 : Int) (r : Int) (w : World) (h : strings_IndexByte.f a0 a1 = some r) :
  Calls Tryd.prog 79 #[.string a0, .int .u8 a1] w fun e w' => e = .returned (.int .i64 r) ∧ Drawn0 w w' := by
 obtain rfl := Option.some.inj h; refine (Tryd.strings_IndexByte a0 a1 w).mono ?_
 rintro e w' ⟨rfl, rfl⟩
 exact ⟨rfl, Drawn0.refl _⟩

end Go.Proofs.YtjhagdjjlgjlbaaDoor.OFnExactValueText
-- narrow
