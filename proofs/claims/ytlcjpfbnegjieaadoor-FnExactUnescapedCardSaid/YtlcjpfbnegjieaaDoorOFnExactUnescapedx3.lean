/- The machine side of one law, written by a program of this session out of Lean's print of the translation: for each Go function that is reached a plain Lean function and the proof that the call comes to just its answer; each under the condition that the plain function answers 'some'. -/
import Derived.Test.YtlcjpfbnegjieaaDoorOFnExactUnescapedx0
import Derived.Test.YtlcjpfbnegjieaaDoorOFnExactUnescapedx1
import Derived.Test.YtlcjpfbnegjieaaDoorOFnExactUnescapedx2
namespace Go.Proofs.YtlcjpfbnegjieaaDoor.OFnExactUnescaped
open Go.Proofs.YtlcjpfbnegjieaaDoor.GlU
open Go.RowKit Go.Proofs.YtlcjpfbnegjieaaDoorW.PrintWords Go.Proofs.YtlcjpfbnegjieaaDoorW.PrintLast Go.Proofs.YtlcjpfbnegjieaaDoorW.PrintMore
attribute [local go_sem] max2_int min2_int max_two min_two max_three min_three max_four min_four   -- for this text's walks alone
set_option linter.unusedVariables false
set_option linter.unusedSimpArgs false

/-! ### spec_l04Rune: function 47 -/
mutual
def spec_l04Rune.j0 : Nat → ByteArray → Int → Int → Bool → Option (Int × Int)
  | 0, _, _, _, _ => none
  | k + 1, x0, x1, x19, x21 => if x21 = true then (if 0 ≤ (wrap64 (x1 + 1)) then (if (wrap64 (x1 + 1)) < (x0.size : Int) then (some (wrap64 (bt x0 (wrap64 (x1 + 1))), wrap64 (x1 + 2))) else (none)) else (none)) else (if x19 = 98 then (some (8, wrap64 (x1 + 2))) else (if x19 = 116 then (some (9, wrap64 (x1 + 2))) else (if x19 = 110 then (some (10, wrap64 (x1 + 2))) else (if x19 = 102 then (some (12, wrap64 (x1 + 2))) else (if x19 = 114 then (some (13, wrap64 (x1 + 2))) else (if x19 = 117 then (if (wrap64 (x1 + 2)) < (x0.size : Int) then (if 0 ≤ (wrap64 (x1 + 2)) then (spec_l04Rune.j1 k x0 x1 ((bt x0 (wrap64 (x1 + 2))) == 123)) else (none)) else (spec_l04Rune.j1 k x0 x1 false)) else (some ((-1), x1))))))))
def spec_l04Rune.j1 : Nat → ByteArray → Int → Bool → Option (Int × Int)
  | 0, _, _, _ => none
  | k + 1, x0, x1, x65 => if x65 = true then (spec_l04Rune.l0 k x0 x1 (wrap64 (x1 + 3))) else ((spec_l04Num.f k x0 (wrap64 (x1 + 2)) (wrap64 (x1 + 6))).bind fun t122 => (if t122 < 0 then (some ((-1), x1)) else ((spec_l01In.f t122 55296 56319).bind fun t123 => (if t123 = true then (if (wrap64 (x1 + 7)) < (x0.size : Int) then (if 0 ≤ (wrap64 (x1 + 6)) then (if (wrap64 (x1 + 6)) < (x0.size : Int) then (if (bt x0 (wrap64 (x1 + 6))) = 92 then (if 0 ≤ (wrap64 (x1 + 7)) then (spec_l04Rune.j4 k x0 x1 t122 ((bt x0 (wrap64 (x1 + 7))) == 117)) else (none)) else (spec_l04Rune.j4 k x0 x1 t122 false)) else (none)) else (none)) else (spec_l04Rune.j4 k x0 x1 t122 false)) else (spec_l04Rune.j4 k x0 x1 t122 false)))))
def spec_l04Rune.j3 : Nat → ByteArray → Int → Int → Option (Int × Int)
  | 0, _, _, _ => none
  | k + 1, x0, x1, x6 => (spec_l04Num.f k x0 (wrap64 (x1 + 3)) x6).bind fun t120 => (if x6 = (wrap64 (x1 + 3)) then (some ((-1), x1)) else (if x6 > (wrap64 (x1 + 9)) then (some ((-1), x1)) else (if x6 ≥ (x0.size : Int) then (some ((-1), x1)) else (if 0 ≤ x6 then (if x6 < (x0.size : Int) then (if (bt x0 x6) = 125 then ((spec_l02Scalar.f t120).bind fun t121 => (if t121 = true then (some (t120, wrap64 (x6 + 1))) else (some ((-1), x1)))) else (some ((-1), x1))) else (none)) else (none)))))
def spec_l04Rune.l0 : Nat → ByteArray → Int → Int → Option (Int × Int)
  | 0, _, _, _ => none
  | k + 1, x0, x1, x6 => if x6 < (x0.size : Int) then (if x6 < (wrap64 (x1 + 10)) then (if 0 ≤ x6 then ((spec_l04Digit.f k (bt x0 x6)).bind fun t119 => (if t119 ≥ 0 then (spec_l04Rune.l0 k x0 x1 (wrap64 (x6 + 1))) else (spec_l04Rune.j3 k x0 x1 x6))) else (none)) else (spec_l04Rune.j3 k x0 x1 x6)) else (spec_l04Rune.j3 k x0 x1 x6)
def spec_l04Rune.j4 : Nat → ByteArray → Int → Int → Bool → Option (Int × Int)
  | 0, _, _, _, _ => none
  | k + 1, x0, x1, x8, x154 => if x154 = true then ((spec_l04Num.f k x0 (wrap64 (x1 + 8)) (wrap64 (x1 + 12))).bind fun t124 => ((spec_l01In.f t124 56320 57343).bind fun t125 => (if t125 = true then (some (wrap64 ((wrap64 ((wrap64 (65536 + (wrap64 (1024 * (wrap64 (x8 - 55296)))))) + t124)) - 56320), wrap64 (x1 + 12))) else (some ((-1), x1))))) else ((spec_l02Scalar.f x8).bind fun t126 => (if t126 = true then (some (x8, wrap64 (x1 + 6))) else (some ((-1), x1))))
end
def spec_l04Rune.f (k : Nat) (a0 : ByteArray) (a1 : Int) : Option (Int × Int) := if (wrap64 (a1 + 1)) ≥ (a0.size : Int) then (some ((-1), a1)) else (if 0 ≤ (wrap64 (a1 + 1)) then (if (wrap64 (a1 + 1)) < (a0.size : Int) then (if (bt a0 (wrap64 (a1 + 1))) = 34 then (spec_l04Rune.j0 k a0 a1 (bt a0 (wrap64 (a1 + 1))) ((bt a0 (wrap64 (a1 + 1))) == 34)) else (if (bt a0 (wrap64 (a1 + 1))) = 92 then (spec_l04Rune.j0 k a0 a1 (bt a0 (wrap64 (a1 + 1))) ((bt a0 (wrap64 (a1 + 1))) == 92)) else (spec_l04Rune.j0 k a0 a1 (bt a0 (wrap64 (a1 + 1))) ((bt a0 (wrap64 (a1 + 1))) == 47)))) else (none)) else (none))
theorem spec_l04Rune.mono_l : ∀ k, (∀ y0 y1 y2 y3, LeO (spec_l04Rune.j0 k y0 y1 y2 y3) (spec_l04Rune.j0 (k + 1) y0 y1 y2 y3)) ∧ (∀ y0 y1 y2, LeO (spec_l04Rune.j1 k y0 y1 y2) (spec_l04Rune.j1 (k + 1) y0 y1 y2)) ∧ (∀ y0 y1 y2, LeO (spec_l04Rune.j3 k y0 y1 y2) (spec_l04Rune.j3 (k + 1) y0 y1 y2)) ∧ (∀ y0 y1 y2, LeO (spec_l04Rune.l0 k y0 y1 y2) (spec_l04Rune.l0 (k + 1) y0 y1 y2)) ∧ (∀ y0 y1 y2 y3, LeO (spec_l04Rune.j4 k y0 y1 y2 y3) (spec_l04Rune.j4 (k + 1) y0 y1 y2 y3))
  | 0 => ⟨fun _ _ _ _ r h => by simp [spec_l04Rune.j0] at h, fun _ _ _ r h => by simp [spec_l04Rune.j1] at h, fun _ _ _ r h => by simp [spec_l04Rune.j3] at h, fun _ _ _ r h => by simp [spec_l04Rune.l0] at h, fun _ _ _ _ r h => by simp [spec_l04Rune.j4] at h⟩
  | k + 1 => by
    obtain ⟨ih0, ih1, ih2, ih3, ih4⟩ := spec_l04Rune.mono_l k
    refine ⟨?_, ?_, ?_, ?_, ?_⟩
    · intro y0 y1 y2 y3
      unfold spec_l04Rune.j0
      repeat' first
      | (with_reducible exact ih0 _ _ _ _)
      | (with_reducible exact ih1 _ _ _)
      | (with_reducible exact ih2 _ _ _)
      | (with_reducible exact ih3 _ _ _)
      | (with_reducible exact ih4 _ _ _ _)
      | (with_reducible exact spec_l04Digit.mono _ _)
      | (with_reducible exact spec_l04Num.mono _ _ _ _)
      | (with_reducible exact LeO.refl _)
      | (with_reducible exact LeO.none _)
      | (with_reducible refine LeO.ite ?_ ?_)
      | (with_reducible refine LeO.bind ?_ (fun _ => ?_))
      | exact ih0 _ _ _ _
      | exact ih1 _ _ _
      | exact ih2 _ _ _
      | exact ih3 _ _ _
      | exact ih4 _ _ _ _
      | exact spec_l04Digit.mono _ _
      | exact spec_l04Num.mono _ _ _ _
      | exact LeO.none _
      | refine LeO.ite ?_ ?_
      | refine LeO.bind ?_ (fun _ => ?_)
    · intro y0 y1 y2
      unfold spec_l04Rune.j1
      repeat' first
      | (with_reducible exact ih0 _ _ _ _)
      | (with_reducible exact ih1 _ _ _)
      | (with_reducible exact ih2 _ _ _)
      | (with_reducible exact ih3 _ _ _)
      | (with_reducible exact ih4 _ _ _ _)
      | (with_reducible exact spec_l04Digit.mono _ _)
      | (with_reducible exact spec_l04Num.mono _ _ _ _)
      | (with_reducible exact LeO.refl _)
      | (with_reducible exact LeO.none _)
      | (with_reducible refine LeO.ite ?_ ?_)
      | (with_reducible refine LeO.bind ?_ (fun _ => ?_))
      | exact ih0 _ _ _ _
      | exact ih1 _ _ _
      | exact ih2 _ _ _
      | exact ih3 _ _ _
      | exact ih4 _ _ _ _
      | exact spec_l04Digit.mono _ _
      | exact spec_l04Num.mono _ _ _ _
      | exact LeO.none _
      | refine LeO.ite ?_ ?_
      | refine LeO.bind ?_ (fun _ => ?_)
    · intro y0 y1 y2
      unfold spec_l04Rune.j3
      repeat' first
      | (with_reducible exact ih0 _ _ _ _)
      | (with_reducible exact ih1 _ _ _)
      | (with_reducible exact ih2 _ _ _)
      | (with_reducible exact ih3 _ _ _)
      | (with_reducible exact ih4 _ _ _ _)
      | (with_reducible exact spec_l04Digit.mono _ _)
      | (with_reducible exact spec_l04Num.mono _ _ _ _)
      | (with_reducible exact LeO.refl _)
      | (with_reducible exact LeO.none _)
      | (with_reducible refine LeO.ite ?_ ?_)
      | (with_reducible refine LeO.bind ?_ (fun _ => ?_))
      | exact ih0 _ _ _ _
      | exact ih1 _ _ _
      | exact ih2 _ _ _
      | exact ih3 _ _ _
      | exact ih4 _ _ _ _
      | exact spec_l04Digit.mono _ _
      | exact spec_l04Num.mono _ _ _ _
      | exact LeO.none _
      | refine LeO.ite ?_ ?_
      | refine LeO.bind ?_ (fun _ => ?_)
    · intro y0 y1 y2
      unfold spec_l04Rune.l0
      repeat' first
      | (with_reducible exact ih0 _ _ _ _)
      | (with_reducible exact ih1 _ _ _)
      | (with_reducible exact ih2 _ _ _)
      | (with_reducible exact ih3 _ _ _)
      | (with_reducible exact ih4 _ _ _ _)
      | (with_reducible exact spec_l04Digit.mono _ _)
      | (with_reducible exact spec_l04Num.mono _ _ _ _)
      | (with_reducible exact LeO.refl _)
      | (with_reducible exact LeO.none _)
      | (with_reducible refine LeO.ite ?_ ?_)
      | (with_reducible refine LeO.bind ?_ (fun _ => ?_))
      | exact ih0 _ _ _ _
      | exact ih1 _ _ _
      | exact ih2 _ _ _
      | exact ih3 _ _ _
      | exact ih4 _ _ _ _
      | exact spec_l04Digit.mono _ _
      | exact spec_l04Num.mono _ _ _ _
      | exact LeO.none _
      | refine LeO.ite ?_ ?_
      | refine LeO.bind ?_ (fun _ => ?_)
    · intro y0 y1 y2 y3
      unfold spec_l04Rune.j4
      repeat' first
      | (with_reducible exact ih0 _ _ _ _)
      | (with_reducible exact ih1 _ _ _)
      | (with_reducible exact ih2 _ _ _)
      | (with_reducible exact ih3 _ _ _)
      | (with_reducible exact ih4 _ _ _ _)
      | (with_reducible exact spec_l04Digit.mono _ _)
      | (with_reducible exact spec_l04Num.mono _ _ _ _)
      | (with_reducible exact LeO.refl _)
      | (with_reducible exact LeO.none _)
      | (with_reducible refine LeO.ite ?_ ?_)
      | (with_reducible refine LeO.bind ?_ (fun _ => ?_))
      | exact ih0 _ _ _ _
      | exact ih1 _ _ _
      | exact ih2 _ _ _
      | exact ih3 _ _ _
      | exact ih4 _ _ _ _
      | exact spec_l04Digit.mono _ _
      | exact spec_l04Num.mono _ _ _ _
      | exact LeO.none _
      | refine LeO.ite ?_ ?_
      | refine LeO.bind ?_ (fun _ => ?_)
theorem spec_l04Rune.mono : ∀ a0 a1 k, LeO (spec_l04Rune.f k a0 a1) (spec_l04Rune.f (k + 1) a0 a1) := by
  intro a0 a1 k
  obtain ⟨ih0, ih1, ih2, ih3, ih4⟩ := spec_l04Rune.mono_l k
  unfold spec_l04Rune.f
  repeat' first
      | (with_reducible exact ih0 _ _ _ _)
      | (with_reducible exact ih1 _ _ _)
      | (with_reducible exact ih2 _ _ _)
      | (with_reducible exact ih3 _ _ _)
      | (with_reducible exact ih4 _ _ _ _)
      | (with_reducible exact spec_l04Digit.mono _ _)
      | (with_reducible exact spec_l04Num.mono _ _ _ _)
      | (with_reducible exact LeO.refl _)
      | (with_reducible exact LeO.none _)
      | (with_reducible refine LeO.ite ?_ ?_)
      | (with_reducible refine LeO.bind ?_ (fun _ => ?_))
      | exact ih0 _ _ _ _
      | exact ih1 _ _ _
      | exact ih2 _ _ _
      | exact ih3 _ _ _
      | exact ih4 _ _ _ _
      | exact spec_l04Digit.mono _ _
      | exact spec_l04Num.mono _ _ _ _
      | exact LeO.none _
      | refine LeO.ite ?_ ?_
      | refine LeO.bind ?_ (fun _ => ?_)
set_option maxHeartbeats 8000000 in
set_option maxRecDepth 100000 in
theorem spec_l04Rune.calls (k : Nat) (a0 : ByteArray) (a1 : Int) (r1 : Int) (r2 : Int) (w : World) (h : spec_l04Rune.f k a0 a1 = some (r1, r2)) :
    Calls Tryd.prog 47 #[.string a0, .int .i64 a1] w fun e w' => e = .returned (.tuple #[.int .i64 r1, .int .i64 r2]) ∧ Drawn0 w w' := by
  have H : (if (wrap64 (a1 + 1)) ≥ (a0.size : Int) then (some ((-1), a1)) else (if 0 ≤ (wrap64 (a1 + 1)) then (if (wrap64 (a1 + 1)) < (a0.size : Int) then (if (bt a0 (wrap64 (a1 + 1))) = 34 then (spec_l04Rune.j0 k a0 a1 (bt a0 (wrap64 (a1 + 1))) ((bt a0 (wrap64 (a1 + 1))) == 34)) else (if (bt a0 (wrap64 (a1 + 1))) = 92 then (spec_l04Rune.j0 k a0 a1 (bt a0 (wrap64 (a1 + 1))) ((bt a0 (wrap64 (a1 + 1))) == 92)) else (spec_l04Rune.j0 k a0 a1 (bt a0 (wrap64 (a1 + 1))) ((bt a0 (wrap64 (a1 + 1))) == 47)))) else (none)) else (none))) = some (r1, r2) := h
  clear h
  by_cases c3 : (wrap64 (a1 + 1)) ≥ (a0.size : Int)
  · rw [if_pos c3] at H
    have c3b0 : decide ((a0.size : Int) ≤ (wrap64 (a1 + 1))) = true := decide_eq_true c3
    clear c3
    simp only [Option.some.injEq, Prod.mk.injEq] at H
    obtain ⟨rfl, rfl⟩ := H
    go_enter Tryd.func47, Tryd.ntmps47
    go_wp2
    go_ret2
    exact ⟨by first | rfl | (simp; done) | (simp [*]; done) | (simp [show ∀ l_ : List UInt8, (l_ != []) = !l_.isEmpty from fun l_ => by cases l_ <;> rfl, show ∀ l_ : List UInt8, (l_ == []) = l_.isEmpty from fun l_ => by cases l_ <;> rfl]; done), by repeat (first | exact Drawn0.refl _ | apply Drawn0.step)⟩
  · rw [if_neg c3] at H
    have c3b0 : decide ((a0.size : Int) ≤ (wrap64 (a1 + 1))) = false := decide_eq_false c3
    clear c3
    obtain ⟨ji4, hji4⟩ : ∃ j_ : Int, (wrap64 (a1 + 1)) = j_ := ⟨_, rfl⟩
    replace H : (if 0 ≤ (ji4) then (if (ji4) < (a0.size : Int) then (if (bt a0 (ji4)) = 34 then (spec_l04Rune.j0 k a0 a1 (bt a0 (ji4)) ((bt a0 (ji4)) == 34)) else (if (bt a0 (ji4)) = 92 then (spec_l04Rune.j0 k a0 a1 (bt a0 (ji4)) ((bt a0 (ji4)) == 92)) else (spec_l04Rune.j0 k a0 a1 (bt a0 (ji4)) ((bt a0 (ji4)) == 47)))) else (none)) else (none)) = some (r1, r2) := by first | (rw [hji4] at H; exact H) | (simp only [hji4] at H ⊢; exact H)
    (try rw [hji4] at c3b0)
    have hji4w : (IntKind.i64.wrap (a1 + 1)) = ji4 := (i64_w _).trans hji4
    by_cases c5 : 0 ≤ (ji4)
    · rw [if_pos c5] at H
      have c5b0 : decide (0 ≤ (ji4)) = true := decide_eq_true c5
      clear c5
      by_cases c6 : (ji4) < (a0.size : Int)
      · rw [if_pos c6] at H
        have c6b0 : decide ((ji4) < (a0.size : Int)) = true := decide_eq_true c6
        clear c6
        have HC8 := Aside0.mk H
        clear H
        have p7 : 0 ≤ ((ji4) : Int) := of_decide_eq_true (by first | (with_reducible assumption) | assumption)
        have q7 : (ji4) < (a0.size : Int) := of_decide_eq_true (by first | (with_reducible assumption) | assumption)
        have hx7 := bt_at a0 (ji4)
        replace p7 := eq_true p7
        replace q7 := eq_true q7
        go_enter Tryd.func47, Tryd.ntmps47
        go_upto_if 21 with (fail)
        go_cut [21] (fun v21 wc => ∃ (kq : Nat) (x21_7 : Bool), v21 = .bool x21_7 ∧ Aside0 (spec_l04Rune.j0 kq a0 a1 (bt a0 (ji4)) x21_7 = some (r1, r2)) ∧ Aside0 (kq ≤ k) ∧ Drawn0 w wc)
        case first =>
          have H := HC8.out
          clear HC8
          by_cases c9 : (bt a0 (ji4)) = 34
          · rw [if_pos c9] at H
            have c9b0 : ((bt a0 (ji4)) == 34) = true := beq_iff_eq.mpr c9
            have c9b1 : ((bt a0 (ji4)) != 34) = false := bne_eq_false_iff_eq.mpr c9
            clear c9
            (first | rw [c9b0] | (simp only [i64_w, i32_w]; rw [c9b0]) | skip)
            have H' := Aside0.mk H
            clear H
            go_wp2
            go_meet
            case rel => exact ⟨_, (((bt a0 (ji4)) == 34)), (by first | rfl | (simp; done) | (simp only [← hji4] <;> (first | rfl | (simp; done))) | (simp [*]; done)), H', ⟨by first | omega | exact Nat.le_refl _⟩, by repeat (first | exact Drawn0.refl _ | apply Drawn0.step)⟩
          · rw [if_neg c9] at H
            have c9b0 : ((bt a0 (ji4)) == 34) = false := beq_eq_false_iff_ne.mpr c9
            have c9b1 : ((bt a0 (ji4)) != 34) = true := bne_iff_ne.mpr c9
            (first | rw [c9b0] | (simp only [i64_w, i32_w]; rw [c9b0]) | skip)
            by_cases c10 : (bt a0 (ji4)) = 92
            · rw [if_pos c10] at H
              have c10b0 : ((bt a0 (ji4)) == 92) = true := beq_iff_eq.mpr c10
              have c10b1 : ((bt a0 (ji4)) != 92) = false := bne_eq_false_iff_eq.mpr c10
              clear c10
              have H' := Aside0.mk H
              clear H
              go_wp2
              go_meet
              case rel => exact ⟨_, (((bt a0 (ji4)) == 92)), (by first | rfl | (simp; done) | (simp only [← hji4] <;> (first | rfl | (simp; done))) | (simp [*]; done)), H', ⟨by first | omega | exact Nat.le_refl _⟩, by repeat (first | exact Drawn0.refl _ | apply Drawn0.step)⟩
            · rw [if_neg c10] at H
              have c10b0 : ((bt a0 (ji4)) == 92) = false := beq_eq_false_iff_ne.mpr c10
              have c10b1 : ((bt a0 (ji4)) != 92) = true := bne_iff_ne.mpr c10
              have H' := Aside0.mk H
              clear H
              go_wp2
              go_meet
              case rel => exact ⟨_, (((bt a0 (ji4)) == 47)), (by first | rfl | (simp; done) | (simp only [← hji4] <;> (first | rfl | (simp; done))) | (simp [*]; done)), H', ⟨by first | omega | exact Nat.le_refl _⟩, by repeat (first | exact Drawn0.refl _ | apply Drawn0.step)⟩
        case rest =>
          clear HC8
          try clear c1
          try clear p2
          try clear c3
          try clear c3b0
          try clear c4
          try clear c5
          try clear c5b0
          try clear c6
          try clear c6b0
          try clear p6
          try clear p7
          try clear q7
          try clear hx7
          try clear c9
          try clear c9b0
          try clear c9b1
          try clear c10
          try clear c10b0
          try clear c10b1
          try clear p7
          try clear q7
          obtain ⟨kq, x21_7, rfl, HA, HJ7, ⟨mc7, rfl⟩⟩ := hcut
          cases kq with
          | zero => exact absurd HA.out (by simp [spec_l04Rune.j0])
          | succ kj7 =>
            have H := HA.out
            clear HA
            simp only [spec_l04Rune.j0] at H
            by_cases c11 : x21_7 = true
            · subst c11
              have H1 : (if 0 ≤ (wrap64 (a1 + 1)) then (if (wrap64 (a1 + 1)) < (a0.size : Int) then (some (wrap64 (bt a0 (wrap64 (a1 + 1))), wrap64 (a1 + 2))) else (none)) else (none)) = some (r1, r2) := by rw [if_pos rfl] at H; exact H
              clear H
              have H := H1
              clear H1
              obtain ⟨ji12, hji12⟩ : ∃ j_ : Int, (wrap64 (a1 + 1)) = j_ := ⟨_, rfl⟩
              replace H : (if 0 ≤ (ji12) then (if (ji12) < (a0.size : Int) then (some (wrap64 (bt a0 (ji12)), wrap64 (a1 + 2))) else (none)) else (none)) = some (r1, r2) := by first | (rw [hji12] at H; exact H) | (simp only [hji12] at H ⊢; exact H)
              (try rw [hji12] at c3b0)
              have hji12w : (IntKind.i64.wrap (a1 + 1)) = ji12 := (i64_w _).trans hji12
              (try (have HJo_ji4 := Aside0.mk hji4; clear hji4 hji4w))
              by_cases c13 : 0 ≤ (ji12)
              · rw [if_pos c13] at H
                have c13b0 : decide (0 ≤ (ji12)) = true := decide_eq_true c13
                clear c13
                by_cases c14 : (ji12) < (a0.size : Int)
                · rw [if_pos c14] at H
                  have c14b0 : decide ((ji12) < (a0.size : Int)) = true := decide_eq_true c14
                  clear c14
                  simp only [Option.some.injEq, Prod.mk.injEq] at H
                  obtain ⟨rfl, rfl⟩ := H
                  have p15 : 0 ≤ ((ji12) : Int) := of_decide_eq_true (by first | (with_reducible assumption) | assumption)
                  have q15 : (ji12) < (a0.size : Int) := of_decide_eq_true (by first | (with_reducible assumption) | assumption)
                  have hx15 := bt_at a0 (ji12)
                  replace p15 := eq_true p15
                  replace q15 := eq_true q15
                  go_wp2
                  go_ret2
                  exact ⟨by first | rfl | (simp; done) | (simp only [← hji4, ← hji12] <;> (first | rfl | (simp; done))) | (simp [*]; done), by repeat (first | exact Drawn0.refl _ | apply Drawn0.step)⟩
                · rw [if_neg c14] at H
                  exact absurd H (by simp)
              · rw [if_neg c13] at H
                exact absurd H (by simp)
            · replace c11 := Bool.eq_false_iff.mpr c11
              subst c11
              have H1 : (if (bt a0 (ji4)) = 98 then (some (8, wrap64 (a1 + 2))) else (if (bt a0 (ji4)) = 116 then (some (9, wrap64 (a1 + 2))) else (if (bt a0 (ji4)) = 110 then (some (10, wrap64 (a1 + 2))) else (if (bt a0 (ji4)) = 102 then (some (12, wrap64 (a1 + 2))) else (if (bt a0 (ji4)) = 114 then (some (13, wrap64 (a1 + 2))) else (if (bt a0 (ji4)) = 117 then (if (wrap64 (a1 + 2)) < (a0.size : Int) then (if 0 ≤ (wrap64 (a1 + 2)) then (spec_l04Rune.j1 kj7 a0 a1 ((bt a0 (wrap64 (a1 + 2))) == 123)) else (none)) else (spec_l04Rune.j1 kj7 a0 a1 false)) else (some ((-1), a1)))))))) = some (r1, r2) := by rw [if_neg (show ¬ (false = true) by decide)] at H; exact H
              clear H
              have H := H1
              clear H1
              by_cases c16 : (bt a0 (ji4)) = 98
              · rw [if_pos c16] at H
                have c16b0 : ((bt a0 (ji4)) == 98) = true := beq_iff_eq.mpr c16
                have c16b1 : ((bt a0 (ji4)) != 98) = false := bne_eq_false_iff_eq.mpr c16
                clear c16
                simp only [Option.some.injEq, Prod.mk.injEq] at H
                obtain ⟨rfl, rfl⟩ := H
                go_wp2
                go_ret2
                exact ⟨by first | rfl | (simp; done) | (simp only [← hji4] <;> (first | rfl | (simp; done))) | (simp [*]; done), by repeat (first | exact Drawn0.refl _ | apply Drawn0.step)⟩
              · rw [if_neg c16] at H
                have c16b0 : ((bt a0 (ji4)) == 98) = false := beq_eq_false_iff_ne.mpr c16
                have c16b1 : ((bt a0 (ji4)) != 98) = true := bne_iff_ne.mpr c16
                by_cases c17 : (bt a0 (ji4)) = 116
                · rw [if_pos c17] at H
                  have c17b0 : ((bt a0 (ji4)) == 116) = true := beq_iff_eq.mpr c17
                  have c17b1 : ((bt a0 (ji4)) != 116) = false := bne_eq_false_iff_eq.mpr c17
                  clear c17
                  simp only [Option.some.injEq, Prod.mk.injEq] at H
                  obtain ⟨rfl, rfl⟩ := H
                  go_wp2
                  go_ret2
                  exact ⟨by first | rfl | (simp; done) | (simp only [← hji4] <;> (first | rfl | (simp; done))) | (simp [*]; done), by repeat (first | exact Drawn0.refl _ | apply Drawn0.step)⟩
                · rw [if_neg c17] at H
                  have c17b0 : ((bt a0 (ji4)) == 116) = false := beq_eq_false_iff_ne.mpr c17
                  have c17b1 : ((bt a0 (ji4)) != 116) = true := bne_iff_ne.mpr c17
                  by_cases c18 : (bt a0 (ji4)) = 110
                  · rw [if_pos c18] at H
                    have c18b0 : ((bt a0 (ji4)) == 110) = true := beq_iff_eq.mpr c18
                    have c18b1 : ((bt a0 (ji4)) != 110) = false := bne_eq_false_iff_eq.mpr c18
                    clear c18
                    simp only [Option.some.injEq, Prod.mk.injEq] at H
                    obtain ⟨rfl, rfl⟩ := H
                    go_wp2
                    go_ret2
                    exact ⟨by first | rfl | (simp; done) | (simp only [← hji4] <;> (first | rfl | (simp; done))) | (simp [*]; done), by repeat (first | exact Drawn0.refl _ | apply Drawn0.step)⟩
                  · rw [if_neg c18] at H
                    have c18b0 : ((bt a0 (ji4)) == 110) = false := beq_eq_false_iff_ne.mpr c18
                    have c18b1 : ((bt a0 (ji4)) != 110) = true := bne_iff_ne.mpr c18
                    by_cases c19 : (bt a0 (ji4)) = 102
                    · rw [if_pos c19] at H
                      have c19b0 : ((bt a0 (ji4)) == 102) = true := beq_iff_eq.mpr c19
                      have c19b1 : ((bt a0 (ji4)) != 102) = false := bne_eq_false_iff_eq.mpr c19
                      clear c19
                      simp only [Option.some.injEq, Prod.mk.injEq] at H
                      obtain ⟨rfl, rfl⟩ := H
                      go_wp2
                      go_ret2
                      exact ⟨by first | rfl | (simp; done) | (simp only [← hji4] <;> (first | rfl | (simp; done))) | (simp [*]; done), by repeat (first | exact Drawn0.refl _ | apply Drawn0.step)⟩
                    · rw [if_neg c19] at H
                      have c19b0 : ((bt a0 (ji4)) == 102) = false := beq_eq_false_iff_ne.mpr c19
                      have c19b1 : ((bt a0 (ji4)) != 102) = true := bne_iff_ne.mpr c19
                      by_cases c20 : (bt a0 (ji4)) = 114
                      · rw [if_pos c20] at H
                        have c20b0 : ((bt a0 (ji4)) == 114) = true := beq_iff_eq.mpr c20
                        have c20b1 : ((bt a0 (ji4)) != 114) = false := bne_eq_false_iff_eq.mpr c20
                        clear c20
                        simp only [Option.some.injEq, Prod.mk.injEq] at H
                        obtain ⟨rfl, rfl⟩ := H
                        go_wp2
                        go_ret2
                        exact ⟨by first | rfl | (simp; done) | (simp only [← hji4] <;> (first | rfl | (simp; done))) | (simp [*]; done), by repeat (first | exact Drawn0.refl _ | apply Drawn0.step)⟩
                      · rw [if_neg c20] at H
                        have c20b0 : ((bt a0 (ji4)) == 114) = false := beq_eq_false_iff_ne.mpr c20
                        have c20b1 : ((bt a0 (ji4)) != 114) = true := bne_iff_ne.mpr c20
                        by_cases c21 : (bt a0 (ji4)) = 117
                        · rw [if_pos c21] at H
                          have c21b0 : ((bt a0 (ji4)) == 117) = true := beq_iff_eq.mpr c21
                          have c21b1 : ((bt a0 (ji4)) != 117) = false := bne_eq_false_iff_eq.mpr c21
                          clear c21
                          have HC22 := Aside0.mk H
                          clear H
                          go_upto_region 20 with (fail)
                          go_cut [65] (fun v65 wc => ∃ (kq : Nat) (x65_21 : Bool), v65 = .bool x65_21 ∧ Aside0 (spec_l04Rune.j1 kq a0 a1 x65_21 = some (r1, r2)) ∧ Aside0 (kq ≤ kj7) ∧ Drawn0 w wc)
                          case first =>
                            have H := HC22.out
                            clear HC22
                            by_cases c23 : (wrap64 (a1 + 2)) < (a0.size : Int)
                            · rw [if_pos c23] at H
                              have c23b0 : decide ((wrap64 (a1 + 2)) < (a0.size : Int)) = true := decide_eq_true c23
                              clear c23
                              (first | rw [c23b0] | (simp only [i64_w, i32_w]; rw [c23b0]) | skip)
                              obtain ⟨ji24, hji24⟩ : ∃ j_ : Int, (wrap64 (a1 + 2)) = j_ := ⟨_, rfl⟩
                              replace H : (if 0 ≤ (ji24) then (spec_l04Rune.j1 kj7 a0 a1 ((bt a0 (ji24)) == 123)) else (none)) = some (r1, r2) := by first | (rw [hji24] at H; exact H) | (simp only [hji24] at H ⊢; exact H)
                              (try rw [hji24] at c23b0)
                              have hji24w : (IntKind.i64.wrap (a1 + 2)) = ji24 := (i64_w _).trans hji24
                              by_cases c25 : 0 ≤ (ji24)
                              · rw [if_pos c25] at H
                                have c25b0 : decide (0 ≤ (ji24)) = true := decide_eq_true c25
                                clear c25
                                have H' := Aside0.mk H
                                clear H
                                have p26 : 0 ≤ ((ji24) : Int) := of_decide_eq_true (by first | (with_reducible assumption) | assumption)
                                have q26 : (ji24) < (a0.size : Int) := of_decide_eq_true (by first | (with_reducible assumption) | assumption)
                                have hx26 := bt_at a0 (ji24)
                                replace p26 := eq_true p26
                                replace q26 := eq_true q26
                                go_wp2
                                go_meet
                                case rel => exact ⟨_, (((bt a0 (ji24)) == 123)), (by first | rfl | (simp; done) | (simp only [← hji24] <;> (first | rfl | (simp; done))) | (simp [*]; done)), H', ⟨by have := HJ7.out; first | omega | exact Nat.le_refl _⟩, by repeat (first | exact Drawn0.refl _ | apply Drawn0.step)⟩
                              · rw [if_neg c25] at H
                                exact absurd H (by simp)
                            · rw [if_neg c23] at H
                              have c23b0 : decide ((wrap64 (a1 + 2)) < (a0.size : Int)) = false := decide_eq_false c23
                              clear c23
                              (first | rw [c23b0] | (simp only [i64_w, i32_w]; rw [c23b0]) | skip)
                              have H' := Aside0.mk H
                              clear H
                              go_wp2
                              go_meet
                              case rel => exact ⟨_, (false), (by first | rfl | (simp; done) | (simp [*]; done) | (simp [show ∀ l_ : List UInt8, (l_ != []) = !l_.isEmpty from fun l_ => by cases l_ <;> rfl, show ∀ l_ : List UInt8, (l_ == []) = l_.isEmpty from fun l_ => by cases l_ <;> rfl]; done)), H', ⟨by have := HJ7.out; first | omega | exact Nat.le_refl _⟩, by repeat (first | exact Drawn0.refl _ | apply Drawn0.step)⟩
                          case rest =>
                            clear HC22
                            try clear c1
                            try clear p1
                            try clear q1
                            try clear hx1
                            try clear c2
                            try clear p2
                            try clear q2
                            try clear hx2
                            try clear c3
                            try clear c3b0
                            try clear c4
                            try clear c5
                            try clear c5b0
                            try clear c6
                            try clear c6b0
                            try clear p6
                            try clear c7
                            try clear p7
                            try clear q7
                            try clear hx7
                            try clear c9
                            try clear c9b0
                            try clear c9b1
                            try clear c10
                            try clear c10b0
                            try clear c10b1
                            try clear c11
                            try clear c13
                            try clear c13b0
                            try clear c14
                            try clear c14b0
                            try clear p15
                            try clear q15
                            try clear hx15
                            try clear c16
                            try clear c16b0
                            try clear c16b1
                            try clear c17
                            try clear c17b0
                            try clear c17b1
                            try clear c18
                            try clear c18b0
                            try clear c18b1
                            try clear c19
                            try clear c19b0
                            try clear c19b1
                            try clear c20
                            try clear c20b0
                            try clear c20b1
                            try clear c21
                            try clear c21b0
                            try clear c21b1
                            try clear c23
                            try clear c23b0
                            try clear c25
                            try clear c25b0
                            try clear p26
                            try clear q26
                            try clear hx26
                            try clear p15
                            try clear p2
                            try clear p26
                            try clear p6
                            try clear p7
                            try clear q15
                            try clear q26
                            try clear q7
                            obtain ⟨kq, x65_21, rfl, HA, HJ21, ⟨mc21, rfl⟩⟩ := hcut
                            cases kq with
                            | zero => exact absurd HA.out (by simp [spec_l04Rune.j1])
                            | succ kj21 =>
                              have H := HA.out
                              clear HA
                              simp only [spec_l04Rune.j1] at H
                              by_cases c27 : x65_21 = true
                              · subst c27
                                have H1 : (spec_l04Rune.l0 kj21 a0 a1 (wrap64 (a1 + 3))) = some (r1, r2) := by rw [if_pos rfl] at H; exact H
                                clear H
                                have H := H1
                                clear H1
                                have HC28 := Aside0.mk H
                                clear H
                                go_upto_block 1 with (fail)
                                go_cut [6] (fun v6 wc => ∃ (kq : Nat) (x6_27 : Int), v6 = .int .i64 x6_27 ∧ Aside0 (spec_l04Rune.j3 kq a0 a1 x6_27 = some (r1, r2)) ∧ Aside0 (kq ≤ kj21) ∧ Drawn0 w wc)
                                case first =>
                                  have H := HC28.out
                                  clear HC28
                                  have H' := Aside0.mk H
                                  clear H
                                  go_wp2
                                  go_loopg [6] kj21 (fun kq v6 w' => ∃ (x6_3 : Int), v6 = .int .i64 x6_3 ∧ Aside0 (spec_l04Rune.l0 kq a0 a1 x6_3 = some (r1, r2)) ∧ Aside0 (kq ≤ kj21) ∧ Drawn0 w w')
                                  case atStart => exact ⟨(wrap64 (a1 + 3)), (by first | rfl | (simp; done) | (simp [*]; done) | (simp [show ∀ l_ : List UInt8, (l_ != []) = !l_.isEmpty from fun l_ => by cases l_ <;> rfl, show ∀ l_ : List UInt8, (l_ == []) = l_.isEmpty from fun l_ => by cases l_ <;> rfl]; done)), H', ⟨Nat.le_refl _⟩, by repeat (first | exact Drawn0.refl _ | apply Drawn0.step)⟩
                                  case round =>
                                    clear H'
                                    try clear c1
                                    try clear p1
                                    try clear q1
                                    try clear hx1
                                    try clear c2
                                    try clear p2
                                    try clear q2
                                    try clear hx2
                                    try clear c3
                                    try clear c3b0
                                    try clear c4
                                    try clear c5
                                    try clear c5b0
                                    try clear c6
                                    try clear c6b0
                                    try clear p6
                                    try clear c7
                                    try clear p7
                                    try clear q7
                                    try clear hx7
                                    try clear c9
                                    try clear c9b0
                                    try clear c9b1
                                    try clear c10
                                    try clear c10b0
                                    try clear c10b1
                                    try clear c11
                                    try clear c13
                                    try clear c13b0
                                    try clear c14
                                    try clear c14b0
                                    try clear p15
                                    try clear q15
                                    try clear hx15
                                    try clear c16
                                    try clear c16b0
                                    try clear c16b1
                                    try clear c17
                                    try clear c17b0
                                    try clear c17b1
                                    try clear c18
                                    try clear c18b0
                                    try clear c18b1
                                    try clear c19
                                    try clear c19b0
                                    try clear c19b1
                                    try clear c20
                                    try clear c20b0
                                    try clear c20b1
                                    try clear c21
                                    try clear c21b0
                                    try clear c21b1
                                    try clear c23
                                    try clear c23b0
                                    try clear c25
                                    try clear c25b0
                                    try clear p26
                                    try clear q26
                                    try clear hx26
                                    try clear c27
                                    try clear p1
                                    try clear p15
                                    try clear p2
                                    try clear p26
                                    try clear p6
                                    try clear p7
                                    try clear q1
                                    try clear q15
                                    try clear q2
                                    try clear q26
                                    try clear q7
                                    obtain ⟨x6_3, rfl, HA, HK3, ⟨m3, rfl⟩⟩ := hrel
                                    cases gk with
                                    | zero => exact absurd HA.out (by simp [spec_l04Rune.l0])
                                    | succ k3 =>
                                      have H := HA.out
                                      clear HA
                                      simp only [spec_l04Rune.l0] at H
                                      by_cases c29 : x6_3 < (a0.size : Int)
                                      · rw [if_pos c29] at H
                                        have c29b0 : decide (x6_3 < (a0.size : Int)) = true := decide_eq_true c29
                                        clear c29
                                        (first | rw [c29b0] | (simp only [i64_w, i32_w]; rw [c29b0]) | skip)
                                        by_cases c30 : x6_3 < (wrap64 (a1 + 10))
                                        · rw [if_pos c30] at H
                                          have c30b0 : decide (x6_3 < (wrap64 (a1 + 10))) = true := decide_eq_true c30
                                          clear c30
                                          by_cases c31 : 0 ≤ x6_3
                                          · rw [if_pos c31] at H
                                            have c31b0 : decide (0 ≤ x6_3) = true := decide_eq_true c31
                                            clear c31
                                            replace H := Option.bind_eq_some_iff.mp H
                                            obtain ⟨t119, A330, H⟩ := H
                                            replace H : (if t119 ≥ 0 then (spec_l04Rune.l0 k3 a0 a1 (wrap64 (x6_3 + 1))) else (spec_l04Rune.j3 k3 a0 a1 x6_3)) = some (r1, r2) := H
                                            have A33 := Aside0.mk A330
                                            clear A330
                                            by_cases c34 : t119 ≥ 0
                                            · rw [if_pos c34] at H
                                              have c34b0 : decide (0 ≤ t119) = true := decide_eq_true c34
                                              clear c34
                                              have H' := Aside0.mk H
                                              clear H
                                              have p32 : 0 ≤ (x6_3 : Int) := of_decide_eq_true (by first | (with_reducible assumption) | assumption)
                                              have q32 : x6_3 < (a0.size : Int) := of_decide_eq_true (by first | (with_reducible assumption) | assumption)
                                              have hx32 := bt_at a0 x6_3
                                              replace p32 := eq_true p32
                                              replace q32 := eq_true q32
                                              go_wp2_with (first | (go_at_call 56; (with_reducible refine (spec_l04Digit.calls k3 (bt a0 x6_3) t119 _ A33.out).mono ?_); rintro e w' ⟨rfl, ⟨nd, rfl⟩⟩))
                                              go_roundg k3
                                              case measure => have := HJ7.out; have := HJ21.out; have := HK3.out; omega
                                              case rel => exact ⟨(wrap64 (x6_3 + 1)), (by first | rfl | (simp; done) | (simp [*]; done) | (simp [show ∀ l_ : List UInt8, (l_ != []) = !l_.isEmpty from fun l_ => by cases l_ <;> rfl, show ∀ l_ : List UInt8, (l_ == []) = l_.isEmpty from fun l_ => by cases l_ <;> rfl]; done)), H', ⟨by have := HJ7.out; have := HJ21.out; have := HK3.out; omega⟩, by repeat (first | exact Drawn0.refl _ | apply Drawn0.step)⟩
                                            · rw [if_neg c34] at H
                                              have c34b0 : decide (0 ≤ t119) = false := decide_eq_false c34
                                              clear c34
                                              have H' := Aside0.mk H
                                              clear H
                                              have p32 : 0 ≤ (x6_3 : Int) := of_decide_eq_true (by first | (with_reducible assumption) | assumption)
                                              have q32 : x6_3 < (a0.size : Int) := of_decide_eq_true (by first | (with_reducible assumption) | assumption)
                                              have hx32 := bt_at a0 x6_3
                                              replace p32 := eq_true p32
                                              replace q32 := eq_true q32
                                              go_wp2_with (first | (go_at_call 56; (with_reducible refine (spec_l04Digit.calls k3 (bt a0 x6_3) t119 _ A33.out).mono ?_); rintro e w' ⟨rfl, ⟨nd, rfl⟩⟩))
                                              go_meet
                                              case rel => exact ⟨_, (x6_3), (by first | rfl | (simp; done) | (simp [*]; done) | (simp [show ∀ l_ : List UInt8, (l_ != []) = !l_.isEmpty from fun l_ => by cases l_ <;> rfl, show ∀ l_ : List UInt8, (l_ == []) = l_.isEmpty from fun l_ => by cases l_ <;> rfl]; done)), H', ⟨by have := HJ7.out; have := HJ21.out; have := HK3.out; first | omega | exact Nat.le_refl _⟩, by repeat (first | exact Drawn0.refl _ | apply Drawn0.step)⟩
                                          · rw [if_neg c31] at H
                                            exact absurd H (by simp)
                                        · rw [if_neg c30] at H
                                          have c30b0 : decide (x6_3 < (wrap64 (a1 + 10))) = false := decide_eq_false c30
                                          clear c30
                                          have H' := Aside0.mk H
                                          clear H
                                          go_wp2
                                          go_meet
                                          case rel => exact ⟨_, (x6_3), (by first | rfl | (simp; done) | (simp [*]; done) | (simp [show ∀ l_ : List UInt8, (l_ != []) = !l_.isEmpty from fun l_ => by cases l_ <;> rfl, show ∀ l_ : List UInt8, (l_ == []) = l_.isEmpty from fun l_ => by cases l_ <;> rfl]; done)), H', ⟨by have := HJ7.out; have := HJ21.out; have := HK3.out; first | omega | exact Nat.le_refl _⟩, by repeat (first | exact Drawn0.refl _ | apply Drawn0.step)⟩
                                      · rw [if_neg c29] at H
                                        have c29b0 : decide (x6_3 < (a0.size : Int)) = false := decide_eq_false c29
                                        clear c29
                                        (first | rw [c29b0] | (simp only [i64_w, i32_w]; rw [c29b0]) | skip)
                                        have H' := Aside0.mk H
                                        clear H
                                        go_wp2
                                        go_meet
                                        case rel => exact ⟨_, (x6_3), (by first | rfl | (simp; done) | (simp [*]; done) | (simp [show ∀ l_ : List UInt8, (l_ != []) = !l_.isEmpty from fun l_ => by cases l_ <;> rfl, show ∀ l_ : List UInt8, (l_ == []) = l_.isEmpty from fun l_ => by cases l_ <;> rfl]; done)), H', ⟨by have := HJ7.out; have := HJ21.out; have := HK3.out; first | omega | exact Nat.le_refl _⟩, by repeat (first | exact Drawn0.refl _ | apply Drawn0.step)⟩
                                case rest =>
                                  clear HC28
                                  try clear c1
                                  try clear p1
                                  try clear q1
                                  try clear hx1
                                  try clear c2
                                  try clear p2
                                  try clear q2
                                  try clear hx2
                                  try clear c3
                                  try clear c3b0
                                  try clear p3
                                  try clear q3
                                  try clear hx3
                                  try clear c4
                                  try clear c5
                                  try clear c5b0
                                  try clear c6
                                  try clear c6b0
                                  try clear p6
                                  try clear c7
                                  try clear p7
                                  try clear q7
                                  try clear hx7
                                  try clear c9
                                  try clear c9b0
                                  try clear c9b1
                                  try clear c10
                                  try clear c10b0
                                  try clear c10b1
                                  try clear c11
                                  try clear c13
                                  try clear c13b0
                                  try clear c14
                                  try clear c14b0
                                  try clear p15
                                  try clear q15
                                  try clear hx15
                                  try clear c16
                                  try clear c16b0
                                  try clear c16b1
                                  try clear c17
                                  try clear c17b0
                                  try clear c17b1
                                  try clear c18
                                  try clear c18b0
                                  try clear c18b1
                                  try clear c19
                                  try clear c19b0
                                  try clear c19b1
                                  try clear c20
                                  try clear c20b0
                                  try clear c20b1
                                  try clear c21
                                  try clear c21b0
                                  try clear c21b1
                                  try clear c23
                                  try clear c23b0
                                  try clear c25
                                  try clear c25b0
                                  try clear p26
                                  try clear q26
                                  try clear hx26
                                  try clear c27
                                  try clear c29
                                  try clear c29b0
                                  try clear c30
                                  try clear c30b0
                                  try clear c31
                                  try clear c31b0
                                  try clear p32
                                  try clear q32
                                  try clear hx32
                                  try clear c34
                                  try clear c34b0
                                  try clear p1
                                  try clear p15
                                  try clear p2
                                  try clear p26
                                  try clear p32
                                  try clear p6
                                  try clear p7
                                  try clear q1
                                  try clear q15
                                  try clear q2
                                  try clear q26
                                  try clear q32
                                  try clear q7
                                  obtain ⟨kq, x6_27, rfl, HA, HJ27, ⟨mc27, rfl⟩⟩ := hcut
                                  cases kq with
                                  | zero => exact absurd HA.out (by simp [spec_l04Rune.j3])
                                  | succ kj27 =>
                                    have H := HA.out
                                    clear HA
                                    simp only [spec_l04Rune.j3] at H
                                    replace H := Option.bind_eq_some_iff.mp H
                                    obtain ⟨t120, A350, H⟩ := H
                                    replace H : (if x6_27 = (wrap64 (a1 + 3)) then (some ((-1), a1)) else (if x6_27 > (wrap64 (a1 + 9)) then (some ((-1), a1)) else (if x6_27 ≥ (a0.size : Int) then (some ((-1), a1)) else (if 0 ≤ x6_27 then (if x6_27 < (a0.size : Int) then (if (bt a0 x6_27) = 125 then ((spec_l02Scalar.f t120).bind fun t121 => (if t121 = true then (some (t120, wrap64 (x6_27 + 1))) else (some ((-1), a1)))) else (some ((-1), a1))) else (none)) else (none))))) = some (r1, r2) := H
                                    have A35 := Aside0.mk A350
                                    clear A350
                                    by_cases c36 : x6_27 = (wrap64 (a1 + 3))
                                    · rw [if_pos c36] at H
                                      have c36b0 : (x6_27 == (wrap64 (a1 + 3))) = true := beq_iff_eq.mpr c36
                                      have c36b1 : (x6_27 != (wrap64 (a1 + 3))) = false := bne_eq_false_iff_eq.mpr c36
                                      clear c36
                                      simp only [Option.some.injEq, Prod.mk.injEq] at H
                                      obtain ⟨rfl, rfl⟩ := H
                                      go_wp2_with (first | ((with_reducible refine gate_callee (f := 57) rfl ?_); refine goesL_ (some 91) rfl rfl Tryd.func57 (by kernel_rfl) rfl #[.string a0, .int .i64 (wrap64 (a1 + 3)), .int .i64 x6_27] rfl (by (try simp only [List.map_toArray, List.map_cons, List.map_nil]); first | done | rfl | (simp only [List.length_drop, List.length_take]; rfl)) ?_; (with_reducible refine (spec_l04Num.calls kj27 a0 (wrap64 (a1 + 3)) x6_27 t120 _ A35.out).mono ?_); rintro e w' ⟨rfl, ⟨nd, rfl⟩⟩; refine ⟨_, rfl, ?_⟩))
                                      go_ret2
                                      exact ⟨by first | rfl | (simp; done) | (simp only [← hji4] <;> (first | rfl | (simp; done))) | (simp [*]; done), by repeat (first | exact Drawn0.refl _ | apply Drawn0.step)⟩
                                    · rw [if_neg c36] at H
                                      have c36b0 : (x6_27 == (wrap64 (a1 + 3))) = false := beq_eq_false_iff_ne.mpr c36
                                      have c36b1 : (x6_27 != (wrap64 (a1 + 3))) = true := bne_iff_ne.mpr c36
                                      by_cases c37 : x6_27 > (wrap64 (a1 + 9))
                                      · rw [if_pos c37] at H
                                        have c37b0 : decide ((wrap64 (a1 + 9)) < x6_27) = true := decide_eq_true c37
                                        clear c37
                                        simp only [Option.some.injEq, Prod.mk.injEq] at H
                                        obtain ⟨rfl, rfl⟩ := H
                                        go_wp2_with (first | ((with_reducible refine gate_callee (f := 57) rfl ?_); refine goesL_ (some 91) rfl rfl Tryd.func57 (by kernel_rfl) rfl #[.string a0, .int .i64 (wrap64 (a1 + 3)), .int .i64 x6_27] rfl (by (try simp only [List.map_toArray, List.map_cons, List.map_nil]); first | done | rfl | (simp only [List.length_drop, List.length_take]; rfl)) ?_; (with_reducible refine (spec_l04Num.calls kj27 a0 (wrap64 (a1 + 3)) x6_27 t120 _ A35.out).mono ?_); rintro e w' ⟨rfl, ⟨nd, rfl⟩⟩; refine ⟨_, rfl, ?_⟩))
                                        go_ret2
                                        exact ⟨by first | rfl | (simp; done) | (simp only [← hji4] <;> (first | rfl | (simp; done))) | (simp [*]; done), by repeat (first | exact Drawn0.refl _ | apply Drawn0.step)⟩
                                      · rw [if_neg c37] at H
                                        have c37b0 : decide ((wrap64 (a1 + 9)) < x6_27) = false := decide_eq_false c37
                                        clear c37
                                        by_cases c38 : x6_27 ≥ (a0.size : Int)
                                        · rw [if_pos c38] at H
                                          have c38b0 : decide ((a0.size : Int) ≤ x6_27) = true := decide_eq_true c38
                                          clear c38
                                          simp only [Option.some.injEq, Prod.mk.injEq] at H
                                          obtain ⟨rfl, rfl⟩ := H
                                          go_wp2_with (first | ((with_reducible refine gate_callee (f := 57) rfl ?_); refine goesL_ (some 91) rfl rfl Tryd.func57 (by kernel_rfl) rfl #[.string a0, .int .i64 (wrap64 (a1 + 3)), .int .i64 x6_27] rfl (by (try simp only [List.map_toArray, List.map_cons, List.map_nil]); first | done | rfl | (simp only [List.length_drop, List.length_take]; rfl)) ?_; (with_reducible refine (spec_l04Num.calls kj27 a0 (wrap64 (a1 + 3)) x6_27 t120 _ A35.out).mono ?_); rintro e w' ⟨rfl, ⟨nd, rfl⟩⟩; refine ⟨_, rfl, ?_⟩))
                                          go_ret2
                                          exact ⟨by first | rfl | (simp; done) | (simp only [← hji4] <;> (first | rfl | (simp; done))) | (simp [*]; done), by repeat (first | exact Drawn0.refl _ | apply Drawn0.step)⟩
                                        · rw [if_neg c38] at H
                                          have c38b0 : decide ((a0.size : Int) ≤ x6_27) = false := decide_eq_false c38
                                          clear c38
                                          by_cases c39 : 0 ≤ x6_27
                                          · rw [if_pos c39] at H
                                            have c39b0 : decide (0 ≤ x6_27) = true := decide_eq_true c39
                                            clear c39
                                            by_cases c40 : x6_27 < (a0.size : Int)
                                            · rw [if_pos c40] at H
                                              have c40b0 : decide (x6_27 < (a0.size : Int)) = true := decide_eq_true c40
                                              clear c40
                                              by_cases c42 : (bt a0 x6_27) = 125
                                              · rw [if_pos c42] at H
                                                have c42b0 : ((bt a0 x6_27) == 125) = true := beq_iff_eq.mpr c42
                                                have c42b1 : ((bt a0 x6_27) != 125) = false := bne_eq_false_iff_eq.mpr c42
                                                clear c42
                                                replace H := Option.bind_eq_some_iff.mp H
                                                obtain ⟨t121, A430, H⟩ := H
                                                replace H : (if t121 = true then (some (t120, wrap64 (x6_27 + 1))) else (some ((-1), a1))) = some (r1, r2) := H
                                                have A43 := Aside0.mk A430
                                                clear A430
                                                by_cases c44 : t121 = true
                                                · subst c44
                                                  have H1 : (some (t120, wrap64 (x6_27 + 1))) = some (r1, r2) := by rw [if_pos rfl] at H; exact H
                                                  clear H
                                                  have H := H1
                                                  clear H1
                                                  simp only [Option.some.injEq, Prod.mk.injEq] at H
                                                  obtain ⟨rfl, rfl⟩ := H
                                                  go_wp2_with (first | ((with_reducible refine gate_callee (f := 57) rfl ?_); refine goesL_ (some 91) rfl rfl Tryd.func57 (by kernel_rfl) rfl #[.string a0, .int .i64 (wrap64 (a1 + 3)), .int .i64 x6_27] rfl (by (try simp only [List.map_toArray, List.map_cons, List.map_nil]); first | done | rfl | (simp only [List.length_drop, List.length_take]; rfl)) ?_; (with_reducible refine (spec_l04Num.calls kj27 a0 (wrap64 (a1 + 3)) x6_27 t120 _ A35.out).mono ?_); rintro e w' ⟨rfl, ⟨nd, rfl⟩⟩; refine ⟨_, rfl, ?_⟩; have p41 : 0 ≤ (x6_27 : Int) := of_decide_eq_true (by first | (with_reducible assumption) | assumption); have q41 : x6_27 < (a0.size : Int) := of_decide_eq_true (by first | (with_reducible assumption) | assumption); have hx41 := bt_at a0 x6_27; replace p41 := eq_true p41; replace q41 := eq_true q41) | (go_at_call 50; (with_reducible refine (spec_l02Scalar.calls t120 true _ A43.out).mono ?_); rintro e w' ⟨rfl, ⟨nd, rfl⟩⟩))
                                                  go_ret2
                                                  exact ⟨by first | rfl | (simp; done) | (simp only [← hji4] <;> (first | rfl | (simp; done))) | (simp [*]; done), by repeat (first | exact Drawn0.refl _ | apply Drawn0.step)⟩
                                                · replace c44 := Bool.eq_false_iff.mpr c44
                                                  subst c44
                                                  have H1 : (some ((-1), a1)) = some (r1, r2) := by rw [if_neg (show ¬ (false = true) by decide)] at H; exact H
                                                  clear H
                                                  have H := H1
                                                  clear H1
                                                  simp only [Option.some.injEq, Prod.mk.injEq] at H
                                                  obtain ⟨rfl, rfl⟩ := H
                                                  go_wp2_with (first | ((with_reducible refine gate_callee (f := 57) rfl ?_); refine goesL_ (some 91) rfl rfl Tryd.func57 (by kernel_rfl) rfl #[.string a0, .int .i64 (wrap64 (a1 + 3)), .int .i64 x6_27] rfl (by (try simp only [List.map_toArray, List.map_cons, List.map_nil]); first | done | rfl | (simp only [List.length_drop, List.length_take]; rfl)) ?_; (with_reducible refine (spec_l04Num.calls kj27 a0 (wrap64 (a1 + 3)) x6_27 t120 _ A35.out).mono ?_); rintro e w' ⟨rfl, ⟨nd, rfl⟩⟩; refine ⟨_, rfl, ?_⟩; have p41 : 0 ≤ (x6_27 : Int) := of_decide_eq_true (by first | (with_reducible assumption) | assumption); have q41 : x6_27 < (a0.size : Int) := of_decide_eq_true (by first | (with_reducible assumption) | assumption); have hx41 := bt_at a0 x6_27; replace p41 := eq_true p41; replace q41 := eq_true q41) | (go_at_call 50; (with_reducible refine (spec_l02Scalar.calls t120 false _ A43.out).mono ?_); rintro e w' ⟨rfl, ⟨nd, rfl⟩⟩))
                                                  go_ret2
                                                  exact ⟨by first | rfl | (simp; done) | (simp only [← hji4] <;> (first | rfl | (simp; done))) | (simp [*]; done), by repeat (first | exact Drawn0.refl _ | apply Drawn0.step)⟩
                                              · rw [if_neg c42] at H
                                                have c42b0 : ((bt a0 x6_27) == 125) = false := beq_eq_false_iff_ne.mpr c42
                                                have c42b1 : ((bt a0 x6_27) != 125) = true := bne_iff_ne.mpr c42
                                                simp only [Option.some.injEq, Prod.mk.injEq] at H
                                                obtain ⟨rfl, rfl⟩ := H
                                                go_wp2_with (first | ((with_reducible refine gate_callee (f := 57) rfl ?_); refine goesL_ (some 91) rfl rfl Tryd.func57 (by kernel_rfl) rfl #[.string a0, .int .i64 (wrap64 (a1 + 3)), .int .i64 x6_27] rfl (by (try simp only [List.map_toArray, List.map_cons, List.map_nil]); first | done | rfl | (simp only [List.length_drop, List.length_take]; rfl)) ?_; (with_reducible refine (spec_l04Num.calls kj27 a0 (wrap64 (a1 + 3)) x6_27 t120 _ A35.out).mono ?_); rintro e w' ⟨rfl, ⟨nd, rfl⟩⟩; refine ⟨_, rfl, ?_⟩; have p41 : 0 ≤ (x6_27 : Int) := of_decide_eq_true (by first | (with_reducible assumption) | assumption); have q41 : x6_27 < (a0.size : Int) := of_decide_eq_true (by first | (with_reducible assumption) | assumption); have hx41 := bt_at a0 x6_27; replace p41 := eq_true p41; replace q41 := eq_true q41))
                                                go_ret2
                                                exact ⟨by first | rfl | (simp; done) | (simp only [← hji4] <;> (first | rfl | (simp; done))) | (simp [*]; done), by repeat (first | exact Drawn0.refl _ | apply Drawn0.step)⟩
                                            · rw [if_neg c40] at H
                                              exact absurd H (by simp)
                                          · rw [if_neg c39] at H
                                            exact absurd H (by simp)
                              · replace c27 := Bool.eq_false_iff.mpr c27
                                subst c27
                                have H1 : ((spec_l04Num.f kj21 a0 (wrap64 (a1 + 2)) (wrap64 (a1 + 6))).bind fun t122 => (if t122 < 0 then (some ((-1), a1)) else ((spec_l01In.f t122 55296 56319).bind fun t123 => (if t123 = true then (if (wrap64 (a1 + 7)) < (a0.size : Int) then (if 0 ≤ (wrap64 (a1 + 6)) then (if (wrap64 (a1 + 6)) < (a0.size : Int) then (if (bt a0 (wrap64 (a1 + 6))) = 92 then (if 0 ≤ (wrap64 (a1 + 7)) then (spec_l04Rune.j4 kj21 a0 a1 t122 ((bt a0 (wrap64 (a1 + 7))) == 117)) else (none)) else (spec_l04Rune.j4 kj21 a0 a1 t122 false)) else (none)) else (none)) else (spec_l04Rune.j4 kj21 a0 a1 t122 false)) else (spec_l04Rune.j4 kj21 a0 a1 t122 false))))) = some (r1, r2) := by rw [if_neg (show ¬ (false = true) by decide)] at H; exact H
                                clear H
                                have H := H1
                                clear H1
                                replace H := Option.bind_eq_some_iff.mp H
                                obtain ⟨t122, A450, H⟩ := H
                                replace H : (if t122 < 0 then (some ((-1), a1)) else ((spec_l01In.f t122 55296 56319).bind fun t123 => (if t123 = true then (if (wrap64 (a1 + 7)) < (a0.size : Int) then (if 0 ≤ (wrap64 (a1 + 6)) then (if (wrap64 (a1 + 6)) < (a0.size : Int) then (if (bt a0 (wrap64 (a1 + 6))) = 92 then (if 0 ≤ (wrap64 (a1 + 7)) then (spec_l04Rune.j4 kj21 a0 a1 t122 ((bt a0 (wrap64 (a1 + 7))) == 117)) else (none)) else (spec_l04Rune.j4 kj21 a0 a1 t122 false)) else (none)) else (none)) else (spec_l04Rune.j4 kj21 a0 a1 t122 false)) else (spec_l04Rune.j4 kj21 a0 a1 t122 false)))) = some (r1, r2) := H
                                have A45 := Aside0.mk A450
                                clear A450
                                by_cases c46 : t122 < 0
                                · rw [if_pos c46] at H
                                  have c46b0 : decide (t122 < 0) = true := decide_eq_true c46
                                  clear c46
                                  simp only [Option.some.injEq, Prod.mk.injEq] at H
                                  obtain ⟨rfl, rfl⟩ := H
                                  go_wp2_with (first | ((with_reducible refine gate_callee (f := 57) rfl ?_); refine goesL_ (some 128) rfl rfl Tryd.func57 (by kernel_rfl) rfl #[.string a0, .int .i64 (wrap64 (a1 + 2)), .int .i64 (wrap64 (a1 + 6))] rfl (by (try simp only [List.map_toArray, List.map_cons, List.map_nil]); first | done | rfl | (simp only [List.length_drop, List.length_take]; rfl)) ?_; (with_reducible refine (spec_l04Num.calls kj21 a0 (wrap64 (a1 + 2)) (wrap64 (a1 + 6)) t122 _ A45.out).mono ?_); rintro e w' ⟨rfl, ⟨nd, rfl⟩⟩; refine ⟨_, rfl, ?_⟩))
                                  go_ret2
                                  exact ⟨by first | rfl | (simp; done) | (simp only [← hji4] <;> (first | rfl | (simp; done))) | (simp [*]; done), by repeat (first | exact Drawn0.refl _ | apply Drawn0.step)⟩
                                · rw [if_neg c46] at H
                                  have c46b0 : decide (t122 < 0) = false := decide_eq_false c46
                                  clear c46
                                  have HC47 := Aside0.mk H
                                  clear H
                                  go_upto_region 31 with (first | ((with_reducible refine gate_callee (f := 57) rfl ?_); refine goesL_ (some 128) rfl rfl Tryd.func57 (by kernel_rfl) rfl #[.string a0, .int .i64 (wrap64 (a1 + 2)), .int .i64 (wrap64 (a1 + 6))] rfl (by (try simp only [List.map_toArray, List.map_cons, List.map_nil]); first | done | rfl | (simp only [List.length_drop, List.length_take]; rfl)) ?_; (with_reducible refine (spec_l04Num.calls kj21 a0 (wrap64 (a1 + 2)) (wrap64 (a1 + 6)) t122 _ A45.out).mono ?_); rintro e w' ⟨rfl, ⟨nd, rfl⟩⟩; refine ⟨_, rfl, ?_⟩))
                                  (try simp only [Act.put, List.setIfInBounds_toArray, List.set_cons_zero, List.set_cons_succ])
                                  go_cut [154] (fun v154 wc => ∃ (kq : Nat) (x154_46 : Bool), v154 = .bool x154_46 ∧ Aside0 (spec_l04Rune.j4 kq a0 a1 t122 x154_46 = some (r1, r2)) ∧ Aside0 (kq ≤ kj21) ∧ Drawn0 w wc)
                                  case first =>
                                    have H := HC47.out
                                    clear HC47
                                    replace H := Option.bind_eq_some_iff.mp H
                                    obtain ⟨t123, A480, H⟩ := H
                                    replace H : (if t123 = true then (if (wrap64 (a1 + 7)) < (a0.size : Int) then (if 0 ≤ (wrap64 (a1 + 6)) then (if (wrap64 (a1 + 6)) < (a0.size : Int) then (if (bt a0 (wrap64 (a1 + 6))) = 92 then (if 0 ≤ (wrap64 (a1 + 7)) then (spec_l04Rune.j4 kj21 a0 a1 t122 ((bt a0 (wrap64 (a1 + 7))) == 117)) else (none)) else (spec_l04Rune.j4 kj21 a0 a1 t122 false)) else (none)) else (none)) else (spec_l04Rune.j4 kj21 a0 a1 t122 false)) else (spec_l04Rune.j4 kj21 a0 a1 t122 false)) = some (r1, r2) := H
                                    have A48 := Aside0.mk A480
                                    clear A480
                                    by_cases c49 : t123 = true
                                    · subst c49
                                      have H1 : (if (wrap64 (a1 + 7)) < (a0.size : Int) then (if 0 ≤ (wrap64 (a1 + 6)) then (if (wrap64 (a1 + 6)) < (a0.size : Int) then (if (bt a0 (wrap64 (a1 + 6))) = 92 then (if 0 ≤ (wrap64 (a1 + 7)) then (spec_l04Rune.j4 kj21 a0 a1 t122 ((bt a0 (wrap64 (a1 + 7))) == 117)) else (none)) else (spec_l04Rune.j4 kj21 a0 a1 t122 false)) else (none)) else (none)) else (spec_l04Rune.j4 kj21 a0 a1 t122 false)) = some (r1, r2) := by rw [if_pos rfl] at H; exact H
                                      clear H
                                      have H := H1
                                      clear H1
                                      by_cases c50 : (wrap64 (a1 + 7)) < (a0.size : Int)
                                      · rw [if_pos c50] at H
                                        have c50b0 : decide ((wrap64 (a1 + 7)) < (a0.size : Int)) = true := decide_eq_true c50
                                        clear c50
                                        (first | rw [c50b0] | (simp only [i64_w, i32_w]; rw [c50b0]) | skip)
                                        obtain ⟨ji51, hji51⟩ : ∃ j_ : Int, (wrap64 (a1 + 6)) = j_ := ⟨_, rfl⟩
                                        replace H : (if 0 ≤ (ji51) then (if (ji51) < (a0.size : Int) then (if (bt a0 (ji51)) = 92 then (if 0 ≤ (wrap64 (a1 + 7)) then (spec_l04Rune.j4 kj21 a0 a1 t122 ((bt a0 (wrap64 (a1 + 7))) == 117)) else (none)) else (spec_l04Rune.j4 kj21 a0 a1 t122 false)) else (none)) else (none)) = some (r1, r2) := by first | (rw [hji51] at H; exact H) | (simp only [hji51] at H ⊢; exact H)
                                        (try rw [hji51] at A48)
                                        have hji51w : (IntKind.i64.wrap (a1 + 6)) = ji51 := (i64_w _).trans hji51
                                        by_cases c52 : 0 ≤ (ji51)
                                        · rw [if_pos c52] at H
                                          have c52b0 : decide (0 ≤ (ji51)) = true := decide_eq_true c52
                                          clear c52
                                          by_cases c53 : (ji51) < (a0.size : Int)
                                          · rw [if_pos c53] at H
                                            have c53b0 : decide ((ji51) < (a0.size : Int)) = true := decide_eq_true c53
                                            clear c53
                                            by_cases c55 : (bt a0 (ji51)) = 92
                                            · rw [if_pos c55] at H
                                              have c55b0 : ((bt a0 (ji51)) == 92) = true := beq_iff_eq.mpr c55
                                              have c55b1 : ((bt a0 (ji51)) != 92) = false := bne_eq_false_iff_eq.mpr c55
                                              clear c55
                                              obtain ⟨ji56, hji56⟩ : ∃ j_ : Int, (wrap64 (a1 + 7)) = j_ := ⟨_, rfl⟩
                                              replace H : (if 0 ≤ (ji56) then (spec_l04Rune.j4 kj21 a0 a1 t122 ((bt a0 (ji56)) == 117)) else (none)) = some (r1, r2) := by first | (rw [hji56] at H; exact H) | (simp only [hji56] at H ⊢; exact H)
                                              (try rw [hji56] at c50b0)
                                              (try rw [hji56] at A48)
                                              have hji56w : (IntKind.i64.wrap (a1 + 7)) = ji56 := (i64_w _).trans hji56
                                              by_cases c57 : 0 ≤ (ji56)
                                              · rw [if_pos c57] at H
                                                have c57b0 : decide (0 ≤ (ji56)) = true := decide_eq_true c57
                                                clear c57
                                                have H' := Aside0.mk H
                                                clear H
                                                go_wp2_with (first | ((with_reducible refine gate_callee (f := 58) rfl ?_); refine goesL_ (some 133) rfl rfl Tryd.func58 (by kernel_rfl) rfl #[.int .i64 t122, .int .i64 55296, .int .i64 56319] rfl (by (try simp only [List.map_toArray, List.map_cons, List.map_nil]); first | done | rfl | (simp only [List.length_drop, List.length_take]; rfl)) ?_; (with_reducible refine (spec_l01In.calls t122 55296 56319 true _ A48.out).mono ?_); rintro e w' ⟨rfl, ⟨nd, rfl⟩⟩; refine ⟨_, rfl, ?_⟩; have p54 : 0 ≤ ((ji51) : Int) := of_decide_eq_true (by first | (with_reducible assumption) | assumption); have q54 : (ji51) < (a0.size : Int) := of_decide_eq_true (by first | (with_reducible assumption) | assumption); have hx54 := bt_at a0 (ji51); replace p54 := eq_true p54; replace q54 := eq_true q54; have p58 : 0 ≤ ((ji56) : Int) := of_decide_eq_true (by first | (with_reducible assumption) | assumption); have q58 : (ji56) < (a0.size : Int) := of_decide_eq_true (by first | (with_reducible assumption) | assumption); have hx58 := bt_at a0 (ji56); replace p58 := eq_true p58; replace q58 := eq_true q58))
                                                go_meet
                                                case rel => exact ⟨_, (((bt a0 (ji56)) == 117)), (by first | rfl | (simp; done) | (simp only [← hji56] <;> (first | rfl | (simp; done))) | (simp [*]; done)), H', ⟨by have := HJ7.out; have := HJ21.out; first | omega | exact Nat.le_refl _⟩, by repeat (first | exact Drawn0.refl _ | apply Drawn0.step)⟩
                                              · rw [if_neg c57] at H
                                                exact absurd H (by simp)
                                            · rw [if_neg c55] at H
                                              have c55b0 : ((bt a0 (ji51)) == 92) = false := beq_eq_false_iff_ne.mpr c55
                                              have c55b1 : ((bt a0 (ji51)) != 92) = true := bne_iff_ne.mpr c55
                                              have H' := Aside0.mk H
                                              clear H
                                              go_wp2_with (first | ((with_reducible refine gate_callee (f := 58) rfl ?_); refine goesL_ (some 133) rfl rfl Tryd.func58 (by kernel_rfl) rfl #[.int .i64 t122, .int .i64 55296, .int .i64 56319] rfl (by (try simp only [List.map_toArray, List.map_cons, List.map_nil]); first | done | rfl | (simp only [List.length_drop, List.length_take]; rfl)) ?_; (with_reducible refine (spec_l01In.calls t122 55296 56319 true _ A48.out).mono ?_); rintro e w' ⟨rfl, ⟨nd, rfl⟩⟩; refine ⟨_, rfl, ?_⟩; have p54 : 0 ≤ ((ji51) : Int) := of_decide_eq_true (by first | (with_reducible assumption) | assumption); have q54 : (ji51) < (a0.size : Int) := of_decide_eq_true (by first | (with_reducible assumption) | assumption); have hx54 := bt_at a0 (ji51); replace p54 := eq_true p54; replace q54 := eq_true q54))
                                              go_meet
                                              case rel => exact ⟨_, (false), (by first | rfl | (simp; done) | (simp [*]; done) | (simp [show ∀ l_ : List UInt8, (l_ != []) = !l_.isEmpty from fun l_ => by cases l_ <;> rfl, show ∀ l_ : List UInt8, (l_ == []) = l_.isEmpty from fun l_ => by cases l_ <;> rfl]; done)), H', ⟨by have := HJ7.out; have := HJ21.out; first | omega | exact Nat.le_refl _⟩, by repeat (first | exact Drawn0.refl _ | apply Drawn0.step)⟩
                                          · rw [if_neg c53] at H
                                            exact absurd H (by simp)
                                        · rw [if_neg c52] at H
                                          exact absurd H (by simp)
                                      · rw [if_neg c50] at H
                                        have c50b0 : decide ((wrap64 (a1 + 7)) < (a0.size : Int)) = false := decide_eq_false c50
                                        clear c50
                                        (first | rw [c50b0] | (simp only [i64_w, i32_w]; rw [c50b0]) | skip)
                                        have H' := Aside0.mk H
                                        clear H
                                        go_wp2_with (first | ((with_reducible refine gate_callee (f := 58) rfl ?_); refine goesL_ (some 133) rfl rfl Tryd.func58 (by kernel_rfl) rfl #[.int .i64 t122, .int .i64 55296, .int .i64 56319] rfl (by (try simp only [List.map_toArray, List.map_cons, List.map_nil]); first | done | rfl | (simp only [List.length_drop, List.length_take]; rfl)) ?_; (with_reducible refine (spec_l01In.calls t122 55296 56319 true _ A48.out).mono ?_); rintro e w' ⟨rfl, ⟨nd, rfl⟩⟩; refine ⟨_, rfl, ?_⟩))
                                        go_meet
                                        case rel => exact ⟨_, (false), (by first | rfl | (simp; done) | (simp [*]; done) | (simp [show ∀ l_ : List UInt8, (l_ != []) = !l_.isEmpty from fun l_ => by cases l_ <;> rfl, show ∀ l_ : List UInt8, (l_ == []) = l_.isEmpty from fun l_ => by cases l_ <;> rfl]; done)), H', ⟨by have := HJ7.out; have := HJ21.out; first | omega | exact Nat.le_refl _⟩, by repeat (first | exact Drawn0.refl _ | apply Drawn0.step)⟩
                                    · replace c49 := Bool.eq_false_iff.mpr c49
                                      subst c49
                                      have H1 : (spec_l04Rune.j4 kj21 a0 a1 t122 false) = some (r1, r2) := by rw [if_neg (show ¬ (false = true) by decide)] at H; exact H
                                      clear H
                                      have H := H1
                                      clear H1
                                      have H' := Aside0.mk H
                                      clear H
                                      go_wp2_with (first | ((with_reducible refine gate_callee (f := 58) rfl ?_); refine goesL_ (some 133) rfl rfl Tryd.func58 (by kernel_rfl) rfl #[.int .i64 t122, .int .i64 55296, .int .i64 56319] rfl (by (try simp only [List.map_toArray, List.map_cons, List.map_nil]); first | done | rfl | (simp only [List.length_drop, List.length_take]; rfl)) ?_; (with_reducible refine (spec_l01In.calls t122 55296 56319 false _ A48.out).mono ?_); rintro e w' ⟨rfl, ⟨nd, rfl⟩⟩; refine ⟨_, rfl, ?_⟩))
                                      go_meet
                                      case rel => exact ⟨_, (false), (by first | rfl | (simp; done) | (simp [*]; done) | (simp [show ∀ l_ : List UInt8, (l_ != []) = !l_.isEmpty from fun l_ => by cases l_ <;> rfl, show ∀ l_ : List UInt8, (l_ == []) = l_.isEmpty from fun l_ => by cases l_ <;> rfl]; done)), H', ⟨by have := HJ7.out; have := HJ21.out; first | omega | exact Nat.le_refl _⟩, by repeat (first | exact Drawn0.refl _ | apply Drawn0.step)⟩
                                  case rest =>
                                    clear HC47
                                    try clear c1
                                    try clear p1
                                    try clear q1
                                    try clear hx1
                                    try clear c2
                                    try clear p2
                                    try clear q2
                                    try clear hx2
                                    try clear c3
                                    try clear c3b0
                                    try clear p3
                                    try clear q3
                                    try clear hx3
                                    try clear c4
                                    try clear p4
                                    try clear q4
                                    try clear hx4
                                    try clear c5
                                    try clear c5b0
                                    try clear p5
                                    try clear q5
                                    try clear hx5
                                    try clear c6
                                    try clear c6b0
                                    try clear p6
                                    try clear c7
                                    try clear p7
                                    try clear q7
                                    try clear hx7
                                    try clear c9
                                    try clear c9b0
                                    try clear c9b1
                                    try clear c10
                                    try clear c10b0
                                    try clear c10b1
                                    try clear c11
                                    try clear c13
                                    try clear c13b0
                                    try clear c14
                                    try clear c14b0
                                    try clear p15
                                    try clear q15
                                    try clear hx15
                                    try clear c16
                                    try clear c16b0
                                    try clear c16b1
                                    try clear c17
                                    try clear c17b0
                                    try clear c17b1
                                    try clear c18
                                    try clear c18b0
                                    try clear c18b1
                                    try clear c19
                                    try clear c19b0
                                    try clear c19b1
                                    try clear c20
                                    try clear c20b0
                                    try clear c20b1
                                    try clear c21
                                    try clear c21b0
                                    try clear c21b1
                                    try clear c23
                                    try clear c23b0
                                    try clear c25
                                    try clear c25b0
                                    try clear p26
                                    try clear q26
                                    try clear hx26
                                    try clear c27
                                    try clear c29
                                    try clear c29b0
                                    try clear c30
                                    try clear c30b0
                                    try clear c31
                                    try clear c31b0
                                    try clear p32
                                    try clear q32
                                    try clear hx32
                                    try clear c34
                                    try clear c34b0
                                    try clear c36
                                    try clear c36b0
                                    try clear c36b1
                                    try clear c37
                                    try clear c37b0
                                    try clear c38
                                    try clear c38b0
                                    try clear c39
                                    try clear c39b0
                                    try clear c40
                                    try clear c40b0
                                    try clear p41
                                    try clear q41
                                    try clear hx41
                                    try clear c42
                                    try clear c42b0
                                    try clear c42b1
                                    try clear c44
                                    try clear c46
                                    try clear c46b0
                                    try clear c49
                                    try clear c50
                                    try clear c50b0
                                    try clear c52
                                    try clear c52b0
                                    try clear c53
                                    try clear c53b0
                                    try clear p54
                                    try clear q54
                                    try clear hx54
                                    try clear c55
                                    try clear c55b0
                                    try clear c55b1
                                    try clear c57
                                    try clear c57b0
                                    try clear c58
                                    try clear p58
                                    try clear q58
                                    try clear hx58
                                    try clear p1
                                    try clear p15
                                    try clear p2
                                    try clear p26
                                    try clear p3
                                    try clear p32
                                    try clear p41
                                    try clear p54
                                    try clear p58
                                    try clear p6
                                    try clear p7
                                    try clear q1
                                    try clear q15
                                    try clear q2
                                    try clear q26
                                    try clear q3
                                    try clear q32
                                    try clear q41
                                    try clear q54
                                    try clear q58
                                    try clear q7
                                    obtain ⟨kq, x154_46, rfl, HA, HJ46, ⟨mc46, rfl⟩⟩ := hcut
                                    cases kq with
                                    | zero => exact absurd HA.out (by simp [spec_l04Rune.j4])
                                    | succ kj46 =>
                                      have H := HA.out
                                      clear HA
                                      simp only [spec_l04Rune.j4] at H
                                      by_cases c59 : x154_46 = true
                                      · subst c59
                                        have H1 : ((spec_l04Num.f kj46 a0 (wrap64 (a1 + 8)) (wrap64 (a1 + 12))).bind fun t124 => ((spec_l01In.f t124 56320 57343).bind fun t125 => (if t125 = true then (some (wrap64 ((wrap64 ((wrap64 (65536 + (wrap64 (1024 * (wrap64 (t122 - 55296)))))) + t124)) - 56320), wrap64 (a1 + 12))) else (some ((-1), a1))))) = some (r1, r2) := by rw [if_pos rfl] at H; exact H
                                        clear H
                                        have H := H1
                                        clear H1
                                        replace H := Option.bind_eq_some_iff.mp H
                                        obtain ⟨t124, A600, H⟩ := H
                                        replace H : ((spec_l01In.f t124 56320 57343).bind fun t125 => (if t125 = true then (some (wrap64 ((wrap64 ((wrap64 (65536 + (wrap64 (1024 * (wrap64 (t122 - 55296)))))) + t124)) - 56320), wrap64 (a1 + 12))) else (some ((-1), a1)))) = some (r1, r2) := H
                                        have A60 := Aside0.mk A600
                                        clear A600
                                        replace H := Option.bind_eq_some_iff.mp H
                                        obtain ⟨t125, A610, H⟩ := H
                                        replace H : (if t125 = true then (some (wrap64 ((wrap64 ((wrap64 (65536 + (wrap64 (1024 * (wrap64 (t122 - 55296)))))) + t124)) - 56320), wrap64 (a1 + 12))) else (some ((-1), a1))) = some (r1, r2) := H
                                        have A61 := Aside0.mk A610
                                        clear A610
                                        by_cases c62 : t125 = true
                                        · subst c62
                                          have H1 : (some (wrap64 ((wrap64 ((wrap64 (65536 + (wrap64 (1024 * (wrap64 (t122 - 55296)))))) + t124)) - 56320), wrap64 (a1 + 12))) = some (r1, r2) := by rw [if_pos rfl] at H; exact H
                                          clear H
                                          have H := H1
                                          clear H1
                                          simp only [Option.some.injEq, Prod.mk.injEq] at H
                                          obtain ⟨rfl, rfl⟩ := H
                                          go_wp2_with (first | ((with_reducible refine gate_callee (f := 57) rfl ?_); refine goesL_ (some 160) rfl rfl Tryd.func57 (by kernel_rfl) rfl #[.string a0, .int .i64 (wrap64 (a1 + 8)), .int .i64 (wrap64 (a1 + 12))] rfl (by (try simp only [List.map_toArray, List.map_cons, List.map_nil]); first | done | rfl | (simp only [List.length_drop, List.length_take]; rfl)) ?_; (with_reducible refine (spec_l04Num.calls kj46 a0 (wrap64 (a1 + 8)) (wrap64 (a1 + 12)) t124 _ A60.out).mono ?_); rintro e w' ⟨rfl, ⟨nd, rfl⟩⟩; refine ⟨_, rfl, ?_⟩) | ((with_reducible refine gate_callee (f := 58) rfl ?_); refine goesL_ (some 162) rfl rfl Tryd.func58 (by kernel_rfl) rfl #[.int .i64 t124, .int .i64 56320, .int .i64 57343] rfl (by (try simp only [List.map_toArray, List.map_cons, List.map_nil]); first | done | rfl | (simp only [List.length_drop, List.length_take]; rfl)) ?_; (with_reducible refine (spec_l01In.calls t124 56320 57343 true _ A61.out).mono ?_); rintro e w' ⟨rfl, ⟨nd, rfl⟩⟩; refine ⟨_, rfl, ?_⟩))
                                          go_ret2
                                          exact ⟨by first | rfl | (simp; done) | (simp only [← hji4] <;> (first | rfl | (simp; done))) | (simp [*]; done), by repeat (first | exact Drawn0.refl _ | apply Drawn0.step)⟩
                                        · replace c62 := Bool.eq_false_iff.mpr c62
                                          subst c62
                                          have H1 : (some ((-1), a1)) = some (r1, r2) := by rw [if_neg (show ¬ (false = true) by decide)] at H; exact H
                                          clear H
                                          have H := H1
                                          clear H1
                                          simp only [Option.some.injEq, Prod.mk.injEq] at H
                                          obtain ⟨rfl, rfl⟩ := H
                                          go_wp2_with (first | ((with_reducible refine gate_callee (f := 57) rfl ?_); refine goesL_ (some 160) rfl rfl Tryd.func57 (by kernel_rfl) rfl #[.string a0, .int .i64 (wrap64 (a1 + 8)), .int .i64 (wrap64 (a1 + 12))] rfl (by (try simp only [List.map_toArray, List.map_cons, List.map_nil]); first | done | rfl | (simp only [List.length_drop, List.length_take]; rfl)) ?_; (with_reducible refine (spec_l04Num.calls kj46 a0 (wrap64 (a1 + 8)) (wrap64 (a1 + 12)) t124 _ A60.out).mono ?_); rintro e w' ⟨rfl, ⟨nd, rfl⟩⟩; refine ⟨_, rfl, ?_⟩) | ((with_reducible refine gate_callee (f := 58) rfl ?_); refine goesL_ (some 162) rfl rfl Tryd.func58 (by kernel_rfl) rfl #[.int .i64 t124, .int .i64 56320, .int .i64 57343] rfl (by (try simp only [List.map_toArray, List.map_cons, List.map_nil]); first | done | rfl | (simp only [List.length_drop, List.length_take]; rfl)) ?_; (with_reducible refine (spec_l01In.calls t124 56320 57343 false _ A61.out).mono ?_); rintro e w' ⟨rfl, ⟨nd, rfl⟩⟩; refine ⟨_, rfl, ?_⟩))
                                          go_ret2
                                          exact ⟨by first | rfl | (simp; done) | (simp only [← hji4] <;> (first | rfl | (simp; done))) | (simp [*]; done), by repeat (first | exact Drawn0.refl _ | apply Drawn0.step)⟩
                                      · replace c59 := Bool.eq_false_iff.mpr c59
                                        subst c59
                                        have H1 : ((spec_l02Scalar.f t122).bind fun t126 => (if t126 = true then (some (t122, wrap64 (a1 + 6))) else (some ((-1), a1)))) = some (r1, r2) := by rw [if_neg (show ¬ (false = true) by decide)] at H; exact H
                                        clear H
                                        have H := H1
                                        clear H1
                                        replace H := Option.bind_eq_some_iff.mp H
                                        obtain ⟨t126, A630, H⟩ := H
                                        replace H : (if t126 = true then (some (t122, wrap64 (a1 + 6))) else (some ((-1), a1))) = some (r1, r2) := H
                                        have A63 := Aside0.mk A630
                                        clear A630
                                        by_cases c64 : t126 = true
                                        · subst c64
                                          have H1 : (some (t122, wrap64 (a1 + 6))) = some (r1, r2) := by rw [if_pos rfl] at H; exact H
                                          clear H
                                          have H := H1
                                          clear H1
                                          simp only [Option.some.injEq, Prod.mk.injEq] at H
                                          obtain ⟨rfl, rfl⟩ := H
                                          go_wp2_with (first | ((with_reducible refine gate_callee (f := 50) rfl ?_); refine goesL_ (some 175) rfl rfl Tryd.func50 (by kernel_rfl) rfl #[.int .i64 t122] rfl (by (try simp only [List.map_toArray, List.map_cons, List.map_nil]); first | done | rfl | (simp only [List.length_drop, List.length_take]; rfl)) ?_; (with_reducible refine (spec_l02Scalar.calls t122 true _ A63.out).mono ?_); rintro e w' ⟨rfl, ⟨nd, rfl⟩⟩; refine ⟨_, rfl, ?_⟩))
                                          go_ret2
                                          exact ⟨by first | rfl | (simp; done) | (simp only [← hji4] <;> (first | rfl | (simp; done))) | (simp [*]; done), by repeat (first | exact Drawn0.refl _ | apply Drawn0.step)⟩
                                        · replace c64 := Bool.eq_false_iff.mpr c64
                                          subst c64
                                          have H1 : (some ((-1), a1)) = some (r1, r2) := by rw [if_neg (show ¬ (false = true) by decide)] at H; exact H
                                          clear H
                                          have H := H1
                                          clear H1
                                          simp only [Option.some.injEq, Prod.mk.injEq] at H
                                          obtain ⟨rfl, rfl⟩ := H
                                          go_wp2_with (first | ((with_reducible refine gate_callee (f := 50) rfl ?_); refine goesL_ (some 175) rfl rfl Tryd.func50 (by kernel_rfl) rfl #[.int .i64 t122] rfl (by (try simp only [List.map_toArray, List.map_cons, List.map_nil]); first | done | rfl | (simp only [List.length_drop, List.length_take]; rfl)) ?_; (with_reducible refine (spec_l02Scalar.calls t122 false _ A63.out).mono ?_); rintro e w' ⟨rfl, ⟨nd, rfl⟩⟩; refine ⟨_, rfl, ?_⟩))
                                          go_ret2
                                          exact ⟨by first | rfl | (simp; done) | (simp only [← hji4] <;> (first | rfl | (simp; done))) | (simp [*]; done), by repeat (first | exact Drawn0.refl _ | apply Drawn0.step)⟩
                        · rw [if_neg c21] at H
                          have c21b0 : ((bt a0 (ji4)) == 117) = false := beq_eq_false_iff_ne.mpr c21
                          have c21b1 : ((bt a0 (ji4)) != 117) = true := bne_iff_ne.mpr c21
                          simp only [Option.some.injEq, Prod.mk.injEq] at H
                          obtain ⟨rfl, rfl⟩ := H
                          go_wp2
                          go_ret2
                          exact ⟨by first | rfl | (simp; done) | (simp only [← hji4] <;> (first | rfl | (simp; done))) | (simp [*]; done), by repeat (first | exact Drawn0.refl _ | apply Drawn0.step)⟩
      · rw [if_neg c6] at H
        exact absurd H (by simp)
    · rw [if_neg c5] at H
      exact absurd H (by simp)

end Go.Proofs.YtlcjpfbnegjieaaDoor.OFnExactUnescaped
