/- The machine side of one law, written by a program of this session out of Lean's print of the translation: for each Go function that is reached a plain Lean function and the proof that the call comes to just its answer; each under the condition that the plain function answers 'some'. -/
import Derived.Test.YtnlhpjapdklfgaaOFnExactFloatOkx0
import Derived.Test.YtnlhpjapdklfgaaOFnExactFloatOkx1
namespace Go.Proofs.Ytnlhpjapdklfgaa.OFnExactFloatOk
open Go.RowKit Go.Proofs.YtnlhpjapdklfgaaW.PrintWords Go.Proofs.YtnlhpjapdklfgaaW.PrintLast Go.Proofs.YtnlhpjapdklfgaaW.PrintMore
attribute [local go_sem] max2_int min2_int max_two min_two max_three min_three max_four min_four   -- for this text's walks alone
set_option linter.unusedVariables false
set_option linter.unusedSimpArgs false

/-! ### spec_FloatOk: function 7 -/
mutual
def spec_FloatOk.j0 : Nat → ByteArray → Int → Bool → Option (Bool)
  | 0, _, _, _ => none
  | k + 1, x0, x3, x20 => if x20 = true then (some false) else (if 0 ≤ x3 then (if x3 < (x0.size : Int) then (if (bt x0 x3) = 46 then ((spec_l03Run.f k x0 (wrap64 (x3 + 1))).bind fun t105 => (if t105 = (wrap64 (x3 + 1)) then (some false) else (spec_FloatOk.j1 k x0 t105))) else (spec_FloatOk.j1 k x0 x3)) else (none)) else (none))
def spec_FloatOk.j1 : Nat → ByteArray → Int → Option (Bool)
  | 0, _, _ => none
  | k + 1, x0, x3 => if x3 < (x0.size : Int) then (if 0 ≤ x3 then (if (bt x0 x3) = 101 then (spec_FloatOk.j2 k x0 x3 true) else (spec_FloatOk.j2 k x0 x3 ((bt x0 x3) == 69))) else (none)) else (spec_FloatOk.j2 k x0 x3 false)
def spec_FloatOk.j2 : Nat → ByteArray → Int → Bool → Option (Bool)
  | 0, _, _, _ => none
  | k + 1, x0, x3, x49 => if x49 = true then (if (wrap64 (x3 + 1)) < (x0.size : Int) then (if 0 ≤ (wrap64 (x3 + 1)) then (if (bt x0 (wrap64 (x3 + 1))) = 43 then (spec_FloatOk.j3 k x0 (wrap64 (x3 + 1)) true) else (spec_FloatOk.j3 k x0 (wrap64 (x3 + 1)) ((bt x0 (wrap64 (x3 + 1))) == 45))) else (none)) else (spec_FloatOk.j3 k x0 (wrap64 (x3 + 1)) false)) else (some (x3 == (x0.size : Int)))
def spec_FloatOk.j3 : Nat → ByteArray → Int → Bool → Option (Bool)
  | 0, _, _, _ => none
  | k + 1, x0, x3, x67 => if x67 = true then ((spec_l03Run.f k x0 (wrap64 (x3 + 1))).bind fun t106 => (if t106 = (wrap64 (x3 + 1)) then (some false) else (some (t106 == (x0.size : Int))))) else ((spec_l03Run.f k x0 x3).bind fun t107 => (if t107 = x3 then (some false) else (some (t107 == (x0.size : Int)))))
end
def spec_FloatOk.f (k : Nat) (a0 : ByteArray) : Option (Bool) := (spec_l03Int.f k a0).bind fun t104 => (if (a0.size : Int) > 40 then (spec_FloatOk.j0 k a0 t104 true) else (if t104 = 0 then (spec_FloatOk.j0 k a0 t104 true) else (spec_FloatOk.j0 k a0 t104 (t104 == (a0.size : Int)))))
theorem spec_FloatOk.mono_l : ∀ k, (∀ y0 y1 y2, LeO (spec_FloatOk.j0 k y0 y1 y2) (spec_FloatOk.j0 (k + 1) y0 y1 y2)) ∧ (∀ y0 y1, LeO (spec_FloatOk.j1 k y0 y1) (spec_FloatOk.j1 (k + 1) y0 y1)) ∧ (∀ y0 y1 y2, LeO (spec_FloatOk.j2 k y0 y1 y2) (spec_FloatOk.j2 (k + 1) y0 y1 y2)) ∧ (∀ y0 y1 y2, LeO (spec_FloatOk.j3 k y0 y1 y2) (spec_FloatOk.j3 (k + 1) y0 y1 y2))
  | 0 => ⟨fun _ _ _ r h => by simp [spec_FloatOk.j0] at h, fun _ _ r h => by simp [spec_FloatOk.j1] at h, fun _ _ _ r h => by simp [spec_FloatOk.j2] at h, fun _ _ _ r h => by simp [spec_FloatOk.j3] at h⟩
  | k + 1 => by
    obtain ⟨ih0, ih1, ih2, ih3⟩ := spec_FloatOk.mono_l k
    refine ⟨?_, ?_, ?_, ?_⟩
    · intro y0 y1 y2
      unfold spec_FloatOk.j0
      repeat' first
      | (with_reducible exact ih0 _ _ _)
      | (with_reducible exact ih1 _ _)
      | (with_reducible exact ih2 _ _ _)
      | (with_reducible exact ih3 _ _ _)
      | (with_reducible exact spec_l03Int.mono _ _)
      | (with_reducible exact spec_l03Run.mono _ _ _)
      | (with_reducible exact LeO.refl _)
      | (with_reducible exact LeO.none _)
      | (with_reducible refine LeO.ite ?_ ?_)
      | (with_reducible refine LeO.bind ?_ (fun _ => ?_))
      | exact ih0 _ _ _
      | exact ih1 _ _
      | exact ih2 _ _ _
      | exact ih3 _ _ _
      | exact spec_l03Int.mono _ _
      | exact spec_l03Run.mono _ _ _
      | exact LeO.none _
      | refine LeO.ite ?_ ?_
      | refine LeO.bind ?_ (fun _ => ?_)
    · intro y0 y1
      unfold spec_FloatOk.j1
      repeat' first
      | (with_reducible exact ih0 _ _ _)
      | (with_reducible exact ih1 _ _)
      | (with_reducible exact ih2 _ _ _)
      | (with_reducible exact ih3 _ _ _)
      | (with_reducible exact spec_l03Int.mono _ _)
      | (with_reducible exact spec_l03Run.mono _ _ _)
      | (with_reducible exact LeO.refl _)
      | (with_reducible exact LeO.none _)
      | (with_reducible refine LeO.ite ?_ ?_)
      | (with_reducible refine LeO.bind ?_ (fun _ => ?_))
      | exact ih0 _ _ _
      | exact ih1 _ _
      | exact ih2 _ _ _
      | exact ih3 _ _ _
      | exact spec_l03Int.mono _ _
      | exact spec_l03Run.mono _ _ _
      | exact LeO.none _
      | refine LeO.ite ?_ ?_
      | refine LeO.bind ?_ (fun _ => ?_)
    · intro y0 y1 y2
      unfold spec_FloatOk.j2
      repeat' first
      | (with_reducible exact ih0 _ _ _)
      | (with_reducible exact ih1 _ _)
      | (with_reducible exact ih2 _ _ _)
      | (with_reducible exact ih3 _ _ _)
      | (with_reducible exact spec_l03Int.mono _ _)
      | (with_reducible exact spec_l03Run.mono _ _ _)
      | (with_reducible exact LeO.refl _)
      | (with_reducible exact LeO.none _)
      | (with_reducible refine LeO.ite ?_ ?_)
      | (with_reducible refine LeO.bind ?_ (fun _ => ?_))
      | exact ih0 _ _ _
      | exact ih1 _ _
      | exact ih2 _ _ _
      | exact ih3 _ _ _
      | exact spec_l03Int.mono _ _
      | exact spec_l03Run.mono _ _ _
      | exact LeO.none _
      | refine LeO.ite ?_ ?_
      | refine LeO.bind ?_ (fun _ => ?_)
    · intro y0 y1 y2
      unfold spec_FloatOk.j3
      repeat' first
      | (with_reducible exact ih0 _ _ _)
      | (with_reducible exact ih1 _ _)
      | (with_reducible exact ih2 _ _ _)
      | (with_reducible exact ih3 _ _ _)
      | (with_reducible exact spec_l03Int.mono _ _)
      | (with_reducible exact spec_l03Run.mono _ _ _)
      | (with_reducible exact LeO.refl _)
      | (with_reducible exact LeO.none _)
      | (with_reducible refine LeO.ite ?_ ?_)
      | (with_reducible refine LeO.bind ?_ (fun _ => ?_))
      | exact ih0 _ _ _
      | exact ih1 _ _
      | exact ih2 _ _ _
      | exact ih3 _ _ _
      | exact spec_l03Int.mono _ _
      | exact spec_l03Run.mono _ _ _
      | exact LeO.none _
      | refine LeO.ite ?_ ?_
      | refine LeO.bind ?_ (fun _ => ?_)
theorem spec_FloatOk.mono : ∀ a0 k, LeO (spec_FloatOk.f k a0) (spec_FloatOk.f (k + 1) a0) := by
  intro a0 k
  obtain ⟨ih0, ih1, ih2, ih3⟩ := spec_FloatOk.mono_l k
  unfold spec_FloatOk.f
  repeat' first
      | (with_reducible exact ih0 _ _ _)
      | (with_reducible exact ih1 _ _)
      | (with_reducible exact ih2 _ _ _)
      | (with_reducible exact ih3 _ _ _)
      | (with_reducible exact spec_l03Int.mono _ _)
      | (with_reducible exact spec_l03Run.mono _ _ _)
      | (with_reducible exact LeO.refl _)
      | (with_reducible exact LeO.none _)
      | (with_reducible refine LeO.ite ?_ ?_)
      | (with_reducible refine LeO.bind ?_ (fun _ => ?_))
      | exact ih0 _ _ _
      | exact ih1 _ _
      | exact ih2 _ _ _
      | exact ih3 _ _ _
      | exact spec_l03Int.mono _ _
      | exact spec_l03Run.mono _ _ _
      | exact LeO.none _
      | refine LeO.ite ?_ ?_
      | refine LeO.bind ?_ (fun _ => ?_)
set_option maxHeartbeats 8000000 in
set_option maxRecDepth 100000 in
theorem spec_FloatOk.calls (k : Nat) (a0 : ByteArray) (r : Bool) (w : World) (h : spec_FloatOk.f k a0 = some r) :
    Calls Try.prog 7 #[.string a0] w fun e w' => e = .returned (.bool r) ∧ Drawn0 w w' := by
  have H : ((spec_l03Int.f k a0).bind fun t104 => (if (a0.size : Int) > 40 then (spec_FloatOk.j0 k a0 t104 true) else (if t104 = 0 then (spec_FloatOk.j0 k a0 t104 true) else (spec_FloatOk.j0 k a0 t104 (t104 == (a0.size : Int)))))) = some r := h
  clear h
  replace H := Option.bind_eq_some_iff.mp H
  obtain ⟨t104, A20, H⟩ := H
  replace H : (if (a0.size : Int) > 40 then (spec_FloatOk.j0 k a0 t104 true) else (if t104 = 0 then (spec_FloatOk.j0 k a0 t104 true) else (spec_FloatOk.j0 k a0 t104 (t104 == (a0.size : Int))))) = some r := H
  have A2 := Aside0.mk A20
  clear A20
  have HC3 := Aside0.mk H
  clear H
  go_enter Try.func7, Try.ntmps7
  go_upto_region 2 with (first | ((with_reducible refine gate_callee (f := 10) rfl ?_); refine goesL_ (some 7) rfl rfl Try.func10 (by kernel_rfl) rfl #[.string a0] rfl (by (try simp only [List.map_toArray, List.map_cons, List.map_nil]); first | done | rfl | (simp only [List.length_drop, List.length_take]; rfl)) ?_; (with_reducible refine (spec_l03Int.calls k a0 t104 _ A2.out).mono ?_); rintro e w' ⟨rfl, ⟨nd, rfl⟩⟩; refine ⟨_, rfl, ?_⟩))
  (try simp only [Act.put, List.setIfInBounds_toArray, List.set_cons_zero, List.set_cons_succ])
  go_cut [20] (fun v20 wc => ∃ (kq : Nat) (x20_2 : Bool), v20 = .bool x20_2 ∧ Aside0 (spec_FloatOk.j0 kq a0 t104 x20_2 = some r) ∧ Aside0 (kq ≤ k) ∧ Drawn0 w wc)
  case first =>
    have H := HC3.out
    clear HC3
    by_cases c4 : (a0.size : Int) > 40
    · rw [if_pos c4] at H
      have c4b0 : decide (40 < (a0.size : Int)) = true := decide_eq_true c4
      have c4b1 : decide (40 < a0.size) = true := decide_eq_true (by omega)
      clear c4
      (first | rw [c4b0] | (simp only [i64_w, i32_w]; rw [c4b0]) | skip)
      have H' := Aside0.mk H
      clear H
      go_wp2
      go_meet
      case rel => exact ⟨_, (true), (by first | rfl | (simp; done) | (simp [*]; done) | (simp [show ∀ l_ : List UInt8, (l_ != []) = !l_.isEmpty from fun l_ => by cases l_ <;> rfl, show ∀ l_ : List UInt8, (l_ == []) = l_.isEmpty from fun l_ => by cases l_ <;> rfl]; done)), H', ⟨by first | omega | exact Nat.le_refl _⟩, by repeat (first | exact Drawn0.refl _ | apply Drawn0.step)⟩
    · rw [if_neg c4] at H
      have c4b0 : decide (40 < (a0.size : Int)) = false := decide_eq_false c4
      have c4b1 : decide (40 < a0.size) = false := decide_eq_false (by omega)
      clear c4
      (first | rw [c4b0] | (simp only [i64_w, i32_w]; rw [c4b0]) | skip)
      by_cases c5 : t104 = 0
      · rw [if_pos c5] at H
        have c5b0 : (t104 == 0) = true := beq_iff_eq.mpr c5
        have c5b1 : (t104 != 0) = false := bne_eq_false_iff_eq.mpr c5
        clear c5
        have H' := Aside0.mk H
        clear H
        go_wp2
        go_meet
        case rel => exact ⟨_, (true), (by first | rfl | (simp; done) | (simp [*]; done) | (simp [show ∀ l_ : List UInt8, (l_ != []) = !l_.isEmpty from fun l_ => by cases l_ <;> rfl, show ∀ l_ : List UInt8, (l_ == []) = l_.isEmpty from fun l_ => by cases l_ <;> rfl]; done)), H', ⟨by first | omega | exact Nat.le_refl _⟩, by repeat (first | exact Drawn0.refl _ | apply Drawn0.step)⟩
      · rw [if_neg c5] at H
        have c5b0 : (t104 == 0) = false := beq_eq_false_iff_ne.mpr c5
        have c5b1 : (t104 != 0) = true := bne_iff_ne.mpr c5
        have H' := Aside0.mk H
        clear H
        go_wp2
        go_meet
        case rel => exact ⟨_, ((t104 == (a0.size : Int))), (by first | rfl | (simp; done) | (simp [*]; done) | (simp [show ∀ l_ : List UInt8, (l_ != []) = !l_.isEmpty from fun l_ => by cases l_ <;> rfl, show ∀ l_ : List UInt8, (l_ == []) = l_.isEmpty from fun l_ => by cases l_ <;> rfl]; done)), H', ⟨by first | omega | exact Nat.le_refl _⟩, by repeat (first | exact Drawn0.refl _ | apply Drawn0.step)⟩
  case rest =>
    clear HC3
    try clear c1
    try clear p2
    try clear c4
    try clear c4b0
    try clear c4b1
    try clear c5
    try clear c5b0
    try clear c5b1
    obtain ⟨kq, x20_2, rfl, HA, HJ2, ⟨mc2, rfl⟩⟩ := hcut
    cases kq with
    | zero => exact absurd HA.out (by simp [spec_FloatOk.j0])
    | succ kj2 =>
      have H := HA.out
      clear HA
      simp only [spec_FloatOk.j0] at H
      by_cases c6 : x20_2 = true
      · subst c6
        have H1 : (some false) = some r := by rw [if_pos rfl] at H; exact H
        clear H
        have H := H1
        clear H1
        obtain rfl := Option.some.inj H
        go_wp2
        go_ret
        exact ⟨by first | rfl | (simp; done) | (simp [*]; done) | (simp [show ∀ l_ : List UInt8, (l_ != []) = !l_.isEmpty from fun l_ => by cases l_ <;> rfl, show ∀ l_ : List UInt8, (l_ == []) = l_.isEmpty from fun l_ => by cases l_ <;> rfl]; done), by repeat (first | exact Drawn0.refl _ | apply Drawn0.step)⟩
      · replace c6 := Bool.eq_false_iff.mpr c6
        subst c6
        have H1 : (if 0 ≤ t104 then (if t104 < (a0.size : Int) then (if (bt a0 t104) = 46 then ((spec_l03Run.f kj2 a0 (wrap64 (t104 + 1))).bind fun t105 => (if t105 = (wrap64 (t104 + 1)) then (some false) else (spec_FloatOk.j1 kj2 a0 t105))) else (spec_FloatOk.j1 kj2 a0 t104)) else (none)) else (none)) = some r := by rw [if_neg (show ¬ (false = true) by decide)] at H; exact H
        clear H
        have H := H1
        clear H1
        by_cases c7 : 0 ≤ t104
        · rw [if_pos c7] at H
          have c7b0 : decide (0 ≤ t104) = true := decide_eq_true c7
          clear c7
          by_cases c8 : t104 < (a0.size : Int)
          · rw [if_pos c8] at H
            have c8b0 : decide (t104 < (a0.size : Int)) = true := decide_eq_true c8
            clear c8
            have HC10 := Aside0.mk H
            clear H
            have p9 : 0 ≤ (t104 : Int) := of_decide_eq_true (by first | (with_reducible assumption) | assumption)
            have q9 : t104 < (a0.size : Int) := of_decide_eq_true (by first | (with_reducible assumption) | assumption)
            have hx9 := bt_at a0 t104
            replace p9 := eq_true p9
            replace q9 := eq_true q9
            go_upto_if 24 with (fail)
            go_cut [3] (fun v3 wc => ∃ (kq : Nat) (x3_9 : Int), v3 = .int .i64 x3_9 ∧ Aside0 (spec_FloatOk.j1 kq a0 x3_9 = some r) ∧ Aside0 (kq ≤ kj2) ∧ Drawn0 w wc)
            case first =>
              have H := HC10.out
              clear HC10
              by_cases c11 : (bt a0 t104) = 46
              · rw [if_pos c11] at H
                have c11b0 : ((bt a0 t104) == 46) = true := beq_iff_eq.mpr c11
                have c11b1 : ((bt a0 t104) != 46) = false := bne_eq_false_iff_eq.mpr c11
                clear c11
                (first | rw [c11b0] | (simp only [i64_w, i32_w]; rw [c11b0]) | skip)
                replace H := Option.bind_eq_some_iff.mp H
                obtain ⟨t105, A120, H⟩ := H
                replace H : (if t105 = (wrap64 (t104 + 1)) then (some false) else (spec_FloatOk.j1 kj2 a0 t105)) = some r := H
                have A12 := Aside0.mk A120
                clear A120
                by_cases c13 : t105 = (wrap64 (t104 + 1))
                · rw [if_pos c13] at H
                  have c13b0 : (t105 == (wrap64 (t104 + 1))) = true := beq_iff_eq.mpr c13
                  have c13b1 : (t105 != (wrap64 (t104 + 1))) = false := bne_eq_false_iff_eq.mpr c13
                  clear c13
                  obtain rfl := Option.some.inj H
                  go_wp2_with (first | ((with_reducible refine gate_callee (f := 11) rfl ?_); refine goesL_ (some 28) rfl rfl Try.func11 (by kernel_rfl) rfl #[.string a0, .int .i64 (wrap64 (t104 + 1))] rfl (by (try simp only [List.map_toArray, List.map_cons, List.map_nil]); first | done | rfl | (simp only [List.length_drop, List.length_take]; rfl)) ?_; (with_reducible refine (spec_l03Run.calls kj2 a0 (wrap64 (t104 + 1)) t105 _ A12.out).mono ?_); rintro e w' ⟨rfl, ⟨nd, rfl⟩⟩; refine ⟨_, rfl, ?_⟩))
                  go_ret
                  exact ⟨by first | rfl | (simp; done) | (simp [*]; done) | (simp [show ∀ l_ : List UInt8, (l_ != []) = !l_.isEmpty from fun l_ => by cases l_ <;> rfl, show ∀ l_ : List UInt8, (l_ == []) = l_.isEmpty from fun l_ => by cases l_ <;> rfl]; done), by repeat (first | exact Drawn0.refl _ | apply Drawn0.step)⟩
                · rw [if_neg c13] at H
                  have c13b0 : (t105 == (wrap64 (t104 + 1))) = false := beq_eq_false_iff_ne.mpr c13
                  have c13b1 : (t105 != (wrap64 (t104 + 1))) = true := bne_iff_ne.mpr c13
                  have H' := Aside0.mk H
                  clear H
                  go_wp2_with (first | ((with_reducible refine gate_callee (f := 11) rfl ?_); refine goesL_ (some 28) rfl rfl Try.func11 (by kernel_rfl) rfl #[.string a0, .int .i64 (wrap64 (t104 + 1))] rfl (by (try simp only [List.map_toArray, List.map_cons, List.map_nil]); first | done | rfl | (simp only [List.length_drop, List.length_take]; rfl)) ?_; (with_reducible refine (spec_l03Run.calls kj2 a0 (wrap64 (t104 + 1)) t105 _ A12.out).mono ?_); rintro e w' ⟨rfl, ⟨nd, rfl⟩⟩; refine ⟨_, rfl, ?_⟩))
                  go_meet
                  case rel => exact ⟨_, (t105), (by first | rfl | (simp; done) | (simp [*]; done) | (simp [show ∀ l_ : List UInt8, (l_ != []) = !l_.isEmpty from fun l_ => by cases l_ <;> rfl, show ∀ l_ : List UInt8, (l_ == []) = l_.isEmpty from fun l_ => by cases l_ <;> rfl]; done)), H', ⟨by have := HJ2.out; first | omega | exact Nat.le_refl _⟩, by repeat (first | exact Drawn0.refl _ | apply Drawn0.step)⟩
              · rw [if_neg c11] at H
                have c11b0 : ((bt a0 t104) == 46) = false := beq_eq_false_iff_ne.mpr c11
                have c11b1 : ((bt a0 t104) != 46) = true := bne_iff_ne.mpr c11
                (first | rw [c11b0] | (simp only [i64_w, i32_w]; rw [c11b0]) | skip)
                have H' := Aside0.mk H
                clear H
                go_wp2
                go_meet
                case rel => exact ⟨_, (t104), (by first | rfl | (simp; done) | (simp [*]; done) | (simp [show ∀ l_ : List UInt8, (l_ != []) = !l_.isEmpty from fun l_ => by cases l_ <;> rfl, show ∀ l_ : List UInt8, (l_ == []) = l_.isEmpty from fun l_ => by cases l_ <;> rfl]; done)), H', ⟨by have := HJ2.out; first | omega | exact Nat.le_refl _⟩, by repeat (first | exact Drawn0.refl _ | apply Drawn0.step)⟩
            case rest =>
              clear HC10
              try clear c1
              try clear c2
              try clear p2
              try clear c4
              try clear c4b0
              try clear c4b1
              try clear c5
              try clear c5b0
              try clear c5b1
              try clear c6
              try clear p6
              try clear c7
              try clear c7b0
              try clear c8
              try clear c8b0
              try clear p9
              try clear q9
              try clear hx9
              try clear c10
              try clear c11
              try clear c11b0
              try clear c11b1
              try clear c13
              try clear c13b0
              try clear c13b1
              try clear p2
              try clear p9
              try clear q9
              obtain ⟨kq, x3_9, rfl, HA, HJ9, ⟨mc9, rfl⟩⟩ := hcut
              cases kq with
              | zero => exact absurd HA.out (by simp [spec_FloatOk.j1])
              | succ kj9 =>
                have H := HA.out
                clear HA
                simp only [spec_FloatOk.j1] at H
                have HC14 := Aside0.mk H
                clear H
                go_upto_region 9 with (fail)
                go_cut [49] (fun v49 wc => ∃ (kq : Nat) (x49_13 : Bool), v49 = .bool x49_13 ∧ Aside0 (spec_FloatOk.j2 kq a0 x3_9 x49_13 = some r) ∧ Aside0 (kq ≤ kj9) ∧ Drawn0 w wc)
                case first =>
                  have H := HC14.out
                  clear HC14
                  by_cases c15 : x3_9 < (a0.size : Int)
                  · rw [if_pos c15] at H
                    have c15b0 : decide (x3_9 < (a0.size : Int)) = true := decide_eq_true c15
                    clear c15
                    (first | rw [c15b0] | (simp only [i64_w, i32_w]; rw [c15b0]) | skip)
                    by_cases c16 : 0 ≤ x3_9
                    · rw [if_pos c16] at H
                      have c16b0 : decide (0 ≤ x3_9) = true := decide_eq_true c16
                      clear c16
                      by_cases c18 : (bt a0 x3_9) = 101
                      · rw [if_pos c18] at H
                        have c18b0 : ((bt a0 x3_9) == 101) = true := beq_iff_eq.mpr c18
                        have c18b1 : ((bt a0 x3_9) != 101) = false := bne_eq_false_iff_eq.mpr c18
                        clear c18
                        have H' := Aside0.mk H
                        clear H
                        have p17 : 0 ≤ (x3_9 : Int) := of_decide_eq_true (by first | (with_reducible assumption) | assumption)
                        have q17 : x3_9 < (a0.size : Int) := of_decide_eq_true (by first | (with_reducible assumption) | assumption)
                        have hx17 := bt_at a0 x3_9
                        replace p17 := eq_true p17
                        replace q17 := eq_true q17
                        go_wp2
                        go_meet
                        case rel => exact ⟨_, (true), (by first | rfl | (simp; done) | (simp [*]; done) | (simp [show ∀ l_ : List UInt8, (l_ != []) = !l_.isEmpty from fun l_ => by cases l_ <;> rfl, show ∀ l_ : List UInt8, (l_ == []) = l_.isEmpty from fun l_ => by cases l_ <;> rfl]; done)), H', ⟨by have := HJ2.out; have := HJ9.out; first | omega | exact Nat.le_refl _⟩, by repeat (first | exact Drawn0.refl _ | apply Drawn0.step)⟩
                      · rw [if_neg c18] at H
                        have c18b0 : ((bt a0 x3_9) == 101) = false := beq_eq_false_iff_ne.mpr c18
                        have c18b1 : ((bt a0 x3_9) != 101) = true := bne_iff_ne.mpr c18
                        have H' := Aside0.mk H
                        clear H
                        have p17 : 0 ≤ (x3_9 : Int) := of_decide_eq_true (by first | (with_reducible assumption) | assumption)
                        have q17 : x3_9 < (a0.size : Int) := of_decide_eq_true (by first | (with_reducible assumption) | assumption)
                        have hx17 := bt_at a0 x3_9
                        replace p17 := eq_true p17
                        replace q17 := eq_true q17
                        have p19 : 0 ≤ (x3_9 : Int) := of_decide_eq_true (by first | (with_reducible assumption) | assumption)
                        have q19 : x3_9 < (a0.size : Int) := of_decide_eq_true (by first | (with_reducible assumption) | assumption)
                        have hx19 := bt_at a0 x3_9
                        replace p19 := eq_true p19
                        replace q19 := eq_true q19
                        go_wp2
                        go_meet
                        case rel => exact ⟨_, (((bt a0 x3_9) == 69)), (by first | rfl | (simp; done) | (simp [*]; done) | (simp [show ∀ l_ : List UInt8, (l_ != []) = !l_.isEmpty from fun l_ => by cases l_ <;> rfl, show ∀ l_ : List UInt8, (l_ == []) = l_.isEmpty from fun l_ => by cases l_ <;> rfl]; done)), H', ⟨by have := HJ2.out; have := HJ9.out; first | omega | exact Nat.le_refl _⟩, by repeat (first | exact Drawn0.refl _ | apply Drawn0.step)⟩
                    · rw [if_neg c16] at H
                      exact absurd H (by simp)
                  · rw [if_neg c15] at H
                    have c15b0 : decide (x3_9 < (a0.size : Int)) = false := decide_eq_false c15
                    clear c15
                    (first | rw [c15b0] | (simp only [i64_w, i32_w]; rw [c15b0]) | skip)
                    have H' := Aside0.mk H
                    clear H
                    go_wp2
                    go_meet
                    case rel => exact ⟨_, (false), (by first | rfl | (simp; done) | (simp [*]; done) | (simp [show ∀ l_ : List UInt8, (l_ != []) = !l_.isEmpty from fun l_ => by cases l_ <;> rfl, show ∀ l_ : List UInt8, (l_ == []) = l_.isEmpty from fun l_ => by cases l_ <;> rfl]; done)), H', ⟨by have := HJ2.out; have := HJ9.out; first | omega | exact Nat.le_refl _⟩, by repeat (first | exact Drawn0.refl _ | apply Drawn0.step)⟩
                case rest =>
                  clear HC14
                  try clear c1
                  try clear p1
                  try clear q1
                  try clear hx1
                  try clear c2
                  try clear p2
                  try clear c4
                  try clear c4b0
                  try clear c4b1
                  try clear c5
                  try clear c5b0
                  try clear c5b1
                  try clear c6
                  try clear p6
                  try clear c7
                  try clear c7b0
                  try clear c8
                  try clear c8b0
                  try clear c9
                  try clear p9
                  try clear q9
                  try clear hx9
                  try clear c10
                  try clear c11
                  try clear c11b0
                  try clear c11b1
                  try clear c13
                  try clear c13b0
                  try clear c13b1
                  try clear c15
                  try clear c15b0
                  try clear c16
                  try clear c16b0
                  try clear p17
                  try clear q17
                  try clear hx17
                  try clear c18
                  try clear c18b0
                  try clear c18b1
                  try clear p19
                  try clear q19
                  try clear hx19
                  try clear p17
                  try clear p19
                  try clear p2
                  try clear p6
                  try clear p9
                  try clear q17
                  try clear q19
                  try clear q9
                  obtain ⟨kq, x49_13, rfl, HA, HJ13, ⟨mc13, rfl⟩⟩ := hcut
                  cases kq with
                  | zero => exact absurd HA.out (by simp [spec_FloatOk.j2])
                  | succ kj13 =>
                    have H := HA.out
                    clear HA
                    simp only [spec_FloatOk.j2] at H
                    by_cases c20 : x49_13 = true
                    · subst c20
                      have H1 : (if (wrap64 (x3_9 + 1)) < (a0.size : Int) then (if 0 ≤ (wrap64 (x3_9 + 1)) then (if (bt a0 (wrap64 (x3_9 + 1))) = 43 then (spec_FloatOk.j3 kj13 a0 (wrap64 (x3_9 + 1)) true) else (spec_FloatOk.j3 kj13 a0 (wrap64 (x3_9 + 1)) ((bt a0 (wrap64 (x3_9 + 1))) == 45))) else (none)) else (spec_FloatOk.j3 kj13 a0 (wrap64 (x3_9 + 1)) false)) = some r := by rw [if_pos rfl] at H; exact H
                      clear H
                      have H := H1
                      clear H1
                      have HC21 := Aside0.mk H
                      clear H
                      go_upto_region 11 with (fail)
                      go_cut [67] (fun v67 wc => ∃ (kq : Nat) (x67_20 : Bool), v67 = .bool x67_20 ∧ Aside0 (spec_FloatOk.j3 kq a0 (wrap64 (x3_9 + 1)) x67_20 = some r) ∧ Aside0 (kq ≤ kj13) ∧ Drawn0 w wc)
                      case first =>
                        have H := HC21.out
                        clear HC21
                        by_cases c22 : (wrap64 (x3_9 + 1)) < (a0.size : Int)
                        · rw [if_pos c22] at H
                          have c22b0 : decide ((wrap64 (x3_9 + 1)) < (a0.size : Int)) = true := decide_eq_true c22
                          clear c22
                          (first | rw [c22b0] | (simp only [i64_w, i32_w]; rw [c22b0]) | skip)
                          obtain ⟨ji23, hji23⟩ : ∃ j_ : Int, (wrap64 (x3_9 + 1)) = j_ := ⟨_, rfl⟩
                          replace H : (if 0 ≤ (ji23) then (if (bt a0 (ji23)) = 43 then (spec_FloatOk.j3 kj13 a0 ji23 true) else (spec_FloatOk.j3 kj13 a0 ji23 ((bt a0 (ji23)) == 45))) else (none)) = some r := by first | (rw [hji23] at H; exact H) | (simp only [hji23] at H ⊢; exact H)
                          (try rw [hji23] at c22b0)
                          have hji23w : (IntKind.i64.wrap (x3_9 + 1)) = ji23 := (i64_w _).trans hji23
                          by_cases c24 : 0 ≤ (ji23)
                          · rw [if_pos c24] at H
                            have c24b0 : decide (0 ≤ (ji23)) = true := decide_eq_true c24
                            clear c24
                            by_cases c26 : (bt a0 (ji23)) = 43
                            · rw [if_pos c26] at H
                              have c26b0 : ((bt a0 (ji23)) == 43) = true := beq_iff_eq.mpr c26
                              have c26b1 : ((bt a0 (ji23)) != 43) = false := bne_eq_false_iff_eq.mpr c26
                              clear c26
                              have H' := Aside0.mk H
                              clear H
                              have p25 : 0 ≤ ((ji23) : Int) := of_decide_eq_true (by first | (with_reducible assumption) | assumption)
                              have q25 : (ji23) < (a0.size : Int) := of_decide_eq_true (by first | (with_reducible assumption) | assumption)
                              have hx25 := bt_at a0 (ji23)
                              replace p25 := eq_true p25
                              replace q25 := eq_true q25
                              go_wp2
                              go_meet
                              case rel => exact ⟨_, (true), (by first | rfl | (simp; done) | (simp [*]; done) | (simp [show ∀ l_ : List UInt8, (l_ != []) = !l_.isEmpty from fun l_ => by cases l_ <;> rfl, show ∀ l_ : List UInt8, (l_ == []) = l_.isEmpty from fun l_ => by cases l_ <;> rfl]; done)), (by first | exact H' | (subst hji23; exact H')), ⟨by have := HJ2.out; have := HJ9.out; have := HJ13.out; first | omega | exact Nat.le_refl _⟩, by repeat (first | exact Drawn0.refl _ | apply Drawn0.step)⟩
                            · rw [if_neg c26] at H
                              have c26b0 : ((bt a0 (ji23)) == 43) = false := beq_eq_false_iff_ne.mpr c26
                              have c26b1 : ((bt a0 (ji23)) != 43) = true := bne_iff_ne.mpr c26
                              have H' := Aside0.mk H
                              clear H
                              have p25 : 0 ≤ ((ji23) : Int) := of_decide_eq_true (by first | (with_reducible assumption) | assumption)
                              have q25 : (ji23) < (a0.size : Int) := of_decide_eq_true (by first | (with_reducible assumption) | assumption)
                              have hx25 := bt_at a0 (ji23)
                              replace p25 := eq_true p25
                              replace q25 := eq_true q25
                              have p27 : 0 ≤ ((ji23) : Int) := of_decide_eq_true (by first | (with_reducible assumption) | assumption)
                              have q27 : (ji23) < (a0.size : Int) := of_decide_eq_true (by first | (with_reducible assumption) | assumption)
                              have hx27 := bt_at a0 (ji23)
                              replace p27 := eq_true p27
                              replace q27 := eq_true q27
                              go_wp2
                              go_meet
                              case rel => exact ⟨_, (((bt a0 (ji23)) == 45)), (by first | rfl | (simp; done) | (simp only [← hji23] <;> (first | rfl | (simp; done))) | (simp [*]; done)), (by first | exact H' | (subst hji23; exact H')), ⟨by have := HJ2.out; have := HJ9.out; have := HJ13.out; first | omega | exact Nat.le_refl _⟩, by repeat (first | exact Drawn0.refl _ | apply Drawn0.step)⟩
                          · rw [if_neg c24] at H
                            exact absurd H (by simp)
                        · rw [if_neg c22] at H
                          have c22b0 : decide ((wrap64 (x3_9 + 1)) < (a0.size : Int)) = false := decide_eq_false c22
                          clear c22
                          (first | rw [c22b0] | (simp only [i64_w, i32_w]; rw [c22b0]) | skip)
                          have H' := Aside0.mk H
                          clear H
                          go_wp2
                          go_meet
                          case rel => exact ⟨_, (false), (by first | rfl | (simp; done) | (simp [*]; done) | (simp [show ∀ l_ : List UInt8, (l_ != []) = !l_.isEmpty from fun l_ => by cases l_ <;> rfl, show ∀ l_ : List UInt8, (l_ == []) = l_.isEmpty from fun l_ => by cases l_ <;> rfl]; done)), H', ⟨by have := HJ2.out; have := HJ9.out; have := HJ13.out; first | omega | exact Nat.le_refl _⟩, by repeat (first | exact Drawn0.refl _ | apply Drawn0.step)⟩
                      case rest =>
                        clear HC21
                        try clear c1
                        try clear p1
                        try clear q1
                        try clear hx1
                        try clear c2
                        try clear p2
                        try clear q2
                        try clear hx2
                        try clear c4
                        try clear c4b0
                        try clear c4b1
                        try clear c5
                        try clear c5b0
                        try clear c5b1
                        try clear c6
                        try clear p6
                        try clear c7
                        try clear c7b0
                        try clear c8
                        try clear c8b0
                        try clear c9
                        try clear p9
                        try clear q9
                        try clear hx9
                        try clear c10
                        try clear c11
                        try clear c11b0
                        try clear c11b1
                        try clear c13
                        try clear c13b0
                        try clear c13b1
                        try clear c15
                        try clear c15b0
                        try clear c16
                        try clear c16b0
                        try clear p17
                        try clear q17
                        try clear hx17
                        try clear c18
                        try clear c18b0
                        try clear c18b1
                        try clear p19
                        try clear q19
                        try clear hx19
                        try clear c20
                        try clear c22
                        try clear c22b0
                        try clear c24
                        try clear c24b0
                        try clear p25
                        try clear q25
                        try clear hx25
                        try clear c26
                        try clear c26b0
                        try clear c26b1
                        try clear p27
                        try clear q27
                        try clear hx27
                        try clear p1
                        try clear p17
                        try clear p19
                        try clear p2
                        try clear p25
                        try clear p27
                        try clear p6
                        try clear p9
                        try clear q1
                        try clear q17
                        try clear q19
                        try clear q25
                        try clear q27
                        try clear q9
                        obtain ⟨kq, x67_20, rfl, HA, HJ20, ⟨mc20, rfl⟩⟩ := hcut
                        cases kq with
                        | zero => exact absurd HA.out (by simp [spec_FloatOk.j3])
                        | succ kj20 =>
                          have H := HA.out
                          clear HA
                          simp only [spec_FloatOk.j3] at H
                          by_cases c28 : x67_20 = true
                          · subst c28
                            have H1 : ((spec_l03Run.f kj20 a0 (wrap64 ((wrap64 (x3_9 + 1)) + 1))).bind fun t106 => (if t106 = (wrap64 ((wrap64 (x3_9 + 1)) + 1)) then (some false) else (some (t106 == (a0.size : Int))))) = some r := by rw [if_pos rfl] at H; exact H
                            clear H
                            have H := H1
                            clear H1
                            replace H := Option.bind_eq_some_iff.mp H
                            obtain ⟨t106, A290, H⟩ := H
                            replace H : (if t106 = (wrap64 ((wrap64 (x3_9 + 1)) + 1)) then (some false) else (some (t106 == (a0.size : Int)))) = some r := H
                            have A29 := Aside0.mk A290
                            clear A290
                            by_cases c30 : t106 = (wrap64 ((wrap64 (x3_9 + 1)) + 1))
                            · rw [if_pos c30] at H
                              have c30b0 : (t106 == (wrap64 ((wrap64 (x3_9 + 1)) + 1))) = true := beq_iff_eq.mpr c30
                              have c30b1 : (t106 != (wrap64 ((wrap64 (x3_9 + 1)) + 1))) = false := bne_eq_false_iff_eq.mpr c30
                              clear c30
                              obtain rfl := Option.some.inj H
                              go_wp2_with (first | ((with_reducible refine gate_callee (f := 11) rfl ?_); refine goesL_ (some 72) rfl rfl Try.func11 (by kernel_rfl) rfl #[.string a0, .int .i64 (wrap64 ((wrap64 (x3_9 + 1)) + 1))] rfl (by (try simp only [List.map_toArray, List.map_cons, List.map_nil]); first | done | rfl | (simp only [List.length_drop, List.length_take]; rfl)) ?_; (with_reducible refine (spec_l03Run.calls kj20 a0 (wrap64 ((wrap64 (x3_9 + 1)) + 1)) t106 _ A29.out).mono ?_); rintro e w' ⟨rfl, ⟨nd, rfl⟩⟩; refine ⟨_, rfl, ?_⟩))
                              go_ret
                              exact ⟨by first | rfl | (simp; done) | (simp [*]; done) | (simp [show ∀ l_ : List UInt8, (l_ != []) = !l_.isEmpty from fun l_ => by cases l_ <;> rfl, show ∀ l_ : List UInt8, (l_ == []) = l_.isEmpty from fun l_ => by cases l_ <;> rfl]; done), by repeat (first | exact Drawn0.refl _ | apply Drawn0.step)⟩
                            · rw [if_neg c30] at H
                              have c30b0 : (t106 == (wrap64 ((wrap64 (x3_9 + 1)) + 1))) = false := beq_eq_false_iff_ne.mpr c30
                              have c30b1 : (t106 != (wrap64 ((wrap64 (x3_9 + 1)) + 1))) = true := bne_iff_ne.mpr c30
                              obtain rfl := Option.some.inj H
                              go_wp2_with (first | ((with_reducible refine gate_callee (f := 11) rfl ?_); refine goesL_ (some 72) rfl rfl Try.func11 (by kernel_rfl) rfl #[.string a0, .int .i64 (wrap64 ((wrap64 (x3_9 + 1)) + 1))] rfl (by (try simp only [List.map_toArray, List.map_cons, List.map_nil]); first | done | rfl | (simp only [List.length_drop, List.length_take]; rfl)) ?_; (with_reducible refine (spec_l03Run.calls kj20 a0 (wrap64 ((wrap64 (x3_9 + 1)) + 1)) t106 _ A29.out).mono ?_); rintro e w' ⟨rfl, ⟨nd, rfl⟩⟩; refine ⟨_, rfl, ?_⟩))
                              go_ret
                              exact ⟨by first | rfl | (simp; done) | (simp [*]; done) | (simp [show ∀ l_ : List UInt8, (l_ != []) = !l_.isEmpty from fun l_ => by cases l_ <;> rfl, show ∀ l_ : List UInt8, (l_ == []) = l_.isEmpty from fun l_ => by cases l_ <;> rfl]; done), by repeat (first | exact Drawn0.refl _ | apply Drawn0.step)⟩
                          · replace c28 := Bool.eq_false_iff.mpr c28
                            subst c28
                            have H1 : ((spec_l03Run.f kj20 a0 (wrap64 (x3_9 + 1))).bind fun t107 => (if t107 = (wrap64 (x3_9 + 1)) then (some false) else (some (t107 == (a0.size : Int))))) = some r := by rw [if_neg (show ¬ (false = true) by decide)] at H; exact H
                            clear H
                            have H := H1
                            clear H1
                            replace H := Option.bind_eq_some_iff.mp H
                            obtain ⟨t107, A310, H⟩ := H
                            replace H : (if t107 = (wrap64 (x3_9 + 1)) then (some false) else (some (t107 == (a0.size : Int)))) = some r := H
                            have A31 := Aside0.mk A310
                            clear A310
                            by_cases c32 : t107 = (wrap64 (x3_9 + 1))
                            · rw [if_pos c32] at H
                              have c32b0 : (t107 == (wrap64 (x3_9 + 1))) = true := beq_iff_eq.mpr c32
                              have c32b1 : (t107 != (wrap64 (x3_9 + 1))) = false := bne_eq_false_iff_eq.mpr c32
                              clear c32
                              obtain rfl := Option.some.inj H
                              go_wp2_with (first | ((with_reducible refine gate_callee (f := 11) rfl ?_); refine goesL_ (some 72) rfl rfl Try.func11 (by kernel_rfl) rfl #[.string a0, .int .i64 (wrap64 (x3_9 + 1))] rfl (by (try simp only [List.map_toArray, List.map_cons, List.map_nil]); first | done | rfl | (simp only [List.length_drop, List.length_take]; rfl)) ?_; (with_reducible refine (spec_l03Run.calls kj20 a0 (wrap64 (x3_9 + 1)) t107 _ A31.out).mono ?_); rintro e w' ⟨rfl, ⟨nd, rfl⟩⟩; refine ⟨_, rfl, ?_⟩))
                              go_ret
                              exact ⟨by first | rfl | (simp; done) | (simp [*]; done) | (simp [show ∀ l_ : List UInt8, (l_ != []) = !l_.isEmpty from fun l_ => by cases l_ <;> rfl, show ∀ l_ : List UInt8, (l_ == []) = l_.isEmpty from fun l_ => by cases l_ <;> rfl]; done), by repeat (first | exact Drawn0.refl _ | apply Drawn0.step)⟩
                            · rw [if_neg c32] at H
                              have c32b0 : (t107 == (wrap64 (x3_9 + 1))) = false := beq_eq_false_iff_ne.mpr c32
                              have c32b1 : (t107 != (wrap64 (x3_9 + 1))) = true := bne_iff_ne.mpr c32
                              obtain rfl := Option.some.inj H
                              go_wp2_with (first | ((with_reducible refine gate_callee (f := 11) rfl ?_); refine goesL_ (some 72) rfl rfl Try.func11 (by kernel_rfl) rfl #[.string a0, .int .i64 (wrap64 (x3_9 + 1))] rfl (by (try simp only [List.map_toArray, List.map_cons, List.map_nil]); first | done | rfl | (simp only [List.length_drop, List.length_take]; rfl)) ?_; (with_reducible refine (spec_l03Run.calls kj20 a0 (wrap64 (x3_9 + 1)) t107 _ A31.out).mono ?_); rintro e w' ⟨rfl, ⟨nd, rfl⟩⟩; refine ⟨_, rfl, ?_⟩))
                              go_ret
                              exact ⟨by first | rfl | (simp; done) | (simp [*]; done) | (simp [show ∀ l_ : List UInt8, (l_ != []) = !l_.isEmpty from fun l_ => by cases l_ <;> rfl, show ∀ l_ : List UInt8, (l_ == []) = l_.isEmpty from fun l_ => by cases l_ <;> rfl]; done), by repeat (first | exact Drawn0.refl _ | apply Drawn0.step)⟩
                    · replace c20 := Bool.eq_false_iff.mpr c20
                      subst c20
                      have H1 : (some (x3_9 == (a0.size : Int))) = some r := by rw [if_neg (show ¬ (false = true) by decide)] at H; exact H
                      clear H
                      have H := H1
                      clear H1
                      obtain rfl := Option.some.inj H
                      go_wp2
                      go_ret
                      exact ⟨by first | rfl | (simp; done) | (simp [*]; done) | (simp [show ∀ l_ : List UInt8, (l_ != []) = !l_.isEmpty from fun l_ => by cases l_ <;> rfl, show ∀ l_ : List UInt8, (l_ == []) = l_.isEmpty from fun l_ => by cases l_ <;> rfl]; done), by repeat (first | exact Drawn0.refl _ | apply Drawn0.step)⟩
          · rw [if_neg c8] at H
            exact absurd H (by simp)
        · rw [if_neg c7] at H
          exact absurd H (by simp)

/-! ### strings_IndexAny: function 12 -/
theorem strings_IndexAny.wrap_two : IntKind.i64.wrap 2 = 2 := by decide
attribute [local go_sem] strings_IndexAny.wrap_two
set_option maxHeartbeats 8000000 in
set_option maxRecDepth 100000 in
theorem strings_IndexAny.rune_hi (c : Int) (h0 : 128 ≤ c) (h1 : c ≤ 1114111) (hne : c ≠ 65533) (w : World) : Calls Try.prog 18 #[.string (⟨#[101, 69]⟩ : ByteArray), .int .i32 c] w fun e w' => e = .returned (.int .i64 (-1)) ∧ Below w.heap.size w w' := by
  have b0 : decide (0 ≤ c) = true := decide_eq_true (by omega)
  have b1 : decide (c < 128) = false := decide_eq_false (by omega)
  have b2 : (c == 65533) = false := beq_eq_false_iff_ne.2 hne
  by_cases hv : Lib.validRune c = true
  · have hE : ∃ E : ByteArray, Utf8.encode c = E ∧ 2 ≤ E.size ∧ E.size ≤ 4 ∧ ∀ h : E.size - 1 < E.size, 128 ≤ (E[E.size - 1]'h).toNat := ⟨_, rfl, encode_facts c (by unfold Lib.validRune at hv; unfold Utf8.valid; simp at hv ⊢; omega) h0⟩
    obtain ⟨E, hE, z2, z4, hl⟩ := hE
    have ww : wrap64 ((E.size : Int) - 1) = (E.size : Int) - 1 := by unfold wrap64; omega
    have cv : Calls Try.prog 27 #[.int .i32 c] w fun e w' => e = .returned (.bool true) ∧ w' = w := by rw [← hv]; exact Try.utf8_ValidRune c w
    by_cases c2 : E.size = 2
    · obtain ⟨b, hb, hb128⟩ : ∃ b : Int, ((E[1]'(by omega)).toNat : Int) = b ∧ 128 ≤ b := ⟨_, rfl, by have := hl (by omega); simp only [c2] at this; exact_mod_cast this⟩
      have n1 : ((69 : Int) == b) = false := beq_eq_false_iff_ne.2 (by omega)
      have n2 : ((69 : Int) != b) = true := bne_iff_ne.2 (by omega)
      have hI : ∀ x : UInt8, Lib.indexByte ByteArray.empty.data.toList x = -1 := fun x => rfl
      have cI : ∀ W, Calls Try.prog 26 #[.string ByteArray.empty, .int .u8 b] W fun e w' => e = .returned (.int .i64 (-1)) ∧ w' = W := fun W => by have z := Try.strings_IndexByte ByteArray.empty b W; rw [hI] at z; exact z
      have n3 : ((((⟨#[101, 69]⟩ : ByteArray)[1]'(by decide)).toNat : Int) != b) = true := n2
      have n4 : ((((⟨#[101, 69]⟩ : ByteArray)[1]'(by decide)).toNat : Int) == b) = false := n1
      have n5 : ((((⟨#[101, 69]⟩ : ByteArray)[1]'(by decide)).toNat : Int) = b) = False := eq_false (by show ¬ (69 : Int) = b; omega)
      go_enter Try.func18, Try.ntmps18
      go_wp2_with (go_at_call 27; refine cv.mono ?_; rintro e w' ⟨rfl, rfl⟩)
      go_step3
      go_wp2_with (fail)
      go_loopg [9] 1 (fun _ v9 wx => v9 = .int .i64 1 ∧ wx = w')
      case atStart => exact ⟨rfl, rfl⟩
      case round =>
        obtain ⟨rfl, rfl⟩ := hrel
        go_wp2_with (fail)
        go_step3
        go_wp2_with (fail)
        go_quiet (fail)
        go_wp2_with (fail)
        go_quiet (first | (go_at_call 26; refine (cI _).mono ?_; rintro e w2 ⟨rfl, rfl⟩; exact ⟨rfl, _, rfl⟩))
        go_wp2_with (fail)
        go_simp
        go_ret
        exact ⟨rfl, pw_below_drewN (Below.refl _ _) _⟩
    · have c34 : E.size = 3 ∨ E.size = 4 := by omega
      rcases c34 with c3 | c3
      all_goals
        go_enter Try.func18, Try.ntmps18
        go_wp2_with (go_at_call 27; refine cv.mono ?_; rintro e w' ⟨rfl, rfl⟩)
        go_step3
        go_wp2_with (fail)
        go_loopg [9] 1 (fun _ v9 wx => v9 = .int .i64 ((E.size : Int) - 1) ∧ wx = w')
        case atStart => exact ⟨by rw [c3]; rfl, rfl⟩
        case round =>
          obtain ⟨rfl, rfl⟩ := hrel
          rw [c3]
          go_wp2_with (fail)
          go_simp
          go_ret
          exact ⟨rfl, Below.refl _ _⟩
  · replace hv := Bool.eq_false_iff.2 hv
    go_enter Try.func18, Try.ntmps18
    go_wp2_with (first | (go_at_call 27; refine (Try.utf8_ValidRune _ _).mono ?_; rintro e w' ⟨rfl, rfl⟩; rw [hv]))
    go_ret
    exact ⟨rfl, Below.refl _ _⟩

set_option maxHeartbeats 8000000 in
set_option maxRecDepth 100000 in
theorem strings_IndexAny.rune_err (w : World) : Calls Try.prog 18 #[.string (⟨#[101, 69]⟩ : ByteArray), .int .i32 65533] w fun e w' => e = .returned (.int .i64 (-1)) ∧ Below w.heap.size w w' := by
  go_enter Try.func18, Try.ntmps18
  go_wp2_with (fail)
  go_loopg [] 2 (fun g wx => ∃ pos : Nat, wx = w.iter (⟨#[101, 69]⟩ : ByteArray) pos ∧ pos + g = 2)
  case atStart => exact ⟨0, rfl, rfl⟩
  case round =>
    obtain ⟨pos, rfl, hg⟩ := hrel
    obtain ⟨g', rfl⟩ | hg0 : (∃ g', gk = g' + 1) ∨ gk = 0 := by cases gk with | zero => exact .inr rfl | succ n => exact .inl ⟨n, rfl⟩
    · have hp : pos = 0 ∨ pos = 1 := by omega
      have hb : ∃ x : Nat, ((⟨#[101, 69]⟩ : ByteArray)[pos]'(by show pos < 2; omega)).toNat = x ∧ x < 128 := ⟨_, rfl, by
        rcases hp with rfl | rfl
        · show (101 : Nat) < 128; decide
        · show (69 : Nat) < 128; decide⟩
      obtain ⟨x, hx, hx1⟩ := hb
      have hnx := fun ty => run_next_ascii (P := Try.prog) w (⟨#[101, 69]⟩ : ByteArray) pos ty (by show pos < 2; omega) (by rw [hx]; exact hx1)
      rw [hx] at hnx
      clear hx
      have hne : ((x : Int) == 65533) = false := beq_eq_false_iff_ne.2 (by omega)
      go_wp2_with (fail)
      go_roundg g'
      case measure => omega
      case rel => exact ⟨pos + 1, rfl, by omega⟩
    · have hnx := run_next_end (P := Try.prog) w (⟨#[101, 69]⟩ : ByteArray) pos
      have h2 : ¬ pos < (⟨#[101, 69]⟩ : ByteArray).size := by show ¬ pos < 2; omega
      have hnx := fun ty => hnx ty h2
      go_wp2_with (fail)
      go_simp
      go_ret
      exact ⟨rfl, (Below.refl _ w).alloc (Nat.le_refl _) _⟩
def strings_IndexAny.ixR (c : Int) : Int := if c = 101 then 0 else if c = 69 then 1 else -1
theorem strings_IndexAny.ixR_low : ∀ c : Fin 128, Lib.indexByte (⟨#[101, 69]⟩ : ByteArray).data.toList ((c.val : Int)).toNat.toUInt8 = strings_IndexAny.ixR (c.val : Int) := by decide +kernel
theorem strings_IndexAny.rune_all (c : Nat) (h1 : c ≤ 1114111) (w : World) : Calls Try.prog 18 #[.string (⟨#[101, 69]⟩ : ByteArray), .int .i32 c] w fun e w' => e = .returned (.int .i64 (strings_IndexAny.ixR c)) ∧ Below w.heap.size w w' := by
  by_cases c1 : c < 128
  · have h := strings_IndexAny.ixR_low ⟨c, c1⟩
    simp only at h
    rw [← h]
    exact (Try.strings_IndexRune_ascii _ _ w (by omega) (by omega)).mono fun e w' ⟨he, hw⟩ => ⟨he, hw ▸ Below.refl _ _⟩
  · have e : strings_IndexAny.ixR (c : Int) = -1 := by unfold strings_IndexAny.ixR; rw [if_neg (by omega), if_neg (by omega)]
    rw [e]
    by_cases c2 : (c : Int) = 65533
    · rw [c2]; exact strings_IndexAny.rune_err w
    · exact strings_IndexAny.rune_hi c (by omega) (by omega) c2 w
/-- The first sign among two, rune by rune. -/
def strings_IndexAny.ixRun (s : ByteArray) : Nat → Nat → Int
  | 0, _ => -1
  | n + 1, p => if p < s.size then (if 0 ≤ strings_IndexAny.ixR ((Utf8.decode s p).1 : Int) then (p : Int) else strings_IndexAny.ixRun s n (p + (Utf8.decode s p).2)) else -1
set_option maxHeartbeats 8000000 in
set_option maxRecDepth 100000 in
theorem strings_IndexAny.any_short (s : ByteArray) (h8 : s.size ≤ 8) (w : World) : Calls Try.prog 12 #[.string s, .string (⟨#[101, 69]⟩ : ByteArray)] w fun e w' => e = .returned (.int .i64 (strings_IndexAny.ixRun s s.size 0)) ∧ Below w.heap.size w w' := by
  have h8z : decide ((8 : Int) < (s.size : Int)) = false := decide_eq_false (by omega)
  obtain ⟨r, hr⟩ : ∃ r, strings_IndexAny.ixRun s s.size 0 = r := ⟨_, rfl⟩
  rw [hr]
  have HR := Aside0.mk hr
  clear hr
  go_enter Try.func12, Try.ntmps12
  go_wp2_with (go_at_call 19; refine (Try.strings_shouldUseASCIISet _ _).mono ?_; rintro e w' ⟨rfl, hw⟩; rw [hw, h8z])
  go_loopg [] s.size (fun g wx => ∃ pos : Nat, wx.heap[w.heap.size]? = some (.stringIter s pos) ∧ Aside0 (strings_IndexAny.ixRun s g pos = r) ∧ Aside0 (s.size ≤ pos + g) ∧ Aside0 (Below w.heap.size w wx))
  case atStart => exact ⟨0, World.iter_heap _ _ _, HR, ⟨by omega⟩, ⟨(Below.refl _ w).alloc (Nat.le_refl _) _⟩⟩
  case round =>
    obtain ⟨pos, hit, HA, HF, HB⟩ := hrel
    by_cases hlt : pos < s.size
    · obtain ⟨g', rfl⟩ : ∃ g', gk = g' + 1 := ⟨gk - 1, by have := HF.out; omega⟩
      have hnx : ∀ ty, (Instr.next (.pointer (some ⟨w.heap.size, 0, none⟩)) true ty).run Try.prog wr = _ := fun ty => Lib.run_next_any_at wr w.heap.size s pos ty hit hlt
      have HA2 : Aside0 ((if 0 ≤ strings_IndexAny.ixR ((Utf8.decode s pos).1 : Int) then (pos : Int) else strings_IndexAny.ixRun s g' (pos + (Utf8.decode s pos).2)) = r) := ⟨by
        have := HA.out
        rwa [strings_IndexAny.ixRun, if_pos hlt] at this⟩
      have hwd : 1 ≤ (Utf8.decode s pos).2 := by
        have := Lib.width_pos s pos
        omega
      have hrl := Lib.rune_le s pos
      obtain ⟨R, hR⟩ : ∃ R, (Utf8.decode s pos).1 = R := ⟨_, rfl⟩
      obtain ⟨K, hK⟩ : ∃ K, (Utf8.decode s pos).2 = K := ⟨_, rfl⟩
      rw [hR, hK] at hnx
      rw [hR, hK] at HA2
      rw [hK] at hwd
      rw [hR] at hrl
      have hit2 := Lib.iterAt_heap wr w.heap.size s pos (pos + K) hit
      have HB2 := Aside0.mk (Lib.below_iterAt HB.out (k := w.heap.size) (Nat.le_refl _) s (pos + K))
      obtain ⟨W, hWd⟩ : ∃ W, wr.iterAt w.heap.size s (pos + K) = W := ⟨_, rfl⟩
      rw [hWd] at hnx hit2 HB2
      have hitlt : w.heap.size < W.heap.size := (Array.getElem?_eq_some_iff.1 hit2).1
      have cR : ∀ X, Calls Try.prog 18 #[.string (⟨#[101, 69]⟩ : ByteArray), .int .i32 (R : Int)] X fun e w' => e = .returned (.int .i64 (strings_IndexAny.ixR R)) ∧ Below X.heap.size X w' := fun X => strings_IndexAny.rune_all R hrl X
      clear hit HB HA hWd hR hK
      obtain ⟨i, hi⟩ : ∃ i, strings_IndexAny.ixR (R : Int) = i := ⟨_, rfl⟩
      rw [hi] at HA2
      rw [hi] at cR
      clear hi
      by_cases c : 0 ≤ i
      · rw [if_pos c] at HA2
        obtain rfl := HA2.out
        have c1 : decide (0 ≤ i) = true := decide_eq_true c
        clear HA2
        go_wp2_with (go_at_call 18; refine (cR _).mono ?_; rintro e w3 ⟨rfl, hb⟩)
        go_ret
        exact ⟨rfl, below_step HB2.out hb⟩
      · rw [if_neg c] at HA2
        have c1 : decide (0 ≤ i) = false := decide_eq_false c
        go_wp2_with (go_at_call 18; refine (cR _).mono ?_; rintro e w3 ⟨rfl, hb⟩)
        go_roundg g'
        case measure => omega
        case rel => exact ⟨pos + K, (hb.block _ hitlt).trans hit2, HA2, ⟨by have := HF.out; omega⟩, ⟨below_step HB2.out hb⟩⟩
    · have hnx : ∀ ty, (Instr.next (.pointer (some ⟨w.heap.size, 0, none⟩)) true ty).run Try.prog wr = _ := fun ty => Lib.run_next_end_at wr w.heap.size s pos ty hit hlt
      have he : r = -1 := by
        have := HA.out
        cases gk with
        | zero => simpa [strings_IndexAny.ixRun] using this.symm
        | succ n => rw [strings_IndexAny.ixRun, if_neg hlt] at this; exact this.symm
      subst he
      go_wp2
      go_ret
      exact ⟨rfl, HB.out⟩
def strings_IndexAny.f (a0 : ByteArray) (a1 : ByteArray) : Option (Int) := if a1 = (⟨#[101, 69]⟩ : ByteArray) then (if a0.size ≤ 8 then some (strings_IndexAny.ixRun a0 a0.size 0) else if a0.size < 4294967281 then some (Lib.indexAny a0.data.toList [101, 69]) else none) else none
theorem strings_IndexAny.calls (a0 : ByteArray) (a1 : ByteArray) (r : Int) (w : World) (h : strings_IndexAny.f a0 a1 = some r) :
    Calls Try.prog 12 #[.string a0, .string a1] w fun e w' => e = .returned (.int .i64 r) ∧ Below w.heap.size w w' := by
  unfold strings_IndexAny.f at h
  by_cases h1 : a1 = (⟨#[101, 69]⟩ : ByteArray)
  · rw [if_pos h1] at h
    subst h1
    by_cases h8 : a0.size ≤ 8
    · rw [if_pos h8] at h
      obtain rfl := Option.some.inj h
      exact strings_IndexAny.any_short a0 h8 w
    · rw [if_neg h8] at h
      by_cases hs : a0.size < 4294967281
      · rw [if_pos hs] at h
        obtain rfl := Option.some.inj h
        exact (Try.strings_IndexAny_long (zero_of_info (n := 256) (by kernel_rfl)).1 a0 (⟨#[101, 69]⟩ : ByteArray) w (by decide) (by omega) hs (by decide) (fun j b hb => of_decide_eq_true (List.all_eq_true.1 (show (([101, 69] : List UInt8).all fun b => decide (b.toNat < 128)) = true by decide) b (List.mem_of_getElem? hb)))).mono fun e w' ⟨h1, h2⟩ => ⟨h1, by
          rw [h2]
          exact (((Below.refl _ _).alloc (Nat.le_refl _) _).alloc (by simp) _)⟩
      · rw [if_neg hs] at h; cases h
  · rw [if_neg h1] at h; cases h

/-! ### impl_isFigure: function 22 -/
def impl_isFigure.f (a0 : Int) : Option (Bool) := if a0 ≥ 48 then (some (decide (a0 ≤ 57))) else (some false)
set_option maxHeartbeats 8000000 in
set_option maxRecDepth 100000 in
theorem impl_isFigure.calls (a0 : Int) (r : Bool) (w : World) (h : impl_isFigure.f a0 = some r) :
    Calls Try.prog 22 #[.int .u8 a0] w fun e w' => e = .returned (.bool r) ∧ Drawn0 w w' := by
  have H : (if a0 ≥ 48 then (some (decide (a0 ≤ 57))) else (some false)) = some r := h
  clear h
  by_cases c2 : a0 ≥ 48
  · rw [if_pos c2] at H
    have c2b0 : decide (48 ≤ a0) = true := decide_eq_true c2
    clear c2
    obtain rfl := Option.some.inj H
    go_enter Try.func22, Try.ntmps22
    go_wp2
    go_ret
    exact ⟨by first | rfl | (simp; done) | (simp [*]; done) | (simp [show ∀ l_ : List UInt8, (l_ != []) = !l_.isEmpty from fun l_ => by cases l_ <;> rfl, show ∀ l_ : List UInt8, (l_ == []) = l_.isEmpty from fun l_ => by cases l_ <;> rfl]; done), by repeat (first | exact Drawn0.refl _ | apply Drawn0.step)⟩
  · rw [if_neg c2] at H
    have c2b0 : decide (48 ≤ a0) = false := decide_eq_false c2
    clear c2
    obtain rfl := Option.some.inj H
    go_enter Try.func22, Try.ntmps22
    go_wp2
    go_ret
    exact ⟨by first | rfl | (simp; done) | (simp [*]; done) | (simp [show ∀ l_ : List UInt8, (l_ != []) = !l_.isEmpty from fun l_ => by cases l_ <;> rfl, show ∀ l_ : List UInt8, (l_ == []) = l_.isEmpty from fun l_ => by cases l_ <;> rfl]; done), by repeat (first | exact Drawn0.refl _ | apply Drawn0.step)⟩

end Go.Proofs.Ytnlhpjapdklfgaa.OFnExactFloatOk
