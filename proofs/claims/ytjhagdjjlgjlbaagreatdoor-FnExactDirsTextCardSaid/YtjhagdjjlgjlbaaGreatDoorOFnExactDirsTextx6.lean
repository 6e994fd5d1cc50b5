/- The machine side of one law, written by a program. -/
import Derived.Test.YtjhagdjjlgjlbaaGreatDoorOFnExactDirsTextx0
import Derived.Test.YtjhagdjjlgjlbaaGreatDoorOFnExactDirsTextx2
import Derived.Test.YtjhagdjjlgjlbaaGreatDoorOFnExactDirsTextx4
import Derived.Test.YtjhagdjjlgjlbaaGreatDoorOFnExactDirsTextx5
namespace Go.Proofs.YtjhagdjjlgjlbaaGreatDoor.OFnExactDirsText
open Go.Proofs.YtjhagdjjlgjlbaaGreatDoor.GlU Go.Proofs.YtjhagdjjlgjlbaaGreatDoor.Ix
open Go.RowKit Go.Proofs.YtjhagdjjlgjlbaaGreatDoorW.PrintWords Go.Proofs.YtjhagdjjlgjlbaaGreatDoorW.PrintLast Go.Proofs.YtjhagdjjlgjlbaaGreatDoorW.PrintMore
attribute [local go_sem] max2_int min2_int max_two min_two max_three min_three max_four min_four
set_option linter.unusedVariables false
set_option linter.unusedSimpArgs false

mutual
def spec_FloatOk.j0 : Nat → ByteArray → Int → Bool → Option (Bool)
 | 0, _, _, _ => none
 | k + 1, x0, x3, x20 => if x20 = true then (some false) else (if 0 ≤ x3 then (if x3 < (x0.size : Int) then (if (bt x0 x3) = 46 then ((spec_l03Run.f k x0 (wrap64 (x3 + 1))).bind fun t147 => (if t147 = (wrap64 (x3 + 1)) then (some false) else (spec_FloatOk.j1 k x0 t147))) else (spec_FloatOk.j1 k x0 x3)) else (none)) else (none))
def spec_FloatOk.j1 : Nat → ByteArray → Int → Option (Bool)
 | 0, _, _ => none
 | k + 1, x0, x3 => if x3 < (x0.size : Int) then (if 0 ≤ x3 then (if (bt x0 x3) = 101 then (spec_FloatOk.j2 k x0 x3 true) else (spec_FloatOk.j2 k x0 x3 ((bt x0 x3) == 69))) else (none)) else (spec_FloatOk.j2 k x0 x3 false)
def spec_FloatOk.j2 : Nat → ByteArray → Int → Bool → Option (Bool)
 | 0, _, _, _ => none
 | k + 1, x0, x3, x49 => if x49 = true then (if (wrap64 (x3 + 1)) < (x0.size : Int) then (if 0 ≤ (wrap64 (x3 + 1)) then (if (bt x0 (wrap64 (x3 + 1))) = 43 then (spec_FloatOk.j3 k x0 (wrap64 (x3 + 1)) true) else (spec_FloatOk.j3 k x0 (wrap64 (x3 + 1)) ((bt x0 (wrap64 (x3 + 1))) == 45))) else (none)) else (spec_FloatOk.j3 k x0 (wrap64 (x3 + 1)) false)) else (some (x3 == (x0.size : Int)))
def spec_FloatOk.j3 : Nat → ByteArray → Int → Bool → Option (Bool)
 | 0, _, _, _ => none
 | k + 1, x0, x3, x67 => if x67 = true then ((spec_l03Run.f k x0 (wrap64 (x3 + 1))).bind fun t148 => (if t148 = (wrap64 (x3 + 1)) then (some false) else (some (t148 == (x0.size : Int))))) else ((spec_l03Run.f k x0 x3).bind fun t149 => (if t149 = x3 then (some false) else (some (t149 == (x0.size : Int)))))
end
def spec_FloatOk.f (k : Nat) (a0 : ByteArray) : Option (Bool) := (spec_l03Int.f k a0).bind fun t146 => (if (a0.size : Int) > 40 then (spec_FloatOk.j0 k a0 t146 true) else (if t146 = 0 then (spec_FloatOk.j0 k a0 t146 true) else (spec_FloatOk.j0 k a0 t146 (t146 == (a0.size : Int)))))
theorem spec_FloatOk.mono_l : ∀ k, (∀ y0 y1 y2, LeO (spec_FloatOk.j0 k y0 y1 y2) (spec_FloatOk.j0 (k + 1) y0 y1 y2)) ∧ (∀ y0 y1, LeO (spec_FloatOk.j1 k y0 y1) (spec_FloatOk.j1 (k + 1) y0 y1)) ∧ (∀ y0 y1 y2, LeO (spec_FloatOk.j2 k y0 y1 y2) (spec_FloatOk.j2 (k + 1) y0 y1 y2)) ∧ (∀ y0 y1 y2, LeO (spec_FloatOk.j3 k y0 y1 y2) (spec_FloatOk.j3 (k + 1) y0 y1 y2))
 | 0 => ⟨fun _ _ _ r h => by simp [spec_FloatOk.j0] at h, fun _ _ r h => by simp [spec_FloatOk.j1] at h, fun _ _ _ r h => by simp [spec_FloatOk.j2] at h, fun _ _ _ r h => by simp [spec_FloatOk.j3] at h⟩
 | k + 1 => by
  obtain ⟨ih0, ih1, ih2, ih3⟩ := spec_FloatOk.mono_l k; refine ⟨?_, ?_, ?_, ?_⟩
  ·intro y0 y1 y2; unfold spec_FloatOk.j0
   repeat' first
   | (with_reducible first | exact ih0 _ _ _ | exact ih1 _ _ | exact ih2 _ _ _ | exact ih3 _ _ _ | exact spec_l03Int.mono _ _ | exact spec_l03Run.mono _ _ _ | exact LeO.refl _ | exact LeO.none _ | refine LeO.ite ?_ ?_ | refine LeO.bind ?_ (fun _ => ?_))
   | exact ih0 _ _ _ | exact ih1 _ _ | exact ih2 _ _ _ | exact ih3 _ _ _ | exact spec_l03Int.mono _ _ | exact spec_l03Run.mono _ _ _ | exact LeO.none _ | refine LeO.ite ?_ ?_ | refine LeO.bind ?_ (fun _ => ?_)
  ·intro y0 y1; unfold spec_FloatOk.j1
   repeat' first
   | (with_reducible first | exact ih0 _ _ _ | exact ih1 _ _ | exact ih2 _ _ _ | exact ih3 _ _ _ | exact spec_l03Int.mono _ _ | exact spec_l03Run.mono _ _ _ | exact LeO.refl _ | exact LeO.none _ | refine LeO.ite ?_ ?_ | refine LeO.bind ?_ (fun _ => ?_))
   | exact ih0 _ _ _ | exact ih1 _ _ | exact ih2 _ _ _ | exact ih3 _ _ _ | exact spec_l03Int.mono _ _ | exact spec_l03Run.mono _ _ _ | exact LeO.none _ | refine LeO.ite ?_ ?_ | refine LeO.bind ?_ (fun _ => ?_)
  ·intro y0 y1 y2; unfold spec_FloatOk.j2
   repeat' first
   | (with_reducible first | exact ih0 _ _ _ | exact ih1 _ _ | exact ih2 _ _ _ | exact ih3 _ _ _ | exact spec_l03Int.mono _ _ | exact spec_l03Run.mono _ _ _ | exact LeO.refl _ | exact LeO.none _ | refine LeO.ite ?_ ?_ | refine LeO.bind ?_ (fun _ => ?_))
   | exact ih0 _ _ _ | exact ih1 _ _ | exact ih2 _ _ _ | exact ih3 _ _ _ | exact spec_l03Int.mono _ _ | exact spec_l03Run.mono _ _ _ | exact LeO.none _ | refine LeO.ite ?_ ?_ | refine LeO.bind ?_ (fun _ => ?_)
  ·intro y0 y1 y2; unfold spec_FloatOk.j3
   repeat' first
   | (with_reducible first | exact ih0 _ _ _ | exact ih1 _ _ | exact ih2 _ _ _ | exact ih3 _ _ _ | exact spec_l03Int.mono _ _ | exact spec_l03Run.mono _ _ _ | exact LeO.refl _ | exact LeO.none _ | refine LeO.ite ?_ ?_ | refine LeO.bind ?_ (fun _ => ?_))
   | exact ih0 _ _ _ | exact ih1 _ _ | exact ih2 _ _ _ | exact ih3 _ _ _ | exact spec_l03Int.mono _ _ | exact spec_l03Run.mono _ _ _ | exact LeO.none _ | refine LeO.ite ?_ ?_ | refine LeO.bind ?_ (fun _ => ?_)
theorem spec_FloatOk.mono : ∀ a0 k, LeO (spec_FloatOk.f k a0) (spec_FloatOk.f (k + 1) a0) := by
 intro a0 k; obtain ⟨ih0, ih1, ih2, ih3⟩ := spec_FloatOk.mono_l k; unfold spec_FloatOk.f
 repeat' first
   | (with_reducible first | exact ih0 _ _ _ | exact ih1 _ _ | exact ih2 _ _ _ | exact ih3 _ _ _ | exact spec_l03Int.mono _ _ | exact spec_l03Run.mono _ _ _ | exact LeO.refl _ | exact LeO.none _ | refine LeO.ite ?_ ?_ | refine LeO.bind ?_ (fun _ => ?_))
   | exact ih0 _ _ _ | exact ih1 _ _ | exact ih2 _ _ _ | exact ih3 _ _ _ | exact spec_l03Int.mono _ _ | exact spec_l03Run.mono _ _ _ | exact LeO.none _ | refine LeO.ite ?_ ?_ | refine LeO.bind ?_ (fun _ => ?_)
set_option maxHeartbeats 8000000 in
set_option maxRecDepth 100000 in
theorem spec_FloatOk.calls (k : Nat) (a0 : ByteArray) (r : Bool) (w : World) (h : spec_FloatOk.f k a0 = some r) :
  Calls Tryz.prog 80 #[.string a0] w fun e w' => e = .returned (.bool r) ∧ Drawn0 w w' := by
 have H : ((spec_l03Int.f k a0).bind fun t146 => (if (a0.size : Int) > 40 then (spec_FloatOk.j0 k a0 t146 true) else (if t146 = 0 then (spec_FloatOk.j0 k a0 t146 true) else (spec_FloatOk.j0 k a0 t146 (t146 == (a0.size : Int)))))) = some r := h; clear h; replace H := Option.bind_eq_some_iff.mp H; obtain ⟨t146, A20, H⟩ := H; replace H : (if (a0.size : Int) > 40 then (spec_FloatOk.j0 k a0 t146 true) else (if t146 = 0 then (spec_FloatOk.j0 k a0 t146 true) else (spec_FloatOk.j0 k a0 t146 (t146 == (a0.size : Int))))) = some r := H; have A2 := Aside0.mk A20; clear A20; have HC3 := Aside0.mk H; clear H
 go_enter Tryz.func80, Tryz.ntmps80
 go_upto_region 2 with (first | ((with_reducible refine gate_callee (f := 91) rfl ?_); refine goesL_ (some 7) rfl rfl Tryz.func91 (by kernel_rfl) rfl #[.string a0] rfl mapA ?_; (with_reducible refine (spec_l03Int.calls k a0 t146 _ A2.out).mono ?_); rintro e w' ⟨rfl, ⟨nd, rfl⟩⟩; refine ⟨_, rfl, ?_⟩))
 (try simp only [Act.put, List.setIfInBounds_toArray, List.set_cons_zero, List.set_cons_succ])
 go_cut [20] (fun v20 wc => ∃ (kq : Nat) (x20_2 : Bool), v20 = .bool x20_2 ∧ Aside0 (spec_FloatOk.j0 kq a0 t146 x20_2 = some r) ∧ Aside0 (kq ≤ k) ∧ Drawn0 w wc)
 case first =>
  have H := HC3.out; clear HC3
  by_cases c4 : (a0.size : Int) > 40
  ·rw [if_pos c4] at H; have c4b0 := decide_eq_true c4
   have c4b1 : decide (40 < a0.size) = true := decide_eq_true (by omega)
   clear c4
   (first | rw [c4b0] | (simp only [i64_w, i32_w]; rw [c4b0]) | skip)
   have H' := Aside0.mk H
   clear H
   go_wp2
   go_meet
   case rel => exact ⟨_, (true), enA, H', ⟨by first | omega | exact Nat.le_refl _⟩, drA⟩
  ·rw [if_neg c4] at H; have c4b0 := decide_eq_false c4
   have c4b1 : decide (40 < a0.size) = false := decide_eq_false (by omega)
   clear c4
   (first | rw [c4b0] | (simp only [i64_w, i32_w]; rw [c4b0]) | skip)
   by_cases c5 : t146 = 0
   ·rw [if_pos c5] at H; have c5b0 := beq_iff_eq.mpr c5; have c5b1 := bne_eq_false_iff_eq.mpr c5; clear c5
    have H' := Aside0.mk H
    clear H
    go_wp2
    go_meet
    case rel => exact ⟨_, (true), enA, H', ⟨by first | omega | exact Nat.le_refl _⟩, drA⟩
   ·rw [if_neg c5] at H; have c5b0 := beq_eq_false_iff_ne.mpr c5; have c5b1 := bne_iff_ne.mpr c5
    have H' := Aside0.mk H
    clear H
    go_wp2
    go_meet
    case rel => exact ⟨_, ((t146 == (a0.size : Int))), enA, H', ⟨by first | omega | exact Nat.le_refl _⟩, drA⟩
 case rest =>
  clear HC3
  try clear p2
  try clear c4
  try clear c4b0
  try clear c4b1
  try clear c5
  try clear c5b0
  try clear c5b1
  obtain ⟨kq, x20_2, rfl, HA, HJ2, ⟨mc2, rfl⟩⟩ := hcut
  cases kq with
  | zero => exact absurd HA.out (by simp [spec_FloatOk.j0])
  | succ kj2 =>
   have H := HA.out; clear HA
   simp only [spec_FloatOk.j0] at H
   by_cases c6 : x20_2 = true
   ·subst c6
    have H1 : (some false) = some r := by rw [if_pos rfl] at H; exact H
    clear H; have H := H1; clear H1; obtain rfl := Option.some.inj H
    go_wp2
    go_ret
    exact ⟨enA, drA⟩
   ·replace c6 := Bool.eq_false_iff.mpr c6; subst c6
    have H1 : (if 0 ≤ t146 then (if t146 < (a0.size : Int) then (if (bt a0 t146) = 46 then ((spec_l03Run.f kj2 a0 (wrap64 (t146 + 1))).bind fun t147 => (if t147 = (wrap64 (t146 + 1)) then (some false) else (spec_FloatOk.j1 kj2 a0 t147))) else (spec_FloatOk.j1 kj2 a0 t146)) else (none)) else (none)) = some r := by rw [if_neg (show ¬ (false = true) by decide)] at H; exact H
    clear H; have H := H1; clear H1
    by_cases c7 : 0 ≤ t146
    ·rw [if_pos c7] at H; have c7b0 := decide_eq_true c7; clear c7
     by_cases c8 : t146 < (a0.size : Int)
     ·rw [if_pos c8] at H; have c8b0 := decide_eq_true c8; clear c8; have HC10 := Aside0.mk H; clear H; have p9 : 0 ≤ (t146 : Int) := odA; have q9 : t146 < (a0.size : Int) := odA; have hx9 := bt_at a0 t146; replace p9 := eq_true p9; replace q9 := eq_true q9
      go_upto_if 24 with (fail)
      go_cut [3] (fun v3 wc => ∃ (kq : Nat) (x3_9 : Int), v3 = .int .i64 x3_9 ∧ Aside0 (spec_FloatOk.j1 kq a0 x3_9 = some r) ∧ Aside0 (kq ≤ kj2) ∧ Drawn0 w wc)
      case first =>
       have H := HC10.out; clear HC10
       by_cases c11 : (bt a0 t146) = 46
       ·rw [if_pos c11] at H; have c11b0 := beq_iff_eq.mpr c11; have c11b1 := bne_eq_false_iff_eq.mpr c11; clear c11
        (first | rw [c11b0] | (simp only [i64_w, i32_w]; rw [c11b0]) | skip)
        replace H := Option.bind_eq_some_iff.mp H; obtain ⟨t147, A120, H⟩ := H; replace H : (if t147 = (wrap64 (t146 + 1)) then (some false) else (spec_FloatOk.j1 kj2 a0 t147)) = some r := H; have A12 := Aside0.mk A120; clear A120
        by_cases c13 : t147 = (wrap64 (t146 + 1))
        ·rw [if_pos c13] at H; have c13b0 := beq_iff_eq.mpr c13; have c13b1 := bne_eq_false_iff_eq.mpr c13; clear c13; obtain rfl := Option.some.inj H
         go_wp2_with (first | ((with_reducible refine gate_callee (f := 92) rfl ?_); refine goesL_ (some 28) rfl rfl Tryz.func92 (by kernel_rfl) rfl #[.string a0, .int .i64 (wrap64 (t146 + 1))] rfl mapA ?_; (with_reducible refine (spec_l03Run.calls kj2 a0 (wrap64 (t146 + 1)) t147 _ A12.out).mono ?_); rintro e w' ⟨rfl, ⟨nd, rfl⟩⟩; refine ⟨_, rfl, ?_⟩))
         go_ret
         exact ⟨enA, drA⟩
        ·rw [if_neg c13] at H; have c13b0 := beq_eq_false_iff_ne.mpr c13; have c13b1 := bne_iff_ne.mpr c13
         have H' := Aside0.mk H
         clear H
         go_wp2_with (first | ((with_reducible refine gate_callee (f := 92) rfl ?_); refine goesL_ (some 28) rfl rfl Tryz.func92 (by kernel_rfl) rfl #[.string a0, .int .i64 (wrap64 (t146 + 1))] rfl mapA ?_; (with_reducible refine (spec_l03Run.calls kj2 a0 (wrap64 (t146 + 1)) t147 _ A12.out).mono ?_); rintro e w' ⟨rfl, ⟨nd, rfl⟩⟩; refine ⟨_, rfl, ?_⟩))
         go_meet
         case rel => exact ⟨_, (t147), enA, H', ⟨by have := HJ2.out; first | omega | exact Nat.le_refl _⟩, drA⟩
       ·rw [if_neg c11] at H; have c11b0 := beq_eq_false_iff_ne.mpr c11; have c11b1 := bne_iff_ne.mpr c11
        (first | rw [c11b0] | (simp only [i64_w, i32_w]; rw [c11b0]) | skip)
        have H' := Aside0.mk H
        clear H
        go_wp2
        go_meet
        case rel => exact ⟨_, (t146), enA, H', ⟨by have := HJ2.out; first | omega | exact Nat.le_refl _⟩, drA⟩
      case rest =>
       clear HC10
       try clear c1
       try clear c2
       try clear p2
       try clear c4
       try clear c4b0
       try clear c4b1
       try clear c5
       try clear c5b0
       try clear c5b1
       try clear c6
       try clear p6
       try clear c7
       try clear c7b0
       try clear c8
       try clear c8b0
       try clear c9
       try clear p9
       try clear q9
       try clear hx9
       try clear c11
       try clear c11b0
       try clear c11b1
       try clear c13
       try clear c13b0
       try clear c13b1
       try clear p2
       try clear p9
       try clear q9
       obtain ⟨kq, x3_9, rfl, HA, HJ9, ⟨mc9, rfl⟩⟩ := hcut
       cases kq with
       | zero => exact absurd HA.out (by simp [spec_FloatOk.j1])
       | succ kj9 =>
        have H := HA.out; clear HA
        simp only [spec_FloatOk.j1] at H
        have HC14 := Aside0.mk H; clear H
        go_upto_region 9 with (fail)
        go_cut [49] (fun v49 wc => ∃ (kq : Nat) (x49_13 : Bool), v49 = .bool x49_13 ∧ Aside0 (spec_FloatOk.j2 kq a0 x3_9 x49_13 = some r) ∧ Aside0 (kq ≤ kj9) ∧ Drawn0 w wc)
        case first =>
         have H := HC14.out; clear HC14
         by_cases c15 : x3_9 < (a0.size : Int)
         ·rw [if_pos c15] at H; have c15b0 := decide_eq_true c15; clear c15
          (first | rw [c15b0] | (simp only [i64_w, i32_w]; rw [c15b0]) | skip)
          by_cases c16 : 0 ≤ x3_9
          ·rw [if_pos c16] at H; have c16b0 := decide_eq_true c16; clear c16
           by_cases c18 : (bt a0 x3_9) = 101
           ·rw [if_pos c18] at H; have c18b0 := beq_iff_eq.mpr c18; have c18b1 := bne_eq_false_iff_eq.mpr c18; clear c18
            have H' := Aside0.mk H
            clear H; have p17 : 0 ≤ (x3_9 : Int) := odA; have q17 : x3_9 < (a0.size : Int) := odA; have hx17 := bt_at a0 x3_9; replace p17 := eq_true p17; replace q17 := eq_true q17
            go_wp2
            go_meet
            case rel => exact ⟨_, (true), enA, H', ⟨by have := HJ2.out; have := HJ9.out; first | omega | exact Nat.le_refl _⟩, drA⟩
           ·rw [if_neg c18] at H; have c18b0 := beq_eq_false_iff_ne.mpr c18; have c18b1 := bne_iff_ne.mpr c18
            have H' := Aside0.mk H
            clear H; have p17 : 0 ≤ (x3_9 : Int) := odA; have q17 : x3_9 < (a0.size : Int) := odA; have hx17 := bt_at a0 x3_9; replace p17 := eq_true p17; replace q17 := eq_true q17; have p19 : 0 ≤ (x3_9 : Int) := odA; have q19 : x3_9 < (a0.size : Int) := odA; have hx19 := bt_at a0 x3_9; replace p19 := eq_true p19; replace q19 := eq_true q19
            go_wp2
            go_meet
            case rel => exact ⟨_, (((bt a0 x3_9) == 69)), enA, H', ⟨by have := HJ2.out; have := HJ9.out; first | omega | exact Nat.le_refl _⟩, drA⟩
          ·rw [if_neg c16] at H
           exact absurd H (by simp)
         ·rw [if_neg c15] at H; have c15b0 := decide_eq_false c15; clear c15
          (first | rw [c15b0] | (simp only [i64_w, i32_w]; rw [c15b0]) | skip)
          have H' := Aside0.mk H
          clear H
          go_wp2
          go_meet
          case rel => exact ⟨_, (false), enA, H', ⟨by have := HJ2.out; have := HJ9.out; first | omega | exact Nat.le_refl _⟩, drA⟩
        case rest =>
         clear HC14
         try clear c1
         try clear p1
         try clear q1
         try clear hx1
         try clear c2
         try clear p2
         try clear c4
         try clear c4b0
         try clear c4b1
         try clear c5
         try clear c5b0
         try clear c5b1
         try clear c6
         try clear p6
         try clear c7
         try clear c7b0
         try clear c8
         try clear c8b0
         try clear c9
         try clear p9
         try clear q9
         try clear hx9
         try clear c11
         try clear c11b0
         try clear c11b1
         try clear c13
         try clear c13b0
         try clear c13b1
         try clear c15
         try clear c15b0
         try clear c16
         try clear c16b0
         try clear p17
         try clear q17
         try clear hx17
         try clear c18
         try clear c18b0
         try clear c18b1
         try clear p19
         try clear q19
         try clear hx19
         try clear p17
         try clear p19
         try clear p2
         try clear p6
         try clear p9
         try clear q17
         try clear q19
         try clear q9
         obtain ⟨kq, x49_13, rfl, HA, HJ13, ⟨mc13, rfl⟩⟩ := hcut
         cases kq with
         | zero => exact absurd HA.out (by simp [spec_FloatOk.j2])
         | succ kj13 =>
          have H := HA.out; clear HA
          simp only [spec_FloatOk.j2] at H
          by_cases c20 : x49_13 = true
          ·subst c20
           have H1 : (if (wrap64 (x3_9 + 1)) < (a0.size : Int) then (if 0 ≤ (wrap64 (x3_9 + 1)) then (if (bt a0 (wrap64 (x3_9 + 1))) = 43 then (spec_FloatOk.j3 kj13 a0 (wrap64 (x3_9 + 1)) true) else (spec_FloatOk.j3 kj13 a0 (wrap64 (x3_9 + 1)) ((bt a0 (wrap64 (x3_9 + 1))) == 45))) else (none)) else (spec_FloatOk.j3 kj13 a0 (wrap64 (x3_9 + 1)) false)) = some r := by rw [if_pos rfl] at H; exact H
           clear H; have H := H1; clear H1; have HC21 := Aside0.mk H; clear H
           go_upto_region 11 with (fail)
           go_cut [67] (fun v67 wc => ∃ (kq : Nat) (x67_20 : Bool), v67 = .bool x67_20 ∧ Aside0 (spec_FloatOk.j3 kq a0 (wrap64 (x3_9 + 1)) x67_20 = some r) ∧ Aside0 (kq ≤ kj13) ∧ Drawn0 w wc)
           case first =>
            have H := HC21.out; clear HC21
            by_cases c22 : (wrap64 (x3_9 + 1)) < (a0.size : Int)
            ·rw [if_pos c22] at H; have c22b0 := decide_eq_true c22; clear c22
             (first | rw [c22b0] | (simp only [i64_w, i32_w]; rw [c22b0]) | skip)
             obtain ⟨ji23, hji23⟩ : ∃ j_ : Int, (wrap64 (x3_9 + 1)) = j_ := ⟨_, rfl⟩
             replace H : (if 0 ≤ (ji23) then (if (bt a0 (ji23)) = 43 then (spec_FloatOk.j3 kj13 a0 ji23 true) else (spec_FloatOk.j3 kj13 a0 ji23 ((bt a0 (ji23)) == 45))) else (none)) = some r := by first | (rw [hji23] at H; exact H) | (simp only [hji23] at H ⊢; exact H)
             (try rw [hji23] at c22b0)
             have hji23w : (IntKind.i64.wrap (x3_9 + 1)) = ji23 := (i64_w _).trans hji23
             by_cases c24 : 0 ≤ (ji23)
             ·rw [if_pos c24] at H; have c24b0 := decide_eq_true c24; clear c24
              by_cases c26 : (bt a0 (ji23)) = 43
              ·rw [if_pos c26] at H; have c26b0 := beq_iff_eq.mpr c26; have c26b1 := bne_eq_false_iff_eq.mpr c26; clear c26
               have H' := Aside0.mk H
               clear H; have p25 : 0 ≤ ((ji23) : Int) := odA; have q25 : (ji23) < (a0.size : Int) := odA; have hx25 := bt_at a0 (ji23); replace p25 := eq_true p25; replace q25 := eq_true q25
               go_wp2
               go_meet
               case rel => exact ⟨_, (true), enA, (by first | exact H' | (subst hji23; exact H')), ⟨by have := HJ2.out; have := HJ9.out; have := HJ13.out; first | omega | exact Nat.le_refl _⟩, drA⟩
              ·rw [if_neg c26] at H; have c26b0 := beq_eq_false_iff_ne.mpr c26; have c26b1 := bne_iff_ne.mpr c26
               have H' := Aside0.mk H
               clear H; have p25 : 0 ≤ ((ji23) : Int) := odA; have q25 : (ji23) < (a0.size : Int) := odA; have hx25 := bt_at a0 (ji23); replace p25 := eq_true p25; replace q25 := eq_true q25; have p27 : 0 ≤ ((ji23) : Int) := odA; have q27 : (ji23) < (a0.size : Int) := odA; have hx27 := bt_at a0 (ji23); replace p27 := eq_true p27; replace q27 := eq_true q27
               go_wp2
               go_meet
               case rel => exact ⟨_, (((bt a0 (ji23)) == 45)), (by first | rfl | (simp; done) | (simp only [← hji23] <;> (first | rfl | (simp; done))) | (simp [*]; done)), (by first | exact H' | (subst hji23; exact H')), ⟨by have := HJ2.out; have := HJ9.out; have := HJ13.out; first | omega | exact Nat.le_refl _⟩, drA⟩
             ·rw [if_neg c24] at H
              exact absurd H (by simp)
            ·rw [if_neg c22] at H; have c22b0 := decide_eq_false c22; clear c22
             (first | rw [c22b0] | (simp only [i64_w, i32_w]; rw [c22b0]) | skip)
             have H' := Aside0.mk H
             clear H
             go_wp2
             go_meet
             case rel => exact ⟨_, (false), enA, H', ⟨by have := HJ2.out; have := HJ9.out; have := HJ13.out; first | omega | exact Nat.le_refl _⟩, drA⟩
           case rest =>
            clear HC21
            try clear c1
            try clear p1
            try clear q1
            try clear hx1
            try clear c2
            try clear p2
            try clear q2
            try clear hx2
            try clear c4
            try clear c4b0
            try clear c4b1
            try clear c5
            try clear c5b0
            try clear c5b1
            try clear c6
            try clear p6
            try clear c7
            try clear c7b0
            try clear c8
            try clear c8b0
            try clear c9
            try clear p9
            try clear q9
            try clear hx9
            try clear c11
            try clear c11b0
            try clear c11b1
            try clear c13
            try clear c13b0
            try clear c13b1
            try clear c15
            try clear c15b0
            try clear c16
            try clear c16b0
            try clear p17
            try clear q17
            try clear hx17
            try clear c18
            try clear c18b0
            try clear c18b1
            try clear p19
            try clear q19
            try clear hx19
            try clear c20
            try clear c22
            try clear c22b0
            try clear c24
            try clear c24b0
            try clear p25
            try clear q25
            try clear hx25
            try clear c26
            try clear c26b0
            try clear c26b1
            try clear p27
            try clear q27
            try clear hx27
            try clear p1
            try clear p17
            try clear p19
            try clear p2
            try clear p25
            try clear p27
            try clear p6
            try clear p9
            try clear q1
            try clear q17
            try clear q19
            try clear q25
            try clear q27
            try clear q9
            obtain ⟨kq, x67_20, rfl, HA, HJ20, ⟨mc20, rfl⟩⟩ := hcut
            cases kq with
            | zero => exact absurd HA.out (by simp [spec_FloatOk.j3])
            | succ kj20 =>
             have H := HA.out; clear HA
             simp only [spec_FloatOk.j3] at H
             by_cases c28 : x67_20 = true
             ·subst c28
              have H1 : ((spec_l03Run.f kj20 a0 (wrap64 ((wrap64 (x3_9 + 1)) + 1))).bind fun t148 => (if t148 = (wrap64 ((wrap64 (x3_9 + 1)) + 1)) then (some false) else (some (t148 == (a0.size : Int))))) = some r := by rw [if_pos rfl] at H; exact H
              clear H; have H := H1; clear H1; replace H := Option.bind_eq_some_iff.mp H; obtain ⟨t148, A290, H⟩ := H; replace H : (if t148 = (wrap64 ((wrap64 (x3_9 + 1)) + 1)) then (some false) else (some (t148 == (a0.size : Int)))) = some r := H; have A29 := Aside0.mk A290; clear A290
              by_cases c30 : t148 = (wrap64 ((wrap64 (x3_9 + 1)) + 1))
              ·rw [if_pos c30] at H; have c30b0 := beq_iff_eq.mpr c30; have c30b1 := bne_eq_false_iff_eq.mpr c30; clear c30; obtain rfl := Option.some.inj H
               go_wp2_with (first | ((with_reducible refine gate_callee (f := 92) rfl ?_); refine goesL_ (some 72) rfl rfl Tryz.func92 (by kernel_rfl) rfl #[.string a0, .int .i64 (wrap64 ((wrap64 (x3_9 + 1)) + 1))] rfl mapA ?_; (with_reducible refine (spec_l03Run.calls kj20 a0 (wrap64 ((wrap64 (x3_9 + 1)) + 1)) t148 _ A29.out).mono ?_); rintro e w' ⟨rfl, ⟨nd, rfl⟩⟩; refine ⟨_, rfl, ?_⟩))
               go_ret
               exact ⟨enA, drA⟩
              ·rw [if_neg c30] at H; have c30b0 := beq_eq_false_iff_ne.mpr c30; have c30b1 := bne_iff_ne.mpr c30; obtain rfl := Option.some.inj H
               go_wp2_with (first | ((with_reducible refine gate_callee (f := 92) rfl ?_); refine goesL_ (some 72) rfl rfl Tryz.func92 (by kernel_rfl) rfl #[.string a0, .int .i64 (wrap64 ((wrap64 (x3_9 + 1)) + 1))] rfl mapA ?_; (with_reducible refine (spec_l03Run.calls kj20 a0 (wrap64 ((wrap64 (x3_9 + 1)) + 1)) t148 _ A29.out).mono ?_); rintro e w' ⟨rfl, ⟨nd, rfl⟩⟩; refine ⟨_, rfl, ?_⟩))
               go_ret
               exact ⟨enA, drA⟩
             ·replace c28 := Bool.eq_false_iff.mpr c28; subst c28
              have H1 : ((spec_l03Run.f kj20 a0 (wrap64 (x3_9 + 1))).bind fun t149 => (if t149 = (wrap64 (x3_9 + 1)) then (some false) else (some (t149 == (a0.size : Int))))) = some r := by rw [if_neg (show ¬ (false = true) by decide)] at H; exact H
              clear H; have H := H1; clear H1; replace H := Option.bind_eq_some_iff.mp H; obtain ⟨t149, A310, H⟩ := H; replace H : (if t149 = (wrap64 (x3_9 + 1)) then (some false) else (some (t149 == (a0.size : Int)))) = some r := H; have A31 := Aside0.mk A310; clear A310
              by_cases c32 : t149 = (wrap64 (x3_9 + 1))
              ·rw [if_pos c32] at H; have c32b0 := beq_iff_eq.mpr c32; have c32b1 := bne_eq_false_iff_eq.mpr c32; clear c32; obtain rfl := Option.some.inj H
               go_wp2_with (first | ((with_reducible refine gate_callee (f := 92) rfl ?_); refine goesL_ (some 72) rfl rfl Tryz.func92 (by kernel_rfl) rfl #[.string a0, .int .i64 (wrap64 (x3_9 + 1))] rfl mapA ?_; (with_reducible refine (spec_l03Run.calls kj20 a0 (wrap64 (x3_9 + 1)) t149 _ A31.out).mono ?_); rintro e w' ⟨rfl, ⟨nd, rfl⟩⟩; refine ⟨_, rfl, ?_⟩))
               go_ret
               exact ⟨enA, drA⟩
              ·rw [if_neg c32] at H; have c32b0 := beq_eq_false_iff_ne.mpr c32; have c32b1 := bne_iff_ne.mpr c32; obtain rfl := Option.some.inj H
               go_wp2_with (first | ((with_reducible refine gate_callee (f := 92) rfl ?_); refine goesL_ (some 72) rfl rfl Tryz.func92 (by kernel_rfl) rfl #[.string a0, .int .i64 (wrap64 (x3_9 + 1))] rfl mapA ?_; (with_reducible refine (spec_l03Run.calls kj20 a0 (wrap64 (x3_9 + 1)) t149 _ A31.out).mono ?_); rintro e w' ⟨rfl, ⟨nd, rfl⟩⟩; refine ⟨_, rfl, ?_⟩))
               go_ret
               exact ⟨enA, drA⟩
          ·replace c20 := Bool.eq_false_iff.mpr c20; subst c20
           have H1 : (some (x3_9 == (a0.size : Int))) = some r := by rw [if_neg (show ¬ (false = true) by decide)] at H; exact H
           clear H; have H := H1; clear H1; obtain rfl := Option.some.inj H
           go_wp2
           go_ret
           exact ⟨enA, drA⟩
     ·rw [if_neg c8] at H
      exact absurd H (by simp)
    ·rw [if_neg c7] at H
     exact absurd H (by simp)

def spec_Word.f (a0 : ByteArray) : Option (Bool) := if a0.toList = ([116, 114, 117, 101] : List UInt8) then (some true) else (if a0.toList = ([102, 97, 108, 115, 101] : List UInt8) then (some true) else (some (a0.toList == ([110, 117, 108, 108] : List UInt8))))
set_option maxHeartbeats 8000000 in
set_option maxRecDepth 100000 in
theorem spec_Word.calls (a0 : ByteArray) (r : Bool) (w : World) (h : spec_Word.f a0 = some r) :
  Calls Tryz.prog 81 #[.string a0] w fun e w' => e = .returned (.bool r) ∧ Drawn0 w w' := by
 have H : (if a0.toList = ([116, 114, 117, 101] : List UInt8) then (some true) else (if a0.toList = ([102, 97, 108, 115, 101] : List UInt8) then (some true) else (some (a0.toList == ([110, 117, 108, 108] : List UInt8))))) = some r := h; clear h
 by_cases c2 : a0.toList = ([116, 114, 117, 101] : List UInt8)
 ·rw [if_pos c2] at H; have c2b0 := beq_iff_eq.mpr c2; have c2b1 := bne_eq_false_iff_eq.mpr c2; clear c2; obtain rfl := Option.some.inj H
  go_enter Tryz.func81, Tryz.ntmps81
  go_wp2
  go_ret
  exact ⟨enA, drA⟩
 ·rw [if_neg c2] at H; have c2b0 := beq_eq_false_iff_ne.mpr c2; have c2b1 := bne_iff_ne.mpr c2
  by_cases c3 : a0.toList = ([102, 97, 108, 115, 101] : List UInt8)
  ·rw [if_pos c3] at H; have c3b0 := beq_iff_eq.mpr c3; have c3b1 := bne_eq_false_iff_eq.mpr c3; clear c3; obtain rfl := Option.some.inj H
   go_enter Tryz.func81, Tryz.ntmps81
   go_wp2
   go_ret
   exact ⟨enA, drA⟩
  ·rw [if_neg c3] at H; have c3b0 := beq_eq_false_iff_ne.mpr c3; have c3b1 := bne_iff_ne.mpr c3; obtain rfl := Option.some.inj H
   go_enter Tryz.func81, Tryz.ntmps81
   go_wp2
   go_ret
   exact ⟨enA, drA⟩

def spec_l07One.f (k : Nat) (a0_0 : Int) (a0_1 : ByteArray) (l0_2 : List (S52)) (l0_3 : List ByteArray) : Option (Bool) := if a0_0 = 1 then ((spec_NameOk.f k a0_1).bind fun t151 => (some t151)) else (if a0_0 = 2 then ((spec_IntOk.f k a0_1).bind fun t152 => (some t152)) else (if a0_0 = 3 then ((spec_FloatOk.f k a0_1).bind fun t153 => (some t153)) else (if a0_0 = 4 then ((spec_Escaped.f k a0_1).bind fun t154 => (some (t154.toList != ([] : List UInt8)))) else (if a0_0 = 5 then ((spec_Word.f a0_1).bind fun t155 => (some t155)) else (if a0_0 = 6 then ((spec_NameOk.f k a0_1).bind fun t156 => (if t156 = true then ((spec_Word.f a0_1).bind fun t157 => (some (!t157))) else (some false))) else (if a0_0 = 7 then (some (a0_1.toList == ([] : List UInt8))) else (if a0_0 = 8 then (some (a0_1.toList == ([] : List UInt8))) else (some false))))))))
theorem spec_l07One.mono : ∀ a0 a1 a2 a3 k, LeO (spec_l07One.f k a0 a1 a2 a3) (spec_l07One.f (k + 1) a0 a1 a2 a3) := by
 intro a0 a1 a2 a3 k; unfold spec_l07One.f
 repeat' first
   | (with_reducible first | exact spec_Escaped.mono _ _ | exact spec_FloatOk.mono _ _ | exact spec_IntOk.mono _ _ | exact spec_NameOk.mono _ _ | exact LeO.refl _ | exact LeO.none _ | refine LeO.ite ?_ ?_ | refine LeO.bind ?_ (fun _ => ?_))
   | exact spec_Escaped.mono _ _ | exact spec_FloatOk.mono _ _ | exact spec_IntOk.mono _ _ | exact spec_NameOk.mono _ _ | exact LeO.none _ | refine LeO.ite ?_ ?_ | refine LeO.bind ?_ (fun _ => ?_)
set_option maxHeartbeats 8000000 in
set_option maxRecDepth 100000 in
theorem spec_l07One.calls (k : Nat) (a0_0 : Int) (a0_1 : ByteArray) (A0_2 : Option Addr) (c0_2 : Nat) (l0_2 : List (S52)) (A0_3 : Option Addr) (c0_3 : Nat) (l0_3 : List ByteArray) (r : Bool) (w : World) (hr0_2 : Kd.C k52 w A0_2 l0_2.length l0_2) (hc0_2 : l0_2.length ≤ c0_2) (hr0_3 : Kd.C Kd.string w A0_3 l0_3.length l0_3) (hc0_3 : l0_3.length ≤ c0_3) (h : spec_l07One.f k a0_0 a0_1 l0_2 l0_3 = some r) :
  Calls Tryz.prog 60 #[.agg #[.int .i64 a0_0, .string a0_1, .slice A0_2 l0_2.length c0_2, .slice A0_3 l0_3.length c0_3]] w fun e w' => e = .returned (.bool r) ∧ Below w.heap.size w w' := by
 have hu52 := Tryz.underlying52; have HR0_2 := Aside0.mk hr0_2; have HC0_2 := Aside0.mk hc0_2; clear hr0_2 hc0_2; have HR0_3 := Aside0.mk hr0_3; have HC0_3 := Aside0.mk hc0_3; clear hr0_3 hc0_3; have HB := Aside0.mk (Below.refl w.heap.size w); have H : (if a0_0 = 1 then ((spec_NameOk.f k a0_1).bind fun t151 => (some t151)) else (if a0_0 = 2 then ((spec_IntOk.f k a0_1).bind fun t152 => (some t152)) else (if a0_0 = 3 then ((spec_FloatOk.f k a0_1).bind fun t153 => (some t153)) else (if a0_0 = 4 then ((spec_Escaped.f k a0_1).bind fun t154 => (some (t154.toList != ([] : List UInt8)))) else (if a0_0 = 5 then ((spec_Word.f a0_1).bind fun t155 => (some t155)) else (if a0_0 = 6 then ((spec_NameOk.f k a0_1).bind fun t156 => (if t156 = true then ((spec_Word.f a0_1).bind fun t157 => (some (!t157))) else (some false))) else (if a0_0 = 7 then (some (a0_1.toList == ([] : List UInt8))) else (if a0_0 = 8 then (some (a0_1.toList == ([] : List UInt8))) else (some false))))))))) = some r := h; clear h
 by_cases c2 : a0_0 = 1
 ·rw [if_pos c2] at H; have c2b0 := beq_iff_eq.mpr c2; have c2b1 := bne_eq_false_iff_eq.mpr c2; clear c2; replace H := Option.bind_eq_some_iff.mp H; obtain ⟨t151, A30, H⟩ := H; replace H : (some t151) = some r := H; have A3 := Aside0.mk A30; clear A30; obtain rfl := Option.some.inj H
  go_enter Tryz.func60, Tryz.ntmps60
  go_wp2_with (first | ((with_reducible refine gate_dst (N := 1) rfl ?_); refine boxE (N := 1) (cs := #[.int .i64 a0_0, .string a0_1, .slice A0_2 l0_2.length c0_2, .slice A0_3 l0_3.length c0_3]) (t := 52) ?_; intro gb150 hg w4 hbox hb; have BK150 := Aside0.mk (hbox); have GW150 := Aside0.mk ((gbA (w := w) HB hg)); have GE150 := Aside0.mk ((gbA (w := w) HB hg)); replace HB := Aside0.mk (below_step (belB HB) hb); clear hb hbox hg; obtain ⟨hcz5_0, hcz5_1, hcz5_2, hcz5_3, hfz5_0, hfz5_1, hfz5_2, hfz5_3⟩ := cef4 BK150.out) | ((with_reducible refine gate_callee (f := 17) rfl ?_); refine goesL_ (some 9) rfl rfl Tryz.func17 (by kernel_rfl) rfl #[.string a0_1] rfl mapA ?_; (with_reducible refine (spec_NameOk.calls k a0_1 t151 _ A3.out).mono ?_); rintro e w' ⟨rfl, ⟨nd, rfl⟩⟩; refine ⟨_, rfl, ?_⟩))
  go_ret
  exact ⟨by first | rfl | (simp [errW_none, errW_some] <;> rfl) | (simp [*, errW_none, errW_some] <;> rfl) | (simp [nilA, nilB]; done), belS HB GE150⟩
 ·rw [if_neg c2] at H; have c2b0 := beq_eq_false_iff_ne.mpr c2; have c2b1 := bne_iff_ne.mpr c2
  by_cases c6 : a0_0 = 2
  ·rw [if_pos c6] at H; have c6b0 := beq_iff_eq.mpr c6; have c6b1 := bne_eq_false_iff_eq.mpr c6; clear c6; replace H := Option.bind_eq_some_iff.mp H; obtain ⟨t152, A70, H⟩ := H; replace H : (some t152) = some r := H; have A7 := Aside0.mk A70; clear A70; obtain rfl := Option.some.inj H
   go_enter Tryz.func60, Tryz.ntmps60
   go_wp2_with (first | ((with_reducible refine gate_dst (N := 1) rfl ?_); refine boxE (N := 1) (cs := #[.int .i64 a0_0, .string a0_1, .slice A0_2 l0_2.length c0_2, .slice A0_3 l0_3.length c0_3]) (t := 52) ?_; intro gb150 hg w8 hbox hb; have BK150 := Aside0.mk (hbox); have GW150 := Aside0.mk ((gbA (w := w) HB hg)); have GE150 := Aside0.mk ((gbA (w := w) HB hg)); replace HB := Aside0.mk (below_step (belB HB) hb); clear hb hbox hg; obtain ⟨hcz9_0, hcz9_1, hcz9_2, hcz9_3, hfz9_0, hfz9_1, hfz9_2, hfz9_3⟩ := cef4 BK150.out) | ((with_reducible refine gate_callee (f := 79) rfl ?_); refine goesL_ (some 14) rfl rfl Tryz.func79 (by kernel_rfl) rfl #[.string a0_1] rfl mapA ?_; (with_reducible refine (spec_IntOk.calls k a0_1 t152 _ A7.out).mono ?_); rintro e w' ⟨rfl, ⟨nd, rfl⟩⟩; refine ⟨_, rfl, ?_⟩))
   go_ret
   exact ⟨by first | rfl | (simp [errW_none, errW_some] <;> rfl) | (simp [*, errW_none, errW_some] <;> rfl) | (simp [nilA, nilB]; done), belS HB GE150⟩
  ·rw [if_neg c6] at H; have c6b0 := beq_eq_false_iff_ne.mpr c6; have c6b1 := bne_iff_ne.mpr c6
   by_cases c10 : a0_0 = 3
   ·rw [if_pos c10] at H; have c10b0 := beq_iff_eq.mpr c10; have c10b1 := bne_eq_false_iff_eq.mpr c10; clear c10; replace H := Option.bind_eq_some_iff.mp H; obtain ⟨t153, A110, H⟩ := H; replace H : (some t153) = some r := H; have A11 := Aside0.mk A110; clear A110; obtain rfl := Option.some.inj H
    go_enter Tryz.func60, Tryz.ntmps60
    go_wp2_with (first | ((with_reducible refine gate_dst (N := 1) rfl ?_); refine boxE (N := 1) (cs := #[.int .i64 a0_0, .string a0_1, .slice A0_2 l0_2.length c0_2, .slice A0_3 l0_3.length c0_3]) (t := 52) ?_; intro gb150 hg w12 hbox hb; have BK150 := Aside0.mk (hbox); have GW150 := Aside0.mk ((gbA (w := w) HB hg)); have GE150 := Aside0.mk ((gbA (w := w) HB hg)); replace HB := Aside0.mk (below_step (belB HB) hb); clear hb hbox hg; obtain ⟨hcz13_0, hcz13_1, hcz13_2, hcz13_3, hfz13_0, hfz13_1, hfz13_2, hfz13_3⟩ := cef4 BK150.out) | ((with_reducible refine gate_callee (f := 80) rfl ?_); refine goesL_ (some 19) rfl rfl Tryz.func80 (by kernel_rfl) rfl #[.string a0_1] rfl mapA ?_; (with_reducible refine (spec_FloatOk.calls k a0_1 t153 _ A11.out).mono ?_); rintro e w' ⟨rfl, ⟨nd, rfl⟩⟩; refine ⟨_, rfl, ?_⟩))
    go_ret
    exact ⟨by first | rfl | (simp [errW_none, errW_some] <;> rfl) | (simp [*, errW_none, errW_some] <;> rfl) | (simp [nilA, nilB]; done), belS HB GE150⟩
   ·rw [if_neg c10] at H; have c10b0 := beq_eq_false_iff_ne.mpr c10; have c10b1 := bne_iff_ne.mpr c10
    by_cases c14 : a0_0 = 4
    ·rw [if_pos c14] at H; have c14b0 := beq_iff_eq.mpr c14; have c14b1 := bne_eq_false_iff_eq.mpr c14; clear c14; replace H := Option.bind_eq_some_iff.mp H; obtain ⟨t154, A150, H⟩ := H; replace H : (some (t154.toList != ([] : List UInt8))) = some r := H; have A15 := Aside0.mk A150; clear A150; obtain rfl := Option.some.inj H
     go_enter Tryz.func60, Tryz.ntmps60
     go_wp2_with (first | ((with_reducible refine gate_dst (N := 1) rfl ?_); refine boxE (N := 1) (cs := #[.int .i64 a0_0, .string a0_1, .slice A0_2 l0_2.length c0_2, .slice A0_3 l0_3.length c0_3]) (t := 52) ?_; intro gb150 hg w16 hbox hb; have BK150 := Aside0.mk (hbox); have GW150 := Aside0.mk ((gbA (w := w) HB hg)); have GE150 := Aside0.mk ((gbA (w := w) HB hg)); replace HB := Aside0.mk (below_step (belB HB) hb); clear hb hbox hg; obtain ⟨hcz17_0, hcz17_1, hcz17_2, hcz17_3, hfz17_0, hfz17_1, hfz17_2, hfz17_3⟩ := cef4 BK150.out) | ((with_reducible refine gate_callee (f := 48) rfl ?_); refine goesL_ (some 24) rfl rfl Tryz.func48 (by kernel_rfl) rfl #[.string a0_1] rfl mapA ?_; (with_reducible refine (spec_Escaped.calls k a0_1 t154 _ A15.out).mono ?_); rintro e w18 ⟨rfl, hb⟩; refine ⟨_, rfl, ?_⟩; replace BK150 := Aside0.mk (bBA BK150 hb); replace HB := Aside0.mk (below_step (belS HB GE150) hb); (try clear hb)))
     go_ret
     exact ⟨by first | rfl | (simp [errW_none, errW_some] <;> rfl) | (simp [*, errW_none, errW_some] <;> rfl) | (simp [nilA, nilB]; done), belS HB GE150⟩
    ·rw [if_neg c14] at H; have c14b0 := beq_eq_false_iff_ne.mpr c14; have c14b1 := bne_iff_ne.mpr c14
     by_cases c19 : a0_0 = 5
     ·rw [if_pos c19] at H; have c19b0 := beq_iff_eq.mpr c19; have c19b1 := bne_eq_false_iff_eq.mpr c19; clear c19; replace H := Option.bind_eq_some_iff.mp H; obtain ⟨t155, A200, H⟩ := H; replace H : (some t155) = some r := H; have A20 := Aside0.mk A200; clear A200; obtain rfl := Option.some.inj H
      go_enter Tryz.func60, Tryz.ntmps60
      go_wp2_with (first | ((with_reducible refine gate_dst (N := 1) rfl ?_); refine boxE (N := 1) (cs := #[.int .i64 a0_0, .string a0_1, .slice A0_2 l0_2.length c0_2, .slice A0_3 l0_3.length c0_3]) (t := 52) ?_; intro gb150 hg w21 hbox hb; have BK150 := Aside0.mk (hbox); have GW150 := Aside0.mk ((gbA (w := w) HB hg)); have GE150 := Aside0.mk ((gbA (w := w) HB hg)); replace HB := Aside0.mk (below_step (belB HB) hb); clear hb hbox hg; obtain ⟨hcz22_0, hcz22_1, hcz22_2, hcz22_3, hfz22_0, hfz22_1, hfz22_2, hfz22_3⟩ := cef4 BK150.out) | ((with_reducible refine gate_callee (f := 81) rfl ?_); refine goesL_ (some 30) rfl rfl Tryz.func81 (by kernel_rfl) rfl #[.string a0_1] rfl mapA ?_; (with_reducible refine (spec_Word.calls a0_1 t155 _ A20.out).mono ?_); rintro e w' ⟨rfl, ⟨nd, rfl⟩⟩; refine ⟨_, rfl, ?_⟩))
      go_ret
      exact ⟨by first | rfl | (simp [errW_none, errW_some] <;> rfl) | (simp [*, errW_none, errW_some] <;> rfl) | (simp [nilA, nilB]; done), belS HB GE150⟩
     ·rw [if_neg c19] at H; have c19b0 := beq_eq_false_iff_ne.mpr c19; have c19b1 := bne_iff_ne.mpr c19
      by_cases c23 : a0_0 = 6
      ·rw [if_pos c23] at H; have c23b0 := beq_iff_eq.mpr c23; have c23b1 := bne_eq_false_iff_eq.mpr c23; clear c23; replace H := Option.bind_eq_some_iff.mp H; obtain ⟨t156, A240, H⟩ := H; replace H : (if t156 = true then ((spec_Word.f a0_1).bind fun t157 => (some (!t157))) else (some false)) = some r := H; have A24 := Aside0.mk A240; clear A240
       by_cases c25 : t156 = true
       ·subst c25
        have H1 : ((spec_Word.f a0_1).bind fun t157 => (some (!t157))) = some r := by rw [if_pos rfl] at H; exact H
        clear H; have H := H1; clear H1; replace H := Option.bind_eq_some_iff.mp H; obtain ⟨t157, A260, H⟩ := H; replace H : (some (!t157)) = some r := H; have A26 := Aside0.mk A260; clear A260; obtain rfl := Option.some.inj H
        go_enter Tryz.func60, Tryz.ntmps60
        go_wp2_with (first | ((with_reducible refine gate_dst (N := 1) rfl ?_); refine boxE (N := 1) (cs := #[.int .i64 a0_0, .string a0_1, .slice A0_2 l0_2.length c0_2, .slice A0_3 l0_3.length c0_3]) (t := 52) ?_; intro gb150 hg w27 hbox hb; have BK150 := Aside0.mk (hbox); have GW150 := Aside0.mk ((gbA (w := w) HB hg)); have GE150 := Aside0.mk ((gbA (w := w) HB hg)); replace HB := Aside0.mk (below_step (belB HB) hb); clear hb hbox hg; obtain ⟨hcz28_0, hcz28_1, hcz28_2, hcz28_3, hfz28_0, hfz28_1, hfz28_2, hfz28_3⟩ := cef4 BK150.out) | ((with_reducible refine gate_callee (f := 17) rfl ?_); refine goesL_ (some 35) rfl rfl Tryz.func17 (by kernel_rfl) rfl #[.string a0_1] rfl mapA ?_; (with_reducible refine (spec_NameOk.calls k a0_1 true _ A24.out).mono ?_); rintro e w' ⟨rfl, ⟨nd, rfl⟩⟩; refine ⟨_, rfl, ?_⟩) | (go_at_call 81; (with_reducible refine (spec_Word.calls a0_1 t157 _ A26.out).mono ?_); rintro e w' ⟨rfl, ⟨nd, rfl⟩⟩))
        go_ret
        exact ⟨by first | rfl | (simp [errW_none, errW_some] <;> rfl) | (simp [*, errW_none, errW_some] <;> rfl) | (simp [nilA, nilB]; done), belS HB GE150⟩
       ·replace c25 := Bool.eq_false_iff.mpr c25; subst c25
        have H1 : (some false) = some r := by rw [if_neg (show ¬ (false = true) by decide)] at H; exact H
        clear H; have H := H1; clear H1; obtain rfl := Option.some.inj H
        go_enter Tryz.func60, Tryz.ntmps60
        go_wp2_with (first | ((with_reducible refine gate_dst (N := 1) rfl ?_); refine boxE (N := 1) (cs := #[.int .i64 a0_0, .string a0_1, .slice A0_2 l0_2.length c0_2, .slice A0_3 l0_3.length c0_3]) (t := 52) ?_; intro gb150 hg w29 hbox hb; have BK150 := Aside0.mk (hbox); have GW150 := Aside0.mk ((gbA (w := w) HB hg)); have GE150 := Aside0.mk ((gbA (w := w) HB hg)); replace HB := Aside0.mk (below_step (belB HB) hb); clear hb hbox hg; obtain ⟨hcz30_0, hcz30_1, hcz30_2, hcz30_3, hfz30_0, hfz30_1, hfz30_2, hfz30_3⟩ := cef4 BK150.out) | ((with_reducible refine gate_callee (f := 17) rfl ?_); refine goesL_ (some 35) rfl rfl Tryz.func17 (by kernel_rfl) rfl #[.string a0_1] rfl mapA ?_; (with_reducible refine (spec_NameOk.calls k a0_1 false _ A24.out).mono ?_); rintro e w' ⟨rfl, ⟨nd, rfl⟩⟩; refine ⟨_, rfl, ?_⟩))
        go_ret
        exact ⟨by first | rfl | (simp [errW_none, errW_some] <;> rfl) | (simp [*, errW_none, errW_some] <;> rfl) | (simp [nilA, nilB]; done), belS HB GE150⟩
      ·rw [if_neg c23] at H; have c23b0 := beq_eq_false_iff_ne.mpr c23; have c23b1 := bne_iff_ne.mpr c23
       by_cases c31 : a0_0 = 7
       ·rw [if_pos c31] at H; have c31b0 := beq_iff_eq.mpr c31; have c31b1 := bne_eq_false_iff_eq.mpr c31; clear c31; obtain rfl := Option.some.inj H
        go_enter Tryz.func60, Tryz.ntmps60
        go_wp2_with (first | ((with_reducible refine gate_dst (N := 1) rfl ?_); refine boxE (N := 1) (cs := #[.int .i64 a0_0, .string a0_1, .slice A0_2 l0_2.length c0_2, .slice A0_3 l0_3.length c0_3]) (t := 52) ?_; intro gb150 hg w32 hbox hb; have BK150 := Aside0.mk (hbox); have GW150 := Aside0.mk ((gbA (w := w) HB hg)); have GE150 := Aside0.mk ((gbA (w := w) HB hg)); replace HB := Aside0.mk (below_step (belB HB) hb); clear hb hbox hg; obtain ⟨hcz33_0, hcz33_1, hcz33_2, hcz33_3, hfz33_0, hfz33_1, hfz33_2, hfz33_3⟩ := cef4 BK150.out))
        go_ret
        exact ⟨by first | rfl | (simp [errW_none, errW_some] <;> rfl) | (simp [*, errW_none, errW_some] <;> rfl) | (simp [nilA, nilB]; done), belS HB GE150⟩
       ·rw [if_neg c31] at H; have c31b0 := beq_eq_false_iff_ne.mpr c31; have c31b1 := bne_iff_ne.mpr c31
        by_cases c34 : a0_0 = 8
        ·rw [if_pos c34] at H; have c34b0 := beq_iff_eq.mpr c34; have c34b1 := bne_eq_false_iff_eq.mpr c34; clear c34; obtain rfl := Option.some.inj H
         go_enter Tryz.func60, Tryz.ntmps60
         go_wp2_with (first | ((with_reducible refine gate_dst (N := 1) rfl ?_); refine boxE (N := 1) (cs := #[.int .i64 a0_0, .string a0_1, .slice A0_2 l0_2.length c0_2, .slice A0_3 l0_3.length c0_3]) (t := 52) ?_; intro gb150 hg w35 hbox hb; have BK150 := Aside0.mk (hbox); have GW150 := Aside0.mk ((gbA (w := w) HB hg)); have GE150 := Aside0.mk ((gbA (w := w) HB hg)); replace HB := Aside0.mk (below_step (belB HB) hb); clear hb hbox hg; obtain ⟨hcz36_0, hcz36_1, hcz36_2, hcz36_3, hfz36_0, hfz36_1, hfz36_2, hfz36_3⟩ := cef4 BK150.out))
         go_ret
         exact ⟨by first | rfl | (simp [errW_none, errW_some] <;> rfl) | (simp [*, errW_none, errW_some] <;> rfl) | (simp [nilA, nilB]; done), belS HB GE150⟩
        ·rw [if_neg c34] at H; have c34b0 := beq_eq_false_iff_ne.mpr c34; have c34b1 := bne_iff_ne.mpr c34; obtain rfl := Option.some.inj H
         go_enter Tryz.func60, Tryz.ntmps60
         go_wp2_with (first | ((with_reducible refine gate_dst (N := 1) rfl ?_); refine boxE (N := 1) (cs := #[.int .i64 a0_0, .string a0_1, .slice A0_2 l0_2.length c0_2, .slice A0_3 l0_3.length c0_3]) (t := 52) ?_; intro gb150 hg w37 hbox hb; have BK150 := Aside0.mk (hbox); have GW150 := Aside0.mk ((gbA (w := w) HB hg)); have GE150 := Aside0.mk ((gbA (w := w) HB hg)); replace HB := Aside0.mk (below_step (belB HB) hb); clear hb hbox hg; obtain ⟨hcz38_0, hcz38_1, hcz38_2, hcz38_3, hfz38_0, hfz38_1, hfz38_2, hfz38_3⟩ := cef4 BK150.out))
         go_ret
         exact ⟨by first | rfl | (simp [errW_none, errW_some] <;> rfl) | (simp [*, errW_none, errW_some] <;> rfl) | (simp [nilA, nilB]; done), belS HB GE150⟩

end Go.Proofs.YtjhagdjjlgjlbaaGreatDoor.OFnExactDirsText
-- narrow
