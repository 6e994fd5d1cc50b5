/- The machine side of one law, written by a program. -/
import Derived.Test.YtjhagdjjlgjlbaaGreatDoorOFnExactDirsTextx0
import Derived.Test.YtjhagdjjlgjlbaaGreatDoorOFnExactDirsTextx1
namespace Go.Proofs.YtjhagdjjlgjlbaaGreatDoor.OFnExactDirsText
open Go.Proofs.YtjhagdjjlgjlbaaGreatDoor.GlU Go.Proofs.YtjhagdjjlgjlbaaGreatDoor.Ix
open Go.RowKit Go.Proofs.YtjhagdjjlgjlbaaGreatDoorW.PrintWords Go.Proofs.YtjhagdjjlgjlbaaGreatDoorW.PrintLast Go.Proofs.YtjhagdjjlgjlbaaGreatDoorW.PrintMore
attribute [local go_sem] max2_int min2_int max_two min_two max_three min_three max_four min_four
set_option linter.unusedVariables false
set_option linter.unusedSimpArgs false

def spec_l03Run.l0 : Nat → ByteArray → Int → Option (Int)
 | 0, _, _ => none
 | k + 1, x0, x1 => if x1 < (x0.size : Int) then (if 0 ≤ x1 then ((spec_l03Figure.f (bt x0 x1)).bind fun t142 => (if t142 = true then (spec_l03Run.l0 k x0 (wrap64 (x1 + 1))) else (some x1))) else (none)) else (some x1)
def spec_l03Run.f (k : Nat) (a0 : ByteArray) (a1 : Int) : Option (Int) := spec_l03Run.l0 k a0 a1
theorem spec_l03Run.mono_l : ∀ k, (∀ y0 y1, LeO (spec_l03Run.l0 k y0 y1) (spec_l03Run.l0 (k + 1) y0 y1))
 | 0 => fun _ _ r h => by simp [spec_l03Run.l0] at h
 | k + 1 => by
  have ih0 := spec_l03Run.mono_l k
  ·intro y0 y1; unfold spec_l03Run.l0
   repeat' first
   | (with_reducible first | exact ih0 _ _ | exact LeO.refl _ | exact LeO.none _ | refine LeO.ite ?_ ?_ | refine LeO.bind ?_ (fun _ => ?_))
   | exact ih0 _ _ | exact LeO.none _ | refine LeO.ite ?_ ?_ | refine LeO.bind ?_ (fun _ => ?_)
theorem spec_l03Run.mono : ∀ a0 a1 k, LeO (spec_l03Run.f k a0 a1) (spec_l03Run.f (k + 1) a0 a1) := by
 intro a0 a1 k; have ih0 := spec_l03Run.mono_l k; unfold spec_l03Run.f
 repeat' first
   | (with_reducible first | exact ih0 _ _ | exact LeO.refl _ | exact LeO.none _ | refine LeO.ite ?_ ?_ | refine LeO.bind ?_ (fun _ => ?_))
   | exact ih0 _ _ | exact LeO.none _ | refine LeO.ite ?_ ?_ | refine LeO.bind ?_ (fun _ => ?_)
set_option maxHeartbeats 8000000 in
set_option maxRecDepth 100000 in
theorem spec_l03Run.calls (k : Nat) (a0 : ByteArray) (a1 : Int) (r : Int) (w : World) (h : spec_l03Run.f k a0 a1 = some r) :
  Calls Tryz.prog 92 #[.string a0, .int .i64 a1] w fun e w' => e = .returned (.int .i64 r) ∧ Drawn0 w w' := by
 have H : (spec_l03Run.l0 k a0 a1) = some r := h; clear h
 have H' := Aside0.mk H
 clear H
 go_enter Tryz.func92, Tryz.ntmps92
 go_wp2
 go_loopg [1] k (fun kq v1 w' => ∃ (x1_1 : Int), v1 = .int .i64 x1_1 ∧ Aside0 (spec_l03Run.l0 kq a0 x1_1 = some r) ∧ Aside0 (kq ≤ k) ∧ Drawn0 w w')
 case atStart => exact ⟨(a1), enA, H', ⟨Nat.le_refl _⟩, drA⟩
 case round =>
  clear H'
  try clear p2
  obtain ⟨x1_1, rfl, HA, HK1, ⟨m1, rfl⟩⟩ := hrel
  cases gk with
  | zero => exact absurd HA.out (by simp [spec_l03Run.l0])
  | succ k1 =>
   have H := HA.out; clear HA
   simp only [spec_l03Run.l0] at H
   by_cases c3 : x1_1 < (a0.size : Int)
   ·rw [if_pos c3] at H; have c3b0 := decide_eq_true c3; clear c3
    by_cases c4 : 0 ≤ x1_1
    ·rw [if_pos c4] at H; have c4b0 := decide_eq_true c4; clear c4; replace H := Option.bind_eq_some_iff.mp H; obtain ⟨t142, A60, H⟩ := H; replace H : (if t142 = true then (spec_l03Run.l0 k1 a0 (wrap64 (x1_1 + 1))) else (some x1_1)) = some r := H; have A6 := Aside0.mk A60; clear A60
     by_cases c7 : t142 = true
     ·subst c7
      have H1 : (spec_l03Run.l0 k1 a0 (wrap64 (x1_1 + 1))) = some r := by rw [if_pos rfl] at H; exact H
      clear H; have H := H1; clear H1
      have H' := Aside0.mk H
      clear H; have p5 : 0 ≤ (x1_1 : Int) := odA; have q5 : x1_1 < (a0.size : Int) := odA; have hx5 := bt_at a0 x1_1; replace p5 := eq_true p5; replace q5 := eq_true q5
      go_wp2_with (first | (go_at_call 29; (with_reducible refine (spec_l03Figure.calls (bt a0 x1_1) true _ A6.out).mono ?_); rintro e w' ⟨rfl, ⟨nd, rfl⟩⟩))
      go_roundg k1
      case measure => have := HK1.out; omega
      case rel => exact ⟨(wrap64 (x1_1 + 1)), enA, H', ⟨by have := HK1.out; omega⟩, drA⟩
     ·replace c7 := Bool.eq_false_iff.mpr c7; subst c7
      have H1 : (some x1_1) = some r := by rw [if_neg (show ¬ (false = true) by decide)] at H; exact H
      clear H; have H := H1; clear H1; obtain rfl := Option.some.inj H; have p5 : 0 ≤ (x1_1 : Int) := odA; have q5 : x1_1 < (a0.size : Int) := odA; have hx5 := bt_at a0 x1_1; replace p5 := eq_true p5; replace q5 := eq_true q5
      go_wp2_with (first | (go_at_call 29; (with_reducible refine (spec_l03Figure.calls (bt a0 x1_1) false _ A6.out).mono ?_); rintro e w' ⟨rfl, ⟨nd, rfl⟩⟩))
      go_ret
      exact ⟨enA, drA⟩
    ·rw [if_neg c4] at H
     exact absurd H (by simp)
   ·rw [if_neg c3] at H; have c3b0 := decide_eq_false c3; clear c3; obtain rfl := Option.some.inj H
    go_wp2
    go_ret
    exact ⟨enA, drA⟩

def spec_l03Int.j0 : Nat → ByteArray → Int → Bool → Option (Int)
 | 0, _, _, _ => none
 | k + 1, x0, x3, x12 => if x12 = true then ((spec_l03Run.f k x0 1).bind fun t143 => (if t143 = 1 then (some 0) else (if 1 < (x0.size : Int) then (if (bt x0 1) = 48 then (if t143 > (1 + 1) then (some 0) else (some t143)) else (some t143)) else (none)))) else ((spec_l03Run.f k x0 x3).bind fun t144 => (if t144 = x3 then (some 0) else (if 0 ≤ x3 then (if x3 < (x0.size : Int) then (if (bt x0 x3) = 48 then (if t144 > (wrap64 (x3 + 1)) then (some 0) else (some t144)) else (some t144)) else (none)) else (none))))
def spec_l03Int.f (k : Nat) (a0 : ByteArray) : Option (Int) := if (a0.size : Int) > 0 then (if 0 < (a0.size : Int) then (spec_l03Int.j0 k a0 0 ((bt a0 0) == 45)) else (none)) else (spec_l03Int.j0 k a0 0 false)
theorem spec_l03Int.mono_l : ∀ k, (∀ y0 y1 y2, LeO (spec_l03Int.j0 k y0 y1 y2) (spec_l03Int.j0 (k + 1) y0 y1 y2))
 | 0 => fun _ _ _ r h => by simp [spec_l03Int.j0] at h
 | k + 1 => by
  have ih0 := spec_l03Int.mono_l k
  ·intro y0 y1 y2; unfold spec_l03Int.j0
   repeat' first
   | (with_reducible first | exact ih0 _ _ _ | exact spec_l03Run.mono _ _ _ | exact LeO.refl _ | exact LeO.none _ | refine LeO.ite ?_ ?_ | refine LeO.bind ?_ (fun _ => ?_))
   | exact ih0 _ _ _ | exact spec_l03Run.mono _ _ _ | exact LeO.none _ | refine LeO.ite ?_ ?_ | refine LeO.bind ?_ (fun _ => ?_)
theorem spec_l03Int.mono : ∀ a0 k, LeO (spec_l03Int.f k a0) (spec_l03Int.f (k + 1) a0) := by
 intro a0 k; have ih0 := spec_l03Int.mono_l k; unfold spec_l03Int.f
 repeat' first
   | (with_reducible first | exact ih0 _ _ _ | exact spec_l03Run.mono _ _ _ | exact LeO.refl _ | exact LeO.none _ | refine LeO.ite ?_ ?_ | refine LeO.bind ?_ (fun _ => ?_))
   | exact ih0 _ _ _ | exact spec_l03Run.mono _ _ _ | exact LeO.none _ | refine LeO.ite ?_ ?_ | refine LeO.bind ?_ (fun _ => ?_)
set_option maxHeartbeats 8000000 in
set_option maxRecDepth 100000 in
theorem spec_l03Int.calls (k : Nat) (a0 : ByteArray) (r : Int) (w : World) (h : spec_l03Int.f k a0 = some r) :
  Calls Tryz.prog 91 #[.string a0] w fun e w' => e = .returned (.int .i64 r) ∧ Drawn0 w w' := by
 have H : (if (a0.size : Int) > 0 then (if 0 < (a0.size : Int) then (spec_l03Int.j0 k a0 0 ((bt a0 0) == 45)) else (none)) else (spec_l03Int.j0 k a0 0 false)) = some r := h; clear h; have HC2 := Aside0.mk H; clear H
 go_enter Tryz.func91, Tryz.ntmps91
 go_upto_region 2 with (fail)
 go_cut [12] (fun v12 wc => ∃ (kq : Nat) (x12_1 : Bool), v12 = .bool x12_1 ∧ Aside0 (spec_l03Int.j0 kq a0 0 x12_1 = some r) ∧ Aside0 (kq ≤ k) ∧ Drawn0 w wc)
 case first =>
  have H := HC2.out; clear HC2
  by_cases c3 : (a0.size : Int) > 0
  ·rw [if_pos c3] at H; have c3b0 := decide_eq_true c3
   have c3b1 : decide (0 < a0.size) = true := decide_eq_true (by omega)
   clear c3
   (first | rw [c3b0] | (simp only [i64_w, i32_w]; rw [c3b0]) | skip)
   by_cases c4 : 0 < (a0.size : Int)
   ·rw [if_pos c4] at H; have c4b0 := decide_eq_true c4
    have c4b1 : decide (0 < a0.size) = true := decide_eq_true (by omega)
    clear c4
    have H' := Aside0.mk H
    clear H
    have p5 : 0 ≤ (0 : Int) := (by omega)
    have q5 : 0 < a0.size := (by have : (0 : Int) < (a0.size : Int) := odA; omega)
    have hx5 : ∀ h : 0 < a0.size, ((a0[0]'h).toNat : Int) = bt a0 0 := bt_at a0 0; clear p5; have qi5 : (0 < (a0.size : Int)) = True := eq_true odA; replace q5 := eq_true q5
    go_wp2
    go_meet
    case rel => exact ⟨_, (((bt a0 0) == 45)), enA, H', ⟨by first | omega | exact Nat.le_refl _⟩, drA⟩
   ·rw [if_neg c4] at H
    exact absurd H (by simp)
  ·rw [if_neg c3] at H; have c3b0 := decide_eq_false c3
   have c3b1 : decide (0 < a0.size) = false := decide_eq_false (by omega)
   clear c3
   (first | rw [c3b0] | (simp only [i64_w, i32_w]; rw [c3b0]) | skip)
   have H' := Aside0.mk H
   clear H
   go_wp2
   go_meet
   case rel => exact ⟨_, (false), enA, H', ⟨by first | omega | exact Nat.le_refl _⟩, drA⟩
 case rest =>
  clear HC2
  try clear p2
  try clear c3
  try clear c3b0
  try clear c3b1
  try clear c4
  try clear c4b0
  try clear c4b1
  try clear p5
  try clear q5
  try clear hx5
  try clear qi5
  try clear p5
  try clear q5
  obtain ⟨kq, x12_1, rfl, HA, HJ1, ⟨mc1, rfl⟩⟩ := hcut
  cases kq with
  | zero => exact absurd HA.out (by simp [spec_l03Int.j0])
  | succ kj1 =>
   have H := HA.out; clear HA
   simp only [spec_l03Int.j0] at H
   by_cases c6 : x12_1 = true
   ·subst c6
    have H1 : ((spec_l03Run.f kj1 a0 1).bind fun t143 => (if t143 = 1 then (some 0) else (if 1 < (a0.size : Int) then (if (bt a0 1) = 48 then (if t143 > (1 + 1) then (some 0) else (some t143)) else (some t143)) else (none)))) = some r := by rw [if_pos rfl] at H; exact H
    clear H; have H := H1; clear H1; replace H := Option.bind_eq_some_iff.mp H; obtain ⟨t143, A70, H⟩ := H; replace H : (if t143 = 1 then (some 0) else (if 1 < (a0.size : Int) then (if (bt a0 1) = 48 then (if t143 > (1 + 1) then (some 0) else (some t143)) else (some t143)) else (none))) = some r := H; have A7 := Aside0.mk A70; clear A70
    by_cases c8 : t143 = 1
    ·rw [if_pos c8] at H; have c8b0 := beq_iff_eq.mpr c8; have c8b1 := bne_eq_false_iff_eq.mpr c8; clear c8; obtain rfl := Option.some.inj H
     go_wp2_with (first | ((with_reducible refine gate_callee (f := 92) rfl ?_); refine goesL_ (some 15) rfl rfl Tryz.func92 (by kernel_rfl) rfl #[.string a0, .int .i64 1] rfl mapA ?_; (with_reducible refine (spec_l03Run.calls kj1 a0 1 t143 _ A7.out).mono ?_); rintro e w' ⟨rfl, ⟨nd, rfl⟩⟩; refine ⟨_, rfl, ?_⟩))
     go_ret
     exact ⟨enA, drA⟩
    ·rw [if_neg c8] at H; have c8b0 := beq_eq_false_iff_ne.mpr c8; have c8b1 := bne_iff_ne.mpr c8
     by_cases c9 : 1 < (a0.size : Int)
     ·rw [if_pos c9] at H; have c9b0 := decide_eq_true c9
      have c9b1 : decide (1 < a0.size) = true := decide_eq_true (by omega)
      clear c9
      by_cases c11 : (bt a0 1) = 48
      ·rw [if_pos c11] at H; have c11b0 := beq_iff_eq.mpr c11; have c11b1 := bne_eq_false_iff_eq.mpr c11; clear c11
       by_cases c12 : t143 > (1 + 1)
       ·rw [if_pos c12] at H; have c12b0 := decide_eq_true c12
        have c12b0f : decide (2 < t143) = true := by have z_ := c12b0; (try unfold wrap64 at z_); simpa using z_
        clear c12; obtain rfl := Option.some.inj H
        go_wp2_with (first | ((with_reducible refine gate_callee (f := 92) rfl ?_); refine goesL_ (some 15) rfl rfl Tryz.func92 (by kernel_rfl) rfl #[.string a0, .int .i64 1] rfl mapA ?_; (with_reducible refine (spec_l03Run.calls kj1 a0 1 t143 _ A7.out).mono ?_); rintro e w' ⟨rfl, ⟨nd, rfl⟩⟩; refine ⟨_, rfl, ?_⟩; have p10 : 0 ≤ (1 : Int) := (by omega); have q10 : 1 < a0.size := (by have : (1 : Int) < (a0.size : Int) := odA; omega); have hx10 : ∀ h : 1 < a0.size, ((a0[1]'h).toNat : Int) = bt a0 1 := bt_at a0 1; clear p10; have qi10 : (1 < (a0.size : Int)) = True := eq_true odA; replace q10 := eq_true q10))
        go_ret
        exact ⟨enA, drA⟩
       ·rw [if_neg c12] at H; have c12b0 := decide_eq_false c12
        have c12b0f : decide (2 < t143) = false := by have z_ := c12b0; (try unfold wrap64 at z_); simpa using z_
        clear c12; obtain rfl := Option.some.inj H
        go_wp2_with (first | ((with_reducible refine gate_callee (f := 92) rfl ?_); refine goesL_ (some 15) rfl rfl Tryz.func92 (by kernel_rfl) rfl #[.string a0, .int .i64 1] rfl mapA ?_; (with_reducible refine (spec_l03Run.calls kj1 a0 1 t143 _ A7.out).mono ?_); rintro e w' ⟨rfl, ⟨nd, rfl⟩⟩; refine ⟨_, rfl, ?_⟩; have p10 : 0 ≤ (1 : Int) := (by omega); have q10 : 1 < a0.size := (by have : (1 : Int) < (a0.size : Int) := odA; omega); have hx10 : ∀ h : 1 < a0.size, ((a0[1]'h).toNat : Int) = bt a0 1 := bt_at a0 1; clear p10; have qi10 : (1 < (a0.size : Int)) = True := eq_true odA; replace q10 := eq_true q10))
        go_ret
        exact ⟨enA, drA⟩
      ·rw [if_neg c11] at H; have c11b0 := beq_eq_false_iff_ne.mpr c11; have c11b1 := bne_iff_ne.mpr c11; obtain rfl := Option.some.inj H
       go_wp2_with (first | ((with_reducible refine gate_callee (f := 92) rfl ?_); refine goesL_ (some 15) rfl rfl Tryz.func92 (by kernel_rfl) rfl #[.string a0, .int .i64 1] rfl mapA ?_; (with_reducible refine (spec_l03Run.calls kj1 a0 1 t143 _ A7.out).mono ?_); rintro e w' ⟨rfl, ⟨nd, rfl⟩⟩; refine ⟨_, rfl, ?_⟩; have p10 : 0 ≤ (1 : Int) := (by omega); have q10 : 1 < a0.size := (by have : (1 : Int) < (a0.size : Int) := odA; omega); have hx10 : ∀ h : 1 < a0.size, ((a0[1]'h).toNat : Int) = bt a0 1 := bt_at a0 1; clear p10; have qi10 : (1 < (a0.size : Int)) = True := eq_true odA; replace q10 := eq_true q10))
       go_ret
       exact ⟨enA, drA⟩
     ·rw [if_neg c9] at H
      exact absurd H (by simp)
   ·replace c6 := Bool.eq_false_iff.mpr c6; subst c6
    have H1 : ((spec_l03Run.f kj1 a0 0).bind fun t144 => (if t144 = 0 then (some 0) else (if 0 ≤ 0 then (if 0 < (a0.size : Int) then (if (bt a0 0) = 48 then (if t144 > (wrap64 (0 + 1)) then (some 0) else (some t144)) else (some t144)) else (none)) else (none)))) = some r := by rw [if_neg (show ¬ (false = true) by decide)] at H; exact H
    clear H; have H := H1; clear H1; replace H := Option.bind_eq_some_iff.mp H; obtain ⟨t144, A130, H⟩ := H; replace H : (if t144 = 0 then (some 0) else (if 0 ≤ 0 then (if 0 < (a0.size : Int) then (if (bt a0 0) = 48 then (if t144 > (wrap64 (0 + 1)) then (some 0) else (some t144)) else (some t144)) else (none)) else (none))) = some r := H; have A13 := Aside0.mk A130; clear A130
    by_cases c14 : t144 = 0
    ·rw [if_pos c14] at H; have c14b0 := beq_iff_eq.mpr c14; have c14b1 := bne_eq_false_iff_eq.mpr c14; clear c14; obtain rfl := Option.some.inj H
     go_wp2_with (first | ((with_reducible refine gate_callee (f := 92) rfl ?_); refine goesL_ (some 15) rfl rfl Tryz.func92 (by kernel_rfl) rfl #[.string a0, .int .i64 0] rfl mapA ?_; (with_reducible refine (spec_l03Run.calls kj1 a0 0 t144 _ A13.out).mono ?_); rintro e w' ⟨rfl, ⟨nd, rfl⟩⟩; refine ⟨_, rfl, ?_⟩))
     go_ret
     exact ⟨enA, drA⟩
    ·rw [if_neg c14] at H; have c14b0 := beq_eq_false_iff_ne.mpr c14; have c14b1 := bne_iff_ne.mpr c14
     by_cases c15 : 0 ≤ 0
     ·rw [if_pos c15] at H; have c15b0 := decide_eq_true c15; clear c15
      by_cases c16 : 0 < (a0.size : Int)
      ·rw [if_pos c16] at H; have c16b0 := decide_eq_true c16
       have c16b1 : decide (0 < a0.size) = true := decide_eq_true (by omega)
       clear c16
       by_cases c18 : (bt a0 0) = 48
       ·rw [if_pos c18] at H; have c18b0 := beq_iff_eq.mpr c18; have c18b1 := bne_eq_false_iff_eq.mpr c18; clear c18
        by_cases c19 : t144 > (wrap64 (0 + 1))
        ·rw [if_pos c19] at H; have c19b0 := decide_eq_true c19
         have c19b0f : decide (1 < t144) = true := by have z_ := c19b0; (try unfold wrap64 at z_); simpa using z_
         clear c19; obtain rfl := Option.some.inj H
         go_wp2_with (first | ((with_reducible refine gate_callee (f := 92) rfl ?_); refine goesL_ (some 15) rfl rfl Tryz.func92 (by kernel_rfl) rfl #[.string a0, .int .i64 0] rfl mapA ?_; (with_reducible refine (spec_l03Run.calls kj1 a0 0 t144 _ A13.out).mono ?_); rintro e w' ⟨rfl, ⟨nd, rfl⟩⟩; refine ⟨_, rfl, ?_⟩; have p17 : 0 ≤ (0 : Int) := (by omega); have q17 : 0 < a0.size := (by have : (0 : Int) < (a0.size : Int) := odA; omega); have hx17 : ∀ h : 0 < a0.size, ((a0[0]'h).toNat : Int) = bt a0 0 := bt_at a0 0; clear p17; have qi17 : (0 < (a0.size : Int)) = True := eq_true odA; replace q17 := eq_true q17))
         go_ret
         exact ⟨enA, drA⟩
        ·rw [if_neg c19] at H; have c19b0 := decide_eq_false c19
         have c19b0f : decide (1 < t144) = false := by have z_ := c19b0; (try unfold wrap64 at z_); simpa using z_
         clear c19; obtain rfl := Option.some.inj H
         go_wp2_with (first | ((with_reducible refine gate_callee (f := 92) rfl ?_); refine goesL_ (some 15) rfl rfl Tryz.func92 (by kernel_rfl) rfl #[.string a0, .int .i64 0] rfl mapA ?_; (with_reducible refine (spec_l03Run.calls kj1 a0 0 t144 _ A13.out).mono ?_); rintro e w' ⟨rfl, ⟨nd, rfl⟩⟩; refine ⟨_, rfl, ?_⟩; have p17 : 0 ≤ (0 : Int) := (by omega); have q17 : 0 < a0.size := (by have : (0 : Int) < (a0.size : Int) := odA; omega); have hx17 : ∀ h : 0 < a0.size, ((a0[0]'h).toNat : Int) = bt a0 0 := bt_at a0 0; clear p17; have qi17 : (0 < (a0.size : Int)) = True := eq_true odA; replace q17 := eq_true q17))
         go_ret
         exact ⟨enA, drA⟩
       ·rw [if_neg c18] at H; have c18b0 := beq_eq_false_iff_ne.mpr c18; have c18b1 := bne_iff_ne.mpr c18; obtain rfl := Option.some.inj H
        go_wp2_with (first | ((with_reducible refine gate_callee (f := 92) rfl ?_); refine goesL_ (some 15) rfl rfl Tryz.func92 (by kernel_rfl) rfl #[.string a0, .int .i64 0] rfl mapA ?_; (with_reducible refine (spec_l03Run.calls kj1 a0 0 t144 _ A13.out).mono ?_); rintro e w' ⟨rfl, ⟨nd, rfl⟩⟩; refine ⟨_, rfl, ?_⟩; have p17 : 0 ≤ (0 : Int) := (by omega); have q17 : 0 < a0.size := (by have : (0 : Int) < (a0.size : Int) := odA; omega); have hx17 : ∀ h : 0 < a0.size, ((a0[0]'h).toNat : Int) = bt a0 0 := bt_at a0 0; clear p17; have qi17 : (0 < (a0.size : Int)) = True := eq_true odA; replace q17 := eq_true q17))
        go_ret
        exact ⟨enA, drA⟩
      ·rw [if_neg c16] at H
       exact absurd H (by simp)
     ·rw [if_neg c15] at H
      exact absurd H (by simp)

def spec_IntOk.f (k : Nat) (a0 : ByteArray) : Option (Bool) := if (a0.size : Int) ≤ 40 then (if (a0.size : Int) > 0 then ((spec_l03Int.f k a0).bind fun t145 => (some (t145 == (a0.size : Int)))) else (some false)) else (some false)
theorem spec_IntOk.mono : ∀ a0 k, LeO (spec_IntOk.f k a0) (spec_IntOk.f (k + 1) a0) := by
 intro a0 k; unfold spec_IntOk.f
 repeat' first
   | (with_reducible first | exact spec_l03Int.mono _ _ | exact LeO.refl _ | exact LeO.none _ | refine LeO.ite ?_ ?_ | refine LeO.bind ?_ (fun _ => ?_))
   | exact spec_l03Int.mono _ _ | exact LeO.none _ | refine LeO.ite ?_ ?_ | refine LeO.bind ?_ (fun _ => ?_)
set_option maxHeartbeats 8000000 in
set_option maxRecDepth 100000 in
theorem spec_IntOk.calls (k : Nat) (a0 : ByteArray) (r : Bool) (w : World) (h : spec_IntOk.f k a0 = some r) :
  Calls Tryz.prog 79 #[.string a0] w fun e w' => e = .returned (.bool r) ∧ Drawn0 w w' := by
 have H : (if (a0.size : Int) ≤ 40 then (if (a0.size : Int) > 0 then ((spec_l03Int.f k a0).bind fun t145 => (some (t145 == (a0.size : Int)))) else (some false)) else (some false)) = some r := h; clear h
 by_cases c2 : (a0.size : Int) ≤ 40
 ·rw [if_pos c2] at H; have c2b0 := decide_eq_true c2
  have c2b1 : decide (a0.size ≤ 40) = true := decide_eq_true (by omega)
  clear c2
  by_cases c3 : (a0.size : Int) > 0
  ·rw [if_pos c3] at H; have c3b0 := decide_eq_true c3
   have c3b1 : decide (0 < a0.size) = true := decide_eq_true (by omega)
   clear c3; replace H := Option.bind_eq_some_iff.mp H; obtain ⟨t145, A40, H⟩ := H; replace H : (some (t145 == (a0.size : Int))) = some r := H; have A4 := Aside0.mk A40; clear A40; obtain rfl := Option.some.inj H
   go_enter Tryz.func79, Tryz.ntmps79
   go_wp2_with (first | (go_at_call 91; (with_reducible refine (spec_l03Int.calls k a0 t145 _ A4.out).mono ?_); rintro e w' ⟨rfl, ⟨nd, rfl⟩⟩))
   go_ret
   exact ⟨enA, drA⟩
  ·rw [if_neg c3] at H; have c3b0 := decide_eq_false c3
   have c3b1 : decide (0 < a0.size) = false := decide_eq_false (by omega)
   clear c3; obtain rfl := Option.some.inj H
   go_enter Tryz.func79, Tryz.ntmps79
   go_wp2
   go_ret
   exact ⟨enA, drA⟩
 ·rw [if_neg c2] at H; have c2b0 := decide_eq_false c2
  have c2b1 : decide (a0.size ≤ 40) = false := decide_eq_false (by omega)
  clear c2; obtain rfl := Option.some.inj H
  go_enter Tryz.func79, Tryz.ntmps79
  go_wp2
  go_ret
  exact ⟨enA, drA⟩

end Go.Proofs.YtjhagdjjlgjlbaaGreatDoor.OFnExactDirsText
-- narrow
