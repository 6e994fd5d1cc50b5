/- The machine side of one law, written by a program. -/
import Derived.Test.YtjhagdjjlgjlbaaGreatDoorOFnExactDirsTextx0
import Derived.Test.YtjhagdjjlgjlbaaGreatDoorOFnExactDirsTextx11
namespace Go.Proofs.YtjhagdjjlgjlbaaGreatDoor.OFnExactDirsText
open Go.Proofs.YtjhagdjjlgjlbaaGreatDoor.GlU Go.Proofs.YtjhagdjjlgjlbaaGreatDoor.Ix
open Go.RowKit Go.Proofs.YtjhagdjjlgjlbaaGreatDoorW.PrintWords Go.Proofs.YtjhagdjjlgjlbaaGreatDoorW.PrintLast Go.Proofs.YtjhagdjjlgjlbaaGreatDoorW.PrintMore
attribute [local go_sem] max2_int min2_int max_two min_two max_three min_three max_four min_four
set_option linter.unusedVariables false
set_option linter.unusedSimpArgs false

mutual
def impl_NameOk.j0 : Nat → ByteArray → Bool → Option (Bool)
 | 0, _, _ => none
 | k + 1, x0, x12 => if x12 = true then (some false) else (impl_NameOk.l0 k x0 (x0.size : Int) 0)
def impl_NameOk.l0 : Nat → ByteArray → Int → Int → Option (Bool)
 | 0, _, _, _ => none
 | k + 1, x0, x14, x15 => if x15 < x14 then (if 0 ≤ x15 then (if x15 < (x0.size : Int) then ((impl_inName.f (bt x0 x15)).bind fun t370 => (if t370 = true then (impl_NameOk.l0 k x0 x14 (wrap64 (x15 + 1))) else (some false))) else (none)) else (none)) else (some true)
end
def impl_NameOk.f (k : Nat) (a0 : ByteArray) : Option (Bool) := (impl_in.f (a0.size : Int) 1 30).bind fun t368 => (if t368 = true then (if 0 < (a0.size : Int) then ((impl_isFigure.f (bt a0 0)).bind fun t369 => (impl_NameOk.j0 k a0 t369)) else (none)) else (impl_NameOk.j0 k a0 true))
theorem impl_NameOk.mono_l : ∀ k, (∀ y0 y1, LeO (impl_NameOk.j0 k y0 y1) (impl_NameOk.j0 (k + 1) y0 y1)) ∧ (∀ y0 y1 y2, LeO (impl_NameOk.l0 k y0 y1 y2) (impl_NameOk.l0 (k + 1) y0 y1 y2))
 | 0 => ⟨fun _ _ r h => by simp [impl_NameOk.j0] at h, fun _ _ _ r h => by simp [impl_NameOk.l0] at h⟩
 | k + 1 => by
  obtain ⟨ih0, ih1⟩ := impl_NameOk.mono_l k; refine ⟨?_, ?_⟩
  ·intro y0 y1; unfold impl_NameOk.j0
   repeat' first
   | (with_reducible first | exact ih0 _ _ | exact ih1 _ _ _ | exact LeO.refl _ | exact LeO.none _ | refine LeO.ite ?_ ?_ | refine LeO.bind ?_ (fun _ => ?_))
   | exact ih0 _ _ | exact ih1 _ _ _ | exact LeO.none _ | refine LeO.ite ?_ ?_ | refine LeO.bind ?_ (fun _ => ?_)
  ·intro y0 y1 y2; unfold impl_NameOk.l0
   repeat' first
   | (with_reducible first | exact ih0 _ _ | exact ih1 _ _ _ | exact LeO.refl _ | exact LeO.none _ | refine LeO.ite ?_ ?_ | refine LeO.bind ?_ (fun _ => ?_))
   | exact ih0 _ _ | exact ih1 _ _ _ | exact LeO.none _ | refine LeO.ite ?_ ?_ | refine LeO.bind ?_ (fun _ => ?_)
theorem impl_NameOk.mono : ∀ a0 k, LeO (impl_NameOk.f k a0) (impl_NameOk.f (k + 1) a0) := by
 intro a0 k; obtain ⟨ih0, ih1⟩ := impl_NameOk.mono_l k; unfold impl_NameOk.f
 repeat' first
   | (with_reducible first | exact ih0 _ _ | exact ih1 _ _ _ | exact LeO.refl _ | exact LeO.none _ | refine LeO.ite ?_ ?_ | refine LeO.bind ?_ (fun _ => ?_))
   | exact ih0 _ _ | exact ih1 _ _ _ | exact LeO.none _ | refine LeO.ite ?_ ?_ | refine LeO.bind ?_ (fun _ => ?_)
set_option maxHeartbeats 8000000 in
set_option maxRecDepth 100000 in
theorem impl_NameOk.calls (k : Nat) (a0 : ByteArray) (r : Bool) (w : World) (h : impl_NameOk.f k a0 = some r) :
  Calls Tryz.prog 23 #[.string a0] w fun e w' => e = .returned (.bool r) ∧ Drawn0 w w' := by
 have H : ((impl_in.f (a0.size : Int) 1 30).bind fun t368 => (if t368 = true then (if 0 < (a0.size : Int) then ((impl_isFigure.f (bt a0 0)).bind fun t369 => (impl_NameOk.j0 k a0 t369)) else (none)) else (impl_NameOk.j0 k a0 true))) = some r := h; clear h; have HC2 := Aside0.mk H; clear H
 go_enter Tryz.func23, Tryz.ntmps23
 go_upto_region 1 with (fail)
 go_cut [12] (fun v12 wc => ∃ (kq : Nat) (x12_1 : Bool), v12 = .bool x12_1 ∧ Aside0 (impl_NameOk.j0 kq a0 x12_1 = some r) ∧ Aside0 (kq ≤ k) ∧ Drawn0 w wc)
 case first =>
  have H := HC2.out; clear HC2; replace H := Option.bind_eq_some_iff.mp H; obtain ⟨t368, A30, H⟩ := H; replace H : (if t368 = true then (if 0 < (a0.size : Int) then ((impl_isFigure.f (bt a0 0)).bind fun t369 => (impl_NameOk.j0 k a0 t369)) else (none)) else (impl_NameOk.j0 k a0 true)) = some r := H; have A3 := Aside0.mk A30; clear A30
  by_cases c4 : t368 = true
  ·subst c4
   have H1 : (if 0 < (a0.size : Int) then ((impl_isFigure.f (bt a0 0)).bind fun t369 => (impl_NameOk.j0 k a0 t369)) else (none)) = some r := by rw [if_pos rfl] at H; exact H
   clear H; have H := H1; clear H1
   by_cases c5 : 0 < (a0.size : Int)
   ·rw [if_pos c5] at H; have c5b0 := decide_eq_true c5
    have c5b1 : decide (0 < a0.size) = true := decide_eq_true (by omega)
    clear c5
    (first | rw [c5b0] | (simp only [i64_w, i32_w]; rw [c5b0]) | skip)
    replace H := Option.bind_eq_some_iff.mp H; obtain ⟨t369, A70, H⟩ := H; replace H : (impl_NameOk.j0 k a0 t369) = some r := H; have A7 := Aside0.mk A70; clear A70
    have H' := Aside0.mk H
    clear H
    go_wp2_with (first | ((with_reducible refine gate_callee (f := 35) rfl ?_); refine goesL_ (some 6) rfl rfl Tryz.func35 (by kernel_rfl) rfl #[.int .i64 (a0.size : Int), .int .i64 1, .int .i64 30] rfl mapA ?_; (with_reducible refine (impl_in.calls (a0.size : Int) 1 30 true _ A3.out).mono ?_); rintro e w' ⟨rfl, ⟨nd, rfl⟩⟩; refine ⟨_, rfl, ?_⟩; have p6 : 0 ≤ (0 : Int) := (by omega); have q6 : 0 < a0.size := (by have : (0 : Int) < (a0.size : Int) := odA; omega); have hx6 : ∀ h : 0 < a0.size, ((a0[0]'h).toNat : Int) = bt a0 0 := bt_at a0 0; clear p6; have qi6 : (0 < (a0.size : Int)) = True := eq_true odA; replace q6 := eq_true q6) | (go_at_call 36; (with_reducible refine (impl_isFigure.calls (bt a0 0) t369 _ A7.out).mono ?_); rintro e w' ⟨rfl, ⟨nd, rfl⟩⟩))
    go_meet
    case rel => exact ⟨_, (t369), enA, H', ⟨by first | omega | exact Nat.le_refl _⟩, drA⟩
   ·rw [if_neg c5] at H
    exact absurd H (by simp)
  ·replace c4 := Bool.eq_false_iff.mpr c4; subst c4
   have H1 : (impl_NameOk.j0 k a0 true) = some r := by rw [if_neg (show ¬ (false = true) by decide)] at H; exact H
   clear H; have H := H1; clear H1
   have H' := Aside0.mk H
   clear H
   go_wp2_with (first | ((with_reducible refine gate_callee (f := 35) rfl ?_); refine goesL_ (some 6) rfl rfl Tryz.func35 (by kernel_rfl) rfl #[.int .i64 (a0.size : Int), .int .i64 1, .int .i64 30] rfl mapA ?_; (with_reducible refine (impl_in.calls (a0.size : Int) 1 30 false _ A3.out).mono ?_); rintro e w' ⟨rfl, ⟨nd, rfl⟩⟩; refine ⟨_, rfl, ?_⟩))
   go_meet
   case rel => exact ⟨_, (true), enA, H', ⟨by first | omega | exact Nat.le_refl _⟩, drA⟩
 case rest =>
  clear HC2
  try clear c2
  try clear p2
  try clear c3
  try clear c4
  try clear c5
  try clear c5b0
  try clear c5b1
  try clear p6
  try clear q6
  try clear hx6
  try clear qi6
  try clear p6
  try clear q6
  obtain ⟨kq, x12_1, rfl, HA, HJ1, ⟨mc1, rfl⟩⟩ := hcut
  cases kq with
  | zero => exact absurd HA.out (by simp [impl_NameOk.j0])
  | succ kj1 =>
   have H := HA.out; clear HA
   simp only [impl_NameOk.j0] at H
   by_cases c8 : x12_1 = true
   ·subst c8
    have H1 : (some false) = some r := by rw [if_pos rfl] at H; exact H
    clear H; have H := H1; clear H1; obtain rfl := Option.some.inj H
    go_wp2
    go_ret
    exact ⟨enA, drA⟩
   ·replace c8 := Bool.eq_false_iff.mpr c8; subst c8
    have H1 : (impl_NameOk.l0 kj1 a0 (a0.size : Int) 0) = some r := by rw [if_neg (show ¬ (false = true) by decide)] at H; exact H
    clear H; have H := H1; clear H1
    have H' := Aside0.mk H
    clear H
    go_wp2
    go_loopg [15] kj1 (fun kq v15 w' => ∃ (x15_2 : Int), v15 = .int .i64 x15_2 ∧ Aside0 (impl_NameOk.l0 kq a0 (a0.size : Int) x15_2 = some r) ∧ Aside0 (kq ≤ kj1) ∧ Drawn0 w w')
    case atStart => exact ⟨(0), enA, H', ⟨Nat.le_refl _⟩, drA⟩
    case round =>
     clear H'
     try clear c1
     try clear c2
     try clear p2
     try clear c3
     try clear c4
     try clear c5
     try clear c5b0
     try clear c5b1
     try clear p6
     try clear q6
     try clear hx6
     try clear qi6
     try clear c8
     try clear p2
     try clear p6
     try clear q6
     obtain ⟨x15_2, rfl, HA, HK2, ⟨m2, rfl⟩⟩ := hrel
     cases gk with
     | zero => exact absurd HA.out (by simp [impl_NameOk.l0])
     | succ k2 =>
      have H := HA.out; clear HA
      simp only [impl_NameOk.l0] at H
      by_cases c9 : x15_2 < (a0.size : Int)
      ·rw [if_pos c9] at H; have c9b0 := decide_eq_true c9; clear c9
       by_cases c10 : 0 ≤ x15_2
       ·rw [if_pos c10] at H; have c10b0 := decide_eq_true c10; clear c10
        by_cases c11 : x15_2 < (a0.size : Int)
        ·rw [if_pos c11] at H; have c11b0 := decide_eq_true c11; clear c11; replace H := Option.bind_eq_some_iff.mp H; obtain ⟨t370, A130, H⟩ := H; replace H : (if t370 = true then (impl_NameOk.l0 k2 a0 (a0.size : Int) (wrap64 (x15_2 + 1))) else (some false)) = some r := H; have A13 := Aside0.mk A130; clear A130
         by_cases c14 : t370 = true
         ·subst c14
          have H1 : (impl_NameOk.l0 k2 a0 (a0.size : Int) (wrap64 (x15_2 + 1))) = some r := by rw [if_pos rfl] at H; exact H
          clear H; have H := H1; clear H1
          have H' := Aside0.mk H
          clear H; have p12 : 0 ≤ (x15_2 : Int) := odA; have q12 : x15_2 < (a0.size : Int) := odA; have hx12 := bt_at a0 x15_2; replace p12 := eq_true p12; replace q12 := eq_true q12
          go_wp2_with (first | ((with_reducible refine gate_callee (f := 37) rfl ?_); refine goesL_ (some 21) rfl rfl Tryz.func37 (by kernel_rfl) rfl #[.int .u8 (bt a0 x15_2)] rfl mapA ?_; (with_reducible refine (impl_inName.calls (bt a0 x15_2) true _ A13.out).mono ?_); rintro e w' ⟨rfl, ⟨nd, rfl⟩⟩; refine ⟨_, rfl, ?_⟩))
          go_roundg k2
          case measure => have := HJ1.out; have := HK2.out; omega
          case rel => exact ⟨(wrap64 (x15_2 + 1)), enA, H', ⟨by have := HJ1.out; have := HK2.out; omega⟩, drA⟩
         ·replace c14 := Bool.eq_false_iff.mpr c14; subst c14
          have H1 : (some false) = some r := by rw [if_neg (show ¬ (false = true) by decide)] at H; exact H
          clear H; have H := H1; clear H1; obtain rfl := Option.some.inj H; have p12 : 0 ≤ (x15_2 : Int) := odA; have q12 : x15_2 < (a0.size : Int) := odA; have hx12 := bt_at a0 x15_2; replace p12 := eq_true p12; replace q12 := eq_true q12
          go_wp2_with (first | ((with_reducible refine gate_callee (f := 37) rfl ?_); refine goesL_ (some 21) rfl rfl Tryz.func37 (by kernel_rfl) rfl #[.int .u8 (bt a0 x15_2)] rfl mapA ?_; (with_reducible refine (impl_inName.calls (bt a0 x15_2) false _ A13.out).mono ?_); rintro e w' ⟨rfl, ⟨nd, rfl⟩⟩; refine ⟨_, rfl, ?_⟩))
          go_ret
          exact ⟨enA, drA⟩
        ·rw [if_neg c11] at H
         exact absurd H (by simp)
       ·rw [if_neg c10] at H
        exact absurd H (by simp)
      ·rw [if_neg c9] at H; have c9b0 := decide_eq_false c9; clear c9; obtain rfl := Option.some.inj H
       go_wp2
       go_ret
       exact ⟨enA, drA⟩

def impl_plain.f (a0_0 : Int) (a0_1 : ByteArray) (l0_2 : List (S52)) (l0_3 : List ByteArray) : Option (Bool) := if (l0_2.length : Int) = 0 then (some ((l0_3.length : Int) == 0)) else (some false)
set_option maxHeartbeats 8000000 in
set_option maxRecDepth 100000 in
theorem impl_plain.calls (a0_0 : Int) (a0_1 : ByteArray) (A0_2 : Option Addr) (c0_2 : Nat) (l0_2 : List (S52)) (A0_3 : Option Addr) (c0_3 : Nat) (l0_3 : List ByteArray) (r : Bool) (w : World) (hr0_2 : Kd.C k52 w A0_2 l0_2.length l0_2) (hc0_2 : l0_2.length ≤ c0_2) (hr0_3 : Kd.C Kd.string w A0_3 l0_3.length l0_3) (hc0_3 : l0_3.length ≤ c0_3) (h : impl_plain.f a0_0 a0_1 l0_2 l0_3 = some r) :
  Calls Tryz.prog 65 #[.agg #[.int .i64 a0_0, .string a0_1, .slice A0_2 l0_2.length c0_2, .slice A0_3 l0_3.length c0_3]] w fun e w' => e = .returned (.bool r) ∧ Below w.heap.size w w' := by
 have hu52 := Tryz.underlying52; have HR0_2 := Aside0.mk hr0_2; have HC0_2 := Aside0.mk hc0_2; clear hr0_2 hc0_2; have HR0_3 := Aside0.mk hr0_3; have HC0_3 := Aside0.mk hc0_3; clear hr0_3 hc0_3; have HB := Aside0.mk (Below.refl w.heap.size w); have H : (if (l0_2.length : Int) = 0 then (some ((l0_3.length : Int) == 0)) else (some false)) = some r := h; clear h
 by_cases c2 : (l0_2.length : Int) = 0
 ·rw [if_pos c2] at H; have c2b0 := beq_iff_eq.mpr c2; have c2b1 := bne_eq_false_iff_eq.mpr c2; clear c2; obtain rfl := Option.some.inj H
  go_enter Tryz.func65, Tryz.ntmps65
  go_wp2_with (first | ((with_reducible refine gate_dst (N := 1) rfl ?_); (try (refine gate_guard (by rfl) ?_; dsimp only)); refine boxE (N := 1) (cs := #[.int .i64 a0_0, .string a0_1, .slice A0_2 l0_2.length c0_2, .slice A0_3 l0_3.length c0_3]) (t := 52) ?_; intro gb371 hg w3 hbox hb; have BK371 := Aside0.mk (hbox); have GW371 := Aside0.mk ((gbA (w := w) HB hg)); have GE371 := Aside0.mk ((gbA (w := w) HB hg)); replace HB := Aside0.mk (below_step (belB HB) hb); clear hb hbox hg; obtain ⟨hcz4_0, hcz4_1, hcz4_2, hcz4_3, hfz4_0, hfz4_1, hfz4_2, hfz4_3⟩ := cef4 BK371.out))
  go_ret
  exact ⟨erA, belS HB GE371⟩
 ·rw [if_neg c2] at H; have c2b0 := beq_eq_false_iff_ne.mpr c2; have c2b1 := bne_iff_ne.mpr c2
  have c2b2 : ¬ (l0_2 = []) := fun h_ => c2 (by rw [h_]; rfl)
  obtain rfl := Option.some.inj H
  go_enter Tryz.func65, Tryz.ntmps65
  go_wp2_with (first | ((with_reducible refine gate_dst (N := 1) rfl ?_); (try (refine gate_guard (by rfl) ?_; dsimp only)); refine boxE (N := 1) (cs := #[.int .i64 a0_0, .string a0_1, .slice A0_2 l0_2.length c0_2, .slice A0_3 l0_3.length c0_3]) (t := 52) ?_; intro gb371 hg w5 hbox hb; have BK371 := Aside0.mk (hbox); have GW371 := Aside0.mk ((gbA (w := w) HB hg)); have GE371 := Aside0.mk ((gbA (w := w) HB hg)); replace HB := Aside0.mk (below_step (belB HB) hb); clear hb hbox hg; obtain ⟨hcz6_0, hcz6_1, hcz6_2, hcz6_3, hfz6_0, hfz6_1, hfz6_2, hfz6_3⟩ := cef4 BK371.out))
  go_ret
  exact ⟨erA, belS HB GE371⟩

def stringslite_HasPrefix.f (a0 : ByteArray) (a1 : ByteArray) : Option (Bool) := if (a0.size : Int) ≥ (a1.size : Int) then (if 0 ≤ (a1.size : Int) then (if (a1.size : Int) ≤ (a0.size : Int) then (some ((a0.extract 0 ((a1.size : Int) : Int).toNat).toList == a1.toList)) else (none)) else (none)) else (some false)
set_option maxHeartbeats 8000000 in
set_option maxRecDepth 100000 in
theorem stringslite_HasPrefix.calls (a0 : ByteArray) (a1 : ByteArray) (r : Bool) (w : World) (h : stringslite_HasPrefix.f a0 a1 = some r) :
  Calls Tryz.prog 101 #[.string a0, .string a1] w fun e w' => e = .returned (.bool r) ∧ Drawn0 w w' := by
 have H : (if (a0.size : Int) ≥ (a1.size : Int) then (if 0 ≤ (a1.size : Int) then (if (a1.size : Int) ≤ (a0.size : Int) then (some ((a0.extract 0 ((a1.size : Int) : Int).toNat).toList == a1.toList)) else (none)) else (none)) else (some false)) = some r := h; clear h
 by_cases c3 : (a0.size : Int) ≥ (a1.size : Int)
 ·rw [if_pos c3] at H; have c3b0 := decide_eq_true c3; have c3b1 : decide (a1.size ≤ a0.size) = true := decide_eq_true (Int.ofNat_le.mp c3); clear c3
  by_cases c4 : 0 ≤ (a1.size : Int)
  ·rw [if_pos c4] at H; have c4b0 := eq_true c4; have c4b1 := decide_eq_true c4; clear c4
   by_cases c5 : (a1.size : Int) ≤ (a0.size : Int)
   ·rw [if_pos c5] at H; have c5b0 := eq_true c5; have c5b1 := decide_eq_true c5; clear c5; obtain rfl := Option.some.inj H
    go_enter Tryz.func101, Tryz.ntmps101
    go_wp2
    go_ret
    exact ⟨enA, drA⟩
   ·rw [if_neg c5] at H
    exact absurd H (by simp)
  ·rw [if_neg c4] at H
   exact absurd H (by simp)
 ·rw [if_neg c3] at H; have c3b0 := decide_eq_false c3; have c3b1 : decide (a1.size ≤ a0.size) = false := decide_eq_false (fun h => c3 (Int.ofNat_le.mpr h)); clear c3; obtain rfl := Option.some.inj H
  go_enter Tryz.func101, Tryz.ntmps101
  go_wp2
  go_ret
  exact ⟨enA, drA⟩

def stringslite_TrimPrefix.f (a0 : ByteArray) (a1 : ByteArray) : Option (ByteArray) := (stringslite_HasPrefix.f a0 a1).bind fun t372 => (if t372 = true then (if 0 ≤ (a1.size : Int) then (if (a1.size : Int) ≤ (a0.size : Int) then (some (a0.extract ((a1.size : Int) : Int).toNat a0.size)) else (none)) else (none)) else (some a0))
set_option maxHeartbeats 8000000 in
set_option maxRecDepth 100000 in
theorem stringslite_TrimPrefix.calls (a0 : ByteArray) (a1 : ByteArray) (r : ByteArray) (w : World) (h : stringslite_TrimPrefix.f a0 a1 = some r) :
  Calls Tryz.prog 94 #[.string a0, .string a1] w fun e w' => e = .returned (.string r) ∧ Drawn0 w w' := by
 have H : ((stringslite_HasPrefix.f a0 a1).bind fun t372 => (if t372 = true then (if 0 ≤ (a1.size : Int) then (if (a1.size : Int) ≤ (a0.size : Int) then (some (a0.extract ((a1.size : Int) : Int).toNat a0.size)) else (none)) else (none)) else (some a0))) = some r := h; clear h; replace H := Option.bind_eq_some_iff.mp H; obtain ⟨t372, A30, H⟩ := H; replace H : (if t372 = true then (if 0 ≤ (a1.size : Int) then (if (a1.size : Int) ≤ (a0.size : Int) then (some (a0.extract ((a1.size : Int) : Int).toNat a0.size)) else (none)) else (none)) else (some a0)) = some r := H; have A3 := Aside0.mk A30; clear A30
 by_cases c4 : t372 = true
 ·subst c4
  have H1 : (if 0 ≤ (a1.size : Int) then (if (a1.size : Int) ≤ (a0.size : Int) then (some (a0.extract ((a1.size : Int) : Int).toNat a0.size)) else (none)) else (none)) = some r := by rw [if_pos rfl] at H; exact H
  clear H; have H := H1; clear H1
  by_cases c5 : 0 ≤ (a1.size : Int)
  ·rw [if_pos c5] at H; have c5b0 := eq_true c5; have c5b1 := decide_eq_true c5; clear c5
   by_cases c6 : (a1.size : Int) ≤ (a0.size : Int)
   ·rw [if_pos c6] at H; have c6b0 := eq_true c6; have c6b1 := decide_eq_true c6; clear c6; obtain rfl := Option.some.inj H
    go_enter Tryz.func94, Tryz.ntmps94
    go_wp2_with (first | ((with_reducible refine gate_callee (f := 101) rfl ?_); refine goesL_ (some 7) rfl rfl Tryz.func101 (by kernel_rfl) rfl #[.string a0, .string a1] rfl mapA ?_; (with_reducible refine (stringslite_HasPrefix.calls a0 a1 true _ A3.out).mono ?_); rintro e w' ⟨rfl, ⟨nd, rfl⟩⟩; refine ⟨_, rfl, ?_⟩))
    go_ret
    exact ⟨enA, drA⟩
   ·rw [if_neg c6] at H
    exact absurd H (by simp)
  ·rw [if_neg c5] at H
   exact absurd H (by simp)
 ·replace c4 := Bool.eq_false_iff.mpr c4; subst c4
  have H1 : (some a0) = some r := by rw [if_neg (show ¬ (false = true) by decide)] at H; exact H
  clear H; have H := H1; clear H1; obtain rfl := Option.some.inj H
  go_enter Tryz.func94, Tryz.ntmps94
  go_wp2_with (first | ((with_reducible refine gate_callee (f := 101) rfl ?_); refine goesL_ (some 7) rfl rfl Tryz.func101 (by kernel_rfl) rfl #[.string a0, .string a1] rfl mapA ?_; (with_reducible refine (stringslite_HasPrefix.calls a0 a1 false _ A3.out).mono ?_); rintro e w' ⟨rfl, ⟨nd, rfl⟩⟩; refine ⟨_, rfl, ?_⟩))
  go_ret
  exact ⟨enA, drA⟩

def strings_TrimPrefix.f (a0 : ByteArray) (a1 : ByteArray) : Option (ByteArray) := (stringslite_TrimPrefix.f a0 a1).bind fun t373 => (some t373)
set_option maxHeartbeats 8000000 in
set_option maxRecDepth 100000 in
theorem strings_TrimPrefix.calls (a0 : ByteArray) (a1 : ByteArray) (r : ByteArray) (w : World) (h : strings_TrimPrefix.f a0 a1 = some r) :
  Calls Tryz.prog 83 #[.string a0, .string a1] w fun e w' => e = .returned (.string r) ∧ Drawn0 w w' := by
 have H : ((stringslite_TrimPrefix.f a0 a1).bind fun t373 => (some t373)) = some r := h; clear h; replace H := Option.bind_eq_some_iff.mp H; obtain ⟨t373, A30, H⟩ := H; replace H : (some t373) = some r := H; have A3 := Aside0.mk A30; clear A30; obtain rfl := Option.some.inj H
 go_enter Tryz.func83, Tryz.ntmps83
 go_wp2_with (first | ((with_reducible refine gate_callee (f := 94) rfl ?_); refine goesL_ (some 7) rfl rfl Tryz.func94 (by kernel_rfl) rfl #[.string a0, .string a1] rfl mapA ?_; (with_reducible refine (stringslite_TrimPrefix.calls a0 a1 t373 _ A3.out).mono ?_); rintro e w' ⟨rfl, ⟨nd, rfl⟩⟩; refine ⟨_, rfl, ?_⟩))
 go_ret
 exact ⟨enA, drA⟩

def impl_figures.l0 : Nat → ByteArray → Int → Int → Option (Bool)
 | 0, _, _, _ => none
 | k + 1, x0, x5, x6 => if x6 < x5 then (if 0 ≤ x6 then (if x6 < (x0.size : Int) then ((impl_isFigure.f (bt x0 x6)).bind fun t374 => (if t374 = true then (impl_figures.l0 k x0 x5 (wrap64 (x6 + 1))) else (some false))) else (none)) else (none)) else (some (x0.toList != ([] : List UInt8)))
def impl_figures.f (k : Nat) (a0 : ByteArray) : Option (Bool) := impl_figures.l0 k a0 (a0.size : Int) 0
theorem impl_figures.mono_l : ∀ k, (∀ y0 y1 y2, LeO (impl_figures.l0 k y0 y1 y2) (impl_figures.l0 (k + 1) y0 y1 y2))
 | 0 => fun _ _ _ r h => by simp [impl_figures.l0] at h
 | k + 1 => by
  have ih0 := impl_figures.mono_l k
  ·intro y0 y1 y2; unfold impl_figures.l0
   repeat' first
   | (with_reducible first | exact ih0 _ _ _ | exact LeO.refl _ | exact LeO.none _ | refine LeO.ite ?_ ?_ | refine LeO.bind ?_ (fun _ => ?_))
   | exact ih0 _ _ _ | exact LeO.none _ | refine LeO.ite ?_ ?_ | refine LeO.bind ?_ (fun _ => ?_)
theorem impl_figures.mono : ∀ a0 k, LeO (impl_figures.f k a0) (impl_figures.f (k + 1) a0) := by
 intro a0 k; have ih0 := impl_figures.mono_l k; unfold impl_figures.f
 repeat' first
   | (with_reducible first | exact ih0 _ _ _ | exact LeO.refl _ | exact LeO.none _ | refine LeO.ite ?_ ?_ | refine LeO.bind ?_ (fun _ => ?_))
   | exact ih0 _ _ _ | exact LeO.none _ | refine LeO.ite ?_ ?_ | refine LeO.bind ?_ (fun _ => ?_)
set_option maxHeartbeats 8000000 in
set_option maxRecDepth 100000 in
theorem impl_figures.calls (k : Nat) (a0 : ByteArray) (r : Bool) (w : World) (h : impl_figures.f k a0 = some r) :
  Calls Tryz.prog 84 #[.string a0] w fun e w' => e = .returned (.bool r) ∧ Drawn0 w w' := by
 have H : (impl_figures.l0 k a0 (a0.size : Int) 0) = some r := h; clear h
 have H' := Aside0.mk H
 clear H
 go_enter Tryz.func84, Tryz.ntmps84
 go_wp2
 go_loopg [6] k (fun kq v6 w' => ∃ (x6_1 : Int), v6 = .int .i64 x6_1 ∧ Aside0 (impl_figures.l0 kq a0 (a0.size : Int) x6_1 = some r) ∧ Aside0 (kq ≤ k) ∧ Drawn0 w w')
 case atStart => exact ⟨(0), enA, H', ⟨Nat.le_refl _⟩, drA⟩
 case round =>
  clear H'; obtain ⟨x6_1, rfl, HA, HK1, ⟨m1, rfl⟩⟩ := hrel
  cases gk with
  | zero => exact absurd HA.out (by simp [impl_figures.l0])
  | succ k1 =>
   have H := HA.out; clear HA
   simp only [impl_figures.l0] at H
   by_cases c2 : x6_1 < (a0.size : Int)
   ·rw [if_pos c2] at H; have c2b0 := decide_eq_true c2; clear c2
    by_cases c3 : 0 ≤ x6_1
    ·rw [if_pos c3] at H; have c3b0 := decide_eq_true c3; clear c3
     by_cases c4 : x6_1 < (a0.size : Int)
     ·rw [if_pos c4] at H; have c4b0 := decide_eq_true c4; clear c4; replace H := Option.bind_eq_some_iff.mp H; obtain ⟨t374, A60, H⟩ := H; replace H : (if t374 = true then (impl_figures.l0 k1 a0 (a0.size : Int) (wrap64 (x6_1 + 1))) else (some false)) = some r := H; have A6 := Aside0.mk A60; clear A60
      by_cases c7 : t374 = true
      ·subst c7
       have H1 : (impl_figures.l0 k1 a0 (a0.size : Int) (wrap64 (x6_1 + 1))) = some r := by rw [if_pos rfl] at H; exact H
       clear H; have H := H1; clear H1
       have H' := Aside0.mk H
       clear H; have p5 : 0 ≤ (x6_1 : Int) := odA; have q5 : x6_1 < (a0.size : Int) := odA; have hx5 := bt_at a0 x6_1; replace p5 := eq_true p5; replace q5 := eq_true q5
       go_wp2_with (first | ((with_reducible refine gate_callee (f := 36) rfl ?_); refine goesL_ (some 12) rfl rfl Tryz.func36 (by kernel_rfl) rfl #[.int .u8 (bt a0 x6_1)] rfl mapA ?_; (with_reducible refine (impl_isFigure.calls (bt a0 x6_1) true _ A6.out).mono ?_); rintro e w' ⟨rfl, ⟨nd, rfl⟩⟩; refine ⟨_, rfl, ?_⟩))
       go_roundg k1
       case measure => have := HK1.out; omega
       case rel => exact ⟨(wrap64 (x6_1 + 1)), enA, H', ⟨by have := HK1.out; omega⟩, drA⟩
      ·replace c7 := Bool.eq_false_iff.mpr c7; subst c7
       have H1 : (some false) = some r := by rw [if_neg (show ¬ (false = true) by decide)] at H; exact H
       clear H; have H := H1; clear H1; obtain rfl := Option.some.inj H; have p5 : 0 ≤ (x6_1 : Int) := odA; have q5 : x6_1 < (a0.size : Int) := odA; have hx5 := bt_at a0 x6_1; replace p5 := eq_true p5; replace q5 := eq_true q5
       go_wp2_with (first | ((with_reducible refine gate_callee (f := 36) rfl ?_); refine goesL_ (some 12) rfl rfl Tryz.func36 (by kernel_rfl) rfl #[.int .u8 (bt a0 x6_1)] rfl mapA ?_; (with_reducible refine (impl_isFigure.calls (bt a0 x6_1) false _ A6.out).mono ?_); rintro e w' ⟨rfl, ⟨nd, rfl⟩⟩; refine ⟨_, rfl, ?_⟩))
       go_ret
       exact ⟨enA, drA⟩
     ·rw [if_neg c4] at H
      exact absurd H (by simp)
    ·rw [if_neg c3] at H
     exact absurd H (by simp)
   ·rw [if_neg c2] at H; have c2b0 := decide_eq_false c2; clear c2; obtain rfl := Option.some.inj H
    go_wp2
    go_ret
    exact ⟨enA, drA⟩

def impl_IntOk.f (k : Nat) (a0 : ByteArray) : Option (Bool) := (strings_TrimPrefix.f a0 (⟨#[45]⟩ : ByteArray)).bind fun t375 => (if (a0.size : Int) ≤ 40 then ((impl_figures.f k t375).bind fun t376 => (if t376 = true then (if t375.toList = ([48] : List UInt8) then (some true) else (if 0 < (t375.size : Int) then (some ((bt t375 0) != 48)) else (none))) else (some false))) else (some false))
theorem impl_IntOk.mono : ∀ a0 k, LeO (impl_IntOk.f k a0) (impl_IntOk.f (k + 1) a0) := by
 intro a0 k; unfold impl_IntOk.f
 repeat' first
   | (with_reducible first | exact impl_figures.mono _ _ | exact LeO.refl _ | exact LeO.none _ | refine LeO.ite ?_ ?_ | refine LeO.bind ?_ (fun _ => ?_))
   | exact impl_figures.mono _ _ | exact LeO.none _ | refine LeO.ite ?_ ?_ | refine LeO.bind ?_ (fun _ => ?_)
set_option maxHeartbeats 8000000 in
set_option maxRecDepth 100000 in
theorem impl_IntOk.calls (k : Nat) (a0 : ByteArray) (r : Bool) (w : World) (h : impl_IntOk.f k a0 = some r) :
  Calls Tryz.prog 66 #[.string a0] w fun e w' => e = .returned (.bool r) ∧ Drawn0 w w' := by
 have H : ((strings_TrimPrefix.f a0 (⟨#[45]⟩ : ByteArray)).bind fun t375 => (if (a0.size : Int) ≤ 40 then ((impl_figures.f k t375).bind fun t376 => (if t376 = true then (if t375.toList = ([48] : List UInt8) then (some true) else (if 0 < (t375.size : Int) then (some ((bt t375 0) != 48)) else (none))) else (some false))) else (some false))) = some r := h; clear h; replace H := Option.bind_eq_some_iff.mp H; obtain ⟨t375, A20, H⟩ := H; replace H : (if (a0.size : Int) ≤ 40 then ((impl_figures.f k t375).bind fun t376 => (if t376 = true then (if t375.toList = ([48] : List UInt8) then (some true) else (if 0 < (t375.size : Int) then (some ((bt t375 0) != 48)) else (none))) else (some false))) else (some false)) = some r := H; have A2 := Aside0.mk A20; clear A20
 by_cases c3 : (a0.size : Int) ≤ 40
 ·rw [if_pos c3] at H; have c3b0 := decide_eq_true c3
  have c3b1 : decide (a0.size ≤ 40) = true := decide_eq_true (by omega)
  clear c3; replace H := Option.bind_eq_some_iff.mp H; obtain ⟨t376, A40, H⟩ := H; replace H : (if t376 = true then (if t375.toList = ([48] : List UInt8) then (some true) else (if 0 < (t375.size : Int) then (some ((bt t375 0) != 48)) else (none))) else (some false)) = some r := H; have A4 := Aside0.mk A40; clear A40
  by_cases c5 : t376 = true
  ·subst c5
   have H1 : (if t375.toList = ([48] : List UInt8) then (some true) else (if 0 < (t375.size : Int) then (some ((bt t375 0) != 48)) else (none))) = some r := by rw [if_pos rfl] at H; exact H
   clear H; have H := H1; clear H1
   by_cases c6 : t375.toList = ([48] : List UInt8)
   ·rw [if_pos c6] at H; have c6b0 := beq_iff_eq.mpr c6; have c6b1 := bne_eq_false_iff_eq.mpr c6; clear c6; obtain rfl := Option.some.inj H
    go_enter Tryz.func66, Tryz.ntmps66
    go_wp2_with (first | ((with_reducible refine gate_callee (f := 83) rfl ?_); refine goesL_ (some 5) rfl rfl Tryz.func83 (by kernel_rfl) rfl #[.string a0, .string (⟨#[45]⟩ : ByteArray)] rfl mapA ?_; (with_reducible refine (strings_TrimPrefix.calls a0 (⟨#[45]⟩ : ByteArray) t375 _ A2.out).mono ?_); rintro e w' ⟨rfl, ⟨nd, rfl⟩⟩; refine ⟨_, rfl, ?_⟩) | (go_at_call 84; (with_reducible refine (impl_figures.calls k t375 true _ A4.out).mono ?_); rintro e w' ⟨rfl, ⟨nd, rfl⟩⟩))
    go_ret
    exact ⟨enA, drA⟩
   ·rw [if_neg c6] at H; have c6b0 := beq_eq_false_iff_ne.mpr c6; have c6b1 := bne_iff_ne.mpr c6
    by_cases c7 : 0 < (t375.size : Int)
    ·rw [if_pos c7] at H; have c7b0 := decide_eq_true c7
     have c7b1 : decide (0 < t375.size) = true := decide_eq_true (by omega)
     clear c7; obtain rfl := Option.some.inj H
     go_enter Tryz.func66, Tryz.ntmps66
     go_wp2_with (first | ((with_reducible refine gate_callee (f := 83) rfl ?_); refine goesL_ (some 5) rfl rfl Tryz.func83 (by kernel_rfl) rfl #[.string a0, .string (⟨#[45]⟩ : ByteArray)] rfl mapA ?_; (with_reducible refine (strings_TrimPrefix.calls a0 (⟨#[45]⟩ : ByteArray) t375 _ A2.out).mono ?_); rintro e w' ⟨rfl, ⟨nd, rfl⟩⟩; refine ⟨_, rfl, ?_⟩) | (go_at_call 84; (with_reducible refine (impl_figures.calls k t375 true _ A4.out).mono ?_); rintro e w' ⟨rfl, ⟨nd, rfl⟩⟩; have p8 : 0 ≤ (0 : Int) := (by omega); have q8 : 0 < t375.size := (by have : (0 : Int) < (t375.size : Int) := odA; omega); have hx8 : ∀ h : 0 < t375.size, ((t375[0]'h).toNat : Int) = bt t375 0 := bt_at t375 0; clear p8; have qi8 : (0 < (t375.size : Int)) = True := eq_true odA; replace q8 := eq_true q8))
     go_ret
     exact ⟨enA, drA⟩
    ·rw [if_neg c7] at H
     exact absurd H (by simp)
  ·replace c5 := Bool.eq_false_iff.mpr c5; subst c5
   have H1 : (some false) = some r := by rw [if_neg (show ¬ (false = true) by decide)] at H; exact H
   clear H; have H := H1; clear H1; obtain rfl := Option.some.inj H
   go_enter Tryz.func66, Tryz.ntmps66
   go_wp2_with (first | ((with_reducible refine gate_callee (f := 83) rfl ?_); refine goesL_ (some 5) rfl rfl Tryz.func83 (by kernel_rfl) rfl #[.string a0, .string (⟨#[45]⟩ : ByteArray)] rfl mapA ?_; (with_reducible refine (strings_TrimPrefix.calls a0 (⟨#[45]⟩ : ByteArray) t375 _ A2.out).mono ?_); rintro e w' ⟨rfl, ⟨nd, rfl⟩⟩; refine ⟨_, rfl, ?_⟩) | (go_at_call 84; (with_reducible refine (impl_figures.calls k t375 false _ A4.out).mono ?_); rintro e w' ⟨rfl, ⟨nd, rfl⟩⟩))
   go_ret
   exact ⟨enA, drA⟩
 ·rw [if_neg c3] at H; have c3b0 := decide_eq_false c3
  have c3b1 : decide (a0.size ≤ 40) = false := decide_eq_false (by omega)
  clear c3; obtain rfl := Option.some.inj H
  go_enter Tryz.func66, Tryz.ntmps66
  go_wp2_with (first | ((with_reducible refine gate_callee (f := 83) rfl ?_); refine goesL_ (some 5) rfl rfl Tryz.func83 (by kernel_rfl) rfl #[.string a0, .string (⟨#[45]⟩ : ByteArray)] rfl mapA ?_; (with_reducible refine (strings_TrimPrefix.calls a0 (⟨#[45]⟩ : ByteArray) t375 _ A2.out).mono ?_); rintro e w' ⟨rfl, ⟨nd, rfl⟩⟩; refine ⟨_, rfl, ?_⟩))
  go_ret
  exact ⟨enA, drA⟩

theorem strings_IndexAny.wrap_two : IntKind.i64.wrap 2 = 2 := by decide
attribute [local go_sem] strings_IndexAny.wrap_two
set_option maxHeartbeats 8000000 in
set_option maxRecDepth 100000 in
theorem strings_IndexAny.rune_hi (c : Int) (h0 : 128 ≤ c) (h1 : c ≤ 1114111) (hne : c ≠ 65533) (w : World) : Calls Tryz.prog 95 #[.string (⟨#[101, 69]⟩ : ByteArray), .int .i32 c] w fun e w' => e = .returned (.int .i64 (-1)) ∧ Below w.heap.size w w' := by
 have b0 : decide (0 ≤ c) = true := decide_eq_true (by omega)
 have b1 : decide (c < 128) = false := decide_eq_false (by omega)
 have b2 : (c == 65533) = false := beq_eq_false_iff_ne.2 hne
 by_cases hv : Lib.validRune c = true
 ·have hE : ∃ E : ByteArray, Utf8.encode c = E ∧ 2 ≤ E.size ∧ E.size ≤ 4 ∧ ∀ h : E.size - 1 < E.size, 128 ≤ (E[E.size - 1]'h).toNat := ⟨_, rfl, encode_facts c (by unfold Lib.validRune at hv; unfold Utf8.valid; simp at hv ⊢; omega) h0⟩
  obtain ⟨E, hE, z2, z4, hl⟩ := hE
  have ww : wrap64 ((E.size : Int) - 1) = (E.size : Int) - 1 := by unfold wrap64; omega
  have cv : Calls Tryz.prog 102 #[.int .i32 c] w fun e w' => e = .returned (.bool true) ∧ w' = w := by rw [← hv]; exact Tryz.utf8_ValidRune c w
  by_cases c2 : E.size = 2
  ·obtain ⟨b, hb, hb128⟩ : ∃ b : Int, ((E[1]'(by omega)).toNat : Int) = b ∧ 128 ≤ b := ⟨_, rfl, by have := hl (by omega); simp only [c2] at this; exact_mod_cast this⟩
   have n1 : ((69 : Int) == b) = false := beq_eq_false_iff_ne.2 (by omega)
   have n2 : ((69 : Int) != b) = true := bne_iff_ne.2 (by omega)
   have hI : ∀ x : UInt8, Lib.indexByte ByteArray.empty.data.toList x = -1 := fun x => rfl
   have cI : ∀ W, Calls Tryz.prog 54 #[.string ByteArray.empty, .int .u8 b] W fun e w' => e = .returned (.int .i64 (-1)) ∧ w' = W := fun W => by have z := Tryz.strings_IndexByte ByteArray.empty b W; rw [hI] at z; exact z
   have n3 : ((((⟨#[101, 69]⟩ : ByteArray)[1]'(by decide)).toNat : Int) != b) = true := n2
   have n4 : ((((⟨#[101, 69]⟩ : ByteArray)[1]'(by decide)).toNat : Int) == b) = false := n1
   have n5 : ((((⟨#[101, 69]⟩ : ByteArray)[1]'(by decide)).toNat : Int) = b) = False := eq_false (by show ¬ (69 : Int) = b; omega)
   go_enter Tryz.func95, Tryz.ntmps95
   go_wp2_with (go_at_call 102; refine cv.mono ?_; rintro e w' ⟨rfl, rfl⟩)
   go_step3
   go_wp2_with (fail)
   go_loopg [9] 1 (fun _ v9 wx => v9 = .int .i64 1 ∧ wx = w')
   case atStart => exact ⟨rfl, rfl⟩
   case round =>
    obtain ⟨rfl, rfl⟩ := hrel
    go_wp2_with (fail)
    go_step3
    go_wp2_with (fail)
    go_quiet (fail)
    go_wp2_with (fail)
    go_quiet (first | (go_at_call 54; refine (cI _).mono ?_; rintro e w2 ⟨rfl, rfl⟩; exact ⟨rfl, _, rfl⟩))
    go_wp2_with (fail)
    go_simp
    go_ret
    exact ⟨rfl, pw_below_drewN (Below.refl _ _) _⟩
  ·have c34 : E.size = 3 ∨ E.size = 4 := by omega
   rcases c34 with c3 | c3
   all_goals
    go_enter Tryz.func95, Tryz.ntmps95
    go_wp2_with (go_at_call 102; refine cv.mono ?_; rintro e w' ⟨rfl, rfl⟩)
    go_step3
    go_wp2_with (fail)
    go_loopg [9] 1 (fun _ v9 wx => v9 = .int .i64 ((E.size : Int) - 1) ∧ wx = w')
    case atStart => exact ⟨by rw [c3]; rfl, rfl⟩
    case round =>
     obtain ⟨rfl, rfl⟩ := hrel; rw [c3]
     go_wp2_with (fail)
     go_simp
     go_ret
     exact ⟨rfl, Below.refl _ _⟩
 ·replace hv := Bool.eq_false_iff.2 hv
  go_enter Tryz.func95, Tryz.ntmps95
  go_wp2_with (first | (go_at_call 102; refine (Tryz.utf8_ValidRune _ _).mono ?_; rintro e w' ⟨rfl, rfl⟩; rw [hv]))
  go_ret
  exact ⟨rfl, Below.refl _ _⟩

set_option maxHeartbeats 8000000 in
set_option maxRecDepth 100000 in
theorem strings_IndexAny.rune_err (w : World) : Calls Tryz.prog 95 #[.string (⟨#[101, 69]⟩ : ByteArray), .int .i32 65533] w fun e w' => e = .returned (.int .i64 (-1)) ∧ Below w.heap.size w w' := by
 go_enter Tryz.func95, Tryz.ntmps95
 go_wp2_with (fail)
 go_loopg [] 2 (fun g wx => ∃ pos : Nat, wx = w.iter (⟨#[101, 69]⟩ : ByteArray) pos ∧ pos + g = 2)
 case atStart => exact ⟨0, rfl, rfl⟩
 case round =>
  obtain ⟨pos, rfl, hg⟩ := hrel
  obtain ⟨g', rfl⟩ | hg0 : (∃ g', gk = g' + 1) ∨ gk = 0 := by cases gk with | zero => exact .inr rfl | succ n => exact .inl ⟨n, rfl⟩
  ·have hp : pos = 0 ∨ pos = 1 := by omega
   have hb : ∃ x : Nat, ((⟨#[101, 69]⟩ : ByteArray)[pos]'(by show pos < 2; omega)).toNat = x ∧ x < 128 := ⟨_, rfl, by
    rcases hp with rfl | rfl
    ·show (101 : Nat) < 128; decide
    ·show (69 : Nat) < 128; decide⟩
   obtain ⟨x, hx, hx1⟩ := hb
   have hnx := fun ty => run_next_ascii (P := Tryz.prog) w (⟨#[101, 69]⟩ : ByteArray) pos ty (by show pos < 2; omega) (by rw [hx]; exact hx1)
   rw [hx] at hnx; clear hx
   have hne : ((x : Int) == 65533) = false := beq_eq_false_iff_ne.2 (by omega)
   go_wp2_with (fail)
   go_roundg g'
   case measure => omega
   case rel => exact ⟨pos + 1, rfl, by omega⟩
  ·have hnx := run_next_end (P := Tryz.prog) w (⟨#[101, 69]⟩ : ByteArray) pos
   have h2 : ¬ pos < (⟨#[101, 69]⟩ : ByteArray).size := by show ¬ pos < 2; omega
   have hnx := fun ty => hnx ty h2
   go_wp2_with (fail)
   go_simp
   go_ret
   exact ⟨rfl, (Below.refl _ w).alloc (Nat.le_refl _) _⟩
def strings_IndexAny.ixR (c : Int) : Int := if c = 101 then 0 else if c = 69 then 1 else -1
theorem strings_IndexAny.ixR_low : ∀ c : Fin 128, Lib.indexByte (⟨#[101, 69]⟩ : ByteArray).data.toList ((c.val : Int)).toNat.toUInt8 = strings_IndexAny.ixR (c.val : Int) := by decide +kernel
theorem strings_IndexAny.rune_all (c : Nat) (h1 : c ≤ 1114111) (w : World) : Calls Tryz.prog 95 #[.string (⟨#[101, 69]⟩ : ByteArray), .int .i32 c] w fun e w' => e = .returned (.int .i64 (strings_IndexAny.ixR c)) ∧ Below w.heap.size w w' := by
 by_cases c1 : c < 128
 ·have h := strings_IndexAny.ixR_low ⟨c, c1⟩
  simp only at h
  rw [← h]
  exact (Tryz.strings_IndexRune_ascii _ _ w (by omega) (by omega)).mono fun e w' ⟨he, hw⟩ => ⟨he, hw ▸ Below.refl _ _⟩
 ·have e : strings_IndexAny.ixR (c : Int) = -1 := by unfold strings_IndexAny.ixR; rw [if_neg (by omega), if_neg (by omega)]
  rw [e]
  by_cases c2 : (c : Int) = 65533
  ·rw [c2]; exact strings_IndexAny.rune_err w
  ·exact strings_IndexAny.rune_hi c (by omega) (by omega) c2 w
/-- The first sign among two, rune by rune. -/
def strings_IndexAny.ixRun (s : ByteArray) : Nat → Nat → Int
 | 0, _ => -1
 | n + 1, p => if p < s.size then (if 0 ≤ strings_IndexAny.ixR ((Utf8.decode s p).1 : Int) then (p : Int) else strings_IndexAny.ixRun s n (p + (Utf8.decode s p).2)) else -1
set_option maxHeartbeats 8000000 in
set_option maxRecDepth 100000 in
theorem strings_IndexAny.any_short (s : ByteArray) (h8 : s.size ≤ 8) (w : World) : Calls Tryz.prog 85 #[.string s, .string (⟨#[101, 69]⟩ : ByteArray)] w fun e w' => e = .returned (.int .i64 (strings_IndexAny.ixRun s s.size 0)) ∧ Below w.heap.size w w' := by
 have h8z : decide ((8 : Int) < (s.size : Int)) = false := decide_eq_false (by omega)
 obtain ⟨r, hr⟩ : ∃ r, strings_IndexAny.ixRun s s.size 0 = r := ⟨_, rfl⟩
 rw [hr]; have HR := Aside0.mk hr; clear hr
 go_enter Tryz.func85, Tryz.ntmps85
 go_wp2_with (go_at_call 96; refine (Tryz.strings_shouldUseASCIISet _ _).mono ?_; rintro e w' ⟨rfl, hw⟩; rw [hw, h8z])
 go_loopg [] s.size (fun g wx => ∃ pos : Nat, wx.heap[w.heap.size]? = some (.stringIter s pos) ∧ Aside0 (strings_IndexAny.ixRun s g pos = r) ∧ Aside0 (s.size ≤ pos + g) ∧ Aside0 (Below w.heap.size w wx))
 case atStart => exact ⟨0, World.iter_heap _ _ _, HR, ⟨by omega⟩, ⟨(Below.refl _ w).alloc (Nat.le_refl _) _⟩⟩
 case round =>
  obtain ⟨pos, hit, HA, HF, HB⟩ := hrel
  by_cases hlt : pos < s.size
  ·obtain ⟨g', rfl⟩ : ∃ g', gk = g' + 1 := ⟨gk - 1, by have := HF.out; omega⟩
   have hnx : ∀ ty, (Instr.next (.pointer (some ⟨w.heap.size, 0, none⟩)) true ty).run Tryz.prog wr = _ := fun ty => Lib.run_next_any_at wr w.heap.size s pos ty hit hlt
   have HA2 : Aside0 ((if 0 ≤ strings_IndexAny.ixR ((Utf8.decode s pos).1 : Int) then (pos : Int) else strings_IndexAny.ixRun s g' (pos + (Utf8.decode s pos).2)) = r) := ⟨by
    have := HA.out
    rwa [strings_IndexAny.ixRun, if_pos hlt] at this⟩
   have hwd : 1 ≤ (Utf8.decode s pos).2 := by
    have := Lib.width_pos s pos
    omega
   have hrl := Lib.rune_le s pos
   obtain ⟨R, hR⟩ : ∃ R, (Utf8.decode s pos).1 = R := ⟨_, rfl⟩
   obtain ⟨K, hK⟩ : ∃ K, (Utf8.decode s pos).2 = K := ⟨_, rfl⟩
   rw [hR, hK] at hnx; rw [hR, hK] at HA2; rw [hK] at hwd; rw [hR] at hrl; have hit2 := Lib.iterAt_heap wr w.heap.size s pos (pos + K) hit; have HB2 := Aside0.mk (Lib.below_iterAt HB.out (k := w.heap.size) (Nat.le_refl _) s (pos + K))
   obtain ⟨W, hWd⟩ : ∃ W, wr.iterAt w.heap.size s (pos + K) = W := ⟨_, rfl⟩
   rw [hWd] at hnx hit2 HB2; have hitlt : w.heap.size < W.heap.size := (Array.getElem?_eq_some_iff.1 hit2).1; have cR : ∀ X, Calls Tryz.prog 95 #[.string (⟨#[101, 69]⟩ : ByteArray), .int .i32 (R : Int)] X fun e w' => e = .returned (.int .i64 (strings_IndexAny.ixR R)) ∧ Below X.heap.size X w' := fun X => strings_IndexAny.rune_all R hrl X; clear hit HB HA hWd hR hK
   obtain ⟨i, hi⟩ : ∃ i, strings_IndexAny.ixR (R : Int) = i := ⟨_, rfl⟩
   rw [hi] at HA2; rw [hi] at cR; clear hi
   by_cases c : 0 ≤ i
   ·rw [if_pos c] at HA2; obtain rfl := HA2.out; have c1 : decide (0 ≤ i) = true := decide_eq_true c; clear HA2
    go_wp2_with (go_at_call 95; refine (cR _).mono ?_; rintro e w3 ⟨rfl, hb⟩)
    go_ret
    exact ⟨rfl, below_step HB2.out hb⟩
   ·rw [if_neg c] at HA2; have c1 : decide (0 ≤ i) = false := decide_eq_false c
    go_wp2_with (go_at_call 95; refine (cR _).mono ?_; rintro e w3 ⟨rfl, hb⟩)
    go_roundg g'
    case measure => omega
    case rel => exact ⟨pos + K, (hb.block _ hitlt).trans hit2, HA2, ⟨by have := HF.out; omega⟩, ⟨below_step HB2.out hb⟩⟩
  ·have hnx : ∀ ty, (Instr.next (.pointer (some ⟨w.heap.size, 0, none⟩)) true ty).run Tryz.prog wr = _ := fun ty => Lib.run_next_end_at wr w.heap.size s pos ty hit hlt
   have he : r = -1 := by
    have := HA.out
    cases gk with
    | zero => simpa [strings_IndexAny.ixRun] using this.symm
    | succ n => rw [strings_IndexAny.ixRun, if_neg hlt] at this; exact this.symm
   subst he
   go_wp2
   go_ret
   exact ⟨rfl, HB.out⟩
def strings_IndexAny.f (a0 : ByteArray) (a1 : ByteArray) : Option (Int) := if a1 = (⟨#[101, 69]⟩ : ByteArray) then (if a0.size ≤ 8 then some (strings_IndexAny.ixRun a0 a0.size 0) else if a0.size < 4294967281 then some (Lib.indexAny a0.data.toList [101, 69]) else none) else none
theorem strings_IndexAny.calls (a0 : ByteArray) (a1 : ByteArray) (r : Int) (w : World) (h : strings_IndexAny.f a0 a1 = some r) :
  Calls Tryz.prog 85 #[.string a0, .string a1] w fun e w' => e = .returned (.int .i64 r) ∧ Below w.heap.size w w' := by
 unfold strings_IndexAny.f at h
 by_cases h1 : a1 = (⟨#[101, 69]⟩ : ByteArray)
 ·rw [if_pos h1] at h; subst h1
  by_cases h8 : a0.size ≤ 8
  ·rw [if_pos h8] at h; obtain rfl := Option.some.inj h; exact strings_IndexAny.any_short a0 h8 w
  ·rw [if_neg h8] at h
   by_cases hs : a0.size < 4294967281
   ·rw [if_pos hs] at h; obtain rfl := Option.some.inj h
    exact (Tryz.strings_IndexAny_long (zero_of_info (n := 256) (by kernel_rfl)).1 a0 (⟨#[101, 69]⟩ : ByteArray) w (by decide) (by omega) hs (by decide) (fun j b hb => of_decide_eq_true (List.all_eq_true.1 (show (([101, 69] : List UInt8).all fun b => decide (b.toNat < 128)) = true by decide) b (List.mem_of_getElem? hb)))).mono fun e w' ⟨h1, h2⟩ => ⟨h1, by
     rw [h2]
     exact (((Below.refl _ _).alloc (Nat.le_refl _) _).alloc (by simp) _)⟩
   ·rw [if_neg hs] at h; cases h
 ·rw [if_neg h1] at h; cases h

def stringslite_Index.f (a0 : ByteArray) (a1 : ByteArray) : Option (Int) := if h : a1.size = 1 then some (Lib.indexByte a0.data.toList (a1[0]'(by omega))) else none
theorem stringslite_Index.calls (a0 : ByteArray) (a1 : ByteArray) (r : Int) (w : World) (h : stringslite_Index.f a0 a1 = some r) :
  Calls Tryz.prog 105 #[.string a0, .string a1] w fun e w' => e = .returned (.int .i64 r) ∧ Drawn0 w w' := by
 unfold stringslite_Index.f at h
 split at h
 ·rename_i hs
  obtain rfl := Option.some.inj h
  obtain ⟨c, hc⟩ : ∃ c : UInt8, a1[0]'(by omega) = c := ⟨_, rfl⟩
  have e1 : a1 = (⟨#[c]⟩ : ByteArray) := by
   apply ByteArray.ext
   apply Array.ext
   ·exact hs
   ·intro i h1 h2; have h3 : i < 1 := h2
    have : i = 0 := by omega
    subst this; exact hc
  rw [hc]; subst e1; refine (Tryz.stringslite_Index_one a0 c w).mono ?_
  rintro e w' ⟨rfl, rfl⟩
  exact ⟨rfl, Drawn0.refl _⟩
 ·cases h

def stringslite_Cut.f (a0 : ByteArray) (a1 : ByteArray) : Option (ByteArray × ByteArray × Bool) := (stringslite_Index.f a0 a1).bind fun t377 => (if t377 ≥ 0 then (if 0 ≤ t377 then (if t377 ≤ (a0.size : Int) then (if 0 ≤ (wrap64 (t377 + (a1.size : Int))) then (if (wrap64 (t377 + (a1.size : Int))) ≤ (a0.size : Int) then (some (a0.extract 0 (t377 : Int).toNat, a0.extract ((wrap64 (t377 + (a1.size : Int))) : Int).toNat a0.size, true)) else (none)) else (none)) else (none)) else (none)) else (some (a0, (⟨#[]⟩ : ByteArray), false)))
set_option maxHeartbeats 8000000 in
set_option maxRecDepth 100000 in
theorem stringslite_Cut.calls (a0 : ByteArray) (a1 : ByteArray) (r1 : ByteArray) (r2 : ByteArray) (r3 : Bool) (w : World) (h : stringslite_Cut.f a0 a1 = some (r1, r2, r3)) :
  Calls Tryz.prog 99 #[.string a0, .string a1] w fun e w' => e = .returned (.tuple #[.string r1, .string r2, .bool r3]) ∧ Drawn0 w w' := by
 have H : ((stringslite_Index.f a0 a1).bind fun t377 => (if t377 ≥ 0 then (if 0 ≤ t377 then (if t377 ≤ (a0.size : Int) then (if 0 ≤ (wrap64 (t377 + (a1.size : Int))) then (if (wrap64 (t377 + (a1.size : Int))) ≤ (a0.size : Int) then (some (a0.extract 0 (t377 : Int).toNat, a0.extract ((wrap64 (t377 + (a1.size : Int))) : Int).toNat a0.size, true)) else (none)) else (none)) else (none)) else (none)) else (some (a0, (⟨#[]⟩ : ByteArray), false)))) = some (r1, r2, r3) := h; clear h; replace H := Option.bind_eq_some_iff.mp H; obtain ⟨t377, A30, H⟩ := H; replace H : (if t377 ≥ 0 then (if 0 ≤ t377 then (if t377 ≤ (a0.size : Int) then (if 0 ≤ (wrap64 (t377 + (a1.size : Int))) then (if (wrap64 (t377 + (a1.size : Int))) ≤ (a0.size : Int) then (some (a0.extract 0 (t377 : Int).toNat, a0.extract ((wrap64 (t377 + (a1.size : Int))) : Int).toNat a0.size, true)) else (none)) else (none)) else (none)) else (none)) else (some (a0, (⟨#[]⟩ : ByteArray), false))) = some (r1, r2, r3) := H; have A3 := Aside0.mk A30; clear A30
 by_cases c4 : t377 ≥ 0
 ·rw [if_pos c4] at H; have c4b0 := decide_eq_true c4; clear c4
  by_cases c5 : 0 ≤ t377
  ·rw [if_pos c5] at H; have c5b0 := eq_true c5; have c5b1 := decide_eq_true c5; clear c5
   by_cases c6 : t377 ≤ (a0.size : Int)
   ·rw [if_pos c6] at H; have c6b0 := eq_true c6; have c6b1 := decide_eq_true c6; clear c6
    obtain ⟨ji7, hji7⟩ : ∃ j_ : Int, (wrap64 (t377 + (a1.size : Int))) = j_ := ⟨_, rfl⟩
    replace H : (if 0 ≤ (ji7) then (if (ji7) ≤ (a0.size : Int) then (some (a0.extract 0 (t377 : Int).toNat, a0.extract ((ji7) : Int).toNat a0.size, true)) else (none)) else (none)) = some (r1, r2, r3) := by first | (rw [hji7] at H; exact H) | (simp only [hji7] at H ⊢; exact H)
    (try rw [hji7] at A3)
    have hji7w : (IntKind.i64.wrap (t377 + (a1.size : Int))) = ji7 := (i64_w _).trans hji7
    by_cases c8 : 0 ≤ (ji7)
    ·rw [if_pos c8] at H; have c8b0 := eq_true c8; have c8b1 := decide_eq_true c8; clear c8
     by_cases c9 : (ji7) ≤ (a0.size : Int)
     ·rw [if_pos c9] at H; have c9b0 := eq_true c9; have c9b1 := decide_eq_true c9; clear c9
      simp only [Option.some.injEq, Prod.mk.injEq] at H
      obtain ⟨rfl, rfl, rfl⟩ := H
      go_enter Tryz.func99, Tryz.ntmps99
      go_wp2_with (first | (go_at_call 105; (with_reducible refine (stringslite_Index.calls a0 a1 t377 _ A3.out).mono ?_); rintro e w' ⟨rfl, ⟨nd, rfl⟩⟩; (try exact ddA)))
      repeat (go_quiet (first | (go_at_call 105; (with_reducible refine (stringslite_Index.calls a0 a1 t377 _ A3.out).mono ?_); rintro e w' ⟨rfl, ⟨nd, rfl⟩⟩; (try exact ddA))); try go_wp2_with (first | (go_at_call 105; (with_reducible refine (stringslite_Index.calls a0 a1 t377 _ A3.out).mono ?_); rintro e w' ⟨rfl, ⟨nd, rfl⟩⟩; (try exact ddA))))
      go_ret3
      exact ⟨by first | rfl | (simp; done) | (simp only [← hji7] <;> (first | rfl | (simp; done))) | (simp [*]; done), drA⟩
     ·rw [if_neg c9] at H
      exact absurd H (by simp)
    ·rw [if_neg c8] at H
     exact absurd H (by simp)
   ·rw [if_neg c6] at H
    exact absurd H (by simp)
  ·rw [if_neg c5] at H
   exact absurd H (by simp)
 ·rw [if_neg c4] at H; have c4b0 := decide_eq_false c4; clear c4
  simp only [Option.some.injEq, Prod.mk.injEq] at H
  obtain ⟨rfl, rfl, rfl⟩ := H
  go_enter Tryz.func99, Tryz.ntmps99
  go_wp2_with (first | (go_at_call 105; (with_reducible refine (stringslite_Index.calls a0 a1 t377 _ A3.out).mono ?_); rintro e w' ⟨rfl, ⟨nd, rfl⟩⟩; (try exact ddA)))
  repeat (go_quiet (first | (go_at_call 105; (with_reducible refine (stringslite_Index.calls a0 a1 t377 _ A3.out).mono ?_); rintro e w' ⟨rfl, ⟨nd, rfl⟩⟩; (try exact ddA))); try go_wp2_with (first | (go_at_call 105; (with_reducible refine (stringslite_Index.calls a0 a1 t377 _ A3.out).mono ?_); rintro e w' ⟨rfl, ⟨nd, rfl⟩⟩; (try exact ddA))))
  go_ret3
  exact ⟨enA, drA⟩

def strings_Cut.f (a0 : ByteArray) (a1 : ByteArray) : Option (ByteArray × ByteArray × Bool) := (stringslite_Cut.f a0 a1).bind fun bt378 => (some (bt378.1, bt378.2.1, bt378.2.2))
set_option maxHeartbeats 8000000 in
set_option maxRecDepth 100000 in
theorem strings_Cut.calls (a0 : ByteArray) (a1 : ByteArray) (r1 : ByteArray) (r2 : ByteArray) (r3 : Bool) (w : World) (h : strings_Cut.f a0 a1 = some (r1, r2, r3)) :
  Calls Tryz.prog 86 #[.string a0, .string a1] w fun e w' => e = .returned (.tuple #[.string r1, .string r2, .bool r3]) ∧ Drawn0 w w' := by
 have H : ((stringslite_Cut.f a0 a1).bind fun bt378 => (some (bt378.1, bt378.2.1, bt378.2.2))) = some (r1, r2, r3) := h; clear h; replace H := Option.bind_eq_some_iff.mp H; obtain ⟨⟨t378, t379, t380⟩, A30, H⟩ := H; replace H : (some (t378, t379, t380)) = some (r1, r2, r3) := H; have A3 := Aside0.mk A30; clear A30
 simp only [Option.some.injEq, Prod.mk.injEq] at H
 obtain ⟨rfl, rfl, rfl⟩ := H
 go_enter Tryz.func86, Tryz.ntmps86
 go_wp2_with (first | ((with_reducible refine gate_callee (f := 99) rfl ?_); refine goesL_ (some 9) rfl rfl Tryz.func99 (by kernel_rfl) rfl #[.string a0, .string a1] rfl mapA ?_; (with_reducible refine (stringslite_Cut.calls a0 a1 t378 t379 t380 _ A3.out).mono ?_); rintro e w' ⟨rfl, ⟨nd, rfl⟩⟩; refine ⟨_, rfl, ?_⟩))
 go_ret3
 exact ⟨enA, drA⟩

end Go.Proofs.YtjhagdjjlgjlbaaGreatDoor.OFnExactDirsText
-- narrow
