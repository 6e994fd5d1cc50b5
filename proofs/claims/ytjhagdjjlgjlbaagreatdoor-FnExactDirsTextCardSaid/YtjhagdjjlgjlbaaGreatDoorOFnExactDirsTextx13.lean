/- The machine side of one law, written by a program. -/
import Derived.Test.YtjhagdjjlgjlbaaGreatDoorOFnExactDirsTextx0
import Derived.Test.YtjhagdjjlgjlbaaGreatDoorOFnExactDirsTextx12
namespace Go.Proofs.YtjhagdjjlgjlbaaGreatDoor.OFnExactDirsText
open Go.Proofs.YtjhagdjjlgjlbaaGreatDoor.GlU Go.Proofs.YtjhagdjjlgjlbaaGreatDoor.Ix
open Go.RowKit Go.Proofs.YtjhagdjjlgjlbaaGreatDoorW.PrintWords Go.Proofs.YtjhagdjjlgjlbaaGreatDoorW.PrintLast Go.Proofs.YtjhagdjjlgjlbaaGreatDoorW.PrintMore
attribute [local go_sem] max2_int min2_int max_two min_two max_three min_three max_four min_four
set_option linter.unusedVariables false
set_option linter.unusedSimpArgs false

mutual
def impl_FloatOk.j0 : Nat → ByteArray → ByteArray → Int → Bool → Option (Bool)
 | 0, _, _, _, _ => none
 | k + 1, x3, x4, x5, x35 => if x35 = true then (if 1 ≤ (x4.size : Int) then (impl_FloatOk.j1 k x3 (x4.extract 1 x4.size) x5) else (none)) else (impl_FloatOk.j1 k x3 x4 x5)
def impl_FloatOk.j1 : Nat → ByteArray → ByteArray → Int → Option (Bool)
 | 0, _, _, _ => none
 | k + 1, x3, x4, x5 => (impl_figures.f k x4).bind fun t382 => (if t382 = true then ((strings_Cut.f x3 (⟨#[46]⟩ : ByteArray)).bind fun bt383 => ((impl_IntOk.f k bt383.1).bind fun t386 => (if t386 = true then (if bt383.2.2 = true then ((impl_figures.f k bt383.2.1).bind fun t387 => (some t387)) else (if x5 ≥ 0 then (some true) else (some false))) else (some false)))) else (some false))
end
def impl_FloatOk.f (k : Nat) (a0 : ByteArray) : Option (Bool) := if (a0.size : Int) > 40 then (some false) else ((strings_IndexAny.f a0 (⟨#[101, 69]⟩ : ByteArray)).bind fun t381 => (if t381 ≥ 0 then (if 0 ≤ t381 then (if t381 ≤ (a0.size : Int) then (if 0 ≤ (wrap64 (t381 + 1)) then (if (wrap64 (t381 + 1)) ≤ (a0.size : Int) then (if (a0.extract ((wrap64 (t381 + 1)) : Int).toNat a0.size).toList = ([] : List UInt8) then (impl_FloatOk.j0 k (a0.extract 0 (t381 : Int).toNat) (a0.extract ((wrap64 (t381 + 1)) : Int).toNat a0.size) t381 false) else (if 0 < ((a0.extract ((wrap64 (t381 + 1)) : Int).toNat a0.size).size : Int) then (if (bt (a0.extract ((wrap64 (t381 + 1)) : Int).toNat a0.size) 0) = 43 then (impl_FloatOk.j0 k (a0.extract 0 (t381 : Int).toNat) (a0.extract ((wrap64 (t381 + 1)) : Int).toNat a0.size) t381 true) else (impl_FloatOk.j0 k (a0.extract 0 (t381 : Int).toNat) (a0.extract ((wrap64 (t381 + 1)) : Int).toNat a0.size) t381 ((bt (a0.extract ((wrap64 (t381 + 1)) : Int).toNat a0.size) 0) == 45))) else (none))) else (none)) else (none)) else (none)) else (none)) else ((strings_Cut.f a0 (⟨#[46]⟩ : ByteArray)).bind fun bt388 => ((impl_IntOk.f k bt388.1).bind fun t391 => (if t391 = true then (if bt388.2.2 = true then ((impl_figures.f k bt388.2.1).bind fun t392 => (some t392)) else (some false)) else (some false))))))
theorem impl_FloatOk.mono_l : ∀ k, (∀ y0 y1 y2 y3, LeO (impl_FloatOk.j0 k y0 y1 y2 y3) (impl_FloatOk.j0 (k + 1) y0 y1 y2 y3)) ∧ (∀ y0 y1 y2, LeO (impl_FloatOk.j1 k y0 y1 y2) (impl_FloatOk.j1 (k + 1) y0 y1 y2))
 | 0 => ⟨fun _ _ _ _ r h => by simp [impl_FloatOk.j0] at h, fun _ _ _ r h => by simp [impl_FloatOk.j1] at h⟩
 | k + 1 => by
  obtain ⟨ih0, ih1⟩ := impl_FloatOk.mono_l k; refine ⟨?_, ?_⟩
  ·intro y0 y1 y2 y3; unfold impl_FloatOk.j0
   repeat' first
   | (with_reducible first | exact ih0 _ _ _ _ | exact ih1 _ _ _ | exact impl_IntOk.mono _ _ | exact impl_figures.mono _ _ | exact LeO.refl _ | exact LeO.none _ | refine LeO.ite ?_ ?_ | refine LeO.bind ?_ (fun _ => ?_))
   | exact ih0 _ _ _ _ | exact ih1 _ _ _ | exact impl_IntOk.mono _ _ | exact impl_figures.mono _ _ | exact LeO.none _ | refine LeO.ite ?_ ?_ | refine LeO.bind ?_ (fun _ => ?_)
  ·intro y0 y1 y2; unfold impl_FloatOk.j1
   repeat' first
   | (with_reducible first | exact ih0 _ _ _ _ | exact ih1 _ _ _ | exact impl_IntOk.mono _ _ | exact impl_figures.mono _ _ | exact LeO.refl _ | exact LeO.none _ | refine LeO.ite ?_ ?_ | refine LeO.bind ?_ (fun _ => ?_))
   | exact ih0 _ _ _ _ | exact ih1 _ _ _ | exact impl_IntOk.mono _ _ | exact impl_figures.mono _ _ | exact LeO.none _ | refine LeO.ite ?_ ?_ | refine LeO.bind ?_ (fun _ => ?_)
theorem impl_FloatOk.mono : ∀ a0 k, LeO (impl_FloatOk.f k a0) (impl_FloatOk.f (k + 1) a0) := by
 intro a0 k; obtain ⟨ih0, ih1⟩ := impl_FloatOk.mono_l k; unfold impl_FloatOk.f
 repeat' first
   | (with_reducible first | exact ih0 _ _ _ _ | exact ih1 _ _ _ | exact impl_IntOk.mono _ _ | exact impl_figures.mono _ _ | exact LeO.refl _ | exact LeO.none _ | refine LeO.ite ?_ ?_ | refine LeO.bind ?_ (fun _ => ?_))
   | exact ih0 _ _ _ _ | exact ih1 _ _ _ | exact impl_IntOk.mono _ _ | exact impl_figures.mono _ _ | exact LeO.none _ | refine LeO.ite ?_ ?_ | refine LeO.bind ?_ (fun _ => ?_)
set_option maxHeartbeats 8000000 in
set_option maxRecDepth 100000 in
theorem impl_FloatOk.calls (k : Nat) (a0 : ByteArray) (r : Bool) (w : World) (h : impl_FloatOk.f k a0 = some r) :
  Calls Tryz.prog 67 #[.string a0] w fun e w' => e = .returned (.bool r) ∧ Below w.heap.size w w' := by
 have HB := Aside0.mk (Below.refl w.heap.size w); have H : (if (a0.size : Int) > 40 then (some false) else ((strings_IndexAny.f a0 (⟨#[101, 69]⟩ : ByteArray)).bind fun t381 => (if t381 ≥ 0 then (if 0 ≤ t381 then (if t381 ≤ (a0.size : Int) then (if 0 ≤ (wrap64 (t381 + 1)) then (if (wrap64 (t381 + 1)) ≤ (a0.size : Int) then (if (a0.extract ((wrap64 (t381 + 1)) : Int).toNat a0.size).toList = ([] : List UInt8) then (impl_FloatOk.j0 k (a0.extract 0 (t381 : Int).toNat) (a0.extract ((wrap64 (t381 + 1)) : Int).toNat a0.size) t381 false) else (if 0 < ((a0.extract ((wrap64 (t381 + 1)) : Int).toNat a0.size).size : Int) then (if (bt (a0.extract ((wrap64 (t381 + 1)) : Int).toNat a0.size) 0) = 43 then (impl_FloatOk.j0 k (a0.extract 0 (t381 : Int).toNat) (a0.extract ((wrap64 (t381 + 1)) : Int).toNat a0.size) t381 true) else (impl_FloatOk.j0 k (a0.extract 0 (t381 : Int).toNat) (a0.extract ((wrap64 (t381 + 1)) : Int).toNat a0.size) t381 ((bt (a0.extract ((wrap64 (t381 + 1)) : Int).toNat a0.size) 0) == 45))) else (none))) else (none)) else (none)) else (none)) else (none)) else ((strings_Cut.f a0 (⟨#[46]⟩ : ByteArray)).bind fun bt388 => ((impl_IntOk.f k bt388.1).bind fun t391 => (if t391 = true then (if bt388.2.2 = true then ((impl_figures.f k bt388.2.1).bind fun t392 => (some t392)) else (some false)) else (some false))))))) = some r := h; clear h
 by_cases c2 : (a0.size : Int) > 40
 ·rw [if_pos c2] at H; have c2b0 := decide_eq_true c2
  have c2b1 : decide (40 < a0.size) = true := decide_eq_true (by omega)
  clear c2; obtain rfl := Option.some.inj H
  go_enter Tryz.func67, Tryz.ntmps67
  go_wp2
  repeat (go_quiet (fail); try go_wp2)
  go_ret
  exact ⟨erA, belB HB⟩
 ·rw [if_neg c2] at H; have c2b0 := decide_eq_false c2
  have c2b1 : decide (40 < a0.size) = false := decide_eq_false (by omega)
  clear c2; replace H := Option.bind_eq_some_iff.mp H; obtain ⟨t381, A30, H⟩ := H; replace H : (if t381 ≥ 0 then (if 0 ≤ t381 then (if t381 ≤ (a0.size : Int) then (if 0 ≤ (wrap64 (t381 + 1)) then (if (wrap64 (t381 + 1)) ≤ (a0.size : Int) then (if (a0.extract ((wrap64 (t381 + 1)) : Int).toNat a0.size).toList = ([] : List UInt8) then (impl_FloatOk.j0 k (a0.extract 0 (t381 : Int).toNat) (a0.extract ((wrap64 (t381 + 1)) : Int).toNat a0.size) t381 false) else (if 0 < ((a0.extract ((wrap64 (t381 + 1)) : Int).toNat a0.size).size : Int) then (if (bt (a0.extract ((wrap64 (t381 + 1)) : Int).toNat a0.size) 0) = 43 then (impl_FloatOk.j0 k (a0.extract 0 (t381 : Int).toNat) (a0.extract ((wrap64 (t381 + 1)) : Int).toNat a0.size) t381 true) else (impl_FloatOk.j0 k (a0.extract 0 (t381 : Int).toNat) (a0.extract ((wrap64 (t381 + 1)) : Int).toNat a0.size) t381 ((bt (a0.extract ((wrap64 (t381 + 1)) : Int).toNat a0.size) 0) == 45))) else (none))) else (none)) else (none)) else (none)) else (none)) else ((strings_Cut.f a0 (⟨#[46]⟩ : ByteArray)).bind fun bt388 => ((impl_IntOk.f k bt388.1).bind fun t391 => (if t391 = true then (if bt388.2.2 = true then ((impl_figures.f k bt388.2.1).bind fun t392 => (some t392)) else (some false)) else (some false))))) = some r := H; have A3 := Aside0.mk A30; clear A30
  by_cases c4 : t381 ≥ 0
  ·rw [if_pos c4] at H; have c4b0 := decide_eq_true c4; clear c4
   by_cases c5 : 0 ≤ t381
   ·rw [if_pos c5] at H; have c5b0 := eq_true c5; have c5b1 := decide_eq_true c5; clear c5
    by_cases c6 : t381 ≤ (a0.size : Int)
    ·rw [if_pos c6] at H; have c6b0 := eq_true c6; have c6b1 := decide_eq_true c6; clear c6
     obtain ⟨ji7, hji7⟩ : ∃ j_ : Int, (wrap64 (t381 + 1)) = j_ := ⟨_, rfl⟩
     replace H : (if 0 ≤ (ji7) then (if (ji7) ≤ (a0.size : Int) then (if (a0.extract ((ji7) : Int).toNat a0.size).toList = ([] : List UInt8) then (impl_FloatOk.j0 k (a0.extract 0 (t381 : Int).toNat) (a0.extract ((ji7) : Int).toNat a0.size) t381 false) else (if 0 < ((a0.extract ((ji7) : Int).toNat a0.size).size : Int) then (if (bt (a0.extract ((ji7) : Int).toNat a0.size) 0) = 43 then (impl_FloatOk.j0 k (a0.extract 0 (t381 : Int).toNat) (a0.extract ((ji7) : Int).toNat a0.size) t381 true) else (impl_FloatOk.j0 k (a0.extract 0 (t381 : Int).toNat) (a0.extract ((ji7) : Int).toNat a0.size) t381 ((bt (a0.extract ((ji7) : Int).toNat a0.size) 0) == 45))) else (none))) else (none)) else (none)) = some r := by first | (rw [hji7] at H; exact H) | (simp only [hji7] at H ⊢; exact H)
     (try rw [hji7] at A3)
     have hji7w : (IntKind.i64.wrap (t381 + 1)) = ji7 := (i64_w _).trans hji7
     by_cases c8 : 0 ≤ (ji7)
     ·rw [if_pos c8] at H; have c8b0 := eq_true c8; have c8b1 := decide_eq_true c8; clear c8
      by_cases c9 : (ji7) ≤ (a0.size : Int)
      ·rw [if_pos c9] at H; have c9b0 := eq_true c9; have c9b1 := decide_eq_true c9; clear c9; have HC10 := Aside0.mk H; clear H
       go_enter Tryz.func67, Tryz.ntmps67
       go_upto_region 7 with (first | (go_at_call 85; (with_reducible refine (strings_IndexAny.calls a0 (⟨#[101, 69]⟩ : ByteArray) t381 _ A3.out).mono ?_); rintro e w11 ⟨rfl, hb⟩; replace HB := Aside0.mk (below_step (belB HB) hb); (try clear hb)))
       repeat (go_quiet (first | (go_at_call 85; (with_reducible refine (strings_IndexAny.calls a0 (⟨#[101, 69]⟩ : ByteArray) t381 _ A3.out).mono ?_); rintro e w11 ⟨rfl, hb⟩; replace HB := Aside0.mk (below_step (belB HB) hb); (try clear hb))); go_upto_region 7 with (first | (go_at_call 85; (with_reducible refine (strings_IndexAny.calls a0 (⟨#[101, 69]⟩ : ByteArray) t381 _ A3.out).mono ?_); rintro e w11 ⟨rfl, hb⟩; replace HB := Aside0.mk (below_step (belB HB) hb); (try clear hb))))
       (try simp only [Act.put, List.setIfInBounds_toArray, List.set_cons_zero, List.set_cons_succ])
       go_cut [35] (fun v35 wc => ∃ (kq : Nat) (x35_9 : Bool), v35 = .bool x35_9 ∧ Aside0 (impl_FloatOk.j0 kq (a0.extract 0 (t381 : Int).toNat) (a0.extract ((ji7) : Int).toNat a0.size) t381 x35_9 = some r) ∧ Aside0 (kq ≤ k) ∧ Aside0 (Below w.heap.size w wc))
       case first =>
        have H := HC10.out; clear HC10
        by_cases c12 : (a0.extract ((ji7) : Int).toNat a0.size).toList = ([] : List UInt8)
        ·rw [if_pos c12] at H; have c12b0 := beq_iff_eq.mpr c12; have c12b1 := bne_eq_false_iff_eq.mpr c12; clear c12
         (first | rw [c12b0] | (simp only [i64_w, i32_w]; rw [c12b0]) | skip)
         have H' := Aside0.mk H
         clear H
         go_wp2
         repeat (go_quiet (fail); try go_wp2)
         go_meet
         case rel => exact ⟨_, (false), enA, (by first | exact H' | (subst hji7; exact H')), ⟨by first | omega | exact Nat.le_refl _⟩, ⟨belB HB⟩⟩
        ·rw [if_neg c12] at H; have c12b0 := beq_eq_false_iff_ne.mpr c12; have c12b1 := bne_iff_ne.mpr c12
         (first | rw [c12b0] | (simp only [i64_w, i32_w]; rw [c12b0]) | skip)
         by_cases c13 : 0 < ((a0.extract ((ji7) : Int).toNat a0.size).size : Int)
         ·rw [if_pos c13] at H; have c13b0 := decide_eq_true c13
          have c13x : 0 < a0.size - ji7.toNat := by have z_ := of_decide_eq_true c13b0; simp only [ByteArray.size_extract, Nat.min_self] at z_; omega
          have c13x0 := eq_true c13x; have c13x1 : decide (0 < a0.size - ji7.toNat) = true := decide_eq_true c13x
          have c13x2 : (((a0.size - ji7.toNat : Nat) : Int) < 1) = False := eq_false (by omega)
          have c13x3 : ((0 : Int) < ((a0.size - ji7.toNat : Nat) : Int)) = True := eq_true (by omega)
          have c13b1 : decide (0 < (a0.extract ((ji7) : Int).toNat a0.size).size) = true := decide_eq_true (by omega)
          clear c13
          by_cases c15 : (bt (a0.extract ((ji7) : Int).toNat a0.size) 0) = 43
          ·rw [if_pos c15] at H; have c15b0 := beq_iff_eq.mpr c15; have c15b1 := bne_eq_false_iff_eq.mpr c15; clear c15
           have H' := Aside0.mk H
           clear H
           have p14 : 0 ≤ (0 : Int) := (by omega)
           have q14 : 0 < (a0.extract ((ji7) : Int).toNat a0.size).size := (by have : (0 : Int) < ((a0.extract ((ji7) : Int).toNat a0.size).size : Int) := odA; omega)
           have hx14 : ∀ h : 0 < (a0.extract ((ji7) : Int).toNat a0.size).size, (((a0.extract ((ji7) : Int).toNat a0.size)[0]'h).toNat : Int) = bt (a0.extract ((ji7) : Int).toNat a0.size) 0 := bt_at (a0.extract ((ji7) : Int).toNat a0.size) 0; clear p14; have qi14 : (0 < ((a0.extract ((ji7) : Int).toNat a0.size).size : Int)) = True := eq_true odA; replace q14 := eq_true q14
           go_wp2
           repeat (go_quiet (fail); try go_wp2)
           go_meet
           case rel => exact ⟨_, (true), enA, (by first | exact H' | (subst hji7; exact H')), ⟨by first | omega | exact Nat.le_refl _⟩, ⟨belB HB⟩⟩
          ·rw [if_neg c15] at H; have c15b0 := beq_eq_false_iff_ne.mpr c15; have c15b1 := bne_iff_ne.mpr c15
           have H' := Aside0.mk H
           clear H
           have p14 : 0 ≤ (0 : Int) := (by omega)
           have q14 : 0 < (a0.extract ((ji7) : Int).toNat a0.size).size := (by have : (0 : Int) < ((a0.extract ((ji7) : Int).toNat a0.size).size : Int) := odA; omega)
           have hx14 : ∀ h : 0 < (a0.extract ((ji7) : Int).toNat a0.size).size, (((a0.extract ((ji7) : Int).toNat a0.size)[0]'h).toNat : Int) = bt (a0.extract ((ji7) : Int).toNat a0.size) 0 := bt_at (a0.extract ((ji7) : Int).toNat a0.size) 0; clear p14; have qi14 : (0 < ((a0.extract ((ji7) : Int).toNat a0.size).size : Int)) = True := eq_true odA; replace q14 := eq_true q14
           have p16 : 0 ≤ (0 : Int) := (by omega)
           have q16 : 0 < (a0.extract ((ji7) : Int).toNat a0.size).size := (by have : (0 : Int) < ((a0.extract ((ji7) : Int).toNat a0.size).size : Int) := odA; omega)
           have hx16 : ∀ h : 0 < (a0.extract ((ji7) : Int).toNat a0.size).size, (((a0.extract ((ji7) : Int).toNat a0.size)[0]'h).toNat : Int) = bt (a0.extract ((ji7) : Int).toNat a0.size) 0 := bt_at (a0.extract ((ji7) : Int).toNat a0.size) 0; clear p16; have qi16 : (0 < ((a0.extract ((ji7) : Int).toNat a0.size).size : Int)) = True := eq_true odA; replace q16 := eq_true q16
           go_wp2
           repeat (go_quiet (fail); try go_wp2)
           go_meet
           case rel => exact ⟨_, (((bt (a0.extract ((ji7) : Int).toNat a0.size) 0) == 45)), (by first | rfl | (simp; done) | (simp only [← hji7] <;> (first | rfl | (simp; done))) | (simp [*]; done)), (by first | exact H' | (subst hji7; exact H')), ⟨by first | omega | exact Nat.le_refl _⟩, ⟨belB HB⟩⟩
         ·rw [if_neg c13] at H
          exact absurd H (by simp)
       case rest =>
        clear HC10
        try clear c1
        try clear p1
        try clear q1
        try clear hx1
        try clear qi1
        try clear c2
        try clear c2b0
        try clear c2b1
        try clear p2
        try clear c4
        try clear c4b0
        try clear c5
        try clear c5b0
        try clear c5b1
        try clear c6
        try clear c6b0
        try clear c6b1
        try clear p6
        try clear c8
        try clear c8b0
        try clear c8b1
        try clear c9
        try clear c9b0
        try clear c9b1
        try clear c12
        try clear c12b0
        try clear c12b1
        try clear c13
        try clear c13b0
        try clear c13b1
        try clear p14
        try clear q14
        try clear hx14
        try clear qi14
        try clear c15
        try clear c15b0
        try clear c15b1
        try clear p16
        try clear q16
        try clear hx16
        try clear qi16
        try clear p14
        try clear p16
        try clear q14
        try clear q16
        obtain ⟨kq, x35_9, rfl, HA, HJ9, HB⟩ := hcut
        cases kq with
        | zero => exact absurd HA.out (by simp [impl_FloatOk.j0])
        | succ kj9 =>
         have H := HA.out; clear HA
         simp only [impl_FloatOk.j0] at H
         have HC17 := Aside0.mk H; clear H
         go_upto_if 35 with (fail)
         repeat (go_quiet (fail); go_upto_if 35 with (fail))
         go_cut [4] (fun v4 wc => ∃ (kq : Nat) (x4_16 : ByteArray), v4 = .string x4_16 ∧ Aside0 (impl_FloatOk.j1 kq (a0.extract 0 (t381 : Int).toNat) x4_16 t381 = some r) ∧ Aside0 (kq ≤ kj9) ∧ Aside0 (Below w.heap.size w wc))
         case first =>
          have H := HC17.out; clear HC17
          by_cases c18 : x35_9 = true
          ·subst c18
           have H1 : (if 1 ≤ ((a0.extract ((ji7) : Int).toNat a0.size).size : Int) then (impl_FloatOk.j1 kj9 (a0.extract 0 (t381 : Int).toNat) ((a0.extract ((ji7) : Int).toNat a0.size).extract 1 (a0.extract ((ji7) : Int).toNat a0.size).size) t381) else (none)) = some r := by rw [if_pos rfl] at H; exact H
           clear H; have H := H1; clear H1
           by_cases c19 : 1 ≤ ((a0.extract ((ji7) : Int).toNat a0.size).size : Int)
           ·rw [if_pos c19] at H; have c19b0 := eq_true c19
            have c19x : 0 < a0.size - ji7.toNat := by have z_ := c19; simp only [ByteArray.size_extract, Nat.min_self] at z_; omega
            have c19x0 := eq_true c19x
            have c19x2 : (((a0.size - ji7.toNat : Nat) : Int) < 1) = False := eq_false (by omega)
            have c19x3 : ((1 : Int) ≤ ((a0.size - ji7.toNat : Nat) : Int)) = True := eq_true (by omega)
            have c19b1 := decide_eq_true c19; clear c19
            have H' := Aside0.mk H
            clear H
            go_wp2
            repeat (go_quiet (fail); try go_wp2)
            go_meet
            case rel => exact ⟨_, ((a0.extract ((ji7) : Int).toNat a0.size).extract 1 (a0.extract ((ji7) : Int).toNat a0.size).size), (by first | rfl | (simp; done) | (simp only [← hji7] <;> (first | rfl | (simp; done))) | (simp [*]; done)), (by first | exact H' | (subst hji7; exact H')), ⟨by have := HJ9.out; first | omega | exact Nat.le_refl _⟩, ⟨belB HB⟩⟩
           ·rw [if_neg c19] at H
            exact absurd H (by simp)
          ·replace c18 := Bool.eq_false_iff.mpr c18; subst c18
           have H1 : (impl_FloatOk.j1 kj9 (a0.extract 0 (t381 : Int).toNat) (a0.extract ((ji7) : Int).toNat a0.size) t381) = some r := by rw [if_neg (show ¬ (false = true) by decide)] at H; exact H
           clear H; have H := H1; clear H1
           have H' := Aside0.mk H
           clear H
           go_wp2
           repeat (go_quiet (fail); try go_wp2)
           go_meet
           case rel => exact ⟨_, ((a0.extract ((ji7) : Int).toNat a0.size)), (by first | rfl | (simp; done) | (simp only [← hji7] <;> (first | rfl | (simp; done))) | (simp [*]; done)), (by first | exact H' | (subst hji7; exact H')), ⟨by have := HJ9.out; first | omega | exact Nat.le_refl _⟩, ⟨belB HB⟩⟩
         case rest =>
          clear HC17
          try clear c1
          try clear p1
          try clear q1
          try clear hx1
          try clear qi1
          try clear c2
          try clear c2b0
          try clear c2b1
          try clear p2
          try clear c4
          try clear c4b0
          try clear c5
          try clear c5b0
          try clear c5b1
          try clear c6
          try clear c6b0
          try clear c6b1
          try clear p6
          try clear c8
          try clear c8b0
          try clear c8b1
          try clear c9
          try clear c9b0
          try clear c9b1
          try clear c12
          try clear c12b0
          try clear c12b1
          try clear c13
          try clear c13b0
          try clear c13b1
          try clear p14
          try clear q14
          try clear hx14
          try clear qi14
          try clear c15
          try clear c15b0
          try clear c15b1
          try clear p16
          try clear q16
          try clear hx16
          try clear qi16
          try clear c18
          try clear c19
          try clear c19b0
          try clear c19b1
          try clear p1
          try clear p14
          try clear p16
          try clear p2
          try clear p6
          try clear q1
          try clear q14
          try clear q16
          obtain ⟨kq, x4_16, rfl, HA, HJ16, HB⟩ := hcut
          cases kq with
          | zero => exact absurd HA.out (by simp [impl_FloatOk.j1])
          | succ kj16 =>
           have H := HA.out; clear HA
           simp only [impl_FloatOk.j1] at H
           replace H := Option.bind_eq_some_iff.mp H; obtain ⟨t382, A200, H⟩ := H; replace H : (if t382 = true then ((strings_Cut.f (a0.extract 0 (t381 : Int).toNat) (⟨#[46]⟩ : ByteArray)).bind fun bt383 => ((impl_IntOk.f kj16 bt383.1).bind fun t386 => (if t386 = true then (if bt383.2.2 = true then ((impl_figures.f kj16 bt383.2.1).bind fun t387 => (some t387)) else (if t381 ≥ 0 then (some true) else (some false))) else (some false)))) else (some false)) = some r := H; have A20 := Aside0.mk A200; clear A200
           by_cases c21 : t382 = true
           ·subst c21
            have H1 : ((strings_Cut.f (a0.extract 0 (t381 : Int).toNat) (⟨#[46]⟩ : ByteArray)).bind fun bt383 => ((impl_IntOk.f kj16 bt383.1).bind fun t386 => (if t386 = true then (if bt383.2.2 = true then ((impl_figures.f kj16 bt383.2.1).bind fun t387 => (some t387)) else (if t381 ≥ 0 then (some true) else (some false))) else (some false)))) = some r := by rw [if_pos rfl] at H; exact H
            clear H; have H := H1; clear H1; replace H := Option.bind_eq_some_iff.mp H; obtain ⟨⟨t383, t384, t385⟩, A220, H⟩ := H; replace H : ((impl_IntOk.f kj16 t383).bind fun t386 => (if t386 = true then (if t385 = true then ((impl_figures.f kj16 t384).bind fun t387 => (some t387)) else (if t381 ≥ 0 then (some true) else (some false))) else (some false))) = some r := H; have A22 := Aside0.mk A220; clear A220; replace H := Option.bind_eq_some_iff.mp H; obtain ⟨t386, A230, H⟩ := H; replace H : (if t386 = true then (if t385 = true then ((impl_figures.f kj16 t384).bind fun t387 => (some t387)) else (if t381 ≥ 0 then (some true) else (some false))) else (some false)) = some r := H; have A23 := Aside0.mk A230; clear A230
            by_cases c24 : t386 = true
            ·subst c24
             have H1 : (if t385 = true then ((impl_figures.f kj16 t384).bind fun t387 => (some t387)) else (if t381 ≥ 0 then (some true) else (some false))) = some r := by rw [if_pos rfl] at H; exact H
             clear H; have H := H1; clear H1
             by_cases c25 : t385 = true
             ·subst c25
              have H1 : ((impl_figures.f kj16 t384).bind fun t387 => (some t387)) = some r := by rw [if_pos rfl] at H; exact H
              clear H; have H := H1; clear H1; replace H := Option.bind_eq_some_iff.mp H; obtain ⟨t387, A260, H⟩ := H; replace H : (some t387) = some r := H; have A26 := Aside0.mk A260; clear A260; obtain rfl := Option.some.inj H
              go_wp2_with (first | (go_at_call 84; (with_reducible refine (impl_figures.calls kj16 x4_16 true _ A20.out).mono ?_); rintro e w' ⟨rfl, ⟨nd, rfl⟩⟩; (try exact ddA)) | (go_at_call 86; (with_reducible refine (strings_Cut.calls (a0.extract 0 (t381 : Int).toNat) (⟨#[46]⟩ : ByteArray) t383 t384 true _ A22.out).mono ?_); rintro e w' ⟨rfl, ⟨nd, rfl⟩⟩; (try exact ddA)) | (go_at_call 66; (with_reducible refine (impl_IntOk.calls kj16 t383 true _ A23.out).mono ?_); rintro e w' ⟨rfl, ⟨nd, rfl⟩⟩; (try exact ddA)) | (go_at_call 84; (with_reducible refine (impl_figures.calls kj16 t384 t387 _ A26.out).mono ?_); rintro e w' ⟨rfl, ⟨nd, rfl⟩⟩; (try exact ddA)))
              repeat (go_quiet (first | (go_at_call 84; (with_reducible refine (impl_figures.calls kj16 x4_16 true _ A20.out).mono ?_); rintro e w' ⟨rfl, ⟨nd, rfl⟩⟩; (try exact ddA)) | (go_at_call 86; (with_reducible refine (strings_Cut.calls (a0.extract 0 (t381 : Int).toNat) (⟨#[46]⟩ : ByteArray) t383 t384 true _ A22.out).mono ?_); rintro e w' ⟨rfl, ⟨nd, rfl⟩⟩; (try exact ddA)) | (go_at_call 66; (with_reducible refine (impl_IntOk.calls kj16 t383 true _ A23.out).mono ?_); rintro e w' ⟨rfl, ⟨nd, rfl⟩⟩; (try exact ddA)) | (go_at_call 84; (with_reducible refine (impl_figures.calls kj16 t384 t387 _ A26.out).mono ?_); rintro e w' ⟨rfl, ⟨nd, rfl⟩⟩; (try exact ddA))); try go_wp2_with (first | (go_at_call 84; (with_reducible refine (impl_figures.calls kj16 x4_16 true _ A20.out).mono ?_); rintro e w' ⟨rfl, ⟨nd, rfl⟩⟩; (try exact ddA)) | (go_at_call 86; (with_reducible refine (strings_Cut.calls (a0.extract 0 (t381 : Int).toNat) (⟨#[46]⟩ : ByteArray) t383 t384 true _ A22.out).mono ?_); rintro e w' ⟨rfl, ⟨nd, rfl⟩⟩; (try exact ddA)) | (go_at_call 66; (with_reducible refine (impl_IntOk.calls kj16 t383 true _ A23.out).mono ?_); rintro e w' ⟨rfl, ⟨nd, rfl⟩⟩; (try exact ddA)) | (go_at_call 84; (with_reducible refine (impl_figures.calls kj16 t384 t387 _ A26.out).mono ?_); rintro e w' ⟨rfl, ⟨nd, rfl⟩⟩; (try exact ddA))))
              go_ret
              exact ⟨by first | rfl | (simp [errW_none, errW_some] <;> rfl) | (simp only [← hji7]; first | rfl | (simp [errW_none, errW_some] <;> rfl)) | (simp [*, errW_none, errW_some] <;> rfl), belB HB⟩
             ·replace c25 := Bool.eq_false_iff.mpr c25; subst c25
              have H1 : (if t381 ≥ 0 then (some true) else (some false)) = some r := by rw [if_neg (show ¬ (false = true) by decide)] at H; exact H
              clear H; have H := H1; clear H1
              by_cases c27 : t381 ≥ 0
              ·rw [if_pos c27] at H; have c27b0 := decide_eq_true c27; clear c27; obtain rfl := Option.some.inj H
               go_wp2_with (first | (go_at_call 84; (with_reducible refine (impl_figures.calls kj16 x4_16 true _ A20.out).mono ?_); rintro e w' ⟨rfl, ⟨nd, rfl⟩⟩; (try exact ddA)) | (go_at_call 86; (with_reducible refine (strings_Cut.calls (a0.extract 0 (t381 : Int).toNat) (⟨#[46]⟩ : ByteArray) t383 t384 false _ A22.out).mono ?_); rintro e w' ⟨rfl, ⟨nd, rfl⟩⟩; (try exact ddA)) | (go_at_call 66; (with_reducible refine (impl_IntOk.calls kj16 t383 true _ A23.out).mono ?_); rintro e w' ⟨rfl, ⟨nd, rfl⟩⟩; (try exact ddA)))
               repeat (go_quiet (first | (go_at_call 84; (with_reducible refine (impl_figures.calls kj16 x4_16 true _ A20.out).mono ?_); rintro e w' ⟨rfl, ⟨nd, rfl⟩⟩; (try exact ddA)) | (go_at_call 86; (with_reducible refine (strings_Cut.calls (a0.extract 0 (t381 : Int).toNat) (⟨#[46]⟩ : ByteArray) t383 t384 false _ A22.out).mono ?_); rintro e w' ⟨rfl, ⟨nd, rfl⟩⟩; (try exact ddA)) | (go_at_call 66; (with_reducible refine (impl_IntOk.calls kj16 t383 true _ A23.out).mono ?_); rintro e w' ⟨rfl, ⟨nd, rfl⟩⟩; (try exact ddA))); try go_wp2_with (first | (go_at_call 84; (with_reducible refine (impl_figures.calls kj16 x4_16 true _ A20.out).mono ?_); rintro e w' ⟨rfl, ⟨nd, rfl⟩⟩; (try exact ddA)) | (go_at_call 86; (with_reducible refine (strings_Cut.calls (a0.extract 0 (t381 : Int).toNat) (⟨#[46]⟩ : ByteArray) t383 t384 false _ A22.out).mono ?_); rintro e w' ⟨rfl, ⟨nd, rfl⟩⟩; (try exact ddA)) | (go_at_call 66; (with_reducible refine (impl_IntOk.calls kj16 t383 true _ A23.out).mono ?_); rintro e w' ⟨rfl, ⟨nd, rfl⟩⟩; (try exact ddA))))
               go_ret
               exact ⟨by first | rfl | (simp [errW_none, errW_some] <;> rfl) | (simp only [← hji7]; first | rfl | (simp [errW_none, errW_some] <;> rfl)) | (simp [*, errW_none, errW_some] <;> rfl), belB HB⟩
              ·rw [if_neg c27] at H; have c27b0 := decide_eq_false c27; clear c27; obtain rfl := Option.some.inj H
               go_wp2_with (first | (go_at_call 84; (with_reducible refine (impl_figures.calls kj16 x4_16 true _ A20.out).mono ?_); rintro e w' ⟨rfl, ⟨nd, rfl⟩⟩; (try exact ddA)) | (go_at_call 86; (with_reducible refine (strings_Cut.calls (a0.extract 0 (t381 : Int).toNat) (⟨#[46]⟩ : ByteArray) t383 t384 false _ A22.out).mono ?_); rintro e w' ⟨rfl, ⟨nd, rfl⟩⟩; (try exact ddA)) | (go_at_call 66; (with_reducible refine (impl_IntOk.calls kj16 t383 true _ A23.out).mono ?_); rintro e w' ⟨rfl, ⟨nd, rfl⟩⟩; (try exact ddA)))
               repeat (go_quiet (first | (go_at_call 84; (with_reducible refine (impl_figures.calls kj16 x4_16 true _ A20.out).mono ?_); rintro e w' ⟨rfl, ⟨nd, rfl⟩⟩; (try exact ddA)) | (go_at_call 86; (with_reducible refine (strings_Cut.calls (a0.extract 0 (t381 : Int).toNat) (⟨#[46]⟩ : ByteArray) t383 t384 false _ A22.out).mono ?_); rintro e w' ⟨rfl, ⟨nd, rfl⟩⟩; (try exact ddA)) | (go_at_call 66; (with_reducible refine (impl_IntOk.calls kj16 t383 true _ A23.out).mono ?_); rintro e w' ⟨rfl, ⟨nd, rfl⟩⟩; (try exact ddA))); try go_wp2_with (first | (go_at_call 84; (with_reducible refine (impl_figures.calls kj16 x4_16 true _ A20.out).mono ?_); rintro e w' ⟨rfl, ⟨nd, rfl⟩⟩; (try exact ddA)) | (go_at_call 86; (with_reducible refine (strings_Cut.calls (a0.extract 0 (t381 : Int).toNat) (⟨#[46]⟩ : ByteArray) t383 t384 false _ A22.out).mono ?_); rintro e w' ⟨rfl, ⟨nd, rfl⟩⟩; (try exact ddA)) | (go_at_call 66; (with_reducible refine (impl_IntOk.calls kj16 t383 true _ A23.out).mono ?_); rintro e w' ⟨rfl, ⟨nd, rfl⟩⟩; (try exact ddA))))
               go_ret
               exact ⟨by first | rfl | (simp [errW_none, errW_some] <;> rfl) | (simp only [← hji7]; first | rfl | (simp [errW_none, errW_some] <;> rfl)) | (simp [*, errW_none, errW_some] <;> rfl), belB HB⟩
            ·replace c24 := Bool.eq_false_iff.mpr c24; subst c24
             have H1 : (some false) = some r := by rw [if_neg (show ¬ (false = true) by decide)] at H; exact H
             clear H; have H := H1; clear H1; obtain rfl := Option.some.inj H
             go_wp2_with (first | (go_at_call 84; (with_reducible refine (impl_figures.calls kj16 x4_16 true _ A20.out).mono ?_); rintro e w' ⟨rfl, ⟨nd, rfl⟩⟩; (try exact ddA)) | (go_at_call 86; (with_reducible refine (strings_Cut.calls (a0.extract 0 (t381 : Int).toNat) (⟨#[46]⟩ : ByteArray) t383 t384 t385 _ A22.out).mono ?_); rintro e w' ⟨rfl, ⟨nd, rfl⟩⟩; (try exact ddA)) | (go_at_call 66; (with_reducible refine (impl_IntOk.calls kj16 t383 false _ A23.out).mono ?_); rintro e w' ⟨rfl, ⟨nd, rfl⟩⟩; (try exact ddA)))
             repeat (go_quiet (first | (go_at_call 84; (with_reducible refine (impl_figures.calls kj16 x4_16 true _ A20.out).mono ?_); rintro e w' ⟨rfl, ⟨nd, rfl⟩⟩; (try exact ddA)) | (go_at_call 86; (with_reducible refine (strings_Cut.calls (a0.extract 0 (t381 : Int).toNat) (⟨#[46]⟩ : ByteArray) t383 t384 t385 _ A22.out).mono ?_); rintro e w' ⟨rfl, ⟨nd, rfl⟩⟩; (try exact ddA)) | (go_at_call 66; (with_reducible refine (impl_IntOk.calls kj16 t383 false _ A23.out).mono ?_); rintro e w' ⟨rfl, ⟨nd, rfl⟩⟩; (try exact ddA))); try go_wp2_with (first | (go_at_call 84; (with_reducible refine (impl_figures.calls kj16 x4_16 true _ A20.out).mono ?_); rintro e w' ⟨rfl, ⟨nd, rfl⟩⟩; (try exact ddA)) | (go_at_call 86; (with_reducible refine (strings_Cut.calls (a0.extract 0 (t381 : Int).toNat) (⟨#[46]⟩ : ByteArray) t383 t384 t385 _ A22.out).mono ?_); rintro e w' ⟨rfl, ⟨nd, rfl⟩⟩; (try exact ddA)) | (go_at_call 66; (with_reducible refine (impl_IntOk.calls kj16 t383 false _ A23.out).mono ?_); rintro e w' ⟨rfl, ⟨nd, rfl⟩⟩; (try exact ddA))))
             go_ret
             exact ⟨by first | rfl | (simp [errW_none, errW_some] <;> rfl) | (simp only [← hji7]; first | rfl | (simp [errW_none, errW_some] <;> rfl)) | (simp [*, errW_none, errW_some] <;> rfl), belB HB⟩
           ·replace c21 := Bool.eq_false_iff.mpr c21; subst c21
            have H1 : (some false) = some r := by rw [if_neg (show ¬ (false = true) by decide)] at H; exact H
            clear H; have H := H1; clear H1; obtain rfl := Option.some.inj H
            go_wp2_with (first | (go_at_call 84; (with_reducible refine (impl_figures.calls kj16 x4_16 false _ A20.out).mono ?_); rintro e w' ⟨rfl, ⟨nd, rfl⟩⟩; (try exact ddA)))
            repeat (go_quiet (first | (go_at_call 84; (with_reducible refine (impl_figures.calls kj16 x4_16 false _ A20.out).mono ?_); rintro e w' ⟨rfl, ⟨nd, rfl⟩⟩; (try exact ddA))); try go_wp2_with (first | (go_at_call 84; (with_reducible refine (impl_figures.calls kj16 x4_16 false _ A20.out).mono ?_); rintro e w' ⟨rfl, ⟨nd, rfl⟩⟩; (try exact ddA))))
            go_ret
            exact ⟨by first | rfl | (simp [errW_none, errW_some] <;> rfl) | (simp only [← hji7]; first | rfl | (simp [errW_none, errW_some] <;> rfl)) | (simp [*, errW_none, errW_some] <;> rfl), belB HB⟩
      ·rw [if_neg c9] at H
       exact absurd H (by simp)
     ·rw [if_neg c8] at H
      exact absurd H (by simp)
    ·rw [if_neg c6] at H
     exact absurd H (by simp)
   ·rw [if_neg c5] at H
    exact absurd H (by simp)
  ·rw [if_neg c4] at H; have c4b0 := decide_eq_false c4; clear c4; replace H := Option.bind_eq_some_iff.mp H; obtain ⟨⟨t388, t389, t390⟩, A280, H⟩ := H; replace H : ((impl_IntOk.f k t388).bind fun t391 => (if t391 = true then (if t390 = true then ((impl_figures.f k t389).bind fun t392 => (some t392)) else (some false)) else (some false))) = some r := H; have A28 := Aside0.mk A280; clear A280; replace H := Option.bind_eq_some_iff.mp H; obtain ⟨t391, A290, H⟩ := H; replace H : (if t391 = true then (if t390 = true then ((impl_figures.f k t389).bind fun t392 => (some t392)) else (some false)) else (some false)) = some r := H; have A29 := Aside0.mk A290; clear A290
   by_cases c30 : t391 = true
   ·subst c30
    have H1 : (if t390 = true then ((impl_figures.f k t389).bind fun t392 => (some t392)) else (some false)) = some r := by rw [if_pos rfl] at H; exact H
    clear H; have H := H1; clear H1
    by_cases c31 : t390 = true
    ·subst c31
     have H1 : ((impl_figures.f k t389).bind fun t392 => (some t392)) = some r := by rw [if_pos rfl] at H; exact H
     clear H; have H := H1; clear H1; replace H := Option.bind_eq_some_iff.mp H; obtain ⟨t392, A320, H⟩ := H; replace H : (some t392) = some r := H; have A32 := Aside0.mk A320; clear A320; obtain rfl := Option.some.inj H
     go_enter Tryz.func67, Tryz.ntmps67
     go_wp2_with (first | (go_at_call 85; (with_reducible refine (strings_IndexAny.calls a0 (⟨#[101, 69]⟩ : ByteArray) t381 _ A3.out).mono ?_); rintro e w33 ⟨rfl, hb⟩; replace HB := Aside0.mk (below_step (belB HB) hb); (try clear hb)) | (go_at_call 86; (with_reducible refine (strings_Cut.calls a0 (⟨#[46]⟩ : ByteArray) t388 t389 true _ A28.out).mono ?_); rintro e w' ⟨rfl, ⟨nd, rfl⟩⟩; (try exact ddA)) | (go_at_call 66; (with_reducible refine (impl_IntOk.calls k t388 true _ A29.out).mono ?_); rintro e w' ⟨rfl, ⟨nd, rfl⟩⟩; (try exact ddA)) | (go_at_call 84; (with_reducible refine (impl_figures.calls k t389 t392 _ A32.out).mono ?_); rintro e w' ⟨rfl, ⟨nd, rfl⟩⟩; (try exact ddA)))
     repeat (go_quiet (first | (go_at_call 85; (with_reducible refine (strings_IndexAny.calls a0 (⟨#[101, 69]⟩ : ByteArray) t381 _ A3.out).mono ?_); rintro e w33 ⟨rfl, hb⟩; replace HB := Aside0.mk (below_step (belB HB) hb); (try clear hb)) | (go_at_call 86; (with_reducible refine (strings_Cut.calls a0 (⟨#[46]⟩ : ByteArray) t388 t389 true _ A28.out).mono ?_); rintro e w' ⟨rfl, ⟨nd, rfl⟩⟩; (try exact ddA)) | (go_at_call 66; (with_reducible refine (impl_IntOk.calls k t388 true _ A29.out).mono ?_); rintro e w' ⟨rfl, ⟨nd, rfl⟩⟩; (try exact ddA)) | (go_at_call 84; (with_reducible refine (impl_figures.calls k t389 t392 _ A32.out).mono ?_); rintro e w' ⟨rfl, ⟨nd, rfl⟩⟩; (try exact ddA))); try go_wp2_with (first | (go_at_call 85; (with_reducible refine (strings_IndexAny.calls a0 (⟨#[101, 69]⟩ : ByteArray) t381 _ A3.out).mono ?_); rintro e w33 ⟨rfl, hb⟩; replace HB := Aside0.mk (below_step (belB HB) hb); (try clear hb)) | (go_at_call 86; (with_reducible refine (strings_Cut.calls a0 (⟨#[46]⟩ : ByteArray) t388 t389 true _ A28.out).mono ?_); rintro e w' ⟨rfl, ⟨nd, rfl⟩⟩; (try exact ddA)) | (go_at_call 66; (with_reducible refine (impl_IntOk.calls k t388 true _ A29.out).mono ?_); rintro e w' ⟨rfl, ⟨nd, rfl⟩⟩; (try exact ddA)) | (go_at_call 84; (with_reducible refine (impl_figures.calls k t389 t392 _ A32.out).mono ?_); rintro e w' ⟨rfl, ⟨nd, rfl⟩⟩; (try exact ddA))))
     go_ret
     exact ⟨erA, belB HB⟩
    ·replace c31 := Bool.eq_false_iff.mpr c31; subst c31
     have H1 : (some false) = some r := by rw [if_neg (show ¬ (false = true) by decide)] at H; exact H
     clear H; have H := H1; clear H1; obtain rfl := Option.some.inj H
     go_enter Tryz.func67, Tryz.ntmps67
     go_wp2_with (first | (go_at_call 85; (with_reducible refine (strings_IndexAny.calls a0 (⟨#[101, 69]⟩ : ByteArray) t381 _ A3.out).mono ?_); rintro e w34 ⟨rfl, hb⟩; replace HB := Aside0.mk (below_step (belB HB) hb); (try clear hb)) | (go_at_call 86; (with_reducible refine (strings_Cut.calls a0 (⟨#[46]⟩ : ByteArray) t388 t389 false _ A28.out).mono ?_); rintro e w' ⟨rfl, ⟨nd, rfl⟩⟩; (try exact ddA)) | (go_at_call 66; (with_reducible refine (impl_IntOk.calls k t388 true _ A29.out).mono ?_); rintro e w' ⟨rfl, ⟨nd, rfl⟩⟩; (try exact ddA)))
     repeat (go_quiet (first | (go_at_call 85; (with_reducible refine (strings_IndexAny.calls a0 (⟨#[101, 69]⟩ : ByteArray) t381 _ A3.out).mono ?_); rintro e w34 ⟨rfl, hb⟩; replace HB := Aside0.mk (below_step (belB HB) hb); (try clear hb)) | (go_at_call 86; (with_reducible refine (strings_Cut.calls a0 (⟨#[46]⟩ : ByteArray) t388 t389 false _ A28.out).mono ?_); rintro e w' ⟨rfl, ⟨nd, rfl⟩⟩; (try exact ddA)) | (go_at_call 66; (with_reducible refine (impl_IntOk.calls k t388 true _ A29.out).mono ?_); rintro e w' ⟨rfl, ⟨nd, rfl⟩⟩; (try exact ddA))); try go_wp2_with (first | (go_at_call 85; (with_reducible refine (strings_IndexAny.calls a0 (⟨#[101, 69]⟩ : ByteArray) t381 _ A3.out).mono ?_); rintro e w34 ⟨rfl, hb⟩; replace HB := Aside0.mk (below_step (belB HB) hb); (try clear hb)) | (go_at_call 86; (with_reducible refine (strings_Cut.calls a0 (⟨#[46]⟩ : ByteArray) t388 t389 false _ A28.out).mono ?_); rintro e w' ⟨rfl, ⟨nd, rfl⟩⟩; (try exact ddA)) | (go_at_call 66; (with_reducible refine (impl_IntOk.calls k t388 true _ A29.out).mono ?_); rintro e w' ⟨rfl, ⟨nd, rfl⟩⟩; (try exact ddA))))
     go_ret
     exact ⟨erA, belB HB⟩
   ·replace c30 := Bool.eq_false_iff.mpr c30; subst c30
    have H1 : (some false) = some r := by rw [if_neg (show ¬ (false = true) by decide)] at H; exact H
    clear H; have H := H1; clear H1; obtain rfl := Option.some.inj H
    go_enter Tryz.func67, Tryz.ntmps67
    go_wp2_with (first | (go_at_call 85; (with_reducible refine (strings_IndexAny.calls a0 (⟨#[101, 69]⟩ : ByteArray) t381 _ A3.out).mono ?_); rintro e w35 ⟨rfl, hb⟩; replace HB := Aside0.mk (below_step (belB HB) hb); (try clear hb)) | (go_at_call 86; (with_reducible refine (strings_Cut.calls a0 (⟨#[46]⟩ : ByteArray) t388 t389 t390 _ A28.out).mono ?_); rintro e w' ⟨rfl, ⟨nd, rfl⟩⟩; (try exact ddA)) | (go_at_call 66; (with_reducible refine (impl_IntOk.calls k t388 false _ A29.out).mono ?_); rintro e w' ⟨rfl, ⟨nd, rfl⟩⟩; (try exact ddA)))
    repeat (go_quiet (first | (go_at_call 85; (with_reducible refine (strings_IndexAny.calls a0 (⟨#[101, 69]⟩ : ByteArray) t381 _ A3.out).mono ?_); rintro e w35 ⟨rfl, hb⟩; replace HB := Aside0.mk (below_step (belB HB) hb); (try clear hb)) | (go_at_call 86; (with_reducible refine (strings_Cut.calls a0 (⟨#[46]⟩ : ByteArray) t388 t389 t390 _ A28.out).mono ?_); rintro e w' ⟨rfl, ⟨nd, rfl⟩⟩; (try exact ddA)) | (go_at_call 66; (with_reducible refine (impl_IntOk.calls k t388 false _ A29.out).mono ?_); rintro e w' ⟨rfl, ⟨nd, rfl⟩⟩; (try exact ddA))); try go_wp2_with (first | (go_at_call 85; (with_reducible refine (strings_IndexAny.calls a0 (⟨#[101, 69]⟩ : ByteArray) t381 _ A3.out).mono ?_); rintro e w35 ⟨rfl, hb⟩; replace HB := Aside0.mk (below_step (belB HB) hb); (try clear hb)) | (go_at_call 86; (with_reducible refine (strings_Cut.calls a0 (⟨#[46]⟩ : ByteArray) t388 t389 t390 _ A28.out).mono ?_); rintro e w' ⟨rfl, ⟨nd, rfl⟩⟩; (try exact ddA)) | (go_at_call 66; (with_reducible refine (impl_IntOk.calls k t388 false _ A29.out).mono ?_); rintro e w' ⟨rfl, ⟨nd, rfl⟩⟩; (try exact ddA))))
    go_ret
    exact ⟨erA, belB HB⟩

def utf8_ValidString.f (a0 : ByteArray) : Option (Bool) := if a0.size ≤ 9223372036854775807 then some (Lib.validD a0.data.toList) else none
theorem utf8_ValidString.calls (a0 : ByteArray) (r : Bool) (w : World) (hG : Gl w) (h : utf8_ValidString.f a0 = some r) :
  Calls Tryz.prog 73 #[.string a0] w fun e w' => e = .returned (.bool r) ∧ Below w.heap.size w w' := by
 unfold utf8_ValidString.f at h
 split at h
 ·rename_i hs
  obtain rfl := Option.some.inj h; exact Tryz.utf8_ValidString a0 w hs hG.tabs
 ·cases h

def impl_TextOk.f (a0 : ByteArray) : Option (Bool) := (utf8_ValidString.f a0).bind fun t393 => (some t393)
set_option maxHeartbeats 8000000 in
set_option maxRecDepth 100000 in
theorem impl_TextOk.calls (a0 : ByteArray) (r : Bool) (w : World) (hG : Gl w) (h : impl_TextOk.f a0 = some r) :
  Calls Tryz.prog 53 #[.string a0] w fun e w' => e = .returned (.bool r) ∧ Below w.heap.size w w' := by
 have HG := Aside0.mk hG; clear hG; have HB := Aside0.mk (Below.refl w.heap.size w); have H : ((utf8_ValidString.f a0).bind fun t393 => (some t393)) = some r := h; clear h; replace H := Option.bind_eq_some_iff.mp H; obtain ⟨t393, A20, H⟩ := H; replace H : (some t393) = some r := H; have A2 := Aside0.mk A20; clear A20; obtain rfl := Option.some.inj H
 go_enter Tryz.func53, Tryz.ntmps53
 go_wp2_with (first | ((with_reducible refine gate_callee (f := 73) rfl ?_); refine goesL_ (some 4) rfl rfl Tryz.func73 (by kernel_rfl) rfl #[.string a0] rfl mapA ?_; (with_reducible refine (utf8_ValidString.calls a0 t393 _ (Gl.below HG.out (belB HB)) A2.out).mono ?_); rintro e w3 ⟨rfl, hb⟩; refine ⟨_, rfl, ?_⟩; replace HB := Aside0.mk (below_step (belB HB) hb); (try clear hb)))
 go_ret
 exact ⟨erA, belB HB⟩

def strings_IndexByte.f (a0 : ByteArray) (a1 : Int) : Option (Int) := some (Lib.indexByte a0.data.toList a1.toNat.toUInt8)
theorem strings_IndexByte.calls (a0 : ByteArray) (a1 : Int) (r : Int) (w : World) (h : strings_IndexByte.f a0 a1 = some r) :
  Calls Tryz.prog 54 #[.string a0, .int .u8 a1] w fun e w' => e = .returned (.int .i64 r) ∧ Drawn0 w w' := by
 obtain rfl := Option.some.inj h; refine (Tryz.strings_IndexByte a0 a1 w).mono ?_
 rintro e w' ⟨rfl, rfl⟩
 exact ⟨rfl, Drawn0.refl _⟩

end Go.Proofs.YtjhagdjjlgjlbaaGreatDoor.OFnExactDirsText
-- narrow
