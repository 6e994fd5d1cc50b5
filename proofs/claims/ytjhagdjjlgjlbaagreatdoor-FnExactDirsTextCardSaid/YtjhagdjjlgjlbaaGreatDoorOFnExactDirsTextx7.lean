/- The machine side of one law, written by a program. -/
import Derived.Test.YtjhagdjjlgjlbaaGreatDoorOFnExactDirsTextx0
import Derived.Test.YtjhagdjjlgjlbaaGreatDoorOFnExactDirsTextx2
import Derived.Test.YtjhagdjjlgjlbaaGreatDoorOFnExactDirsTextx6
namespace Go.Proofs.YtjhagdjjlgjlbaaGreatDoor.OFnExactDirsText
open Go.Proofs.YtjhagdjjlgjlbaaGreatDoor.GlU Go.Proofs.YtjhagdjjlgjlbaaGreatDoor.Ix
open Go.RowKit Go.Proofs.YtjhagdjjlgjlbaaGreatDoorW.PrintWords Go.Proofs.YtjhagdjjlgjlbaaGreatDoorW.PrintLast Go.Proofs.YtjhagdjjlgjlbaaGreatDoorW.PrintMore
attribute [local go_sem] max2_int min2_int max_two min_two max_three min_three max_four min_four
set_option linter.unusedVariables false
set_option linter.unusedSimpArgs false

mutual
def spec_l07Right.j0 : Nat → Int → Bool → Int → ByteArray → List (S52) → List ByteArray → Option (Bool)
 | 0, _, _, _, _, _, _ => none
 | k + 1, x1, x5, x159000, x159001, x159002, x159003 => if x5 = true then (if x159000 = 8 then (if (x159003.length : Int) = (x159002.length : Int) then (spec_l07Right.j1 k x1 (x1 == 0) x159000 x159001 x159002 x159003) else (spec_l07Right.j1 k x1 true x159000 x159001 x159002 x159003)) else (if (x159003.length : Int) > 0 then (spec_l07Right.j1 k x1 true x159000 x159001 x159002 x159003) else (spec_l07Right.j1 k x1 (x1 == 0) x159000 x159001 x159002 x159003))) else (if (x159002.length : Int) > 0 then (spec_l07Right.j1 k x1 true x159000 x159001 x159002 x159003) else (if x159000 = 8 then (if (x159003.length : Int) = (x159002.length : Int) then (spec_l07Right.j1 k x1 false x159000 x159001 x159002 x159003) else (spec_l07Right.j1 k x1 true x159000 x159001 x159002 x159003)) else (if (x159003.length : Int) > 0 then (spec_l07Right.j1 k x1 true x159000 x159001 x159002 x159003) else (spec_l07Right.j1 k x1 false x159000 x159001 x159002 x159003))))
def spec_l07Right.j1 : Nat → Int → Bool → Int → ByteArray → List (S52) → List ByteArray → Option (Bool)
 | 0, _, _, _, _, _, _ => none
 | k + 1, x1, x57, x159000, x159001, x159002, x159003 => if x57 = true then (some false) else (spec_l07Right.l0 k x1 0 x159000 x159001 x159002 x159003)
def spec_l07Right.l0 : Nat → Int → Int → Int → ByteArray → List (S52) → List ByteArray → Option (Bool)
 | 0, _, _, _, _, _, _ => none
 | k + 1, x1, x6, x159000, x159001, x159002, x159003 => if x6 < (x159002.length : Int) then (if x159000 = 8 then (if 0 ≤ x6 then (if x6 < (x159003.length : Int) then ((spec_NameOk.f k (rdOf ByteArray.empty x159003 x6)).bind fun t161 => (if t161 = true then ((spec_l07Right.f k ((rd_T52 x159002 x6).f0) ((rd_T52 x159002 x6).f1) ((rd_T52 x159002 x6).f2) ((rd_T52 x159002 x6).f3) (wrap64 (x1 - 1))).bind fun t163 => (if t163 = true then (spec_l07Right.l0 k x1 (wrap64 (x6 + 1)) x159000 x159001 x159002 x159003) else (some false))) else (some false))) else (none)) else (none)) else (if 0 ≤ x6 then ((spec_l07Right.f k ((rd_T52 x159002 x6).f0) ((rd_T52 x159002 x6).f1) ((rd_T52 x159002 x6).f2) ((rd_T52 x159002 x6).f3) (wrap64 (x1 - 1))).bind fun t165 => (if t165 = true then (spec_l07Right.l0 k x1 (wrap64 (x6 + 1)) x159000 x159001 x159002 x159003) else (some false))) else (none))) else (some true)
def spec_l07Right.f : Nat → Int → ByteArray → List (S52) → List ByteArray → Int → Option (Bool)
 | 0, _, _, _, _, _ => none
 | k + 1, a0_0, a0_1, l0_2, l0_3, a1 => (spec_l07One.f k a0_0 a0_1 l0_2 l0_3).bind fun t159 => (if t159 = true then (if a0_0 = 7 then (spec_l07Right.j0 k a1 true a0_0 a0_1 l0_2 l0_3) else (spec_l07Right.j0 k a1 (a0_0 == 8) a0_0 a0_1 l0_2 l0_3)) else (some false))
end
theorem spec_l07Right.mono_l : ∀ k, (∀ y0 y1 y2 y3 y4, LeO (spec_l07Right.f k y0 y1 y2 y3 y4) (spec_l07Right.f (k + 1) y0 y1 y2 y3 y4)) ∧ (∀ y0 y1 y2 y3 y4 y5, LeO (spec_l07Right.j0 k y0 y1 y2 y3 y4 y5) (spec_l07Right.j0 (k + 1) y0 y1 y2 y3 y4 y5)) ∧ (∀ y0 y1 y2 y3 y4 y5, LeO (spec_l07Right.j1 k y0 y1 y2 y3 y4 y5) (spec_l07Right.j1 (k + 1) y0 y1 y2 y3 y4 y5)) ∧ (∀ y0 y1 y2 y3 y4 y5, LeO (spec_l07Right.l0 k y0 y1 y2 y3 y4 y5) (spec_l07Right.l0 (k + 1) y0 y1 y2 y3 y4 y5))
 | 0 => ⟨fun _ _ _ _ _ r h => by simp [spec_l07Right.f] at h, fun _ _ _ _ _ _ r h => by simp [spec_l07Right.j0] at h, fun _ _ _ _ _ _ r h => by simp [spec_l07Right.j1] at h, fun _ _ _ _ _ _ r h => by simp [spec_l07Right.l0] at h⟩
 | k + 1 => by
  obtain ⟨ih0, ih1, ih2, ih3⟩ := spec_l07Right.mono_l k; refine ⟨?_, ?_, ?_, ?_⟩
  ·intro y0 y1 y2 y3 y4; unfold spec_l07Right.f
   repeat' first
   | (with_reducible first | exact ih0 _ _ _ _ _ | exact ih1 _ _ _ _ _ _ | exact ih2 _ _ _ _ _ _ | exact ih3 _ _ _ _ _ _ | exact spec_NameOk.mono _ _ | exact spec_l07One.mono _ _ _ _ _ | exact LeO.refl _ | exact LeO.none _ | refine LeO.ite ?_ ?_ | refine LeO.bind ?_ (fun _ => ?_))
   | exact ih0 _ _ _ _ _ | exact ih1 _ _ _ _ _ _ | exact ih2 _ _ _ _ _ _ | exact ih3 _ _ _ _ _ _ | exact spec_NameOk.mono _ _ | exact spec_l07One.mono _ _ _ _ _ | exact LeO.none _ | refine LeO.ite ?_ ?_ | refine LeO.bind ?_ (fun _ => ?_)
  ·intro y0 y1 y2 y3 y4 y5; unfold spec_l07Right.j0
   repeat' first
   | (with_reducible first | exact ih0 _ _ _ _ _ | exact ih1 _ _ _ _ _ _ | exact ih2 _ _ _ _ _ _ | exact ih3 _ _ _ _ _ _ | exact spec_NameOk.mono _ _ | exact spec_l07One.mono _ _ _ _ _ | exact LeO.refl _ | exact LeO.none _ | refine LeO.ite ?_ ?_ | refine LeO.bind ?_ (fun _ => ?_))
   | exact ih0 _ _ _ _ _ | exact ih1 _ _ _ _ _ _ | exact ih2 _ _ _ _ _ _ | exact ih3 _ _ _ _ _ _ | exact spec_NameOk.mono _ _ | exact spec_l07One.mono _ _ _ _ _ | exact LeO.none _ | refine LeO.ite ?_ ?_ | refine LeO.bind ?_ (fun _ => ?_)
  ·intro y0 y1 y2 y3 y4 y5; unfold spec_l07Right.j1
   repeat' first
   | (with_reducible first | exact ih0 _ _ _ _ _ | exact ih1 _ _ _ _ _ _ | exact ih2 _ _ _ _ _ _ | exact ih3 _ _ _ _ _ _ | exact spec_NameOk.mono _ _ | exact spec_l07One.mono _ _ _ _ _ | exact LeO.refl _ | exact LeO.none _ | refine LeO.ite ?_ ?_ | refine LeO.bind ?_ (fun _ => ?_))
   | exact ih0 _ _ _ _ _ | exact ih1 _ _ _ _ _ _ | exact ih2 _ _ _ _ _ _ | exact ih3 _ _ _ _ _ _ | exact spec_NameOk.mono _ _ | exact spec_l07One.mono _ _ _ _ _ | exact LeO.none _ | refine LeO.ite ?_ ?_ | refine LeO.bind ?_ (fun _ => ?_)
  ·intro y0 y1 y2 y3 y4 y5; unfold spec_l07Right.l0
   repeat' first
   | (with_reducible first | exact ih0 _ _ _ _ _ | exact ih1 _ _ _ _ _ _ | exact ih2 _ _ _ _ _ _ | exact ih3 _ _ _ _ _ _ | exact spec_NameOk.mono _ _ | exact spec_l07One.mono _ _ _ _ _ | exact LeO.refl _ | exact LeO.none _ | refine LeO.ite ?_ ?_ | refine LeO.bind ?_ (fun _ => ?_))
   | exact ih0 _ _ _ _ _ | exact ih1 _ _ _ _ _ _ | exact ih2 _ _ _ _ _ _ | exact ih3 _ _ _ _ _ _ | exact spec_NameOk.mono _ _ | exact spec_l07One.mono _ _ _ _ _ | exact LeO.none _ | refine LeO.ite ?_ ?_ | refine LeO.bind ?_ (fun _ => ?_)
theorem spec_l07Right.mono : ∀ a0 a1 a2 a3 a4 k, LeO (spec_l07Right.f k a0 a1 a2 a3 a4) (spec_l07Right.f (k + 1) a0 a1 a2 a3 a4) := by
 intro a0 a1 a2 a3 a4 k; obtain ⟨ih0, ih1, ih2, ih3⟩ := spec_l07Right.mono_l k; exact ih0 a0 a1 a2 a3 a4
set_option maxHeartbeats 8000000 in
set_option maxRecDepth 100000 in
theorem spec_l07Right.calls (k : Nat) : ∀ (a0_0 : Int) (a0_1 : ByteArray) (A0_2 : Option Addr) (c0_2 : Nat) (l0_2 : List (S52)) (A0_3 : Option Addr) (c0_3 : Nat) (l0_3 : List ByteArray) (a1 : Int) (r : Bool) (w : World) (hr0_2 : Kd.C k52 w A0_2 l0_2.length l0_2) (hc0_2 : l0_2.length ≤ c0_2) (hr0_3 : Kd.C Kd.string w A0_3 l0_3.length l0_3) (hc0_3 : l0_3.length ≤ c0_3) (h : spec_l07Right.f k a0_0 a0_1 l0_2 l0_3 a1 = some r),
  Calls Tryz.prog 47 #[.agg #[.int .i64 a0_0, .string a0_1, .slice A0_2 l0_2.length c0_2, .slice A0_3 l0_3.length c0_3], .int .i64 a1] w fun e w' => e = .returned (.bool r) ∧ Below w.heap.size w w' := by
 induction k using Nat.strongRecOn with
 | _ k ih =>
 intro a0_0 a0_1 A0_2 c0_2 l0_2 A0_3 c0_3 l0_3 a1 r w hr0_2 hc0_2 hr0_3 hc0_3 h
 cases k with
 | zero => exact absurd h (by simp [spec_l07Right.f])
 | succ k =>
 simp only [spec_l07Right.f] at h
 have hu52 := Tryz.underlying52; have HR0_2 := Aside0.mk hr0_2; have HC0_2 := Aside0.mk hc0_2; clear hr0_2 hc0_2; have HR0_3 := Aside0.mk hr0_3; have HC0_3 := Aside0.mk hc0_3; clear hr0_3 hc0_3; have HB := Aside0.mk (Below.refl w.heap.size w); have H : ((spec_l07One.f k a0_0 a0_1 l0_2 l0_3).bind fun t159 => (if t159 = true then (if a0_0 = 7 then (spec_l07Right.j0 k a1 true a0_0 a0_1 l0_2 l0_3) else (spec_l07Right.j0 k a1 (a0_0 == 8) a0_0 a0_1 l0_2 l0_3)) else (some false))) = some r := h; clear h; replace H := Option.bind_eq_some_iff.mp H; obtain ⟨t159, A30, H⟩ := H; replace H : (if t159 = true then (if a0_0 = 7 then (spec_l07Right.j0 k a1 true a0_0 a0_1 l0_2 l0_3) else (spec_l07Right.j0 k a1 (a0_0 == 8) a0_0 a0_1 l0_2 l0_3)) else (some false)) = some r := H; have A3 := Aside0.mk A30; clear A30
 by_cases c4 : t159 = true
 ·subst c4
  have H1 : (if a0_0 = 7 then (spec_l07Right.j0 k a1 true a0_0 a0_1 l0_2 l0_3) else (spec_l07Right.j0 k a1 (a0_0 == 8) a0_0 a0_1 l0_2 l0_3)) = some r := by rw [if_pos rfl] at H; exact H
  clear H; have H := H1; clear H1; have HC5 := Aside0.mk H; clear H
  go_enter Tryz.func47, Tryz.ntmps47
  go_upto_region 3 with (first | ((with_reducible refine gate_dst (N := 2) rfl ?_); (try (refine gate_guard (by rfl) ?_; dsimp only)); refine boxE (N := 2) (cs := #[.int .i64 a0_0, .string a0_1, .slice A0_2 l0_2.length c0_2, .slice A0_3 l0_3.length c0_3]) (t := 52) ?_; intro gb158 hg w6 hbox hb; have BK158 := Aside0.mk (hbox); have GW158 := Aside0.mk ((gbA (w := w) HB hg)); have GE158 := Aside0.mk ((gbA (w := w) HB hg)); replace HB := Aside0.mk (below_step (belB HB) hb); clear hb hbox hg; obtain ⟨hcz7_0, hcz7_1, hcz7_2, hcz7_3, hfz7_0, hfz7_1, hfz7_2, hfz7_3⟩ := cef4 BK158.out) | ((with_reducible refine gate_callee (f := 60) rfl ?_); refine goesL_ (some 8) rfl rfl Tryz.func60 (by kernel_rfl) rfl #[.agg #[.int .i64 a0_0, .string a0_1, .slice A0_2 l0_2.length c0_2, .slice A0_3 l0_3.length c0_3]] rfl mapA ?_; (with_reducible refine (spec_l07One.calls k a0_0 a0_1 _ _ l0_2 _ _ l0_3 true _ ?side1 ?side2 ?side3 ?side4 A3.out).mono ?_); (case side1 => exact cbA HR0_2 HB); (case side2 => exact HC0_2.out); (case side3 => exact cbA HR0_3 HB); (case side4 => exact HC0_3.out); rintro e w8 ⟨rfl, hb⟩; refine ⟨_, rfl, ?_⟩; replace BK158 := Aside0.mk (bBA BK158 hb); replace HB := Aside0.mk (below_step (belS HB GE158) hb); (try clear hb)))
  (try simp only [Act.put, List.setIfInBounds_toArray, List.set_cons_zero, List.set_cons_succ])
  go_cut [5] (fun v5 wc => ∃ (kq : Nat) (x5_4 : Bool), v5 = .bool x5_4 ∧ Aside0 (spec_l07Right.j0 kq a1 x5_4 a0_0 a0_1 l0_2 l0_3 = some r) ∧ Aside0 (kq ≤ k) ∧ Aside0 (wc.heap[gb158]? = some (.cells #[.int .i64 a0_0, .string a0_1, (.slice A0_2 l0_2.length c0_2), (.slice A0_3 l0_3.length c0_3)] 52 (0, 0))) ∧ Aside0 (Below w.heap.size w wc))
  case first =>
   have H := HC5.out; clear HC5
   by_cases c9 : a0_0 = 7
   ·rw [if_pos c9] at H; have c9b0 := beq_iff_eq.mpr c9; have c9b1 := bne_eq_false_iff_eq.mpr c9; clear c9
    (first | rw [c9b0] | (simp only [i64_w, i32_w]; rw [c9b0]) | skip)
    have H' := Aside0.mk H
    clear H; obtain ⟨hcz10_0, hcz10_1, hcz10_2, hcz10_3, hfz10_0, hfz10_1, hfz10_2, hfz10_3⟩ := cef4 BK158.out
    go_wp2
    go_meet
    case rel => exact ⟨_, (true), enA, H', ⟨by first | omega | exact Nat.le_refl _⟩, ⟨blkA BK158⟩, ⟨belS HB GE158⟩⟩
   ·rw [if_neg c9] at H; have c9b0 := beq_eq_false_iff_ne.mpr c9; have c9b1 := bne_iff_ne.mpr c9
    (first | rw [c9b0] | (simp only [i64_w, i32_w]; rw [c9b0]) | skip)
    have H' := Aside0.mk H
    clear H; obtain ⟨hcz11_0, hcz11_1, hcz11_2, hcz11_3, hfz11_0, hfz11_1, hfz11_2, hfz11_3⟩ := cef4 BK158.out
    go_wp2
    go_meet
    case rel => exact ⟨_, ((a0_0 == 8)), enA, H', ⟨by first | omega | exact Nat.le_refl _⟩, ⟨blkA BK158⟩, ⟨belS HB GE158⟩⟩
  case rest =>
   clear HC5
   try clear p2
   try clear c4
   try clear c6
   try clear c9
   try clear c9b0
   try clear c9b1
   try clear hcz10_0
   try clear hcz10_1
   try clear hcz10_2
   try clear hcz10_3
   try clear hcz11_0
   try clear hcz11_1
   try clear hcz11_2
   try clear hcz11_3
   try clear hcz7_0
   try clear hcz7_1
   try clear hcz7_2
   try clear hcz7_3
   try clear hfz10_0
   try clear hfz10_1
   try clear hfz10_2
   try clear hfz10_3
   try clear hfz11_0
   try clear hfz11_1
   try clear hfz11_2
   try clear hfz11_3
   try clear hfz7_0
   try clear hfz7_1
   try clear hfz7_2
   try clear hfz7_3
   obtain ⟨kq, x5_4, rfl, HA, HJ4, BK158, HB⟩ := hcut
   cases kq with
   | zero => exact absurd HA.out (by simp [spec_l07Right.j0])
   | succ kj4 =>
    have H := HA.out; clear HA
    simp only [spec_l07Right.j0] at H
    have HC12 := Aside0.mk H; clear H
    go_upto_region 4 with (fail)
    go_cut [57] (fun v57 wc => ∃ (kq : Nat) (x57_11 : Bool), v57 = .bool x57_11 ∧ Aside0 (spec_l07Right.j1 kq a1 x57_11 a0_0 a0_1 l0_2 l0_3 = some r) ∧ Aside0 (kq ≤ kj4) ∧ Aside0 (wc.heap[gb158]? = some (.cells #[.int .i64 a0_0, .string a0_1, (.slice A0_2 l0_2.length c0_2), (.slice A0_3 l0_3.length c0_3)] 52 (0, 0))) ∧ Aside0 (Below w.heap.size w wc))
    case first =>
     have H := HC12.out; clear HC12
     by_cases c13 : x5_4 = true
     ·subst c13
      have H1 : (if a0_0 = 8 then (if (l0_3.length : Int) = (l0_2.length : Int) then (spec_l07Right.j1 kj4 a1 (a1 == 0) a0_0 a0_1 l0_2 l0_3) else (spec_l07Right.j1 kj4 a1 true a0_0 a0_1 l0_2 l0_3)) else (if (l0_3.length : Int) > 0 then (spec_l07Right.j1 kj4 a1 true a0_0 a0_1 l0_2 l0_3) else (spec_l07Right.j1 kj4 a1 (a1 == 0) a0_0 a0_1 l0_2 l0_3))) = some r := by rw [if_pos rfl] at H; exact H
      clear H; have H := H1; clear H1
      by_cases c14 : a0_0 = 8
      ·rw [if_pos c14] at H; have c14b0 := beq_iff_eq.mpr c14; have c14b1 := bne_eq_false_iff_eq.mpr c14; clear c14
       (first | rw [c14b0] | (simp only [i64_w, i32_w]; rw [c14b0]) | skip)
       by_cases c15 : (l0_3.length : Int) = (l0_2.length : Int)
       ·rw [if_pos c15] at H; have c15b0 := beq_iff_eq.mpr c15; have c15b1 := bne_eq_false_iff_eq.mpr c15
        have c15b2 : (l0_3.length == l0_2.length) = true := by first | simpa using c15 | (simp at c15 ⊢; omega)
        clear c15
        have H' := Aside0.mk H
        clear H; obtain ⟨hcz16_0, hcz16_1, hcz16_2, hcz16_3, hfz16_0, hfz16_1, hfz16_2, hfz16_3⟩ := cef4 BK158.out
        go_wp2
        go_meet
        case rel => exact ⟨_, ((a1 == 0)), enA, H', ⟨by have := HJ4.out; first | omega | exact Nat.le_refl _⟩, ⟨blkA BK158⟩, ⟨belS HB GE158⟩⟩
       ·rw [if_neg c15] at H; have c15b0 := beq_eq_false_iff_ne.mpr c15; have c15b1 := bne_iff_ne.mpr c15
        have c15b2 : (l0_3.length == l0_2.length) = false := by first | simpa using c15 | (simp at c15 ⊢; omega)
        have H' := Aside0.mk H
        clear H; obtain ⟨hcz17_0, hcz17_1, hcz17_2, hcz17_3, hfz17_0, hfz17_1, hfz17_2, hfz17_3⟩ := cef4 BK158.out
        go_wp2
        go_meet
        case rel => exact ⟨_, (true), enA, H', ⟨by have := HJ4.out; first | omega | exact Nat.le_refl _⟩, ⟨blkA BK158⟩, ⟨belS HB GE158⟩⟩
      ·rw [if_neg c14] at H; have c14b0 := beq_eq_false_iff_ne.mpr c14; have c14b1 := bne_iff_ne.mpr c14
       (first | rw [c14b0] | (simp only [i64_w, i32_w]; rw [c14b0]) | skip)
       by_cases c18 : (l0_3.length : Int) > 0
       ·rw [if_pos c18] at H; have c18b0 := decide_eq_true c18
        have c18b1 : decide (0 < l0_3.length) = true := decide_eq_true (by omega)
        clear c18
        have H' := Aside0.mk H
        clear H; obtain ⟨hcz19_0, hcz19_1, hcz19_2, hcz19_3, hfz19_0, hfz19_1, hfz19_2, hfz19_3⟩ := cef4 BK158.out
        go_wp2
        go_meet
        case rel => exact ⟨_, (true), enA, H', ⟨by have := HJ4.out; first | omega | exact Nat.le_refl _⟩, ⟨blkA BK158⟩, ⟨belS HB GE158⟩⟩
       ·rw [if_neg c18] at H; have c18b0 := decide_eq_false c18
        have c18b1 : decide (0 < l0_3.length) = false := decide_eq_false (by omega)
        clear c18
        have H' := Aside0.mk H
        clear H; obtain ⟨hcz20_0, hcz20_1, hcz20_2, hcz20_3, hfz20_0, hfz20_1, hfz20_2, hfz20_3⟩ := cef4 BK158.out
        go_wp2
        go_meet
        case rel => exact ⟨_, ((a1 == 0)), enA, H', ⟨by have := HJ4.out; first | omega | exact Nat.le_refl _⟩, ⟨blkA BK158⟩, ⟨belS HB GE158⟩⟩
     ·replace c13 := Bool.eq_false_iff.mpr c13; subst c13
      have H1 : (if (l0_2.length : Int) > 0 then (spec_l07Right.j1 kj4 a1 true a0_0 a0_1 l0_2 l0_3) else (if a0_0 = 8 then (if (l0_3.length : Int) = (l0_2.length : Int) then (spec_l07Right.j1 kj4 a1 false a0_0 a0_1 l0_2 l0_3) else (spec_l07Right.j1 kj4 a1 true a0_0 a0_1 l0_2 l0_3)) else (if (l0_3.length : Int) > 0 then (spec_l07Right.j1 kj4 a1 true a0_0 a0_1 l0_2 l0_3) else (spec_l07Right.j1 kj4 a1 false a0_0 a0_1 l0_2 l0_3)))) = some r := by rw [if_neg (show ¬ (false = true) by decide)] at H; exact H
      clear H; have H := H1; clear H1
      by_cases c21 : (l0_2.length : Int) > 0
      ·rw [if_pos c21] at H; have c21b0 := decide_eq_true c21
       have c21b1 : decide (0 < l0_2.length) = true := decide_eq_true (by omega)
       clear c21
       have H' := Aside0.mk H
       clear H; obtain ⟨hcz22_0, hcz22_1, hcz22_2, hcz22_3, hfz22_0, hfz22_1, hfz22_2, hfz22_3⟩ := cef4 BK158.out
       go_wp2
       go_meet
       case rel => exact ⟨_, (true), enA, H', ⟨by have := HJ4.out; first | omega | exact Nat.le_refl _⟩, ⟨blkA BK158⟩, ⟨belS HB GE158⟩⟩
      ·rw [if_neg c21] at H; have c21b0 := decide_eq_false c21
       have c21b1 : decide (0 < l0_2.length) = false := decide_eq_false (by omega)
       clear c21
       by_cases c23 : a0_0 = 8
       ·rw [if_pos c23] at H; have c23b0 := beq_iff_eq.mpr c23; have c23b1 := bne_eq_false_iff_eq.mpr c23; clear c23
        by_cases c24 : (l0_3.length : Int) = (l0_2.length : Int)
        ·rw [if_pos c24] at H; have c24b0 := beq_iff_eq.mpr c24; have c24b1 := bne_eq_false_iff_eq.mpr c24
         have c24b2 : (l0_3.length == l0_2.length) = true := by first | simpa using c24 | (simp at c24 ⊢; omega)
         clear c24
         have H' := Aside0.mk H
         clear H; obtain ⟨hcz25_0, hcz25_1, hcz25_2, hcz25_3, hfz25_0, hfz25_1, hfz25_2, hfz25_3⟩ := cef4 BK158.out
         go_wp2
         go_meet
         case rel => exact ⟨_, (false), enA, H', ⟨by have := HJ4.out; first | omega | exact Nat.le_refl _⟩, ⟨blkA BK158⟩, ⟨belS HB GE158⟩⟩
        ·rw [if_neg c24] at H; have c24b0 := beq_eq_false_iff_ne.mpr c24; have c24b1 := bne_iff_ne.mpr c24
         have c24b2 : (l0_3.length == l0_2.length) = false := by first | simpa using c24 | (simp at c24 ⊢; omega)
         have H' := Aside0.mk H
         clear H; obtain ⟨hcz26_0, hcz26_1, hcz26_2, hcz26_3, hfz26_0, hfz26_1, hfz26_2, hfz26_3⟩ := cef4 BK158.out
         go_wp2
         go_meet
         case rel => exact ⟨_, (true), enA, H', ⟨by have := HJ4.out; first | omega | exact Nat.le_refl _⟩, ⟨blkA BK158⟩, ⟨belS HB GE158⟩⟩
       ·rw [if_neg c23] at H; have c23b0 := beq_eq_false_iff_ne.mpr c23; have c23b1 := bne_iff_ne.mpr c23
        by_cases c27 : (l0_3.length : Int) > 0
        ·rw [if_pos c27] at H; have c27b0 := decide_eq_true c27
         have c27b1 : decide (0 < l0_3.length) = true := decide_eq_true (by omega)
         clear c27
         have H' := Aside0.mk H
         clear H; obtain ⟨hcz28_0, hcz28_1, hcz28_2, hcz28_3, hfz28_0, hfz28_1, hfz28_2, hfz28_3⟩ := cef4 BK158.out
         go_wp2
         go_meet
         case rel => exact ⟨_, (true), enA, H', ⟨by have := HJ4.out; first | omega | exact Nat.le_refl _⟩, ⟨blkA BK158⟩, ⟨belS HB GE158⟩⟩
        ·rw [if_neg c27] at H; have c27b0 := decide_eq_false c27
         have c27b1 : decide (0 < l0_3.length) = false := decide_eq_false (by omega)
         clear c27
         have H' := Aside0.mk H
         clear H; obtain ⟨hcz29_0, hcz29_1, hcz29_2, hcz29_3, hfz29_0, hfz29_1, hfz29_2, hfz29_3⟩ := cef4 BK158.out
         go_wp2
         go_meet
         case rel => exact ⟨_, (false), enA, H', ⟨by have := HJ4.out; first | omega | exact Nat.le_refl _⟩, ⟨blkA BK158⟩, ⟨belS HB GE158⟩⟩
    case rest =>
     clear HC12
     try clear c1
     try clear c2
     try clear p2
     try clear c4
     try clear c6
     try clear c9
     try clear c9b0
     try clear c9b1
     try clear c13
     try clear c14
     try clear c14b0
     try clear c14b1
     try clear c15
     try clear c15b0
     try clear c15b1
     try clear c15b2
     try clear c18
     try clear c18b0
     try clear c18b1
     try clear c21
     try clear c21b0
     try clear c21b1
     try clear c23
     try clear c23b0
     try clear c23b1
     try clear c24
     try clear c24b0
     try clear c24b1
     try clear c24b2
     try clear c27
     try clear c27b0
     try clear c27b1
     try clear hcz10_0
     try clear hcz10_1
     try clear hcz10_2
     try clear hcz10_3
     try clear hcz11_0
     try clear hcz11_1
     try clear hcz11_2
     try clear hcz11_3
     try clear hcz16_0
     try clear hcz16_1
     try clear hcz16_2
     try clear hcz16_3
     try clear hcz17_0
     try clear hcz17_1
     try clear hcz17_2
     try clear hcz17_3
     try clear hcz19_0
     try clear hcz19_1
     try clear hcz19_2
     try clear hcz19_3
     try clear hcz20_0
     try clear hcz20_1
     try clear hcz20_2
     try clear hcz20_3
     try clear hcz22_0
     try clear hcz22_1
     try clear hcz22_2
     try clear hcz22_3
     try clear hcz25_0
     try clear hcz25_1
     try clear hcz25_2
     try clear hcz25_3
     try clear hcz26_0
     try clear hcz26_1
     try clear hcz26_2
     try clear hcz26_3
     try clear hcz28_0
     try clear hcz28_1
     try clear hcz28_2
     try clear hcz28_3
     try clear hcz29_0
     try clear hcz29_1
     try clear hcz29_2
     try clear hcz29_3
     try clear hcz7_0
     try clear hcz7_1
     try clear hcz7_2
     try clear hcz7_3
     try clear hfz10_0
     try clear hfz10_1
     try clear hfz10_2
     try clear hfz10_3
     try clear hfz11_0
     try clear hfz11_1
     try clear hfz11_2
     try clear hfz11_3
     try clear hfz16_0
     try clear hfz16_1
     try clear hfz16_2
     try clear hfz16_3
     try clear hfz17_0
     try clear hfz17_1
     try clear hfz17_2
     try clear hfz17_3
     try clear hfz19_0
     try clear hfz19_1
     try clear hfz19_2
     try clear hfz19_3
     try clear hfz20_0
     try clear hfz20_1
     try clear hfz20_2
     try clear hfz20_3
     try clear hfz22_0
     try clear hfz22_1
     try clear hfz22_2
     try clear hfz22_3
     try clear hfz25_0
     try clear hfz25_1
     try clear hfz25_2
     try clear hfz25_3
     try clear hfz26_0
     try clear hfz26_1
     try clear hfz26_2
     try clear hfz26_3
     try clear hfz28_0
     try clear hfz28_1
     try clear hfz28_2
     try clear hfz28_3
     try clear hfz29_0
     try clear hfz29_1
     try clear hfz29_2
     try clear hfz29_3
     try clear hfz7_0
     try clear hfz7_1
     try clear hfz7_2
     try clear hfz7_3
     try clear p2
     obtain ⟨kq, x57_11, rfl, HA, HJ11, BK158, HB⟩ := hcut
     cases kq with
     | zero => exact absurd HA.out (by simp [spec_l07Right.j1])
     | succ kj11 =>
      have H := HA.out; clear HA
      simp only [spec_l07Right.j1] at H
      by_cases c30 : x57_11 = true
      ·subst c30
       have H1 : (some false) = some r := by rw [if_pos rfl] at H; exact H
       clear H; have H := H1; clear H1; obtain rfl := Option.some.inj H
       go_wp2
       go_ret
       exact ⟨erA, belS HB GE158⟩
      ·replace c30 := Bool.eq_false_iff.mpr c30; subst c30
       have H1 : (spec_l07Right.l0 kj11 a1 0 a0_0 a0_1 l0_2 l0_3) = some r := by rw [if_neg (show ¬ (false = true) by decide)] at H; exact H
       clear H; have H := H1; clear H1
       have H' := Aside0.mk H
       clear H
       go_wp2
       go_loopg [6] kj11 (fun kq v6 w' => ∃ (x6_3 : Int), v6 = .int .i64 x6_3 ∧ Aside0 (spec_l07Right.l0 kq a1 x6_3 a0_0 a0_1 l0_2 l0_3 = some r) ∧ Aside0 (kq ≤ kj11) ∧ Aside0 (w'.heap[gb158]? = some (.cells #[.int .i64 a0_0, .string a0_1, (.slice A0_2 l0_2.length c0_2), (.slice A0_3 l0_3.length c0_3)] 52 (0, 0))) ∧ Aside0 (Below w.heap.size w w'))
       case atStart => exact ⟨(0), enA, H', ⟨Nat.le_refl _⟩, ⟨blkA BK158⟩, ⟨belS HB GE158⟩⟩
       case round =>
        clear H'
        try clear c1
        try clear c2
        try clear p2
        try clear c3
        try clear c4
        try clear c6
        try clear c9
        try clear c9b0
        try clear c9b1
        try clear c13
        try clear c14
        try clear c14b0
        try clear c14b1
        try clear c15
        try clear c15b0
        try clear c15b1
        try clear c15b2
        try clear c18
        try clear c18b0
        try clear c18b1
        try clear c21
        try clear c21b0
        try clear c21b1
        try clear c23
        try clear c23b0
        try clear c23b1
        try clear c24
        try clear c24b0
        try clear c24b1
        try clear c24b2
        try clear c27
        try clear c27b0
        try clear c27b1
        try clear c30
        try clear hcz10_0
        try clear hcz10_1
        try clear hcz10_2
        try clear hcz10_3
        try clear hcz11_0
        try clear hcz11_1
        try clear hcz11_2
        try clear hcz11_3
        try clear hcz16_0
        try clear hcz16_1
        try clear hcz16_2
        try clear hcz16_3
        try clear hcz17_0
        try clear hcz17_1
        try clear hcz17_2
        try clear hcz17_3
        try clear hcz19_0
        try clear hcz19_1
        try clear hcz19_2
        try clear hcz19_3
        try clear hcz20_0
        try clear hcz20_1
        try clear hcz20_2
        try clear hcz20_3
        try clear hcz22_0
        try clear hcz22_1
        try clear hcz22_2
        try clear hcz22_3
        try clear hcz25_0
        try clear hcz25_1
        try clear hcz25_2
        try clear hcz25_3
        try clear hcz26_0
        try clear hcz26_1
        try clear hcz26_2
        try clear hcz26_3
        try clear hcz28_0
        try clear hcz28_1
        try clear hcz28_2
        try clear hcz28_3
        try clear hcz29_0
        try clear hcz29_1
        try clear hcz29_2
        try clear hcz29_3
        try clear hcz7_0
        try clear hcz7_1
        try clear hcz7_2
        try clear hcz7_3
        try clear hfz10_0
        try clear hfz10_1
        try clear hfz10_2
        try clear hfz10_3
        try clear hfz11_0
        try clear hfz11_1
        try clear hfz11_2
        try clear hfz11_3
        try clear hfz16_0
        try clear hfz16_1
        try clear hfz16_2
        try clear hfz16_3
        try clear hfz17_0
        try clear hfz17_1
        try clear hfz17_2
        try clear hfz17_3
        try clear hfz19_0
        try clear hfz19_1
        try clear hfz19_2
        try clear hfz19_3
        try clear hfz20_0
        try clear hfz20_1
        try clear hfz20_2
        try clear hfz20_3
        try clear hfz22_0
        try clear hfz22_1
        try clear hfz22_2
        try clear hfz22_3
        try clear hfz25_0
        try clear hfz25_1
        try clear hfz25_2
        try clear hfz25_3
        try clear hfz26_0
        try clear hfz26_1
        try clear hfz26_2
        try clear hfz26_3
        try clear hfz28_0
        try clear hfz28_1
        try clear hfz28_2
        try clear hfz28_3
        try clear hfz29_0
        try clear hfz29_1
        try clear hfz29_2
        try clear hfz29_3
        try clear hfz7_0
        try clear hfz7_1
        try clear hfz7_2
        try clear hfz7_3
        try clear p2
        obtain ⟨x6_3, rfl, HA, HK3, BK158, HB⟩ := hrel
        cases gk with
        | zero => exact absurd HA.out (by simp [spec_l07Right.l0])
        | succ k3 =>
         have H := HA.out; clear HA
         simp only [spec_l07Right.l0] at H
         by_cases c31 : x6_3 < (l0_2.length : Int)
         ·rw [if_pos c31] at H; have c31b0 := decide_eq_true c31; clear c31
          by_cases c32 : a0_0 = 8
          ·rw [if_pos c32] at H; have c32b0 := beq_iff_eq.mpr c32; have c32b1 := bne_eq_false_iff_eq.mpr c32; clear c32
           by_cases c33 : 0 ≤ x6_3
           ·rw [if_pos c33] at H; have c33b0 := decide_eq_true c33; clear c33
            by_cases c34 : x6_3 < (l0_3.length : Int)
            ·rw [if_pos c34] at H; have c34b0 := decide_eq_true c34; clear c34; replace H := Option.bind_eq_some_iff.mp H; obtain ⟨t161, A350, H⟩ := H; replace H : (if t161 = true then ((spec_l07Right.f k3 ((rd_T52 l0_2 x6_3).f0) ((rd_T52 l0_2 x6_3).f1) ((rd_T52 l0_2 x6_3).f2) ((rd_T52 l0_2 x6_3).f3) (wrap64 (a1 - 1))).bind fun t163 => (if t163 = true then (spec_l07Right.l0 k3 a1 (wrap64 (x6_3 + 1)) a0_0 a0_1 l0_2 l0_3) else (some false))) else (some false)) = some r := H; have A35 := Aside0.mk A350; clear A350
             by_cases c36 : t161 = true
             ·subst c36
              have H1 : ((spec_l07Right.f k3 ((rd_T52 l0_2 x6_3).f0) ((rd_T52 l0_2 x6_3).f1) ((rd_T52 l0_2 x6_3).f2) ((rd_T52 l0_2 x6_3).f3) (wrap64 (a1 - 1))).bind fun t163 => (if t163 = true then (spec_l07Right.l0 k3 a1 (wrap64 (x6_3 + 1)) a0_0 a0_1 l0_2 l0_3) else (some false))) = some r := by rw [if_pos rfl] at H; exact H
              clear H; have H := H1; clear H1; replace H := Option.bind_eq_some_iff.mp H; obtain ⟨t163, A370, H⟩ := H; replace H : (if t163 = true then (spec_l07Right.l0 k3 a1 (wrap64 (x6_3 + 1)) a0_0 a0_1 l0_2 l0_3) else (some false)) = some r := H; have A37 := Aside0.mk A370; clear A370
              by_cases c38 : t163 = true
              ·subst c38
               have H1 : (spec_l07Right.l0 k3 a1 (wrap64 (x6_3 + 1)) a0_0 a0_1 l0_2 l0_3) = some r := by rw [if_pos rfl] at H; exact H
               clear H; have H := H1; clear H1
               have H' := Aside0.mk H
               clear H; obtain ⟨hcz39_0, hcz39_1, hcz39_2, hcz39_3, hfz39_0, hfz39_1, hfz39_2, hfz39_3⟩ := cef4 BK158.out; have p160 : 0 ≤ (x6_3 : Int) := odA; have q160 : x6_3 < (l0_3.length : Int) := odA; obtain ⟨ad160, e160, hx160_0⟩ := Kd.at_string HR0_3.out x6_3 p160 q160
               cases e160
               (try replace hx160_0 := celB HB hx160_0)
               replace p160 := eq_true p160; replace q160 := eq_true q160
               go_wp2_with (first | (go_at_call 17; (with_reducible refine (spec_NameOk.calls k3 (rdOf ByteArray.empty l0_3 x6_3) true _ A35.out).mono ?_); rintro e w' ⟨rfl, ⟨nd, rfl⟩⟩; have p162 : 0 ≤ (x6_3 : Int) := odA; have q162 : x6_3 < (l0_2.length : Int) := odA; obtain ⟨ad162, A162_2, c162_2, A162_3, c162_3, e162, hx162_0, hx162_1, hx162_2, hx162_3, hl162_2, hi162_2, hl162_3, hi162_3⟩ := at_T52 HR0_2.out x6_3 p162 q162; cases e162; replace hx162_0 := (HB.out.cell (World.block_lt_of_cell? w _ hx162_0)).trans hx162_0; replace hx162_1 := (HB.out.cell (World.block_lt_of_cell? w _ hx162_1)).trans hx162_1; replace hx162_2 := (HB.out.cell (World.block_lt_of_cell? w _ hx162_2)).trans hx162_2; replace hx162_3 := (HB.out.cell (World.block_lt_of_cell? w _ hx162_3)).trans hx162_3; have HR162_2 := Aside0.mk hi162_2; have HC162_2 := Aside0.mk hl162_2; clear hi162_2 hl162_2; have HR162_3 := Aside0.mk hi162_3; have HC162_3 := Aside0.mk hl162_3; clear hi162_3 hl162_3; replace p162 := eq_true p162; replace q162 := eq_true q162) | (go_at_call 47; (with_reducible refine (ih k3 (by have := HJ4.out; have := HJ11.out; have := HK3.out; omega) ((rd_T52 l0_2 x6_3).f0) ((rd_T52 l0_2 x6_3).f1) _ _ ((rd_T52 l0_2 x6_3).f2) _ _ ((rd_T52 l0_2 x6_3).f3) (wrap64 (a1 - 1)) true _ ?side1 ?side2 ?side3 ?side4 A37.out).mono ?_); (case side1 => repeat (first | exact (Kd.C_below HR162_2.out (belS HB GE158)) | (with_reducible refine Kd.C_alloc ?_ _) | (with_reducible refine Kd.C_drewN ?_ _) | (with_reducible refine Kd.C_drew ?_))); (case side2 => exact HC162_2.out); (case side3 => repeat (first | exact (Kd.C_below HR162_3.out (belS HB GE158)) | (with_reducible refine Kd.C_alloc ?_ _) | (with_reducible refine Kd.C_drewN ?_ _) | (with_reducible refine Kd.C_drew ?_))); (case side4 => exact HC162_3.out); rintro e w40 ⟨rfl, hb⟩; replace BK158 := Aside0.mk (bBA BK158 hb); replace HB := Aside0.mk (below_step (belS HB GE158) hb); (try clear hb)))
               go_roundg k3
               case measure => have := HJ4.out; have := HJ11.out; have := HK3.out; omega
               case rel => exact ⟨(wrap64 (x6_3 + 1)), enA, H', ⟨by have := HJ4.out; have := HJ11.out; have := HK3.out; omega⟩, ⟨blkA BK158⟩, ⟨belS HB GE158⟩⟩
              ·replace c38 := Bool.eq_false_iff.mpr c38; subst c38
               have H1 : (some false) = some r := by rw [if_neg (show ¬ (false = true) by decide)] at H; exact H
               clear H; have H := H1; clear H1; obtain rfl := Option.some.inj H; obtain ⟨hcz41_0, hcz41_1, hcz41_2, hcz41_3, hfz41_0, hfz41_1, hfz41_2, hfz41_3⟩ := cef4 BK158.out; have p160 : 0 ≤ (x6_3 : Int) := odA; have q160 : x6_3 < (l0_3.length : Int) := odA; obtain ⟨ad160, e160, hx160_0⟩ := Kd.at_string HR0_3.out x6_3 p160 q160
               cases e160
               (try replace hx160_0 := celB HB hx160_0)
               replace p160 := eq_true p160; replace q160 := eq_true q160
               go_wp2_with (first | (go_at_call 17; (with_reducible refine (spec_NameOk.calls k3 (rdOf ByteArray.empty l0_3 x6_3) true _ A35.out).mono ?_); rintro e w' ⟨rfl, ⟨nd, rfl⟩⟩; have p162 : 0 ≤ (x6_3 : Int) := odA; have q162 : x6_3 < (l0_2.length : Int) := odA; obtain ⟨ad162, A162_2, c162_2, A162_3, c162_3, e162, hx162_0, hx162_1, hx162_2, hx162_3, hl162_2, hi162_2, hl162_3, hi162_3⟩ := at_T52 HR0_2.out x6_3 p162 q162; cases e162; replace hx162_0 := (HB.out.cell (World.block_lt_of_cell? w _ hx162_0)).trans hx162_0; replace hx162_1 := (HB.out.cell (World.block_lt_of_cell? w _ hx162_1)).trans hx162_1; replace hx162_2 := (HB.out.cell (World.block_lt_of_cell? w _ hx162_2)).trans hx162_2; replace hx162_3 := (HB.out.cell (World.block_lt_of_cell? w _ hx162_3)).trans hx162_3; have HR162_2 := Aside0.mk hi162_2; have HC162_2 := Aside0.mk hl162_2; clear hi162_2 hl162_2; have HR162_3 := Aside0.mk hi162_3; have HC162_3 := Aside0.mk hl162_3; clear hi162_3 hl162_3; replace p162 := eq_true p162; replace q162 := eq_true q162) | (go_at_call 47; (with_reducible refine (ih k3 (by have := HJ4.out; have := HJ11.out; have := HK3.out; omega) ((rd_T52 l0_2 x6_3).f0) ((rd_T52 l0_2 x6_3).f1) _ _ ((rd_T52 l0_2 x6_3).f2) _ _ ((rd_T52 l0_2 x6_3).f3) (wrap64 (a1 - 1)) false _ ?side1 ?side2 ?side3 ?side4 A37.out).mono ?_); (case side1 => repeat (first | exact (Kd.C_below HR162_2.out (belS HB GE158)) | (with_reducible refine Kd.C_alloc ?_ _) | (with_reducible refine Kd.C_drewN ?_ _) | (with_reducible refine Kd.C_drew ?_))); (case side2 => exact HC162_2.out); (case side3 => repeat (first | exact (Kd.C_below HR162_3.out (belS HB GE158)) | (with_reducible refine Kd.C_alloc ?_ _) | (with_reducible refine Kd.C_drewN ?_ _) | (with_reducible refine Kd.C_drew ?_))); (case side4 => exact HC162_3.out); rintro e w42 ⟨rfl, hb⟩; replace BK158 := Aside0.mk (bBA BK158 hb); replace HB := Aside0.mk (below_step (belS HB GE158) hb); (try clear hb)))
               go_ret
               exact ⟨erA, belS HB GE158⟩
             ·replace c36 := Bool.eq_false_iff.mpr c36; subst c36
              have H1 : (some false) = some r := by rw [if_neg (show ¬ (false = true) by decide)] at H; exact H
              clear H; have H := H1; clear H1; obtain rfl := Option.some.inj H; obtain ⟨hcz43_0, hcz43_1, hcz43_2, hcz43_3, hfz43_0, hfz43_1, hfz43_2, hfz43_3⟩ := cef4 BK158.out; have p160 : 0 ≤ (x6_3 : Int) := odA; have q160 : x6_3 < (l0_3.length : Int) := odA; obtain ⟨ad160, e160, hx160_0⟩ := Kd.at_string HR0_3.out x6_3 p160 q160
              cases e160
              (try replace hx160_0 := celB HB hx160_0)
              replace p160 := eq_true p160; replace q160 := eq_true q160
              go_wp2_with (first | (go_at_call 17; (with_reducible refine (spec_NameOk.calls k3 (rdOf ByteArray.empty l0_3 x6_3) false _ A35.out).mono ?_); rintro e w' ⟨rfl, ⟨nd, rfl⟩⟩))
              go_ret
              exact ⟨erA, belS HB GE158⟩
            ·rw [if_neg c34] at H
             exact absurd H (by simp)
           ·rw [if_neg c33] at H
            exact absurd H (by simp)
          ·rw [if_neg c32] at H; have c32b0 := beq_eq_false_iff_ne.mpr c32; have c32b1 := bne_iff_ne.mpr c32
           by_cases c44 : 0 ≤ x6_3
           ·rw [if_pos c44] at H; have c44b0 := decide_eq_true c44; clear c44; replace H := Option.bind_eq_some_iff.mp H; obtain ⟨t165, A450, H⟩ := H; replace H : (if t165 = true then (spec_l07Right.l0 k3 a1 (wrap64 (x6_3 + 1)) a0_0 a0_1 l0_2 l0_3) else (some false)) = some r := H; have A45 := Aside0.mk A450; clear A450
            by_cases c46 : t165 = true
            ·subst c46
             have H1 : (spec_l07Right.l0 k3 a1 (wrap64 (x6_3 + 1)) a0_0 a0_1 l0_2 l0_3) = some r := by rw [if_pos rfl] at H; exact H
             clear H; have H := H1; clear H1
             have H' := Aside0.mk H
             clear H; obtain ⟨hcz47_0, hcz47_1, hcz47_2, hcz47_3, hfz47_0, hfz47_1, hfz47_2, hfz47_3⟩ := cef4 BK158.out; have p164 : 0 ≤ (x6_3 : Int) := odA; have q164 : x6_3 < (l0_2.length : Int) := odA; obtain ⟨ad164, A164_2, c164_2, A164_3, c164_3, e164, hx164_0, hx164_1, hx164_2, hx164_3, hl164_2, hi164_2, hl164_3, hi164_3⟩ := at_T52 HR0_2.out x6_3 p164 q164
             cases e164
             (try replace hx164_0 := celB HB hx164_0)
             (try replace hx164_1 := celB HB hx164_1)
             (try replace hx164_2 := celB HB hx164_2)
             (try replace hx164_3 := celB HB hx164_3)
             have HR164_2 := Aside0.mk hi164_2; have HC164_2 := Aside0.mk hl164_2; clear hi164_2 hl164_2; have HR164_3 := Aside0.mk hi164_3; have HC164_3 := Aside0.mk hl164_3; clear hi164_3 hl164_3; replace p164 := eq_true p164; replace q164 := eq_true q164
             go_wp2_with (first | (go_at_call 47; (with_reducible refine (ih k3 (by have := HJ4.out; have := HJ11.out; have := HK3.out; omega) ((rd_T52 l0_2 x6_3).f0) ((rd_T52 l0_2 x6_3).f1) _ _ ((rd_T52 l0_2 x6_3).f2) _ _ ((rd_T52 l0_2 x6_3).f3) (wrap64 (a1 - 1)) true _ ?side1 ?side2 ?side3 ?side4 A45.out).mono ?_); (case side1 => exact cbA HR164_2 HB); (case side2 => exact HC164_2.out); (case side3 => exact cbA HR164_3 HB); (case side4 => exact HC164_3.out); rintro e w48 ⟨rfl, hb⟩; replace BK158 := Aside0.mk (bBA BK158 hb); replace HB := Aside0.mk (below_step (belS HB GE158) hb); (try clear hb)))
             go_roundg k3
             case measure => have := HJ4.out; have := HJ11.out; have := HK3.out; omega
             case rel => exact ⟨(wrap64 (x6_3 + 1)), enA, H', ⟨by have := HJ4.out; have := HJ11.out; have := HK3.out; omega⟩, ⟨blkA BK158⟩, ⟨belS HB GE158⟩⟩
            ·replace c46 := Bool.eq_false_iff.mpr c46; subst c46
             have H1 : (some false) = some r := by rw [if_neg (show ¬ (false = true) by decide)] at H; exact H
             clear H; have H := H1; clear H1; obtain rfl := Option.some.inj H; obtain ⟨hcz49_0, hcz49_1, hcz49_2, hcz49_3, hfz49_0, hfz49_1, hfz49_2, hfz49_3⟩ := cef4 BK158.out; have p164 : 0 ≤ (x6_3 : Int) := odA; have q164 : x6_3 < (l0_2.length : Int) := odA; obtain ⟨ad164, A164_2, c164_2, A164_3, c164_3, e164, hx164_0, hx164_1, hx164_2, hx164_3, hl164_2, hi164_2, hl164_3, hi164_3⟩ := at_T52 HR0_2.out x6_3 p164 q164
             cases e164
             (try replace hx164_0 := celB HB hx164_0)
             (try replace hx164_1 := celB HB hx164_1)
             (try replace hx164_2 := celB HB hx164_2)
             (try replace hx164_3 := celB HB hx164_3)
             have HR164_2 := Aside0.mk hi164_2; have HC164_2 := Aside0.mk hl164_2; clear hi164_2 hl164_2; have HR164_3 := Aside0.mk hi164_3; have HC164_3 := Aside0.mk hl164_3; clear hi164_3 hl164_3; replace p164 := eq_true p164; replace q164 := eq_true q164
             go_wp2_with (first | (go_at_call 47; (with_reducible refine (ih k3 (by have := HJ4.out; have := HJ11.out; have := HK3.out; omega) ((rd_T52 l0_2 x6_3).f0) ((rd_T52 l0_2 x6_3).f1) _ _ ((rd_T52 l0_2 x6_3).f2) _ _ ((rd_T52 l0_2 x6_3).f3) (wrap64 (a1 - 1)) false _ ?side1 ?side2 ?side3 ?side4 A45.out).mono ?_); (case side1 => exact cbA HR164_2 HB); (case side2 => exact HC164_2.out); (case side3 => exact cbA HR164_3 HB); (case side4 => exact HC164_3.out); rintro e w50 ⟨rfl, hb⟩; replace BK158 := Aside0.mk (bBA BK158 hb); replace HB := Aside0.mk (below_step (belS HB GE158) hb); (try clear hb)))
             go_ret
             exact ⟨erA, belS HB GE158⟩
           ·rw [if_neg c44] at H
            exact absurd H (by simp)
         ·rw [if_neg c31] at H; have c31b0 := decide_eq_false c31; clear c31; obtain rfl := Option.some.inj H; obtain ⟨hcz51_0, hcz51_1, hcz51_2, hcz51_3, hfz51_0, hfz51_1, hfz51_2, hfz51_3⟩ := cef4 BK158.out
          go_wp2
          go_ret
          exact ⟨erA, belS HB GE158⟩
 ·replace c4 := Bool.eq_false_iff.mpr c4; subst c4
  have H1 : (some false) = some r := by rw [if_neg (show ¬ (false = true) by decide)] at H; exact H
  clear H; have H := H1; clear H1; obtain rfl := Option.some.inj H
  go_enter Tryz.func47, Tryz.ntmps47
  go_wp2_with (first | ((with_reducible refine gate_dst (N := 2) rfl ?_); (try (refine gate_guard (by rfl) ?_; dsimp only)); refine boxE (N := 2) (cs := #[.int .i64 a0_0, .string a0_1, .slice A0_2 l0_2.length c0_2, .slice A0_3 l0_3.length c0_3]) (t := 52) ?_; intro gb158 hg w52 hbox hb; have BK158 := Aside0.mk (hbox); have GW158 := Aside0.mk ((gbA (w := w) HB hg)); have GE158 := Aside0.mk ((gbA (w := w) HB hg)); replace HB := Aside0.mk (below_step (belB HB) hb); clear hb hbox hg; obtain ⟨hcz53_0, hcz53_1, hcz53_2, hcz53_3, hfz53_0, hfz53_1, hfz53_2, hfz53_3⟩ := cef4 BK158.out) | ((with_reducible refine gate_callee (f := 60) rfl ?_); refine goesL_ (some 8) rfl rfl Tryz.func60 (by kernel_rfl) rfl #[.agg #[.int .i64 a0_0, .string a0_1, .slice A0_2 l0_2.length c0_2, .slice A0_3 l0_3.length c0_3]] rfl mapA ?_; (with_reducible refine (spec_l07One.calls k a0_0 a0_1 _ _ l0_2 _ _ l0_3 false _ ?side1 ?side2 ?side3 ?side4 A3.out).mono ?_); (case side1 => exact cbA HR0_2 HB); (case side2 => exact HC0_2.out); (case side3 => exact cbA HR0_3 HB); (case side4 => exact HC0_3.out); rintro e w54 ⟨rfl, hb⟩; refine ⟨_, rfl, ?_⟩; replace BK158 := Aside0.mk (bBA BK158 hb); replace HB := Aside0.mk (below_step (belS HB GE158) hb); (try clear hb)))
  go_ret
  exact ⟨erA, belS HB GE158⟩

end Go.Proofs.YtjhagdjjlgjlbaaGreatDoor.OFnExactDirsText
-- narrow
