/- The machine side of one law, written by a program. -/
import Derived.Test.YtkcomfmdcmjagaaOFnExactAllSelsx0
import Derived.Test.YtkcomfmdcmjagaaOFnExactAllSelsx4
namespace Go.Proofs.Ytkcomfmdcmjagaa.OFnExactAllSels
open Go.Proofs.Ytkcomfmdcmjagaa.Mark Go.Proofs.Ytkcomfmdcmjagaa.Ix
open Go.RowKit Go.Proofs.YtkcomfmdcmjagaaW.PrintWords Go.Proofs.YtkcomfmdcmjagaaW.PrintLast Go.Proofs.YtkcomfmdcmjagaaW.PrintMore
attribute [local go_sem] max2_int min2_int max_two min_two max_three min_three max_four min_four
set_option linter.unusedVariables false
set_option linter.unusedSimpArgs false

def laws_eqArgS.l0 : Nat → List (S78) → List (S78) → Int → Option (Bool)
 | 0, _, _, _ => none
 | k + 1, x0, x1, x5 => if x5 < (x0.length : Int) then (if 0 ≤ x5 then (if x5 < (x1.length : Int) then ((laws_eqArg.f k ((rd_T78 x0 x5).f0) ((rd_T78 x0 x5).f1.f0) ((rd_T78 x0 x5).f1.f1) ((rd_T78 x0 x5).f1.f2) ((rd_T78 x0 x5).f1.f3) ((rd_T78 x1 x5).f0) ((rd_T78 x1 x5).f1.f0) ((rd_T78 x1 x5).f1.f1) ((rd_T78 x1 x5).f1.f2) ((rd_T78 x1 x5).f1.f3)).bind fun t232 => (if t232 = true then (laws_eqArgS.l0 k x0 x1 (wrap64 (x5 + 1))) else (some false))) else (none)) else (none)) else (some true)
def laws_eqArgS.f (k : Nat) (l0 : List (S78)) (l1 : List (S78)) : Option (Bool) := if (l0.length : Int) = (l1.length : Int) then (laws_eqArgS.l0 k l0 l1 0) else (some false)
theorem laws_eqArgS.mono_l : ∀ k, (∀ y0 y1 y2, LeO (laws_eqArgS.l0 k y0 y1 y2) (laws_eqArgS.l0 (k + 1) y0 y1 y2))
 | 0 => fun _ _ _ r h => by simp [laws_eqArgS.l0] at h
 | k + 1 => by
  have ih0 := laws_eqArgS.mono_l k
  ·intro y0 y1 y2; unfold laws_eqArgS.l0
   repeat' first
   | (with_reducible first | exact ih0 _ _ _ | exact laws_eqArg.mono _ _ _ _ _ _ _ _ _ _ _ | exact LeO.refl _ | exact LeO.none _ | refine LeO.ite ?_ ?_ | refine LeO.bind ?_ (fun _ => ?_))
   | exact ih0 _ _ _ | exact laws_eqArg.mono _ _ _ _ _ _ _ _ _ _ _ | exact LeO.none _ | refine LeO.ite ?_ ?_ | refine LeO.bind ?_ (fun _ => ?_)
theorem laws_eqArgS.mono : ∀ a0 a1 k, LeO (laws_eqArgS.f k a0 a1) (laws_eqArgS.f (k + 1) a0 a1) := by
 intro a0 a1 k; have ih0 := laws_eqArgS.mono_l k; unfold laws_eqArgS.f
 repeat' first
   | (with_reducible first | exact ih0 _ _ _ | exact laws_eqArg.mono _ _ _ _ _ _ _ _ _ _ _ | exact LeO.refl _ | exact LeO.none _ | refine LeO.ite ?_ ?_ | refine LeO.bind ?_ (fun _ => ?_))
   | exact ih0 _ _ _ | exact laws_eqArg.mono _ _ _ _ _ _ _ _ _ _ _ | exact LeO.none _ | refine LeO.ite ?_ ?_ | refine LeO.bind ?_ (fun _ => ?_)
def laws_eqArgS.T6 : Bool × List (List Nat × List Nat) := (true, [([], []), ([], []), ([0, 1], [0, 1]), ([2], [2]), ([], []), ([], []), ([4, 5], [4, 5]), ([6], [6]), ([3, 7], [3, 7]), ([8], [8])])
def laws_eqArgS.B6 : List Nat := [0, 0, 3, 7, 0, 0, 48, 112, 255, 511]
theorem laws_eqArgS.tab6 : rtab .any (opsOf Try.f26 6) = laws_eqArgS.T6 := by kernel_rfl
theorem laws_eqArgS.bits6 : waitsOk laws_eqArgS.T6.2 laws_eqArgS.B6 = true := by kernel_rfl
set_option maxHeartbeats 8000000 in
set_option maxRecDepth 100000 in
theorem laws_eqArgS.calls (k : Nat) (A0 : Option Addr) (c0 : Nat) (l0 : List (S78)) (A1 : Option Addr) (c1 : Nat) (l1 : List (S78)) (r : Bool) (w : World) (hr0 : Kd.C k78 w A0 l0.length l0) (hc0 : l0.length ≤ c0) (hr1 : Kd.C k78 w A1 l1.length l1) (hc1 : l1.length ≤ c1) (h : laws_eqArgS.f k l0 l1 = some r) :
  Calls Try.prog 26 #[.slice A0 l0.length c0, .slice A1 l1.length c1] w fun e w' => e = .returned (.bool r) ∧ Below w.heap.size w w' := by
 have hu78 := Try.underlying78; have HR0 := Aside0.mk hr0; have HC0 := Aside0.mk hc0; clear hr0 hc0; have HR1 := Aside0.mk hr1; have HC1 := Aside0.mk hc1; clear hr1 hc1; have HB := Aside0.mk (Below.refl w.heap.size w); have H : (if (l0.length : Int) = (l1.length : Int) then (laws_eqArgS.l0 k l0 l1 0) else (some false)) = some r := h; clear h
 by_cases c3 : (l0.length : Int) = (l1.length : Int)
 ·rw [if_pos c3] at H; have c3b0 := beq_iff_eq.mpr c3; have c3b1 := bne_eq_false_iff_eq.mpr c3
  have c3b2 : (l0.length == l1.length) = true := by first | simpa using c3 | (simp at c3 ⊢; omega)
  clear c3
  have H' := Aside0.mk H
  clear H
  go_enter Try.func26, Try.ntmps26
  go_wp2
  go_loopg [5] k (fun kq v5 w' => ∃ (x5_1 : Int), v5 = .int .i64 x5_1 ∧ Aside0 (laws_eqArgS.l0 kq l0 l1 x5_1 = some r) ∧ Aside0 (kq ≤ k) ∧ Aside0 (Below w.heap.size w w'))
  case atStart => exact ⟨(0), enA, H', ⟨Nat.le_refl _⟩, ⟨belB HB⟩⟩
  case round =>
   clear H'
   try clear c1
   try clear c2
   try clear p2
   try clear c3
   try clear c3b0
   try clear c3b1
   try clear c3b2
   obtain ⟨x5_1, rfl, HA, HK1, HB⟩ := hrel
   cases gk with
   | zero => exact absurd HA.out (by simp [laws_eqArgS.l0])
   | succ k1 =>
    have H := HA.out; clear HA
    simp only [laws_eqArgS.l0] at H
    by_cases c4 : x5_1 < (l0.length : Int)
    ·rw [if_pos c4] at H; have c4b0 := decide_eq_true c4; clear c4
     by_cases c5 : 0 ≤ x5_1
     ·rw [if_pos c5] at H; have c5b0 := decide_eq_true c5; clear c5
      by_cases c6 : x5_1 < (l1.length : Int)
      ·rw [if_pos c6] at H; have c6b0 := decide_eq_true c6; clear c6; replace H := Option.bind_eq_some_iff.mp H; obtain ⟨t232, A70, H⟩ := H; replace H : (if t232 = true then (laws_eqArgS.l0 k1 l0 l1 (wrap64 (x5_1 + 1))) else (some false)) = some r := H; have A7 := Aside0.mk A70; clear A70
       by_cases c8 : t232 = true
       ·subst c8
        have H1 : (laws_eqArgS.l0 k1 l0 l1 (wrap64 (x5_1 + 1))) = some r := by rw [if_pos rfl] at H; exact H
        clear H; have H := H1; clear H1
        have H' := Aside0.mk H
        clear H
        try go_wp2
        replace HB := Aside0.mk (below_drew1 HB.out); have p230 : 0 ≤ (x5_1 : Int) := odA; have q230 : x5_1 < (l0.length : Int) := odA; obtain ⟨ad230, A230_3, c230_3, A230_4, c230_4, e230, hx230_0, hx230_1, hx230_2, hx230_3, hx230_4, hl230_3, hi230_3, hl230_4, hi230_4⟩ := at_T78 HR0.out x5_1 p230 q230; have hw230_4 := hx230_4; have hw230_3 := hx230_3; have hw230_2 := hx230_2; have hw230_1 := hx230_1; have hw230_0 := hx230_0
        cases e230
        (try replace hx230_0 := celB HB hx230_0)
        (try replace hx230_1 := celB HB hx230_1)
        (try replace hx230_2 := celB HB hx230_2)
        (try replace hx230_3 := celB HB hx230_3)
        (try replace hx230_4 := celB HB hx230_4)
        have HR230_3 := Aside0.mk hi230_3; have HC230_3 := Aside0.mk hl230_3; clear hi230_3 hl230_3; have HR230_4 := Aside0.mk hi230_4; have HC230_4 := Aside0.mk hl230_4; clear hi230_4 hl230_4; replace p230 := eq_true p230; replace q230 := eq_true q230; have p231 : 0 ≤ (x5_1 : Int) := odA; have q231 : x5_1 < (l1.length : Int) := odA; obtain ⟨ad231, A231_3, c231_3, A231_4, c231_4, e231, hx231_0, hx231_1, hx231_2, hx231_3, hx231_4, hl231_3, hi231_3, hl231_4, hi231_4⟩ := at_T78 HR1.out x5_1 p231 q231; have hw231_4 := hx231_4; have hw231_3 := hx231_3; have hw231_2 := hx231_2; have hw231_1 := hx231_1; have hw231_0 := hx231_0
        cases e231
        (try replace hx231_0 := celB HB hx231_0)
        (try replace hx231_1 := celB HB hx231_1)
        (try replace hx231_2 := celB HB hx231_2)
        (try replace hx231_3 := celB HB hx231_3)
        (try replace hx231_4 := celB HB hx231_4)
        have HR231_3 := Aside0.mk hi231_3; have HC231_3 := Aside0.mk hl231_3; clear hi231_3 hl231_3; have HR231_4 := Aside0.mk hi231_4; have HC231_4 := Aside0.mk hl231_4; clear hi231_4 hl231_4; replace p231 := eq_true p231; replace q231 := eq_true q231
        refine start_ (n := 10) (S := fun w' => w'.cell? (ad230.add ((x5_1).toNat * 5)) = some (.string ((rd_T78 l0 x5_1).f0)) ∧ w'.cell? ⟨(ad230.add ((x5_1).toNat * 5)).block, (ad230.add ((x5_1).toNat * 5)).off + 1, none⟩ = some (.int .i64 ((rd_T78 l0 x5_1).f1.f0)) ∧ w'.cell? ⟨(ad230.add ((x5_1).toNat * 5)).block, (ad230.add ((x5_1).toNat * 5)).off + 2, none⟩ = some (.string ((rd_T78 l0 x5_1).f1.f1)) ∧ w'.cell? ⟨(ad230.add ((x5_1).toNat * 5)).block, (ad230.add ((x5_1).toNat * 5)).off + 3, none⟩ = some (.slice A230_3 ((rd_T78 l0 x5_1).f1.f2).length c230_3) ∧ w'.cell? ⟨(ad230.add ((x5_1).toNat * 5)).block, (ad230.add ((x5_1).toNat * 5)).off + 4, none⟩ = some (.slice A230_4 ((rd_T78 l0 x5_1).f1.f3).length c230_4) ∧ w'.cell? (ad231.add ((x5_1).toNat * 5)) = some (.string ((rd_T78 l1 x5_1).f0)) ∧ w'.cell? ⟨(ad231.add ((x5_1).toNat * 5)).block, (ad231.add ((x5_1).toNat * 5)).off + 1, none⟩ = some (.int .i64 ((rd_T78 l1 x5_1).f1.f0)) ∧ w'.cell? ⟨(ad231.add ((x5_1).toNat * 5)).block, (ad231.add ((x5_1).toNat * 5)).off + 2, none⟩ = some (.string ((rd_T78 l1 x5_1).f1.f1)) ∧ w'.cell? ⟨(ad231.add ((x5_1).toNat * 5)).block, (ad231.add ((x5_1).toNat * 5)).off + 3, none⟩ = some (.slice A231_3 ((rd_T78 l1 x5_1).f1.f2).length c231_3) ∧ w'.cell? ⟨(ad231.add ((x5_1).toNat * 5)).block, (ad231.add ((x5_1).toNat * 5)).off + 4, none⟩ = some (.slice A231_4 ((rd_T78 l1 x5_1).f1.f3).length c231_4)) (ds := []) #[false, false, false, false, false, false, false, false, false, false] (by kernel_rfl) rfl rfl ⟨((HB.out.cell (World.block_lt_of_cell? w _ hw230_0)).trans hw230_0), ((HB.out.cell (World.block_lt_of_cell? w _ hw230_1)).trans hw230_1), ((HB.out.cell (World.block_lt_of_cell? w _ hw230_2)).trans hw230_2), ((HB.out.cell (World.block_lt_of_cell? w _ hw230_3)).trans hw230_3), ((HB.out.cell (World.block_lt_of_cell? w _ hw230_4)).trans hw230_4), ((HB.out.cell (World.block_lt_of_cell? w _ hw231_0)).trans hw231_0), ((HB.out.cell (World.block_lt_of_cell? w _ hw231_1)).trans hw231_1), ((HB.out.cell (World.block_lt_of_cell? w _ hw231_2)).trans hw231_2), ((HB.out.cell (World.block_lt_of_cell? w _ hw231_3)).trans hw231_3), ((HB.out.cell (World.block_lt_of_cell? w _ hw231_4)).trans hw231_4)⟩ (fun hHeld => ?_); refine with_tabW laws_eqArgS.tab6 laws_eqArgS.bits6 (fun HT_ HW_ => ?_)
        generalize wr.drew = w9 at HB HR230_3 HR230_4 HR231_3 HR231_4 hx230_0 hx230_1 hx230_2 hx230_3 hx230_4 hx231_0 hx231_1 hx231_2 hx231_3 hx231_4 hHeld ⊢
        refine pure_ (i := 0) (N := some 17) (v := ?_) (a' := ?_) #[true, false, false, false, false, false, false, false, false, false] rfl rfl (any_of HT_.out (by kernel_rfl)) (fun _ _ _ h => h) (Or.inl ⟨by rfl, ?_⟩) ?_ ?_
        rotate_left
        ·intro w'; go_simp
         with_reducible rfl
        rotate_left
        ·exact putA
        refine pure_ (i := 1) (N := some 18) (v := ?_) (a' := ?_) #[true, true, false, false, false, false, false, false, false, false] rfl rfl (any_of HT_.out (by kernel_rfl)) (fun _ _ _ h => h) (Or.inl ⟨by rfl, ?_⟩) ?_ ?_
        rotate_left
        ·intro w'; go_simp
         with_reducible rfl
        rotate_left
        ·exact putA
        refine pure_ (i := 2) (N := some 19) (v := ?_) (a' := ?_) #[true, true, true, false, false, false, false, false, false, false] rfl rfl (any_of HT_.out (by kernel_rfl)) (fun _ _ _ h => h) (Or.inl ⟨by rfl, ?_⟩) ?_ ?_
        rotate_left
        ·intro w'; go_simp
         with_reducible rfl
        rotate_left
        ·exact putA
        refine pure_ (i := 4) (N := some 21) (v := ?_) (a' := ?_) #[true, true, true, false, true, false, false, false, false, false] rfl rfl (any_of HT_.out (by kernel_rfl)) (fun _ _ _ h => h) (Or.inl ⟨by rfl, ?_⟩) ?_ ?_
        rotate_left
        ·intro w'; go_simp
         with_reducible rfl
        rotate_left
        ·exact putA
        refine pure_ (i := 5) (N := some 22) (v := ?_) (a' := ?_) #[true, true, true, false, true, true, false, false, false, false] rfl rfl (any_of HT_.out (by kernel_rfl)) (fun _ _ _ h => h) (Or.inl ⟨by rfl, ?_⟩) ?_ ?_
        rotate_left
        ·intro w'; go_simp
         with_reducible rfl
        rotate_left
        ·exact putA
        refine pure_ (i := 6) (N := some 23) (v := ?_) (a' := ?_) #[true, true, true, false, true, true, true, false, false, false] rfl rfl (any_of HT_.out (by kernel_rfl)) (fun _ _ _ h => h) (Or.inl ⟨by rfl, ?_⟩) ?_ ?_
        rotate_left
        ·intro w'; go_simp
         with_reducible rfl
        rotate_left
        ·exact putA
        refine take_ (i := 3) (N := some 20) (v := ?_) (a' := ?_) #[true, true, true, true, true, true, true, false, false, false] rfl rfl (take_ofW HT_.out HW_.out (by kernel_rfl)) (fun _ _ _ h => h) (Or.inl ⟨by rfl, ?_⟩) hHeld ?_ ?_
        rotate_left
        ·rintro w' ⟨s0, s1, s2, s3, s4, s5, s6, s7, s8, s9⟩
         go_simp
         with_reducible rfl
        rotate_left
        ·exact putA
        refine take_ (i := 7) (N := some 24) (v := ?_) (a' := ?_) #[true, true, true, true, true, true, true, true, false, false] rfl rfl (take_ofW HT_.out HW_.out (by kernel_rfl)) (fun _ _ _ h => h) (Or.inl ⟨by rfl, ?_⟩) hHeld ?_ ?_
        rotate_left
        ·rintro w' ⟨s0, s1, s2, s3, s4, s5, s6, s7, s8, s9⟩
         go_simp
         with_reducible rfl
        rotate_left
        ·exact putA
        refine one_ (i := 8) (N := some 25) #[true, true, true, true, true, true, true, true, true, false] rfl rfl (one_of HT_.out (by kernel_rfl)) (by decide) (fun K hK => ?_)
        refine goes_ Try.func57 (by kernel_rfl) rfl #[.agg #[.string ((rd_T78 l0 x5_1).f0), .int .i64 ((rd_T78 l0 x5_1).f1.f0), .string ((rd_T78 l0 x5_1).f1.f1), .slice A230_3 ((rd_T78 l0 x5_1).f1.f2).length c230_3, .slice A230_4 ((rd_T78 l0 x5_1).f1.f3).length c230_4], .agg #[.string ((rd_T78 l1 x5_1).f0), .int .i64 ((rd_T78 l1 x5_1).f1.f0), .string ((rd_T78 l1 x5_1).f1.f1), .slice A231_3 ((rd_T78 l1 x5_1).f1.f2).length c231_3, .slice A231_4 ((rd_T78 l1 x5_1).f1.f3).length c231_4]] (by rfl) rfl rfl mapA ?_
        with_reducible refine (laws_eqArg.calls k1 ((rd_T78 l0 x5_1).f0) ((rd_T78 l0 x5_1).f1.f0) ((rd_T78 l0 x5_1).f1.f1) _ _ ((rd_T78 l0 x5_1).f1.f2) _ _ ((rd_T78 l0 x5_1).f1.f3) ((rd_T78 l1 x5_1).f0) ((rd_T78 l1 x5_1).f1.f0) ((rd_T78 l1 x5_1).f1.f1) _ _ ((rd_T78 l1 x5_1).f1.f2) _ _ ((rd_T78 l1 x5_1).f1.f3) true _ ?side1 ?side2 ?side3 ?side4 ?side5 ?side6 ?side7 ?side8 A7.out).mono ?_
        (case side1 => exact cbA HR230_3 HB)
        (case side2 => exact HC230_3.out)
        (case side3 => exact cbA HR230_4 HB)
        (case side4 => exact HC230_4.out)
        (case side5 => exact cbA HR231_3 HB)
        (case side6 => exact HC231_3.out)
        (case side7 => exact cbA HR231_4 HB)
        (case side8 => exact HC231_4.out)
        rintro e w10 ⟨rfl, hb⟩
        refine ⟨_, rfl, ?_⟩; replace HB := Aside0.mk (below_step (belB HB) hb)
        (try clear hb)
        (try clear hb2)
        (try clear hk)
        (try clear hi)
        refine hK.out _ _ ⟨((HB.out.cell (World.block_lt_of_cell? w _ hw230_0)).trans hw230_0), ((HB.out.cell (World.block_lt_of_cell? w _ hw230_1)).trans hw230_1), ((HB.out.cell (World.block_lt_of_cell? w _ hw230_2)).trans hw230_2), ((HB.out.cell (World.block_lt_of_cell? w _ hw230_3)).trans hw230_3), ((HB.out.cell (World.block_lt_of_cell? w _ hw230_4)).trans hw230_4), ((HB.out.cell (World.block_lt_of_cell? w _ hw231_0)).trans hw231_0), ((HB.out.cell (World.block_lt_of_cell? w _ hw231_1)).trans hw231_1), ((HB.out.cell (World.block_lt_of_cell? w _ hw231_2)).trans hw231_2), ((HB.out.cell (World.block_lt_of_cell? w _ hw231_3)).trans hw231_3), ((HB.out.cell (World.block_lt_of_cell? w _ hw231_4)).trans hw231_4)⟩ (fun hHeld => ?_); clear hK K; refine norm_ (a' := ?_) ?_ ?_; rotate_left
        ·show Act.put _ (some 25) _ = _
         simp only [Act.put, List.setIfInBounds_toArray, List.set_cons_zero, List.set_cons_succ, i64_w, i32_w]
         rfl
        refine pure_ (i := 9) (N := some 26) (v := ?_) (a' := ?_) #[true, true, true, true, true, true, true, true, true, true] rfl rfl (any_of HT_.out (by kernel_rfl)) (fun _ _ _ h => h) (Or.inl ⟨by rfl, ?_⟩) ?_ ?_
        rotate_left
        ·intro w'; go_simp
         with_reducible rfl
        rotate_left
        ·exact putA
        refine done_ (done_of HT_.out (by kernel_rfl)) ?_
        try go_wp2
        go_roundg k1
        case measure => have := HK1.out; omega
        case rel => exact ⟨(wrap64 (x5_1 + 1)), enA, H', ⟨by have := HK1.out; omega⟩, ⟨belB HB⟩⟩
       ·replace c8 := Bool.eq_false_iff.mpr c8; subst c8
        have H1 : (some false) = some r := by rw [if_neg (show ¬ (false = true) by decide)] at H; exact H
        clear H; have H := H1; clear H1; obtain rfl := Option.some.inj H
        try go_wp2
        replace HB := Aside0.mk (below_drew1 HB.out); have p230 : 0 ≤ (x5_1 : Int) := odA; have q230 : x5_1 < (l0.length : Int) := odA; obtain ⟨ad230, A230_3, c230_3, A230_4, c230_4, e230, hx230_0, hx230_1, hx230_2, hx230_3, hx230_4, hl230_3, hi230_3, hl230_4, hi230_4⟩ := at_T78 HR0.out x5_1 p230 q230; have hw230_4 := hx230_4; have hw230_3 := hx230_3; have hw230_2 := hx230_2; have hw230_1 := hx230_1; have hw230_0 := hx230_0
        cases e230
        (try replace hx230_0 := celB HB hx230_0)
        (try replace hx230_1 := celB HB hx230_1)
        (try replace hx230_2 := celB HB hx230_2)
        (try replace hx230_3 := celB HB hx230_3)
        (try replace hx230_4 := celB HB hx230_4)
        have HR230_3 := Aside0.mk hi230_3; have HC230_3 := Aside0.mk hl230_3; clear hi230_3 hl230_3; have HR230_4 := Aside0.mk hi230_4; have HC230_4 := Aside0.mk hl230_4; clear hi230_4 hl230_4; replace p230 := eq_true p230; replace q230 := eq_true q230; have p231 : 0 ≤ (x5_1 : Int) := odA; have q231 : x5_1 < (l1.length : Int) := odA; obtain ⟨ad231, A231_3, c231_3, A231_4, c231_4, e231, hx231_0, hx231_1, hx231_2, hx231_3, hx231_4, hl231_3, hi231_3, hl231_4, hi231_4⟩ := at_T78 HR1.out x5_1 p231 q231; have hw231_4 := hx231_4; have hw231_3 := hx231_3; have hw231_2 := hx231_2; have hw231_1 := hx231_1; have hw231_0 := hx231_0
        cases e231
        (try replace hx231_0 := celB HB hx231_0)
        (try replace hx231_1 := celB HB hx231_1)
        (try replace hx231_2 := celB HB hx231_2)
        (try replace hx231_3 := celB HB hx231_3)
        (try replace hx231_4 := celB HB hx231_4)
        have HR231_3 := Aside0.mk hi231_3; have HC231_3 := Aside0.mk hl231_3; clear hi231_3 hl231_3; have HR231_4 := Aside0.mk hi231_4; have HC231_4 := Aside0.mk hl231_4; clear hi231_4 hl231_4; replace p231 := eq_true p231; replace q231 := eq_true q231
        refine start_ (n := 10) (S := fun w' => w'.cell? (ad230.add ((x5_1).toNat * 5)) = some (.string ((rd_T78 l0 x5_1).f0)) ∧ w'.cell? ⟨(ad230.add ((x5_1).toNat * 5)).block, (ad230.add ((x5_1).toNat * 5)).off + 1, none⟩ = some (.int .i64 ((rd_T78 l0 x5_1).f1.f0)) ∧ w'.cell? ⟨(ad230.add ((x5_1).toNat * 5)).block, (ad230.add ((x5_1).toNat * 5)).off + 2, none⟩ = some (.string ((rd_T78 l0 x5_1).f1.f1)) ∧ w'.cell? ⟨(ad230.add ((x5_1).toNat * 5)).block, (ad230.add ((x5_1).toNat * 5)).off + 3, none⟩ = some (.slice A230_3 ((rd_T78 l0 x5_1).f1.f2).length c230_3) ∧ w'.cell? ⟨(ad230.add ((x5_1).toNat * 5)).block, (ad230.add ((x5_1).toNat * 5)).off + 4, none⟩ = some (.slice A230_4 ((rd_T78 l0 x5_1).f1.f3).length c230_4) ∧ w'.cell? (ad231.add ((x5_1).toNat * 5)) = some (.string ((rd_T78 l1 x5_1).f0)) ∧ w'.cell? ⟨(ad231.add ((x5_1).toNat * 5)).block, (ad231.add ((x5_1).toNat * 5)).off + 1, none⟩ = some (.int .i64 ((rd_T78 l1 x5_1).f1.f0)) ∧ w'.cell? ⟨(ad231.add ((x5_1).toNat * 5)).block, (ad231.add ((x5_1).toNat * 5)).off + 2, none⟩ = some (.string ((rd_T78 l1 x5_1).f1.f1)) ∧ w'.cell? ⟨(ad231.add ((x5_1).toNat * 5)).block, (ad231.add ((x5_1).toNat * 5)).off + 3, none⟩ = some (.slice A231_3 ((rd_T78 l1 x5_1).f1.f2).length c231_3) ∧ w'.cell? ⟨(ad231.add ((x5_1).toNat * 5)).block, (ad231.add ((x5_1).toNat * 5)).off + 4, none⟩ = some (.slice A231_4 ((rd_T78 l1 x5_1).f1.f3).length c231_4)) (ds := []) #[false, false, false, false, false, false, false, false, false, false] (by kernel_rfl) rfl rfl ⟨((HB.out.cell (World.block_lt_of_cell? w _ hw230_0)).trans hw230_0), ((HB.out.cell (World.block_lt_of_cell? w _ hw230_1)).trans hw230_1), ((HB.out.cell (World.block_lt_of_cell? w _ hw230_2)).trans hw230_2), ((HB.out.cell (World.block_lt_of_cell? w _ hw230_3)).trans hw230_3), ((HB.out.cell (World.block_lt_of_cell? w _ hw230_4)).trans hw230_4), ((HB.out.cell (World.block_lt_of_cell? w _ hw231_0)).trans hw231_0), ((HB.out.cell (World.block_lt_of_cell? w _ hw231_1)).trans hw231_1), ((HB.out.cell (World.block_lt_of_cell? w _ hw231_2)).trans hw231_2), ((HB.out.cell (World.block_lt_of_cell? w _ hw231_3)).trans hw231_3), ((HB.out.cell (World.block_lt_of_cell? w _ hw231_4)).trans hw231_4)⟩ (fun hHeld => ?_); refine with_tabW laws_eqArgS.tab6 laws_eqArgS.bits6 (fun HT_ HW_ => ?_)
        generalize wr.drew = w11 at HB HR230_3 HR230_4 HR231_3 HR231_4 hx230_0 hx230_1 hx230_2 hx230_3 hx230_4 hx231_0 hx231_1 hx231_2 hx231_3 hx231_4 hHeld ⊢
        refine pure_ (i := 0) (N := some 17) (v := ?_) (a' := ?_) #[true, false, false, false, false, false, false, false, false, false] rfl rfl (any_of HT_.out (by kernel_rfl)) (fun _ _ _ h => h) (Or.inl ⟨by rfl, ?_⟩) ?_ ?_
        rotate_left
        ·intro w'; go_simp
         with_reducible rfl
        rotate_left
        ·exact putA
        refine pure_ (i := 1) (N := some 18) (v := ?_) (a' := ?_) #[true, true, false, false, false, false, false, false, false, false] rfl rfl (any_of HT_.out (by kernel_rfl)) (fun _ _ _ h => h) (Or.inl ⟨by rfl, ?_⟩) ?_ ?_
        rotate_left
        ·intro w'; go_simp
         with_reducible rfl
        rotate_left
        ·exact putA
        refine pure_ (i := 2) (N := some 19) (v := ?_) (a' := ?_) #[true, true, true, false, false, false, false, false, false, false] rfl rfl (any_of HT_.out (by kernel_rfl)) (fun _ _ _ h => h) (Or.inl ⟨by rfl, ?_⟩) ?_ ?_
        rotate_left
        ·intro w'; go_simp
         with_reducible rfl
        rotate_left
        ·exact putA
        refine pure_ (i := 4) (N := some 21) (v := ?_) (a' := ?_) #[true, true, true, false, true, false, false, false, false, false] rfl rfl (any_of HT_.out (by kernel_rfl)) (fun _ _ _ h => h) (Or.inl ⟨by rfl, ?_⟩) ?_ ?_
        rotate_left
        ·intro w'; go_simp
         with_reducible rfl
        rotate_left
        ·exact putA
        refine pure_ (i := 5) (N := some 22) (v := ?_) (a' := ?_) #[true, true, true, false, true, true, false, false, false, false] rfl rfl (any_of HT_.out (by kernel_rfl)) (fun _ _ _ h => h) (Or.inl ⟨by rfl, ?_⟩) ?_ ?_
        rotate_left
        ·intro w'; go_simp
         with_reducible rfl
        rotate_left
        ·exact putA
        refine pure_ (i := 6) (N := some 23) (v := ?_) (a' := ?_) #[true, true, true, false, true, true, true, false, false, false] rfl rfl (any_of HT_.out (by kernel_rfl)) (fun _ _ _ h => h) (Or.inl ⟨by rfl, ?_⟩) ?_ ?_
        rotate_left
        ·intro w'; go_simp
         with_reducible rfl
        rotate_left
        ·exact putA
        refine take_ (i := 3) (N := some 20) (v := ?_) (a' := ?_) #[true, true, true, true, true, true, true, false, false, false] rfl rfl (take_ofW HT_.out HW_.out (by kernel_rfl)) (fun _ _ _ h => h) (Or.inl ⟨by rfl, ?_⟩) hHeld ?_ ?_
        rotate_left
        ·rintro w' ⟨s0, s1, s2, s3, s4, s5, s6, s7, s8, s9⟩
         go_simp
         with_reducible rfl
        rotate_left
        ·exact putA
        refine take_ (i := 7) (N := some 24) (v := ?_) (a' := ?_) #[true, true, true, true, true, true, true, true, false, false] rfl rfl (take_ofW HT_.out HW_.out (by kernel_rfl)) (fun _ _ _ h => h) (Or.inl ⟨by rfl, ?_⟩) hHeld ?_ ?_
        rotate_left
        ·rintro w' ⟨s0, s1, s2, s3, s4, s5, s6, s7, s8, s9⟩
         go_simp
         with_reducible rfl
        rotate_left
        ·exact putA
        refine one_ (i := 8) (N := some 25) #[true, true, true, true, true, true, true, true, true, false] rfl rfl (one_of HT_.out (by kernel_rfl)) (by decide) (fun K hK => ?_)
        refine goes_ Try.func57 (by kernel_rfl) rfl #[.agg #[.string ((rd_T78 l0 x5_1).f0), .int .i64 ((rd_T78 l0 x5_1).f1.f0), .string ((rd_T78 l0 x5_1).f1.f1), .slice A230_3 ((rd_T78 l0 x5_1).f1.f2).length c230_3, .slice A230_4 ((rd_T78 l0 x5_1).f1.f3).length c230_4], .agg #[.string ((rd_T78 l1 x5_1).f0), .int .i64 ((rd_T78 l1 x5_1).f1.f0), .string ((rd_T78 l1 x5_1).f1.f1), .slice A231_3 ((rd_T78 l1 x5_1).f1.f2).length c231_3, .slice A231_4 ((rd_T78 l1 x5_1).f1.f3).length c231_4]] (by rfl) rfl rfl mapA ?_
        with_reducible refine (laws_eqArg.calls k1 ((rd_T78 l0 x5_1).f0) ((rd_T78 l0 x5_1).f1.f0) ((rd_T78 l0 x5_1).f1.f1) _ _ ((rd_T78 l0 x5_1).f1.f2) _ _ ((rd_T78 l0 x5_1).f1.f3) ((rd_T78 l1 x5_1).f0) ((rd_T78 l1 x5_1).f1.f0) ((rd_T78 l1 x5_1).f1.f1) _ _ ((rd_T78 l1 x5_1).f1.f2) _ _ ((rd_T78 l1 x5_1).f1.f3) false _ ?side1 ?side2 ?side3 ?side4 ?side5 ?side6 ?side7 ?side8 A7.out).mono ?_
        (case side1 => exact cbA HR230_3 HB)
        (case side2 => exact HC230_3.out)
        (case side3 => exact cbA HR230_4 HB)
        (case side4 => exact HC230_4.out)
        (case side5 => exact cbA HR231_3 HB)
        (case side6 => exact HC231_3.out)
        (case side7 => exact cbA HR231_4 HB)
        (case side8 => exact HC231_4.out)
        rintro e w12 ⟨rfl, hb⟩
        refine ⟨_, rfl, ?_⟩; replace HB := Aside0.mk (below_step (belB HB) hb)
        (try clear hb)
        (try clear hb2)
        (try clear hk)
        (try clear hi)
        refine hK.out _ _ ⟨((HB.out.cell (World.block_lt_of_cell? w _ hw230_0)).trans hw230_0), ((HB.out.cell (World.block_lt_of_cell? w _ hw230_1)).trans hw230_1), ((HB.out.cell (World.block_lt_of_cell? w _ hw230_2)).trans hw230_2), ((HB.out.cell (World.block_lt_of_cell? w _ hw230_3)).trans hw230_3), ((HB.out.cell (World.block_lt_of_cell? w _ hw230_4)).trans hw230_4), ((HB.out.cell (World.block_lt_of_cell? w _ hw231_0)).trans hw231_0), ((HB.out.cell (World.block_lt_of_cell? w _ hw231_1)).trans hw231_1), ((HB.out.cell (World.block_lt_of_cell? w _ hw231_2)).trans hw231_2), ((HB.out.cell (World.block_lt_of_cell? w _ hw231_3)).trans hw231_3), ((HB.out.cell (World.block_lt_of_cell? w _ hw231_4)).trans hw231_4)⟩ (fun hHeld => ?_); clear hK K; refine norm_ (a' := ?_) ?_ ?_; rotate_left
        ·show Act.put _ (some 25) _ = _
         simp only [Act.put, List.setIfInBounds_toArray, List.set_cons_zero, List.set_cons_succ, i64_w, i32_w]
         rfl
        refine pure_ (i := 9) (N := some 26) (v := ?_) (a' := ?_) #[true, true, true, true, true, true, true, true, true, true] rfl rfl (any_of HT_.out (by kernel_rfl)) (fun _ _ _ h => h) (Or.inl ⟨by rfl, ?_⟩) ?_ ?_
        rotate_left
        ·intro w'; go_simp
         with_reducible rfl
        rotate_left
        ·exact putA
        refine done_ (done_of HT_.out (by kernel_rfl)) ?_
        try go_wp2
        go_ret
        exact ⟨erA, belB HB⟩
      ·rw [if_neg c6] at H
       exact absurd H (by simp)
     ·rw [if_neg c5] at H
      exact absurd H (by simp)
    ·rw [if_neg c4] at H; have c4b0 := decide_eq_false c4; clear c4; obtain rfl := Option.some.inj H
     go_wp2
     go_ret
     exact ⟨erA, belB HB⟩
 ·rw [if_neg c3] at H; have c3b0 := beq_eq_false_iff_ne.mpr c3; have c3b1 := bne_iff_ne.mpr c3
  have c3b2 : (l0.length == l1.length) = false := by first | simpa using c3 | (simp at c3 ⊢; omega)
  obtain rfl := Option.some.inj H
  go_enter Try.func26, Try.ntmps26
  go_wp2
  go_ret
  exact ⟨erA, belB HB⟩

def laws_eqDir.f (k : Nat) (a0_0 : ByteArray) (l0_1 : List (S78)) (a1_0 : ByteArray) (l1_1 : List (S78)) : Option (Bool) := if a0_0.toList = a1_0.toList then ((laws_eqArgS.f k l0_1 l1_1).bind fun t235 => (if t235 = true then (some true) else (some false))) else (some false)
theorem laws_eqDir.mono : ∀ a0 a1 a2 a3 k, LeO (laws_eqDir.f k a0 a1 a2 a3) (laws_eqDir.f (k + 1) a0 a1 a2 a3) := by
 intro a0 a1 a2 a3 k; unfold laws_eqDir.f
 repeat' first
   | (with_reducible first | exact laws_eqArgS.mono _ _ _ | exact LeO.refl _ | exact LeO.none _ | refine LeO.ite ?_ ?_ | refine LeO.bind ?_ (fun _ => ?_))
   | exact laws_eqArgS.mono _ _ _ | exact LeO.none _ | refine LeO.ite ?_ ?_ | refine LeO.bind ?_ (fun _ => ?_)
set_option maxHeartbeats 8000000 in
set_option maxRecDepth 100000 in
theorem laws_eqDir.calls (k : Nat) (a0_0 : ByteArray) (A0_1 : Option Addr) (c0_1 : Nat) (l0_1 : List (S78)) (a1_0 : ByteArray) (A1_1 : Option Addr) (c1_1 : Nat) (l1_1 : List (S78)) (r : Bool) (w : World) (hr0_1 : Kd.C k78 w A0_1 l0_1.length l0_1) (hc0_1 : l0_1.length ≤ c0_1) (hr1_1 : Kd.C k78 w A1_1 l1_1.length l1_1) (hc1_1 : l1_1.length ≤ c1_1) (h : laws_eqDir.f k a0_0 l0_1 a1_0 l1_1 = some r) :
  Calls Try.prog 72 #[.agg #[.string a0_0, .slice A0_1 l0_1.length c0_1], .agg #[.string a1_0, .slice A1_1 l1_1.length c1_1]] w fun e w' => e = .returned (.bool r) ∧ Below w.heap.size w w' := by
 have hu95 := Try.underlying95; have HR0_1 := Aside0.mk hr0_1; have HC0_1 := Aside0.mk hc0_1; clear hr0_1 hc0_1; have HR1_1 := Aside0.mk hr1_1; have HC1_1 := Aside0.mk hc1_1; clear hr1_1 hc1_1; have HB := Aside0.mk (Below.refl w.heap.size w); have H : (if a0_0.toList = a1_0.toList then ((laws_eqArgS.f k l0_1 l1_1).bind fun t235 => (if t235 = true then (some true) else (some false))) else (some false)) = some r := h; clear h
 by_cases c3 : a0_0.toList = a1_0.toList
 ·rw [if_pos c3] at H; have c3b0 := beq_iff_eq.mpr c3; have c3b1 := bne_eq_false_iff_eq.mpr c3; clear c3; replace H := Option.bind_eq_some_iff.mp H; obtain ⟨t235, A40, H⟩ := H; replace H : (if t235 = true then (some true) else (some false)) = some r := H; have A4 := Aside0.mk A40; clear A40
  by_cases c5 : t235 = true
  ·subst c5
   have H1 : (some true) = some r := by rw [if_pos rfl] at H; exact H
   clear H; have H := H1; clear H1; obtain rfl := Option.some.inj H
   go_enter Try.func72, Try.ntmps72
   go_wp2_with (first | ((with_reducible refine gate_dst (N := 2) rfl ?_); refine boxE (N := 2) (cs := #[.string a0_0, .slice A0_1 l0_1.length c0_1]) (t := 95) ?_; intro gb233 hg w6 hbox hb; have BK233 := Aside0.mk (hbox); have GW233 := Aside0.mk ((gbA (w := w) HB hg)); have GE233 := Aside0.mk ((gbA (w := w) HB hg)); replace HB := Aside0.mk (below_step (belB HB) hb); clear hb hbox hg) | ((with_reducible refine gate_dst (N := 3) rfl ?_); refine boxE (N := 3) (cs := #[.string a1_0, .slice A1_1 l1_1.length c1_1]) (t := 95) ?_; intro gb234 hg w7 hbox hb; have BK234 := Aside0.mk (hbox); have GW234 := Aside0.mk ((by rw [hg]; exact (below_size (belS HB GE233)) : w.heap.size ≤ gb234)); have GE234 := Aside0.mk ((by rw [hg]; exact (below_size (belS HB GE233)) : w.heap.size ≤ gb234)); have NB233_234 := Aside0.mk ((by rw [hg]; exact Nat.ne_of_lt (blk_lt (g := gb233) (o := .cells #[.string a0_0, .slice A0_1 l0_1.length c0_1] 95 (0, 0)) (blkA BK233)) : gb233 ≠ gb234)); have NB234_233 := Aside0.mk ((by rw [hg]; exact Nat.ne_of_gt (blk_lt (g := gb233) (o := .cells #[.string a0_0, .slice A0_1 l0_1.length c0_1] 95 (0, 0)) (blkA BK233)) : gb234 ≠ gb233)); replace BK233 := Aside0.mk (bBA BK233 hb); replace HB := Aside0.mk (below_step (belS HB GE233) hb); clear hb hbox hg; have hnb8 := NB233_234.out; have hnc8 := NB234_233.out; obtain ⟨hcz9_0, hcz9_1, hfz9_0, hfz9_1⟩ := cef2 BK233.out; obtain ⟨hcz10_0, hcz10_1, hfz10_0, hfz10_1⟩ := cef2 BK234.out) | ((with_reducible refine gate_callee (f := 26) rfl ?_); refine goesL_ (some 14) rfl rfl Try.func26 (by kernel_rfl) rfl #[.slice A0_1 l0_1.length c0_1, .slice A1_1 l1_1.length c1_1] rfl mapA ?_; (with_reducible refine (laws_eqArgS.calls k _ _ l0_1 _ _ l1_1 true _ ?side1 ?side2 ?side3 ?side4 A4.out).mono ?_); (case side1 => exact cbA HR0_1 HB); (case side2 => exact HC0_1.out); (case side3 => exact cbA HR1_1 HB); (case side4 => exact HC1_1.out); rintro e w11 ⟨rfl, hb⟩; refine ⟨_, rfl, ?_⟩; replace BK233 := Aside0.mk (bBA BK233 hb); replace BK234 := Aside0.mk (bBA BK234 hb); replace HB := Aside0.mk (below_step (belT HB GE233 GE234) hb); (try clear hb)))
   go_ret
   exact ⟨erA, belT HB GE233 GE234⟩
  ·replace c5 := Bool.eq_false_iff.mpr c5; subst c5
   have H1 : (some false) = some r := by rw [if_neg (show ¬ (false = true) by decide)] at H; exact H
   clear H; have H := H1; clear H1; obtain rfl := Option.some.inj H
   go_enter Try.func72, Try.ntmps72
   go_wp2_with (first | ((with_reducible refine gate_dst (N := 2) rfl ?_); refine boxE (N := 2) (cs := #[.string a0_0, .slice A0_1 l0_1.length c0_1]) (t := 95) ?_; intro gb233 hg w12 hbox hb; have BK233 := Aside0.mk (hbox); have GW233 := Aside0.mk ((gbA (w := w) HB hg)); have GE233 := Aside0.mk ((gbA (w := w) HB hg)); replace HB := Aside0.mk (below_step (belB HB) hb); clear hb hbox hg) | ((with_reducible refine gate_dst (N := 3) rfl ?_); refine boxE (N := 3) (cs := #[.string a1_0, .slice A1_1 l1_1.length c1_1]) (t := 95) ?_; intro gb234 hg w13 hbox hb; have BK234 := Aside0.mk (hbox); have GW234 := Aside0.mk ((by rw [hg]; exact (below_size (belS HB GE233)) : w.heap.size ≤ gb234)); have GE234 := Aside0.mk ((by rw [hg]; exact (below_size (belS HB GE233)) : w.heap.size ≤ gb234)); have NB233_234 := Aside0.mk ((by rw [hg]; exact Nat.ne_of_lt (blk_lt (g := gb233) (o := .cells #[.string a0_0, .slice A0_1 l0_1.length c0_1] 95 (0, 0)) (blkA BK233)) : gb233 ≠ gb234)); have NB234_233 := Aside0.mk ((by rw [hg]; exact Nat.ne_of_gt (blk_lt (g := gb233) (o := .cells #[.string a0_0, .slice A0_1 l0_1.length c0_1] 95 (0, 0)) (blkA BK233)) : gb234 ≠ gb233)); replace BK233 := Aside0.mk (bBA BK233 hb); replace HB := Aside0.mk (below_step (belS HB GE233) hb); clear hb hbox hg; have hnb14 := NB233_234.out; have hnc14 := NB234_233.out; obtain ⟨hcz15_0, hcz15_1, hfz15_0, hfz15_1⟩ := cef2 BK233.out; obtain ⟨hcz16_0, hcz16_1, hfz16_0, hfz16_1⟩ := cef2 BK234.out) | ((with_reducible refine gate_callee (f := 26) rfl ?_); refine goesL_ (some 14) rfl rfl Try.func26 (by kernel_rfl) rfl #[.slice A0_1 l0_1.length c0_1, .slice A1_1 l1_1.length c1_1] rfl mapA ?_; (with_reducible refine (laws_eqArgS.calls k _ _ l0_1 _ _ l1_1 false _ ?side1 ?side2 ?side3 ?side4 A4.out).mono ?_); (case side1 => exact cbA HR0_1 HB); (case side2 => exact HC0_1.out); (case side3 => exact cbA HR1_1 HB); (case side4 => exact HC1_1.out); rintro e w17 ⟨rfl, hb⟩; refine ⟨_, rfl, ?_⟩; replace BK233 := Aside0.mk (bBA BK233 hb); replace BK234 := Aside0.mk (bBA BK234 hb); replace HB := Aside0.mk (below_step (belT HB GE233 GE234) hb); (try clear hb)))
   go_ret
   exact ⟨erA, belT HB GE233 GE234⟩
 ·rw [if_neg c3] at H; have c3b0 := beq_eq_false_iff_ne.mpr c3; have c3b1 := bne_iff_ne.mpr c3; obtain rfl := Option.some.inj H
  go_enter Try.func72, Try.ntmps72
  go_wp2_with (first | ((with_reducible refine gate_dst (N := 2) rfl ?_); refine boxE (N := 2) (cs := #[.string a0_0, .slice A0_1 l0_1.length c0_1]) (t := 95) ?_; intro gb233 hg w18 hbox hb; have BK233 := Aside0.mk (hbox); have GW233 := Aside0.mk ((gbA (w := w) HB hg)); have GE233 := Aside0.mk ((gbA (w := w) HB hg)); replace HB := Aside0.mk (below_step (belB HB) hb); clear hb hbox hg) | ((with_reducible refine gate_dst (N := 3) rfl ?_); refine boxE (N := 3) (cs := #[.string a1_0, .slice A1_1 l1_1.length c1_1]) (t := 95) ?_; intro gb234 hg w19 hbox hb; have BK234 := Aside0.mk (hbox); have GW234 := Aside0.mk ((by rw [hg]; exact (below_size (belS HB GE233)) : w.heap.size ≤ gb234)); have GE234 := Aside0.mk ((by rw [hg]; exact (below_size (belS HB GE233)) : w.heap.size ≤ gb234)); have NB233_234 := Aside0.mk ((by rw [hg]; exact Nat.ne_of_lt (blk_lt (g := gb233) (o := .cells #[.string a0_0, .slice A0_1 l0_1.length c0_1] 95 (0, 0)) (blkA BK233)) : gb233 ≠ gb234)); have NB234_233 := Aside0.mk ((by rw [hg]; exact Nat.ne_of_gt (blk_lt (g := gb233) (o := .cells #[.string a0_0, .slice A0_1 l0_1.length c0_1] 95 (0, 0)) (blkA BK233)) : gb234 ≠ gb233)); replace BK233 := Aside0.mk (bBA BK233 hb); replace HB := Aside0.mk (below_step (belS HB GE233) hb); clear hb hbox hg; have hnb20 := NB233_234.out; have hnc20 := NB234_233.out; obtain ⟨hcz21_0, hcz21_1, hfz21_0, hfz21_1⟩ := cef2 BK233.out; obtain ⟨hcz22_0, hcz22_1, hfz22_0, hfz22_1⟩ := cef2 BK234.out))
  go_ret
  exact ⟨erA, belT HB GE233 GE234⟩

end Go.Proofs.Ytkcomfmdcmjagaa.OFnExactAllSels
-- narrow
