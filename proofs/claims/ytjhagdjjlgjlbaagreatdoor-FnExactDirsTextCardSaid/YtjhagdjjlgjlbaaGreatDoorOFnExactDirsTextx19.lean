/- The machine side of one law, written by a program. -/
import Derived.Test.YtjhagdjjlgjlbaaGreatDoorOFnExactDirsTextx0
import Derived.Test.YtjhagdjjlgjlbaaGreatDoorOFnExactDirsTextx18
namespace Go.Proofs.YtjhagdjjlgjlbaaGreatDoor.OFnExactDirsText
open Go.Proofs.YtjhagdjjlgjlbaaGreatDoor.GlU Go.Proofs.YtjhagdjjlgjlbaaGreatDoor.Ix
open Go.RowKit Go.Proofs.YtjhagdjjlgjlbaaGreatDoorW.PrintWords Go.Proofs.YtjhagdjjlgjlbaaGreatDoorW.PrintLast Go.Proofs.YtjhagdjjlgjlbaaGreatDoorW.PrintMore
attribute [local go_sem] max2_int min2_int max_two min_two max_three min_three max_four min_four
set_option linter.unusedVariables false
set_option linter.unusedSimpArgs false

def laws_eqArgS.l0 : Nat → List (S54) → List (S54) → Int → Option (Bool)
 | 0, _, _, _ => none
 | k + 1, x0, x1, x5 => if x5 < (x0.length : Int) then (if 0 ≤ x5 then (if x5 < (x1.length : Int) then ((laws_eqArg.f k ((rd_T54 x0 x5).f0) ((rd_T54 x0 x5).f1.f0) ((rd_T54 x0 x5).f1.f1) ((rd_T54 x0 x5).f1.f2) ((rd_T54 x0 x5).f1.f3) ((rd_T54 x1 x5).f0) ((rd_T54 x1 x5).f1.f0) ((rd_T54 x1 x5).f1.f1) ((rd_T54 x1 x5).f1.f2) ((rd_T54 x1 x5).f1.f3)).bind fun t470 => (if t470 = true then (laws_eqArgS.l0 k x0 x1 (wrap64 (x5 + 1))) else (some false))) else (none)) else (none)) else (some true)
def laws_eqArgS.f (k : Nat) (l0 : List (S54)) (l1 : List (S54)) : Option (Bool) := if (l0.length : Int) = (l1.length : Int) then (laws_eqArgS.l0 k l0 l1 0) else (some false)
theorem laws_eqArgS.mono_l : ∀ k, (∀ y0 y1 y2, LeO (laws_eqArgS.l0 k y0 y1 y2) (laws_eqArgS.l0 (k + 1) y0 y1 y2))
 | 0 => fun _ _ _ r h => by simp [laws_eqArgS.l0] at h
 | k + 1 => by
  have ih0 := laws_eqArgS.mono_l k
  ·intro y0 y1 y2; unfold laws_eqArgS.l0
   repeat' first
   | (with_reducible first | exact ih0 _ _ _ | exact laws_eqArg.mono _ _ _ _ _ _ _ _ _ _ _ | exact LeO.refl _ | exact LeO.none _ | refine LeO.ite ?_ ?_ | refine LeO.bind ?_ (fun _ => ?_))
   | exact ih0 _ _ _ | exact laws_eqArg.mono _ _ _ _ _ _ _ _ _ _ _ | exact LeO.none _ | refine LeO.ite ?_ ?_ | refine LeO.bind ?_ (fun _ => ?_)
theorem laws_eqArgS.mono : ∀ a0 a1 k, LeO (laws_eqArgS.f k a0 a1) (laws_eqArgS.f (k + 1) a0 a1) := by
 intro a0 a1 k; have ih0 := laws_eqArgS.mono_l k; unfold laws_eqArgS.f
 repeat' first
   | (with_reducible first | exact ih0 _ _ _ | exact laws_eqArg.mono _ _ _ _ _ _ _ _ _ _ _ | exact LeO.refl _ | exact LeO.none _ | refine LeO.ite ?_ ?_ | refine LeO.bind ?_ (fun _ => ?_))
   | exact ih0 _ _ _ | exact laws_eqArg.mono _ _ _ _ _ _ _ _ _ _ _ | exact LeO.none _ | refine LeO.ite ?_ ?_ | refine LeO.bind ?_ (fun _ => ?_)
def laws_eqArgS.T6 : Bool × List (List Nat × List Nat) := (true, [([], []), ([], []), ([0, 1], [0, 1]), ([2], [2]), ([], []), ([], []), ([4, 5], [4, 5]), ([6], [6]), ([3, 7], [3, 7]), ([8], [8])])
def laws_eqArgS.B6 : List Nat := [0, 0, 3, 7, 0, 0, 48, 112, 255, 511]
theorem laws_eqArgS.tab6 : rtab .any (opsOf Tryz.f27 6) = laws_eqArgS.T6 := by kernel_rfl
theorem laws_eqArgS.bits6 : waitsOk laws_eqArgS.T6.2 laws_eqArgS.B6 = true := by kernel_rfl
set_option maxHeartbeats 8000000 in
set_option maxRecDepth 100000 in
theorem laws_eqArgS.calls (k : Nat) (A0 : Option Addr) (c0 : Nat) (l0 : List (S54)) (A1 : Option Addr) (c1 : Nat) (l1 : List (S54)) (r : Bool) (w : World) (hr0 : Kd.C k54 w A0 l0.length l0) (hc0 : l0.length ≤ c0) (hr1 : Kd.C k54 w A1 l1.length l1) (hc1 : l1.length ≤ c1) (h : laws_eqArgS.f k l0 l1 = some r) :
  Calls Tryz.prog 27 #[.slice A0 l0.length c0, .slice A1 l1.length c1] w fun e w' => e = .returned (.bool r) ∧ Below w.heap.size w w' := by
 have hu54 := Tryz.underlying54; have HR0 := Aside0.mk hr0; have HC0 := Aside0.mk hc0; clear hr0 hc0; have HR1 := Aside0.mk hr1; have HC1 := Aside0.mk hc1; clear hr1 hc1; have HB := Aside0.mk (Below.refl w.heap.size w); have H : (if (l0.length : Int) = (l1.length : Int) then (laws_eqArgS.l0 k l0 l1 0) else (some false)) = some r := h; clear h
 by_cases c3 : (l0.length : Int) = (l1.length : Int)
 ·rw [if_pos c3] at H; have c3b0 := beq_iff_eq.mpr c3; have c3b1 := bne_eq_false_iff_eq.mpr c3
  have c3b2 : (l0.length == l1.length) = true := by first | simpa using c3 | (simp at c3 ⊢; omega)
  clear c3
  have H' := Aside0.mk H
  clear H
  go_enter Tryz.func27, Tryz.ntmps27
  go_wp2
  go_loopg [5] k (fun kq v5 w' => ∃ (x5_1 : Int), v5 = .int .i64 x5_1 ∧ Aside0 (laws_eqArgS.l0 kq l0 l1 x5_1 = some r) ∧ Aside0 (kq ≤ k) ∧ Aside0 (Below w.heap.size w w'))
  case atStart => exact ⟨(0), enA, H', ⟨Nat.le_refl _⟩, ⟨belB HB⟩⟩
  case round =>
   clear H'
   try clear c1
   try clear c2
   try clear p2
   try clear c3
   try clear c3b0
   try clear c3b1
   try clear c3b2
   obtain ⟨x5_1, rfl, HA, HK1, HB⟩ := hrel
   cases gk with
   | zero => exact absurd HA.out (by simp [laws_eqArgS.l0])
   | succ k1 =>
    have H := HA.out; clear HA
    simp only [laws_eqArgS.l0] at H
    by_cases c4 : x5_1 < (l0.length : Int)
    ·rw [if_pos c4] at H; have c4b0 := decide_eq_true c4; clear c4
     by_cases c5 : 0 ≤ x5_1
     ·rw [if_pos c5] at H; have c5b0 := decide_eq_true c5; clear c5
      by_cases c6 : x5_1 < (l1.length : Int)
      ·rw [if_pos c6] at H; have c6b0 := decide_eq_true c6; clear c6; replace H := Option.bind_eq_some_iff.mp H; obtain ⟨t470, A70, H⟩ := H; replace H : (if t470 = true then (laws_eqArgS.l0 k1 l0 l1 (wrap64 (x5_1 + 1))) else (some false)) = some r := H; have A7 := Aside0.mk A70; clear A70
       by_cases c8 : t470 = true
       ·subst c8
        have H1 : (laws_eqArgS.l0 k1 l0 l1 (wrap64 (x5_1 + 1))) = some r := by rw [if_pos rfl] at H; exact H
        clear H; have H := H1; clear H1
        have H' := Aside0.mk H
        clear H
        try go_wp2
        replace HB := Aside0.mk (below_drew1 HB.out); have p468 : 0 ≤ (x5_1 : Int) := odA; have q468 : x5_1 < (l0.length : Int) := odA; obtain ⟨ad468, A468_3, c468_3, A468_4, c468_4, e468, hx468_0, hx468_1, hx468_2, hx468_3, hx468_4, hl468_3, hi468_3, hl468_4, hi468_4⟩ := at_T54 HR0.out x5_1 p468 q468; have hw468_4 := hx468_4; have hw468_3 := hx468_3; have hw468_2 := hx468_2; have hw468_1 := hx468_1; have hw468_0 := hx468_0
        cases e468
        (try replace hx468_0 := celB HB hx468_0)
        (try replace hx468_1 := celB HB hx468_1)
        (try replace hx468_2 := celB HB hx468_2)
        (try replace hx468_3 := celB HB hx468_3)
        (try replace hx468_4 := celB HB hx468_4)
        have HR468_3 := Aside0.mk hi468_3; have HC468_3 := Aside0.mk hl468_3; clear hi468_3 hl468_3; have HR468_4 := Aside0.mk hi468_4; have HC468_4 := Aside0.mk hl468_4; clear hi468_4 hl468_4; replace p468 := eq_true p468; replace q468 := eq_true q468; have p469 : 0 ≤ (x5_1 : Int) := odA; have q469 : x5_1 < (l1.length : Int) := odA; obtain ⟨ad469, A469_3, c469_3, A469_4, c469_4, e469, hx469_0, hx469_1, hx469_2, hx469_3, hx469_4, hl469_3, hi469_3, hl469_4, hi469_4⟩ := at_T54 HR1.out x5_1 p469 q469; have hw469_4 := hx469_4; have hw469_3 := hx469_3; have hw469_2 := hx469_2; have hw469_1 := hx469_1; have hw469_0 := hx469_0
        cases e469
        (try replace hx469_0 := celB HB hx469_0)
        (try replace hx469_1 := celB HB hx469_1)
        (try replace hx469_2 := celB HB hx469_2)
        (try replace hx469_3 := celB HB hx469_3)
        (try replace hx469_4 := celB HB hx469_4)
        have HR469_3 := Aside0.mk hi469_3; have HC469_3 := Aside0.mk hl469_3; clear hi469_3 hl469_3; have HR469_4 := Aside0.mk hi469_4; have HC469_4 := Aside0.mk hl469_4; clear hi469_4 hl469_4; replace p469 := eq_true p469; replace q469 := eq_true q469
        refine start_ (n := 10) (S := fun w' => w'.cell? (ad468.add ((x5_1).toNat * 5)) = some (.string ((rd_T54 l0 x5_1).f0)) ∧ w'.cell? ⟨(ad468.add ((x5_1).toNat * 5)).block, (ad468.add ((x5_1).toNat * 5)).off + 1, none⟩ = some (.int .i64 ((rd_T54 l0 x5_1).f1.f0)) ∧ w'.cell? ⟨(ad468.add ((x5_1).toNat * 5)).block, (ad468.add ((x5_1).toNat * 5)).off + 2, none⟩ = some (.string ((rd_T54 l0 x5_1).f1.f1)) ∧ w'.cell? ⟨(ad468.add ((x5_1).toNat * 5)).block, (ad468.add ((x5_1).toNat * 5)).off + 3, none⟩ = some (.slice A468_3 ((rd_T54 l0 x5_1).f1.f2).length c468_3) ∧ w'.cell? ⟨(ad468.add ((x5_1).toNat * 5)).block, (ad468.add ((x5_1).toNat * 5)).off + 4, none⟩ = some (.slice A468_4 ((rd_T54 l0 x5_1).f1.f3).length c468_4) ∧ w'.cell? (ad469.add ((x5_1).toNat * 5)) = some (.string ((rd_T54 l1 x5_1).f0)) ∧ w'.cell? ⟨(ad469.add ((x5_1).toNat * 5)).block, (ad469.add ((x5_1).toNat * 5)).off + 1, none⟩ = some (.int .i64 ((rd_T54 l1 x5_1).f1.f0)) ∧ w'.cell? ⟨(ad469.add ((x5_1).toNat * 5)).block, (ad469.add ((x5_1).toNat * 5)).off + 2, none⟩ = some (.string ((rd_T54 l1 x5_1).f1.f1)) ∧ w'.cell? ⟨(ad469.add ((x5_1).toNat * 5)).block, (ad469.add ((x5_1).toNat * 5)).off + 3, none⟩ = some (.slice A469_3 ((rd_T54 l1 x5_1).f1.f2).length c469_3) ∧ w'.cell? ⟨(ad469.add ((x5_1).toNat * 5)).block, (ad469.add ((x5_1).toNat * 5)).off + 4, none⟩ = some (.slice A469_4 ((rd_T54 l1 x5_1).f1.f3).length c469_4)) (ds := []) #[false, false, false, false, false, false, false, false, false, false] (by kernel_rfl) rfl rfl ⟨((HB.out.cell (World.block_lt_of_cell? w _ hw468_0)).trans hw468_0), ((HB.out.cell (World.block_lt_of_cell? w _ hw468_1)).trans hw468_1), ((HB.out.cell (World.block_lt_of_cell? w _ hw468_2)).trans hw468_2), ((HB.out.cell (World.block_lt_of_cell? w _ hw468_3)).trans hw468_3), ((HB.out.cell (World.block_lt_of_cell? w _ hw468_4)).trans hw468_4), ((HB.out.cell (World.block_lt_of_cell? w _ hw469_0)).trans hw469_0), ((HB.out.cell (World.block_lt_of_cell? w _ hw469_1)).trans hw469_1), ((HB.out.cell (World.block_lt_of_cell? w _ hw469_2)).trans hw469_2), ((HB.out.cell (World.block_lt_of_cell? w _ hw469_3)).trans hw469_3), ((HB.out.cell (World.block_lt_of_cell? w _ hw469_4)).trans hw469_4)⟩ (fun hHeld => ?_); refine with_tabW laws_eqArgS.tab6 laws_eqArgS.bits6 (fun HT_ HW_ => ?_)
        generalize wr.drew = w9 at HB HR468_3 HR468_4 HR469_3 HR469_4 hx468_0 hx468_1 hx468_2 hx468_3 hx468_4 hx469_0 hx469_1 hx469_2 hx469_3 hx469_4 hHeld ⊢
        refine pure_ (i := 0) (N := some 17) (v := ?_) (a' := ?_) #[true, false, false, false, false, false, false, false, false, false] rfl rfl (any_of HT_.out (by kernel_rfl)) (fun _ _ _ h => h) (Or.inl ⟨by rfl, ?_⟩) ?_ ?_
        rotate_left
        ·intro w'; go_simp
         with_reducible rfl
        rotate_left
        ·exact putA
        refine pure_ (i := 1) (N := some 18) (v := ?_) (a' := ?_) #[true, true, false, false, false, false, false, false, false, false] rfl rfl (any_of HT_.out (by kernel_rfl)) (fun _ _ _ h => h) (Or.inl ⟨by rfl, ?_⟩) ?_ ?_
        rotate_left
        ·intro w'; go_simp
         with_reducible rfl
        rotate_left
        ·exact putA
        refine pure_ (i := 2) (N := some 19) (v := ?_) (a' := ?_) #[true, true, true, false, false, false, false, false, false, false] rfl rfl (any_of HT_.out (by kernel_rfl)) (fun _ _ _ h => h) (Or.inl ⟨by rfl, ?_⟩) ?_ ?_
        rotate_left
        ·intro w'; go_simp
         with_reducible rfl
        rotate_left
        ·exact putA
        refine pure_ (i := 4) (N := some 21) (v := ?_) (a' := ?_) #[true, true, true, false, true, false, false, false, false, false] rfl rfl (any_of HT_.out (by kernel_rfl)) (fun _ _ _ h => h) (Or.inl ⟨by rfl, ?_⟩) ?_ ?_
        rotate_left
        ·intro w'; go_simp
         with_reducible rfl
        rotate_left
        ·exact putA
        refine pure_ (i := 5) (N := some 22) (v := ?_) (a' := ?_) #[true, true, true, false, true, true, false, false, false, false] rfl rfl (any_of HT_.out (by kernel_rfl)) (fun _ _ _ h => h) (Or.inl ⟨by rfl, ?_⟩) ?_ ?_
        rotate_left
        ·intro w'; go_simp
         with_reducible rfl
        rotate_left
        ·exact putA
        refine pure_ (i := 6) (N := some 23) (v := ?_) (a' := ?_) #[true, true, true, false, true, true, true, false, false, false] rfl rfl (any_of HT_.out (by kernel_rfl)) (fun _ _ _ h => h) (Or.inl ⟨by rfl, ?_⟩) ?_ ?_
        rotate_left
        ·intro w'; go_simp
         with_reducible rfl
        rotate_left
        ·exact putA
        refine take_ (i := 3) (N := some 20) (v := ?_) (a' := ?_) #[true, true, true, true, true, true, true, false, false, false] rfl rfl (take_ofW HT_.out HW_.out (by kernel_rfl)) (fun _ _ _ h => h) (Or.inl ⟨by rfl, ?_⟩) hHeld ?_ ?_
        rotate_left
        ·rintro w' ⟨s0, s1, s2, s3, s4, s5, s6, s7, s8, s9⟩
         go_simp
         with_reducible rfl
        rotate_left
        ·exact putA
        refine take_ (i := 7) (N := some 24) (v := ?_) (a' := ?_) #[true, true, true, true, true, true, true, true, false, false] rfl rfl (take_ofW HT_.out HW_.out (by kernel_rfl)) (fun _ _ _ h => h) (Or.inl ⟨by rfl, ?_⟩) hHeld ?_ ?_
        rotate_left
        ·rintro w' ⟨s0, s1, s2, s3, s4, s5, s6, s7, s8, s9⟩
         go_simp
         with_reducible rfl
        rotate_left
        ·exact putA
        refine one_ (i := 8) (N := some 25) #[true, true, true, true, true, true, true, true, true, false] rfl rfl (one_of HT_.out (by kernel_rfl)) (by decide) (fun K hK => ?_)
        refine goes_ Tryz.func45 (by kernel_rfl) rfl #[.agg #[.string ((rd_T54 l0 x5_1).f0), .int .i64 ((rd_T54 l0 x5_1).f1.f0), .string ((rd_T54 l0 x5_1).f1.f1), .slice A468_3 ((rd_T54 l0 x5_1).f1.f2).length c468_3, .slice A468_4 ((rd_T54 l0 x5_1).f1.f3).length c468_4], .agg #[.string ((rd_T54 l1 x5_1).f0), .int .i64 ((rd_T54 l1 x5_1).f1.f0), .string ((rd_T54 l1 x5_1).f1.f1), .slice A469_3 ((rd_T54 l1 x5_1).f1.f2).length c469_3, .slice A469_4 ((rd_T54 l1 x5_1).f1.f3).length c469_4]] (by rfl) rfl rfl mapA ?_
        with_reducible refine (laws_eqArg.calls k1 ((rd_T54 l0 x5_1).f0) ((rd_T54 l0 x5_1).f1.f0) ((rd_T54 l0 x5_1).f1.f1) _ _ ((rd_T54 l0 x5_1).f1.f2) _ _ ((rd_T54 l0 x5_1).f1.f3) ((rd_T54 l1 x5_1).f0) ((rd_T54 l1 x5_1).f1.f0) ((rd_T54 l1 x5_1).f1.f1) _ _ ((rd_T54 l1 x5_1).f1.f2) _ _ ((rd_T54 l1 x5_1).f1.f3) true _ ?side1 ?side2 ?side3 ?side4 ?side5 ?side6 ?side7 ?side8 A7.out).mono ?_
        (case side1 => exact cbA HR468_3 HB)
        (case side2 => exact HC468_3.out)
        (case side3 => exact cbA HR468_4 HB)
        (case side4 => exact HC468_4.out)
        (case side5 => exact cbA HR469_3 HB)
        (case side6 => exact HC469_3.out)
        (case side7 => exact cbA HR469_4 HB)
        (case side8 => exact HC469_4.out)
        rintro e w10 ⟨rfl, hb⟩
        refine ⟨_, rfl, ?_⟩; replace HB := Aside0.mk (below_step (belB HB) hb)
        (try clear hb)
        (try clear hb2)
        (try clear hk)
        (try clear hi)
        refine hK.out _ _ ⟨((HB.out.cell (World.block_lt_of_cell? w _ hw468_0)).trans hw468_0), ((HB.out.cell (World.block_lt_of_cell? w _ hw468_1)).trans hw468_1), ((HB.out.cell (World.block_lt_of_cell? w _ hw468_2)).trans hw468_2), ((HB.out.cell (World.block_lt_of_cell? w _ hw468_3)).trans hw468_3), ((HB.out.cell (World.block_lt_of_cell? w _ hw468_4)).trans hw468_4), ((HB.out.cell (World.block_lt_of_cell? w _ hw469_0)).trans hw469_0), ((HB.out.cell (World.block_lt_of_cell? w _ hw469_1)).trans hw469_1), ((HB.out.cell (World.block_lt_of_cell? w _ hw469_2)).trans hw469_2), ((HB.out.cell (World.block_lt_of_cell? w _ hw469_3)).trans hw469_3), ((HB.out.cell (World.block_lt_of_cell? w _ hw469_4)).trans hw469_4)⟩ (fun hHeld => ?_); clear hK K; refine norm_ (a' := ?_) ?_ ?_; rotate_left
        ·show Act.put _ (some 25) _ = _
         simp only [Act.put, List.setIfInBounds_toArray, List.set_cons_zero, List.set_cons_succ, i64_w, i32_w]
         rfl
        refine pure_ (i := 9) (N := some 26) (v := ?_) (a' := ?_) #[true, true, true, true, true, true, true, true, true, true] rfl rfl (any_of HT_.out (by kernel_rfl)) (fun _ _ _ h => h) (Or.inl ⟨by rfl, ?_⟩) ?_ ?_
        rotate_left
        ·intro w'; go_simp
         with_reducible rfl
        rotate_left
        ·exact putA
        refine done_ (done_of HT_.out (by kernel_rfl)) ?_
        try go_wp2
        go_roundg k1
        case measure => have := HK1.out; omega
        case rel => exact ⟨(wrap64 (x5_1 + 1)), enA, H', ⟨by have := HK1.out; omega⟩, ⟨belB HB⟩⟩
       ·replace c8 := Bool.eq_false_iff.mpr c8; subst c8
        have H1 : (some false) = some r := by rw [if_neg (show ¬ (false = true) by decide)] at H; exact H
        clear H; have H := H1; clear H1; obtain rfl := Option.some.inj H
        try go_wp2
        replace HB := Aside0.mk (below_drew1 HB.out); have p468 : 0 ≤ (x5_1 : Int) := odA; have q468 : x5_1 < (l0.length : Int) := odA; obtain ⟨ad468, A468_3, c468_3, A468_4, c468_4, e468, hx468_0, hx468_1, hx468_2, hx468_3, hx468_4, hl468_3, hi468_3, hl468_4, hi468_4⟩ := at_T54 HR0.out x5_1 p468 q468; have hw468_4 := hx468_4; have hw468_3 := hx468_3; have hw468_2 := hx468_2; have hw468_1 := hx468_1; have hw468_0 := hx468_0
        cases e468
        (try replace hx468_0 := celB HB hx468_0)
        (try replace hx468_1 := celB HB hx468_1)
        (try replace hx468_2 := celB HB hx468_2)
        (try replace hx468_3 := celB HB hx468_3)
        (try replace hx468_4 := celB HB hx468_4)
        have HR468_3 := Aside0.mk hi468_3; have HC468_3 := Aside0.mk hl468_3; clear hi468_3 hl468_3; have HR468_4 := Aside0.mk hi468_4; have HC468_4 := Aside0.mk hl468_4; clear hi468_4 hl468_4; replace p468 := eq_true p468; replace q468 := eq_true q468; have p469 : 0 ≤ (x5_1 : Int) := odA; have q469 : x5_1 < (l1.length : Int) := odA; obtain ⟨ad469, A469_3, c469_3, A469_4, c469_4, e469, hx469_0, hx469_1, hx469_2, hx469_3, hx469_4, hl469_3, hi469_3, hl469_4, hi469_4⟩ := at_T54 HR1.out x5_1 p469 q469; have hw469_4 := hx469_4; have hw469_3 := hx469_3; have hw469_2 := hx469_2; have hw469_1 := hx469_1; have hw469_0 := hx469_0
        cases e469
        (try replace hx469_0 := celB HB hx469_0)
        (try replace hx469_1 := celB HB hx469_1)
        (try replace hx469_2 := celB HB hx469_2)
        (try replace hx469_3 := celB HB hx469_3)
        (try replace hx469_4 := celB HB hx469_4)
        have HR469_3 := Aside0.mk hi469_3; have HC469_3 := Aside0.mk hl469_3; clear hi469_3 hl469_3; have HR469_4 := Aside0.mk hi469_4; have HC469_4 := Aside0.mk hl469_4; clear hi469_4 hl469_4; replace p469 := eq_true p469; replace q469 := eq_true q469
        refine start_ (n := 10) (S := fun w' => w'.cell? (ad468.add ((x5_1).toNat * 5)) = some (.string ((rd_T54 l0 x5_1).f0)) ∧ w'.cell? ⟨(ad468.add ((x5_1).toNat * 5)).block, (ad468.add ((x5_1).toNat * 5)).off + 1, none⟩ = some (.int .i64 ((rd_T54 l0 x5_1).f1.f0)) ∧ w'.cell? ⟨(ad468.add ((x5_1).toNat * 5)).block, (ad468.add ((x5_1).toNat * 5)).off + 2, none⟩ = some (.string ((rd_T54 l0 x5_1).f1.f1)) ∧ w'.cell? ⟨(ad468.add ((x5_1).toNat * 5)).block, (ad468.add ((x5_1).toNat * 5)).off + 3, none⟩ = some (.slice A468_3 ((rd_T54 l0 x5_1).f1.f2).length c468_3) ∧ w'.cell? ⟨(ad468.add ((x5_1).toNat * 5)).block, (ad468.add ((x5_1).toNat * 5)).off + 4, none⟩ = some (.slice A468_4 ((rd_T54 l0 x5_1).f1.f3).length c468_4) ∧ w'.cell? (ad469.add ((x5_1).toNat * 5)) = some (.string ((rd_T54 l1 x5_1).f0)) ∧ w'.cell? ⟨(ad469.add ((x5_1).toNat * 5)).block, (ad469.add ((x5_1).toNat * 5)).off + 1, none⟩ = some (.int .i64 ((rd_T54 l1 x5_1).f1.f0)) ∧ w'.cell? ⟨(ad469.add ((x5_1).toNat * 5)).block, (ad469.add ((x5_1).toNat * 5)).off + 2, none⟩ = some (.string ((rd_T54 l1 x5_1).f1.f1)) ∧ w'.cell? ⟨(ad469.add ((x5_1).toNat * 5)).block, (ad469.add ((x5_1).toNat * 5)).off + 3, none⟩ = some (.slice A469_3 ((rd_T54 l1 x5_1).f1.f2).length c469_3) ∧ w'.cell? ⟨(ad469.add ((x5_1).toNat * 5)).block, (ad469.add ((x5_1).toNat * 5)).off + 4, none⟩ = some (.slice A469_4 ((rd_T54 l1 x5_1).f1.f3).length c469_4)) (ds := []) #[false, false, false, false, false, false, false, false, false, false] (by kernel_rfl) rfl rfl ⟨((HB.out.cell (World.block_lt_of_cell? w _ hw468_0)).trans hw468_0), ((HB.out.cell (World.block_lt_of_cell? w _ hw468_1)).trans hw468_1), ((HB.out.cell (World.block_lt_of_cell? w _ hw468_2)).trans hw468_2), ((HB.out.cell (World.block_lt_of_cell? w _ hw468_3)).trans hw468_3), ((HB.out.cell (World.block_lt_of_cell? w _ hw468_4)).trans hw468_4), ((HB.out.cell (World.block_lt_of_cell? w _ hw469_0)).trans hw469_0), ((HB.out.cell (World.block_lt_of_cell? w _ hw469_1)).trans hw469_1), ((HB.out.cell (World.block_lt_of_cell? w _ hw469_2)).trans hw469_2), ((HB.out.cell (World.block_lt_of_cell? w _ hw469_3)).trans hw469_3), ((HB.out.cell (World.block_lt_of_cell? w _ hw469_4)).trans hw469_4)⟩ (fun hHeld => ?_); refine with_tabW laws_eqArgS.tab6 laws_eqArgS.bits6 (fun HT_ HW_ => ?_)
        generalize wr.drew = w11 at HB HR468_3 HR468_4 HR469_3 HR469_4 hx468_0 hx468_1 hx468_2 hx468_3 hx468_4 hx469_0 hx469_1 hx469_2 hx469_3 hx469_4 hHeld ⊢
        refine pure_ (i := 0) (N := some 17) (v := ?_) (a' := ?_) #[true, false, false, false, false, false, false, false, false, false] rfl rfl (any_of HT_.out (by kernel_rfl)) (fun _ _ _ h => h) (Or.inl ⟨by rfl, ?_⟩) ?_ ?_
        rotate_left
        ·intro w'; go_simp
         with_reducible rfl
        rotate_left
        ·exact putA
        refine pure_ (i := 1) (N := some 18) (v := ?_) (a' := ?_) #[true, true, false, false, false, false, false, false, false, false] rfl rfl (any_of HT_.out (by kernel_rfl)) (fun _ _ _ h => h) (Or.inl ⟨by rfl, ?_⟩) ?_ ?_
        rotate_left
        ·intro w'; go_simp
         with_reducible rfl
        rotate_left
        ·exact putA
        refine pure_ (i := 2) (N := some 19) (v := ?_) (a' := ?_) #[true, true, true, false, false, false, false, false, false, false] rfl rfl (any_of HT_.out (by kernel_rfl)) (fun _ _ _ h => h) (Or.inl ⟨by rfl, ?_⟩) ?_ ?_
        rotate_left
        ·intro w'; go_simp
         with_reducible rfl
        rotate_left
        ·exact putA
        refine pure_ (i := 4) (N := some 21) (v := ?_) (a' := ?_) #[true, true, true, false, true, false, false, false, false, false] rfl rfl (any_of HT_.out (by kernel_rfl)) (fun _ _ _ h => h) (Or.inl ⟨by rfl, ?_⟩) ?_ ?_
        rotate_left
        ·intro w'; go_simp
         with_reducible rfl
        rotate_left
        ·exact putA
        refine pure_ (i := 5) (N := some 22) (v := ?_) (a' := ?_) #[true, true, true, false, true, true, false, false, false, false] rfl rfl (any_of HT_.out (by kernel_rfl)) (fun _ _ _ h => h) (Or.inl ⟨by rfl, ?_⟩) ?_ ?_
        rotate_left
        ·intro w'; go_simp
         with_reducible rfl
        rotate_left
        ·exact putA
        refine pure_ (i := 6) (N := some 23) (v := ?_) (a' := ?_) #[true, true, true, false, true, true, true, false, false, false] rfl rfl (any_of HT_.out (by kernel_rfl)) (fun _ _ _ h => h) (Or.inl ⟨by rfl, ?_⟩) ?_ ?_
        rotate_left
        ·intro w'; go_simp
         with_reducible rfl
        rotate_left
        ·exact putA
        refine take_ (i := 3) (N := some 20) (v := ?_) (a' := ?_) #[true, true, true, true, true, true, true, false, false, false] rfl rfl (take_ofW HT_.out HW_.out (by kernel_rfl)) (fun _ _ _ h => h) (Or.inl ⟨by rfl, ?_⟩) hHeld ?_ ?_
        rotate_left
        ·rintro w' ⟨s0, s1, s2, s3, s4, s5, s6, s7, s8, s9⟩
         go_simp
         with_reducible rfl
        rotate_left
        ·exact putA
        refine take_ (i := 7) (N := some 24) (v := ?_) (a' := ?_) #[true, true, true, true, true, true, true, true, false, false] rfl rfl (take_ofW HT_.out HW_.out (by kernel_rfl)) (fun _ _ _ h => h) (Or.inl ⟨by rfl, ?_⟩) hHeld ?_ ?_
        rotate_left
        ·rintro w' ⟨s0, s1, s2, s3, s4, s5, s6, s7, s8, s9⟩
         go_simp
         with_reducible rfl
        rotate_left
        ·exact putA
        refine one_ (i := 8) (N := some 25) #[true, true, true, true, true, true, true, true, true, false] rfl rfl (one_of HT_.out (by kernel_rfl)) (by decide) (fun K hK => ?_)
        refine goes_ Tryz.func45 (by kernel_rfl) rfl #[.agg #[.string ((rd_T54 l0 x5_1).f0), .int .i64 ((rd_T54 l0 x5_1).f1.f0), .string ((rd_T54 l0 x5_1).f1.f1), .slice A468_3 ((rd_T54 l0 x5_1).f1.f2).length c468_3, .slice A468_4 ((rd_T54 l0 x5_1).f1.f3).length c468_4], .agg #[.string ((rd_T54 l1 x5_1).f0), .int .i64 ((rd_T54 l1 x5_1).f1.f0), .string ((rd_T54 l1 x5_1).f1.f1), .slice A469_3 ((rd_T54 l1 x5_1).f1.f2).length c469_3, .slice A469_4 ((rd_T54 l1 x5_1).f1.f3).length c469_4]] (by rfl) rfl rfl mapA ?_
        with_reducible refine (laws_eqArg.calls k1 ((rd_T54 l0 x5_1).f0) ((rd_T54 l0 x5_1).f1.f0) ((rd_T54 l0 x5_1).f1.f1) _ _ ((rd_T54 l0 x5_1).f1.f2) _ _ ((rd_T54 l0 x5_1).f1.f3) ((rd_T54 l1 x5_1).f0) ((rd_T54 l1 x5_1).f1.f0) ((rd_T54 l1 x5_1).f1.f1) _ _ ((rd_T54 l1 x5_1).f1.f2) _ _ ((rd_T54 l1 x5_1).f1.f3) false _ ?side1 ?side2 ?side3 ?side4 ?side5 ?side6 ?side7 ?side8 A7.out).mono ?_
        (case side1 => exact cbA HR468_3 HB)
        (case side2 => exact HC468_3.out)
        (case side3 => exact cbA HR468_4 HB)
        (case side4 => exact HC468_4.out)
        (case side5 => exact cbA HR469_3 HB)
        (case side6 => exact HC469_3.out)
        (case side7 => exact cbA HR469_4 HB)
        (case side8 => exact HC469_4.out)
        rintro e w12 ⟨rfl, hb⟩
        refine ⟨_, rfl, ?_⟩; replace HB := Aside0.mk (below_step (belB HB) hb)
        (try clear hb)
        (try clear hb2)
        (try clear hk)
        (try clear hi)
        refine hK.out _ _ ⟨((HB.out.cell (World.block_lt_of_cell? w _ hw468_0)).trans hw468_0), ((HB.out.cell (World.block_lt_of_cell? w _ hw468_1)).trans hw468_1), ((HB.out.cell (World.block_lt_of_cell? w _ hw468_2)).trans hw468_2), ((HB.out.cell (World.block_lt_of_cell? w _ hw468_3)).trans hw468_3), ((HB.out.cell (World.block_lt_of_cell? w _ hw468_4)).trans hw468_4), ((HB.out.cell (World.block_lt_of_cell? w _ hw469_0)).trans hw469_0), ((HB.out.cell (World.block_lt_of_cell? w _ hw469_1)).trans hw469_1), ((HB.out.cell (World.block_lt_of_cell? w _ hw469_2)).trans hw469_2), ((HB.out.cell (World.block_lt_of_cell? w _ hw469_3)).trans hw469_3), ((HB.out.cell (World.block_lt_of_cell? w _ hw469_4)).trans hw469_4)⟩ (fun hHeld => ?_); clear hK K; refine norm_ (a' := ?_) ?_ ?_; rotate_left
        ·show Act.put _ (some 25) _ = _
         simp only [Act.put, List.setIfInBounds_toArray, List.set_cons_zero, List.set_cons_succ, i64_w, i32_w]
         rfl
        refine pure_ (i := 9) (N := some 26) (v := ?_) (a' := ?_) #[true, true, true, true, true, true, true, true, true, true] rfl rfl (any_of HT_.out (by kernel_rfl)) (fun _ _ _ h => h) (Or.inl ⟨by rfl, ?_⟩) ?_ ?_
        rotate_left
        ·intro w'; go_simp
         with_reducible rfl
        rotate_left
        ·exact putA
        refine done_ (done_of HT_.out (by kernel_rfl)) ?_
        try go_wp2
        go_ret
        exact ⟨erA, belB HB⟩
      ·rw [if_neg c6] at H
       exact absurd H (by simp)
     ·rw [if_neg c5] at H
      exact absurd H (by simp)
    ·rw [if_neg c4] at H; have c4b0 := decide_eq_false c4; clear c4; obtain rfl := Option.some.inj H
     go_wp2
     go_ret
     exact ⟨erA, belB HB⟩
 ·rw [if_neg c3] at H; have c3b0 := beq_eq_false_iff_ne.mpr c3; have c3b1 := bne_iff_ne.mpr c3
  have c3b2 : (l0.length == l1.length) = false := by first | simpa using c3 | (simp at c3 ⊢; omega)
  obtain rfl := Option.some.inj H
  go_enter Tryz.func27, Tryz.ntmps27
  go_wp2
  go_ret
  exact ⟨erA, belB HB⟩

def laws_eqDir.f (k : Nat) (a0_0 : ByteArray) (l0_1 : List (S54)) (a1_0 : ByteArray) (l1_1 : List (S54)) : Option (Bool) := if a0_0.toList = a1_0.toList then ((laws_eqArgS.f k l0_1 l1_1).bind fun t473 => (if t473 = true then (some true) else (some false))) else (some false)
theorem laws_eqDir.mono : ∀ a0 a1 a2 a3 k, LeO (laws_eqDir.f k a0 a1 a2 a3) (laws_eqDir.f (k + 1) a0 a1 a2 a3) := by
 intro a0 a1 a2 a3 k; unfold laws_eqDir.f
 repeat' first
   | (with_reducible first | exact laws_eqArgS.mono _ _ _ | exact LeO.refl _ | exact LeO.none _ | refine LeO.ite ?_ ?_ | refine LeO.bind ?_ (fun _ => ?_))
   | exact laws_eqArgS.mono _ _ _ | exact LeO.none _ | refine LeO.ite ?_ ?_ | refine LeO.bind ?_ (fun _ => ?_)
set_option maxHeartbeats 8000000 in
set_option maxRecDepth 100000 in
theorem laws_eqDir.calls (k : Nat) (a0_0 : ByteArray) (A0_1 : Option Addr) (c0_1 : Nat) (l0_1 : List (S54)) (a1_0 : ByteArray) (A1_1 : Option Addr) (c1_1 : Nat) (l1_1 : List (S54)) (r : Bool) (w : World) (hr0_1 : Kd.C k54 w A0_1 l0_1.length l0_1) (hc0_1 : l0_1.length ≤ c0_1) (hr1_1 : Kd.C k54 w A1_1 l1_1.length l1_1) (hc1_1 : l1_1.length ≤ c1_1) (h : laws_eqDir.f k a0_0 l0_1 a1_0 l1_1 = some r) :
  Calls Tryz.prog 15 #[.agg #[.string a0_0, .slice A0_1 l0_1.length c0_1], .agg #[.string a1_0, .slice A1_1 l1_1.length c1_1]] w fun e w' => e = .returned (.bool r) ∧ Below w.heap.size w w' := by
 have hu38 := Tryz.underlying38; have HR0_1 := Aside0.mk hr0_1; have HC0_1 := Aside0.mk hc0_1; clear hr0_1 hc0_1; have HR1_1 := Aside0.mk hr1_1; have HC1_1 := Aside0.mk hc1_1; clear hr1_1 hc1_1; have HB := Aside0.mk (Below.refl w.heap.size w); have H : (if a0_0.toList = a1_0.toList then ((laws_eqArgS.f k l0_1 l1_1).bind fun t473 => (if t473 = true then (some true) else (some false))) else (some false)) = some r := h; clear h
 by_cases c3 : a0_0.toList = a1_0.toList
 ·rw [if_pos c3] at H; have c3b0 := beq_iff_eq.mpr c3; have c3b1 := bne_eq_false_iff_eq.mpr c3; clear c3; replace H := Option.bind_eq_some_iff.mp H; obtain ⟨t473, A40, H⟩ := H; replace H : (if t473 = true then (some true) else (some false)) = some r := H; have A4 := Aside0.mk A40; clear A40
  by_cases c5 : t473 = true
  ·subst c5
   have H1 : (some true) = some r := by rw [if_pos rfl] at H; exact H
   clear H; have H := H1; clear H1; obtain rfl := Option.some.inj H
   go_enter Tryz.func15, Tryz.ntmps15
   go_wp2_with (first | ((with_reducible refine gate_dst (N := 2) rfl ?_); refine boxE (N := 2) (cs := #[.string a0_0, .slice A0_1 l0_1.length c0_1]) (t := 38) ?_; intro gb471 hg w6 hbox hb; have BK471 := Aside0.mk (hbox); have GW471 := Aside0.mk ((gbA (w := w) HB hg)); have GE471 := Aside0.mk ((gbA (w := w) HB hg)); replace HB := Aside0.mk (below_step (belB HB) hb); clear hb hbox hg) | ((with_reducible refine gate_dst (N := 3) rfl ?_); refine boxE (N := 3) (cs := #[.string a1_0, .slice A1_1 l1_1.length c1_1]) (t := 38) ?_; intro gb472 hg w7 hbox hb; have BK472 := Aside0.mk (hbox); have GW472 := Aside0.mk ((by rw [hg]; exact (below_size (belS HB GE471)) : w.heap.size ≤ gb472)); have GE472 := Aside0.mk ((by rw [hg]; exact (below_size (belS HB GE471)) : w.heap.size ≤ gb472)); have NB471_472 := Aside0.mk ((by rw [hg]; exact Nat.ne_of_lt (blk_lt (g := gb471) (o := .cells #[.string a0_0, .slice A0_1 l0_1.length c0_1] 38 (0, 0)) (blkA BK471)) : gb471 ≠ gb472)); have NB472_471 := Aside0.mk ((by rw [hg]; exact Nat.ne_of_gt (blk_lt (g := gb471) (o := .cells #[.string a0_0, .slice A0_1 l0_1.length c0_1] 38 (0, 0)) (blkA BK471)) : gb472 ≠ gb471)); replace BK471 := Aside0.mk (bBA BK471 hb); replace HB := Aside0.mk (below_step (belS HB GE471) hb); clear hb hbox hg; have hnb8 := NB471_472.out; have hnc8 := NB472_471.out; obtain ⟨hcz9_0, hcz9_1, hfz9_0, hfz9_1⟩ := cef2 BK471.out; obtain ⟨hcz10_0, hcz10_1, hfz10_0, hfz10_1⟩ := cef2 BK472.out) | ((with_reducible refine gate_callee (f := 27) rfl ?_); refine goesL_ (some 14) rfl rfl Tryz.func27 (by kernel_rfl) rfl #[.slice A0_1 l0_1.length c0_1, .slice A1_1 l1_1.length c1_1] rfl mapA ?_; (with_reducible refine (laws_eqArgS.calls k _ _ l0_1 _ _ l1_1 true _ ?side1 ?side2 ?side3 ?side4 A4.out).mono ?_); (case side1 => exact cbA HR0_1 HB); (case side2 => exact HC0_1.out); (case side3 => exact cbA HR1_1 HB); (case side4 => exact HC1_1.out); rintro e w11 ⟨rfl, hb⟩; refine ⟨_, rfl, ?_⟩; replace BK471 := Aside0.mk (bBA BK471 hb); replace BK472 := Aside0.mk (bBA BK472 hb); replace HB := Aside0.mk (below_step (belT HB GE471 GE472) hb); (try clear hb)))
   go_ret
   exact ⟨erA, belT HB GE471 GE472⟩
  ·replace c5 := Bool.eq_false_iff.mpr c5; subst c5
   have H1 : (some false) = some r := by rw [if_neg (show ¬ (false = true) by decide)] at H; exact H
   clear H; have H := H1; clear H1; obtain rfl := Option.some.inj H
   go_enter Tryz.func15, Tryz.ntmps15
   go_wp2_with (first | ((with_reducible refine gate_dst (N := 2) rfl ?_); refine boxE (N := 2) (cs := #[.string a0_0, .slice A0_1 l0_1.length c0_1]) (t := 38) ?_; intro gb471 hg w12 hbox hb; have BK471 := Aside0.mk (hbox); have GW471 := Aside0.mk ((gbA (w := w) HB hg)); have GE471 := Aside0.mk ((gbA (w := w) HB hg)); replace HB := Aside0.mk (below_step (belB HB) hb); clear hb hbox hg) | ((with_reducible refine gate_dst (N := 3) rfl ?_); refine boxE (N := 3) (cs := #[.string a1_0, .slice A1_1 l1_1.length c1_1]) (t := 38) ?_; intro gb472 hg w13 hbox hb; have BK472 := Aside0.mk (hbox); have GW472 := Aside0.mk ((by rw [hg]; exact (below_size (belS HB GE471)) : w.heap.size ≤ gb472)); have GE472 := Aside0.mk ((by rw [hg]; exact (below_size (belS HB GE471)) : w.heap.size ≤ gb472)); have NB471_472 := Aside0.mk ((by rw [hg]; exact Nat.ne_of_lt (blk_lt (g := gb471) (o := .cells #[.string a0_0, .slice A0_1 l0_1.length c0_1] 38 (0, 0)) (blkA BK471)) : gb471 ≠ gb472)); have NB472_471 := Aside0.mk ((by rw [hg]; exact Nat.ne_of_gt (blk_lt (g := gb471) (o := .cells #[.string a0_0, .slice A0_1 l0_1.length c0_1] 38 (0, 0)) (blkA BK471)) : gb472 ≠ gb471)); replace BK471 := Aside0.mk (bBA BK471 hb); replace HB := Aside0.mk (below_step (belS HB GE471) hb); clear hb hbox hg; have hnb14 := NB471_472.out; have hnc14 := NB472_471.out; obtain ⟨hcz15_0, hcz15_1, hfz15_0, hfz15_1⟩ := cef2 BK471.out; obtain ⟨hcz16_0, hcz16_1, hfz16_0, hfz16_1⟩ := cef2 BK472.out) | ((with_reducible refine gate_callee (f := 27) rfl ?_); refine goesL_ (some 14) rfl rfl Tryz.func27 (by kernel_rfl) rfl #[.slice A0_1 l0_1.length c0_1, .slice A1_1 l1_1.length c1_1] rfl mapA ?_; (with_reducible refine (laws_eqArgS.calls k _ _ l0_1 _ _ l1_1 false _ ?side1 ?side2 ?side3 ?side4 A4.out).mono ?_); (case side1 => exact cbA HR0_1 HB); (case side2 => exact HC0_1.out); (case side3 => exact cbA HR1_1 HB); (case side4 => exact HC1_1.out); rintro e w17 ⟨rfl, hb⟩; refine ⟨_, rfl, ?_⟩; replace BK471 := Aside0.mk (bBA BK471 hb); replace BK472 := Aside0.mk (bBA BK472 hb); replace HB := Aside0.mk (below_step (belT HB GE471 GE472) hb); (try clear hb)))
   go_ret
   exact ⟨erA, belT HB GE471 GE472⟩
 ·rw [if_neg c3] at H; have c3b0 := beq_eq_false_iff_ne.mpr c3; have c3b1 := bne_iff_ne.mpr c3; obtain rfl := Option.some.inj H
  go_enter Tryz.func15, Tryz.ntmps15
  go_wp2_with (first | ((with_reducible refine gate_dst (N := 2) rfl ?_); refine boxE (N := 2) (cs := #[.string a0_0, .slice A0_1 l0_1.length c0_1]) (t := 38) ?_; intro gb471 hg w18 hbox hb; have BK471 := Aside0.mk (hbox); have GW471 := Aside0.mk ((gbA (w := w) HB hg)); have GE471 := Aside0.mk ((gbA (w := w) HB hg)); replace HB := Aside0.mk (below_step (belB HB) hb); clear hb hbox hg) | ((with_reducible refine gate_dst (N := 3) rfl ?_); refine boxE (N := 3) (cs := #[.string a1_0, .slice A1_1 l1_1.length c1_1]) (t := 38) ?_; intro gb472 hg w19 hbox hb; have BK472 := Aside0.mk (hbox); have GW472 := Aside0.mk ((by rw [hg]; exact (below_size (belS HB GE471)) : w.heap.size ≤ gb472)); have GE472 := Aside0.mk ((by rw [hg]; exact (below_size (belS HB GE471)) : w.heap.size ≤ gb472)); have NB471_472 := Aside0.mk ((by rw [hg]; exact Nat.ne_of_lt (blk_lt (g := gb471) (o := .cells #[.string a0_0, .slice A0_1 l0_1.length c0_1] 38 (0, 0)) (blkA BK471)) : gb471 ≠ gb472)); have NB472_471 := Aside0.mk ((by rw [hg]; exact Nat.ne_of_gt (blk_lt (g := gb471) (o := .cells #[.string a0_0, .slice A0_1 l0_1.length c0_1] 38 (0, 0)) (blkA BK471)) : gb472 ≠ gb471)); replace BK471 := Aside0.mk (bBA BK471 hb); replace HB := Aside0.mk (below_step (belS HB GE471) hb); clear hb hbox hg; have hnb20 := NB471_472.out; have hnc20 := NB472_471.out; obtain ⟨hcz21_0, hcz21_1, hfz21_0, hfz21_1⟩ := cef2 BK471.out; obtain ⟨hcz22_0, hcz22_1, hfz22_0, hfz22_1⟩ := cef2 BK472.out))
  go_ret
  exact ⟨erA, belT HB GE471 GE472⟩

end Go.Proofs.YtjhagdjjlgjlbaaGreatDoor.OFnExactDirsText
-- narrow
