/- The machine side of one law, written by a program of this session out of Lean's print of the translation: for each Go function that is reached a plain Lean function and the proof that the call comes to just its answer; each under the condition that the plain function answers 'some'. -/
import Derived.Test.YtjhagdjjlgjlbaaDoorOFnExactArgsOkx0
import Derived.Test.YtjhagdjjlgjlbaaDoorOFnExactArgsOkx1
import Derived.Test.YtjhagdjjlgjlbaaDoorOFnExactArgsOkx8
import Derived.Test.YtjhagdjjlgjlbaaDoorOFnExactArgsOkx12
import Derived.Test.YtjhagdjjlgjlbaaDoorOFnExactArgsOkx13
namespace Go.Proofs.YtjhagdjjlgjlbaaDoor.OFnExactArgsOk
open Go.Proofs.YtjhagdjjlgjlbaaDoor.GlU Go.Proofs.YtjhagdjjlgjlbaaDoor.Ix
open Go.RowKit Go.Proofs.YtjhagdjjlgjlbaaDoorW.PrintWords Go.Proofs.YtjhagdjjlgjlbaaDoorW.PrintLast Go.Proofs.YtjhagdjjlgjlbaaDoorW.PrintMore
attribute [local go_sem] max2_int min2_int max_two min_two max_three min_three max_four min_four   -- for this text's walks alone
set_option linter.unusedVariables false
set_option linter.unusedSimpArgs false

/-! ### laws_eqArgS: function 22 -/
def laws_eqArgS.l0 : Nat → List (S70) → List (S70) → Int → Option (Bool)
  | 0, _, _, _ => none
  | k + 1, x0, x1, x5 => if x5 < (x0.length : Int) then (if 0 ≤ x5 then (if x5 < (x1.length : Int) then ((laws_eqArg.f k ((rd_T70 x0 x5).f0) ((rd_T70 x0 x5).f1.f0) ((rd_T70 x0 x5).f1.f1) ((rd_T70 x0 x5).f1.f2) ((rd_T70 x0 x5).f1.f3) ((rd_T70 x1 x5).f0) ((rd_T70 x1 x5).f1.f0) ((rd_T70 x1 x5).f1.f1) ((rd_T70 x1 x5).f1.f2) ((rd_T70 x1 x5).f1.f3)).bind fun t293 => (if t293 = true then (laws_eqArgS.l0 k x0 x1 (wrap64 (x5 + 1))) else (some false))) else (none)) else (none)) else (some true)
def laws_eqArgS.f (k : Nat) (l0 : List (S70)) (l1 : List (S70)) : Option (Bool) := if (l0.length : Int) = (l1.length : Int) then (laws_eqArgS.l0 k l0 l1 0) else (some false)
theorem laws_eqArgS.mono_l : ∀ k, (∀ y0 y1 y2, LeO (laws_eqArgS.l0 k y0 y1 y2) (laws_eqArgS.l0 (k + 1) y0 y1 y2))
  | 0 => fun _ _ _ r h => by simp [laws_eqArgS.l0] at h
  | k + 1 => by
    have ih0 := laws_eqArgS.mono_l k
    · intro y0 y1 y2
      unfold laws_eqArgS.l0
      repeat' first
      | (with_reducible exact ih0 _ _ _)
      | (with_reducible exact laws_eqArg.mono _ _ _ _ _ _ _ _ _ _ _)
      | (with_reducible exact LeO.refl _)
      | (with_reducible exact LeO.none _)
      | (with_reducible refine LeO.ite ?_ ?_)
      | (with_reducible refine LeO.bind ?_ (fun _ => ?_))
      | exact ih0 _ _ _
      | exact laws_eqArg.mono _ _ _ _ _ _ _ _ _ _ _
      | exact LeO.none _
      | refine LeO.ite ?_ ?_
      | refine LeO.bind ?_ (fun _ => ?_)
theorem laws_eqArgS.mono : ∀ a0 a1 k, LeO (laws_eqArgS.f k a0 a1) (laws_eqArgS.f (k + 1) a0 a1) := by
  intro a0 a1 k
  have ih0 := laws_eqArgS.mono_l k
  unfold laws_eqArgS.f
  repeat' first
      | (with_reducible exact ih0 _ _ _)
      | (with_reducible exact laws_eqArg.mono _ _ _ _ _ _ _ _ _ _ _)
      | (with_reducible exact LeO.refl _)
      | (with_reducible exact LeO.none _)
      | (with_reducible refine LeO.ite ?_ ?_)
      | (with_reducible refine LeO.bind ?_ (fun _ => ?_))
      | exact ih0 _ _ _
      | exact laws_eqArg.mono _ _ _ _ _ _ _ _ _ _ _
      | exact LeO.none _
      | refine LeO.ite ?_ ?_
      | refine LeO.bind ?_ (fun _ => ?_)
def laws_eqArgS.T6 : Bool × List (List Nat × List Nat) := (true, [([], []), ([], []), ([0, 1], [0, 1]), ([2], [2]), ([], []), ([], []), ([4, 5], [4, 5]), ([6], [6]), ([3, 7], [3, 7]), ([8], [8])])
def laws_eqArgS.B6 : List Nat := [0, 0, 3, 7, 0, 0, 48, 112, 255, 511]
theorem laws_eqArgS.tab6 : rtab .any (opsOf Tryd.f22 6) = laws_eqArgS.T6 := by kernel_rfl
theorem laws_eqArgS.bits6 : waitsOk laws_eqArgS.T6.2 laws_eqArgS.B6 = true := by kernel_rfl
set_option maxHeartbeats 8000000 in
set_option maxRecDepth 100000 in
theorem laws_eqArgS.calls (k : Nat) (A0 : Option Addr) (c0 : Nat) (l0 : List (S70)) (A1 : Option Addr) (c1 : Nat) (l1 : List (S70)) (r : Bool) (w : World) (hr0 : Kd.C k70 w A0 l0.length l0) (hc0 : l0.length ≤ c0) (hr1 : Kd.C k70 w A1 l1.length l1) (hc1 : l1.length ≤ c1) (h : laws_eqArgS.f k l0 l1 = some r) :
    Calls Tryd.prog 22 #[.slice A0 l0.length c0, .slice A1 l1.length c1] w fun e w' => e = .returned (.bool r) ∧ Below w.heap.size w w' := by
  have hu70 := Tryd.underlying70
  have HR0 := Aside0.mk hr0
  have HC0 := Aside0.mk hc0
  clear hr0 hc0
  have HR1 := Aside0.mk hr1
  have HC1 := Aside0.mk hc1
  clear hr1 hc1
  have HB := Aside0.mk (Below.refl w.heap.size w)
  have H : (if (l0.length : Int) = (l1.length : Int) then (laws_eqArgS.l0 k l0 l1 0) else (some false)) = some r := h
  clear h
  by_cases c3 : (l0.length : Int) = (l1.length : Int)
  · rw [if_pos c3] at H
    have c3b0 : ((l0.length : Int) == (l1.length : Int)) = true := beq_iff_eq.mpr c3
    have c3b1 : ((l0.length : Int) != (l1.length : Int)) = false := bne_eq_false_iff_eq.mpr c3
    have c3b2 : (l0.length == l1.length) = true := by first | simpa using c3 | (simp at c3 ⊢; omega)
    clear c3
    have H' := Aside0.mk H
    clear H
    go_enter Tryd.func22, Tryd.ntmps22
    go_wp2
    go_loopg [5] k (fun kq v5 w' => ∃ (x5_1 : Int), v5 = .int .i64 x5_1 ∧ Aside0 (laws_eqArgS.l0 kq l0 l1 x5_1 = some r) ∧ Aside0 (kq ≤ k) ∧ Aside0 (Below w.heap.size w w'))
    case atStart => exact ⟨(0), enA, H', ⟨Nat.le_refl _⟩, ⟨belB HB⟩⟩
    case round =>
      clear H'
      try clear c1
      try clear c2
      try clear p2
      try clear c3
      try clear c3b0
      try clear c3b1
      try clear c3b2
      obtain ⟨x5_1, rfl, HA, HK1, HB⟩ := hrel
      cases gk with
      | zero => exact absurd HA.out (by simp [laws_eqArgS.l0])
      | succ k1 =>
        have H := HA.out
        clear HA
        simp only [laws_eqArgS.l0] at H
        by_cases c4 : x5_1 < (l0.length : Int)
        · rw [if_pos c4] at H
          have c4b0 : decide (x5_1 < (l0.length : Int)) = true := decide_eq_true c4
          clear c4
          by_cases c5 : 0 ≤ x5_1
          · rw [if_pos c5] at H
            have c5b0 : decide (0 ≤ x5_1) = true := decide_eq_true c5
            clear c5
            by_cases c6 : x5_1 < (l1.length : Int)
            · rw [if_pos c6] at H
              have c6b0 : decide (x5_1 < (l1.length : Int)) = true := decide_eq_true c6
              clear c6
              replace H := Option.bind_eq_some_iff.mp H
              obtain ⟨t293, A70, H⟩ := H
              replace H : (if t293 = true then (laws_eqArgS.l0 k1 l0 l1 (wrap64 (x5_1 + 1))) else (some false)) = some r := H
              have A7 := Aside0.mk A70
              clear A70
              by_cases c8 : t293 = true
              · subst c8
                have H1 : (laws_eqArgS.l0 k1 l0 l1 (wrap64 (x5_1 + 1))) = some r := by rw [if_pos rfl] at H; exact H
                clear H
                have H := H1
                clear H1
                have H' := Aside0.mk H
                clear H
                try go_wp2
                have n0_ := Aside0.mk (below_drew1 HB.out)
                clear HB
                have HB := n0_
                clear n0_
                have p291 : 0 ≤ (x5_1 : Int) := odA
                have q291 : x5_1 < (l0.length : Int) := odA
                obtain ⟨ad291, A291_3, c291_3, A291_4, c291_4, e291, hx291_0, hx291_1, hx291_2, hx291_3, hx291_4, hl291_3, hi291_3, hl291_4, hi291_4⟩ := at_T70 HR0.out x5_1 p291 q291
                have hw291_4 := hx291_4
                have hw291_3 := hx291_3
                have hw291_2 := hx291_2
                have hw291_1 := hx291_1
                have hw291_0 := hx291_0
                cases e291
                (try replace hx291_0 := (HB.out.cell (World.block_lt_of_cell? w _ hx291_0)).trans hx291_0)
                (try replace hx291_1 := (HB.out.cell (World.block_lt_of_cell? w _ hx291_1)).trans hx291_1)
                (try replace hx291_2 := (HB.out.cell (World.block_lt_of_cell? w _ hx291_2)).trans hx291_2)
                (try replace hx291_3 := (HB.out.cell (World.block_lt_of_cell? w _ hx291_3)).trans hx291_3)
                (try replace hx291_4 := (HB.out.cell (World.block_lt_of_cell? w _ hx291_4)).trans hx291_4)
                have HR291_3 := Aside0.mk hi291_3
                have HC291_3 := Aside0.mk hl291_3
                clear hi291_3 hl291_3
                have HR291_4 := Aside0.mk hi291_4
                have HC291_4 := Aside0.mk hl291_4
                clear hi291_4 hl291_4
                replace p291 := eq_true p291
                replace q291 := eq_true q291
                have p292 : 0 ≤ (x5_1 : Int) := odA
                have q292 : x5_1 < (l1.length : Int) := odA
                obtain ⟨ad292, A292_3, c292_3, A292_4, c292_4, e292, hx292_0, hx292_1, hx292_2, hx292_3, hx292_4, hl292_3, hi292_3, hl292_4, hi292_4⟩ := at_T70 HR1.out x5_1 p292 q292
                have hw292_4 := hx292_4
                have hw292_3 := hx292_3
                have hw292_2 := hx292_2
                have hw292_1 := hx292_1
                have hw292_0 := hx292_0
                cases e292
                (try replace hx292_0 := (HB.out.cell (World.block_lt_of_cell? w _ hx292_0)).trans hx292_0)
                (try replace hx292_1 := (HB.out.cell (World.block_lt_of_cell? w _ hx292_1)).trans hx292_1)
                (try replace hx292_2 := (HB.out.cell (World.block_lt_of_cell? w _ hx292_2)).trans hx292_2)
                (try replace hx292_3 := (HB.out.cell (World.block_lt_of_cell? w _ hx292_3)).trans hx292_3)
                (try replace hx292_4 := (HB.out.cell (World.block_lt_of_cell? w _ hx292_4)).trans hx292_4)
                have HR292_3 := Aside0.mk hi292_3
                have HC292_3 := Aside0.mk hl292_3
                clear hi292_3 hl292_3
                have HR292_4 := Aside0.mk hi292_4
                have HC292_4 := Aside0.mk hl292_4
                clear hi292_4 hl292_4
                replace p292 := eq_true p292
                replace q292 := eq_true q292
                refine start_ (n := 10) (S := fun w' => w'.cell? (ad291.add ((x5_1).toNat * 5)) = some (.string ((rd_T70 l0 x5_1).f0)) ∧ w'.cell? ⟨(ad291.add ((x5_1).toNat * 5)).block, (ad291.add ((x5_1).toNat * 5)).off + 1, none⟩ = some (.int .i64 ((rd_T70 l0 x5_1).f1.f0)) ∧ w'.cell? ⟨(ad291.add ((x5_1).toNat * 5)).block, (ad291.add ((x5_1).toNat * 5)).off + 2, none⟩ = some (.string ((rd_T70 l0 x5_1).f1.f1)) ∧ w'.cell? ⟨(ad291.add ((x5_1).toNat * 5)).block, (ad291.add ((x5_1).toNat * 5)).off + 3, none⟩ = some (.slice A291_3 ((rd_T70 l0 x5_1).f1.f2).length c291_3) ∧ w'.cell? ⟨(ad291.add ((x5_1).toNat * 5)).block, (ad291.add ((x5_1).toNat * 5)).off + 4, none⟩ = some (.slice A291_4 ((rd_T70 l0 x5_1).f1.f3).length c291_4) ∧ w'.cell? (ad292.add ((x5_1).toNat * 5)) = some (.string ((rd_T70 l1 x5_1).f0)) ∧ w'.cell? ⟨(ad292.add ((x5_1).toNat * 5)).block, (ad292.add ((x5_1).toNat * 5)).off + 1, none⟩ = some (.int .i64 ((rd_T70 l1 x5_1).f1.f0)) ∧ w'.cell? ⟨(ad292.add ((x5_1).toNat * 5)).block, (ad292.add ((x5_1).toNat * 5)).off + 2, none⟩ = some (.string ((rd_T70 l1 x5_1).f1.f1)) ∧ w'.cell? ⟨(ad292.add ((x5_1).toNat * 5)).block, (ad292.add ((x5_1).toNat * 5)).off + 3, none⟩ = some (.slice A292_3 ((rd_T70 l1 x5_1).f1.f2).length c292_3) ∧ w'.cell? ⟨(ad292.add ((x5_1).toNat * 5)).block, (ad292.add ((x5_1).toNat * 5)).off + 4, none⟩ = some (.slice A292_4 ((rd_T70 l1 x5_1).f1.f3).length c292_4)) (ds := []) #[false, false, false, false, false, false, false, false, false, false] (by kernel_rfl) rfl rfl ⟨((HB.out.cell (World.block_lt_of_cell? w _ hw291_0)).trans hw291_0), ((HB.out.cell (World.block_lt_of_cell? w _ hw291_1)).trans hw291_1), ((HB.out.cell (World.block_lt_of_cell? w _ hw291_2)).trans hw291_2), ((HB.out.cell (World.block_lt_of_cell? w _ hw291_3)).trans hw291_3), ((HB.out.cell (World.block_lt_of_cell? w _ hw291_4)).trans hw291_4), ((HB.out.cell (World.block_lt_of_cell? w _ hw292_0)).trans hw292_0), ((HB.out.cell (World.block_lt_of_cell? w _ hw292_1)).trans hw292_1), ((HB.out.cell (World.block_lt_of_cell? w _ hw292_2)).trans hw292_2), ((HB.out.cell (World.block_lt_of_cell? w _ hw292_3)).trans hw292_3), ((HB.out.cell (World.block_lt_of_cell? w _ hw292_4)).trans hw292_4)⟩ (fun hHeld => ?_); refine with_tabW laws_eqArgS.tab6 laws_eqArgS.bits6 (fun HT_ HW_ => ?_)
                generalize wr.drew = w9 at HB HR291_3 HR291_4 HR292_3 HR292_4 hx291_0 hx291_1 hx291_2 hx291_3 hx291_4 hx292_0 hx292_1 hx292_2 hx292_3 hx292_4 hHeld ⊢
                refine pure_ (i := 0) (N := some 17) (v := ?_) (a' := ?_) #[true, false, false, false, false, false, false, false, false, false] rfl rfl (any_of HT_.out (by kernel_rfl)) (fun _ _ _ h => h) (Or.inl ⟨by rfl, ?_⟩) ?_ ?_
                rotate_left
                · intro w'
                  go_simp
                  with_reducible rfl
                rotate_left
                · simp only [Act.put, List.setIfInBounds_toArray, List.set_cons_zero, List.set_cons_succ, i64_w, i32_w]
                  rfl
                refine pure_ (i := 1) (N := some 18) (v := ?_) (a' := ?_) #[true, true, false, false, false, false, false, false, false, false] rfl rfl (any_of HT_.out (by kernel_rfl)) (fun _ _ _ h => h) (Or.inl ⟨by rfl, ?_⟩) ?_ ?_
                rotate_left
                · intro w'
                  go_simp
                  with_reducible rfl
                rotate_left
                · simp only [Act.put, List.setIfInBounds_toArray, List.set_cons_zero, List.set_cons_succ, i64_w, i32_w]
                  rfl
                refine pure_ (i := 2) (N := some 19) (v := ?_) (a' := ?_) #[true, true, true, false, false, false, false, false, false, false] rfl rfl (any_of HT_.out (by kernel_rfl)) (fun _ _ _ h => h) (Or.inl ⟨by rfl, ?_⟩) ?_ ?_
                rotate_left
                · intro w'
                  go_simp
                  with_reducible rfl
                rotate_left
                · simp only [Act.put, List.setIfInBounds_toArray, List.set_cons_zero, List.set_cons_succ, i64_w, i32_w]
                  rfl
                refine pure_ (i := 4) (N := some 21) (v := ?_) (a' := ?_) #[true, true, true, false, true, false, false, false, false, false] rfl rfl (any_of HT_.out (by kernel_rfl)) (fun _ _ _ h => h) (Or.inl ⟨by rfl, ?_⟩) ?_ ?_
                rotate_left
                · intro w'
                  go_simp
                  with_reducible rfl
                rotate_left
                · simp only [Act.put, List.setIfInBounds_toArray, List.set_cons_zero, List.set_cons_succ, i64_w, i32_w]
                  rfl
                refine pure_ (i := 5) (N := some 22) (v := ?_) (a' := ?_) #[true, true, true, false, true, true, false, false, false, false] rfl rfl (any_of HT_.out (by kernel_rfl)) (fun _ _ _ h => h) (Or.inl ⟨by rfl, ?_⟩) ?_ ?_
                rotate_left
                · intro w'
                  go_simp
                  with_reducible rfl
                rotate_left
                · simp only [Act.put, List.setIfInBounds_toArray, List.set_cons_zero, List.set_cons_succ, i64_w, i32_w]
                  rfl
                refine pure_ (i := 6) (N := some 23) (v := ?_) (a' := ?_) #[true, true, true, false, true, true, true, false, false, false] rfl rfl (any_of HT_.out (by kernel_rfl)) (fun _ _ _ h => h) (Or.inl ⟨by rfl, ?_⟩) ?_ ?_
                rotate_left
                · intro w'
                  go_simp
                  with_reducible rfl
                rotate_left
                · simp only [Act.put, List.setIfInBounds_toArray, List.set_cons_zero, List.set_cons_succ, i64_w, i32_w]
                  rfl
                refine take_ (i := 3) (N := some 20) (v := ?_) (a' := ?_) #[true, true, true, true, true, true, true, false, false, false] rfl rfl (take_ofW HT_.out HW_.out (by kernel_rfl)) (fun _ _ _ h => h) (Or.inl ⟨by rfl, ?_⟩) hHeld ?_ ?_
                rotate_left
                · rintro w' ⟨s0, s1, s2, s3, s4, s5, s6, s7, s8, s9⟩
                  go_simp
                  with_reducible rfl
                rotate_left
                · simp only [Act.put, List.setIfInBounds_toArray, List.set_cons_zero, List.set_cons_succ, i64_w, i32_w]
                  rfl
                refine take_ (i := 7) (N := some 24) (v := ?_) (a' := ?_) #[true, true, true, true, true, true, true, true, false, false] rfl rfl (take_ofW HT_.out HW_.out (by kernel_rfl)) (fun _ _ _ h => h) (Or.inl ⟨by rfl, ?_⟩) hHeld ?_ ?_
                rotate_left
                · rintro w' ⟨s0, s1, s2, s3, s4, s5, s6, s7, s8, s9⟩
                  go_simp
                  with_reducible rfl
                rotate_left
                · simp only [Act.put, List.setIfInBounds_toArray, List.set_cons_zero, List.set_cons_succ, i64_w, i32_w]
                  rfl
                refine one_ (i := 8) (N := some 25) #[true, true, true, true, true, true, true, true, true, false] rfl rfl (one_of HT_.out (by kernel_rfl)) (by decide) (fun K hK => ?_)
                refine goes_ Tryd.func54 (by kernel_rfl) rfl #[.agg #[.string ((rd_T70 l0 x5_1).f0), .int .i64 ((rd_T70 l0 x5_1).f1.f0), .string ((rd_T70 l0 x5_1).f1.f1), .slice A291_3 ((rd_T70 l0 x5_1).f1.f2).length c291_3, .slice A291_4 ((rd_T70 l0 x5_1).f1.f3).length c291_4], .agg #[.string ((rd_T70 l1 x5_1).f0), .int .i64 ((rd_T70 l1 x5_1).f1.f0), .string ((rd_T70 l1 x5_1).f1.f1), .slice A292_3 ((rd_T70 l1 x5_1).f1.f2).length c292_3, .slice A292_4 ((rd_T70 l1 x5_1).f1.f3).length c292_4]] (by rfl) rfl rfl mapA ?_
                with_reducible refine (laws_eqArg.calls k1 ((rd_T70 l0 x5_1).f0) ((rd_T70 l0 x5_1).f1.f0) ((rd_T70 l0 x5_1).f1.f1) _ _ ((rd_T70 l0 x5_1).f1.f2) _ _ ((rd_T70 l0 x5_1).f1.f3) ((rd_T70 l1 x5_1).f0) ((rd_T70 l1 x5_1).f1.f0) ((rd_T70 l1 x5_1).f1.f1) _ _ ((rd_T70 l1 x5_1).f1.f2) _ _ ((rd_T70 l1 x5_1).f1.f3) true _ ?side1 ?side2 ?side3 ?side4 ?side5 ?side6 ?side7 ?side8 A7.out).mono ?_
                (case side1 => exact cbA HR291_3 HB)
                (case side2 => exact HC291_3.out)
                (case side3 => exact cbA HR291_4 HB)
                (case side4 => exact HC291_4.out)
                (case side5 => exact cbA HR292_3 HB)
                (case side6 => exact HC292_3.out)
                (case side7 => exact cbA HR292_4 HB)
                (case side8 => exact HC292_4.out)
                rintro e w10 ⟨rfl, hb⟩
                refine ⟨_, rfl, ?_⟩
                have n0_ := Aside0.mk (below_step (belB HB) hb)
                clear HB
                have HB := n0_
                clear n0_
                (try clear hb)
                (try clear hb2)
                (try clear hk)
                (try clear hi)
                refine hK.out _ _ ⟨((HB.out.cell (World.block_lt_of_cell? w _ hw291_0)).trans hw291_0), ((HB.out.cell (World.block_lt_of_cell? w _ hw291_1)).trans hw291_1), ((HB.out.cell (World.block_lt_of_cell? w _ hw291_2)).trans hw291_2), ((HB.out.cell (World.block_lt_of_cell? w _ hw291_3)).trans hw291_3), ((HB.out.cell (World.block_lt_of_cell? w _ hw291_4)).trans hw291_4), ((HB.out.cell (World.block_lt_of_cell? w _ hw292_0)).trans hw292_0), ((HB.out.cell (World.block_lt_of_cell? w _ hw292_1)).trans hw292_1), ((HB.out.cell (World.block_lt_of_cell? w _ hw292_2)).trans hw292_2), ((HB.out.cell (World.block_lt_of_cell? w _ hw292_3)).trans hw292_3), ((HB.out.cell (World.block_lt_of_cell? w _ hw292_4)).trans hw292_4)⟩ (fun hHeld => ?_)
                clear hK K
                refine norm_ (a' := ?_) ?_ ?_
                rotate_left
                · show Act.put _ (some 25) _ = _
                  simp only [Act.put, List.setIfInBounds_toArray, List.set_cons_zero, List.set_cons_succ, i64_w, i32_w]
                  rfl
                refine pure_ (i := 9) (N := some 26) (v := ?_) (a' := ?_) #[true, true, true, true, true, true, true, true, true, true] rfl rfl (any_of HT_.out (by kernel_rfl)) (fun _ _ _ h => h) (Or.inl ⟨by rfl, ?_⟩) ?_ ?_
                rotate_left
                · intro w'
                  go_simp
                  with_reducible rfl
                rotate_left
                · simp only [Act.put, List.setIfInBounds_toArray, List.set_cons_zero, List.set_cons_succ, i64_w, i32_w]
                  rfl
                refine done_ (done_of HT_.out (by kernel_rfl)) ?_
                try go_wp2
                go_roundg k1
                case measure => have := HK1.out; omega
                case rel => exact ⟨(wrap64 (x5_1 + 1)), enA, H', ⟨by have := HK1.out; omega⟩, ⟨belB HB⟩⟩
              · replace c8 := Bool.eq_false_iff.mpr c8
                subst c8
                have H1 : (some false) = some r := by rw [if_neg (show ¬ (false = true) by decide)] at H; exact H
                clear H
                have H := H1
                clear H1
                obtain rfl := Option.some.inj H
                try go_wp2
                have n0_ := Aside0.mk (below_drew1 HB.out)
                clear HB
                have HB := n0_
                clear n0_
                have p291 : 0 ≤ (x5_1 : Int) := odA
                have q291 : x5_1 < (l0.length : Int) := odA
                obtain ⟨ad291, A291_3, c291_3, A291_4, c291_4, e291, hx291_0, hx291_1, hx291_2, hx291_3, hx291_4, hl291_3, hi291_3, hl291_4, hi291_4⟩ := at_T70 HR0.out x5_1 p291 q291
                have hw291_4 := hx291_4
                have hw291_3 := hx291_3
                have hw291_2 := hx291_2
                have hw291_1 := hx291_1
                have hw291_0 := hx291_0
                cases e291
                (try replace hx291_0 := (HB.out.cell (World.block_lt_of_cell? w _ hx291_0)).trans hx291_0)
                (try replace hx291_1 := (HB.out.cell (World.block_lt_of_cell? w _ hx291_1)).trans hx291_1)
                (try replace hx291_2 := (HB.out.cell (World.block_lt_of_cell? w _ hx291_2)).trans hx291_2)
                (try replace hx291_3 := (HB.out.cell (World.block_lt_of_cell? w _ hx291_3)).trans hx291_3)
                (try replace hx291_4 := (HB.out.cell (World.block_lt_of_cell? w _ hx291_4)).trans hx291_4)
                have HR291_3 := Aside0.mk hi291_3
                have HC291_3 := Aside0.mk hl291_3
                clear hi291_3 hl291_3
                have HR291_4 := Aside0.mk hi291_4
                have HC291_4 := Aside0.mk hl291_4
                clear hi291_4 hl291_4
                replace p291 := eq_true p291
                replace q291 := eq_true q291
                have p292 : 0 ≤ (x5_1 : Int) := odA
                have q292 : x5_1 < (l1.length : Int) := odA
                obtain ⟨ad292, A292_3, c292_3, A292_4, c292_4, e292, hx292_0, hx292_1, hx292_2, hx292_3, hx292_4, hl292_3, hi292_3, hl292_4, hi292_4⟩ := at_T70 HR1.out x5_1 p292 q292
                have hw292_4 := hx292_4
                have hw292_3 := hx292_3
                have hw292_2 := hx292_2
                have hw292_1 := hx292_1
                have hw292_0 := hx292_0
                cases e292
                (try replace hx292_0 := (HB.out.cell (World.block_lt_of_cell? w _ hx292_0)).trans hx292_0)
                (try replace hx292_1 := (HB.out.cell (World.block_lt_of_cell? w _ hx292_1)).trans hx292_1)
                (try replace hx292_2 := (HB.out.cell (World.block_lt_of_cell? w _ hx292_2)).trans hx292_2)
                (try replace hx292_3 := (HB.out.cell (World.block_lt_of_cell? w _ hx292_3)).trans hx292_3)
                (try replace hx292_4 := (HB.out.cell (World.block_lt_of_cell? w _ hx292_4)).trans hx292_4)
                have HR292_3 := Aside0.mk hi292_3
                have HC292_3 := Aside0.mk hl292_3
                clear hi292_3 hl292_3
                have HR292_4 := Aside0.mk hi292_4
                have HC292_4 := Aside0.mk hl292_4
                clear hi292_4 hl292_4
                replace p292 := eq_true p292
                replace q292 := eq_true q292
                refine start_ (n := 10) (S := fun w' => w'.cell? (ad291.add ((x5_1).toNat * 5)) = some (.string ((rd_T70 l0 x5_1).f0)) ∧ w'.cell? ⟨(ad291.add ((x5_1).toNat * 5)).block, (ad291.add ((x5_1).toNat * 5)).off + 1, none⟩ = some (.int .i64 ((rd_T70 l0 x5_1).f1.f0)) ∧ w'.cell? ⟨(ad291.add ((x5_1).toNat * 5)).block, (ad291.add ((x5_1).toNat * 5)).off + 2, none⟩ = some (.string ((rd_T70 l0 x5_1).f1.f1)) ∧ w'.cell? ⟨(ad291.add ((x5_1).toNat * 5)).block, (ad291.add ((x5_1).toNat * 5)).off + 3, none⟩ = some (.slice A291_3 ((rd_T70 l0 x5_1).f1.f2).length c291_3) ∧ w'.cell? ⟨(ad291.add ((x5_1).toNat * 5)).block, (ad291.add ((x5_1).toNat * 5)).off + 4, none⟩ = some (.slice A291_4 ((rd_T70 l0 x5_1).f1.f3).length c291_4) ∧ w'.cell? (ad292.add ((x5_1).toNat * 5)) = some (.string ((rd_T70 l1 x5_1).f0)) ∧ w'.cell? ⟨(ad292.add ((x5_1).toNat * 5)).block, (ad292.add ((x5_1).toNat * 5)).off + 1, none⟩ = some (.int .i64 ((rd_T70 l1 x5_1).f1.f0)) ∧ w'.cell? ⟨(ad292.add ((x5_1).toNat * 5)).block, (ad292.add ((x5_1).toNat * 5)).off + 2, none⟩ = some (.string ((rd_T70 l1 x5_1).f1.f1)) ∧ w'.cell? ⟨(ad292.add ((x5_1).toNat * 5)).block, (ad292.add ((x5_1).toNat * 5)).off + 3, none⟩ = some (.slice A292_3 ((rd_T70 l1 x5_1).f1.f2).length c292_3) ∧ w'.cell? ⟨(ad292.add ((x5_1).toNat * 5)).block, (ad292.add ((x5_1).toNat * 5)).off + 4, none⟩ = some (.slice A292_4 ((rd_T70 l1 x5_1).f1.f3).length c292_4)) (ds := []) #[false, false, false, false, false, false, false, false, false, false] (by kernel_rfl) rfl rfl ⟨((HB.out.cell (World.block_lt_of_cell? w _ hw291_0)).trans hw291_0), ((HB.out.cell (World.block_lt_of_cell? w _ hw291_1)).trans hw291_1), ((HB.out.cell (World.block_lt_of_cell? w _ hw291_2)).trans hw291_2), ((HB.out.cell (World.block_lt_of_cell? w _ hw291_3)).trans hw291_3), ((HB.out.cell (World.block_lt_of_cell? w _ hw291_4)).trans hw291_4), ((HB.out.cell (World.block_lt_of_cell? w _ hw292_0)).trans hw292_0), ((HB.out.cell (World.block_lt_of_cell? w _ hw292_1)).trans hw292_1), ((HB.out.cell (World.block_lt_of_cell? w _ hw292_2)).trans hw292_2), ((HB.out.cell (World.block_lt_of_cell? w _ hw292_3)).trans hw292_3), ((HB.out.cell (World.block_lt_of_cell? w _ hw292_4)).trans hw292_4)⟩ (fun hHeld => ?_); refine with_tabW laws_eqArgS.tab6 laws_eqArgS.bits6 (fun HT_ HW_ => ?_)
                generalize wr.drew = w11 at HB HR291_3 HR291_4 HR292_3 HR292_4 hx291_0 hx291_1 hx291_2 hx291_3 hx291_4 hx292_0 hx292_1 hx292_2 hx292_3 hx292_4 hHeld ⊢
                refine pure_ (i := 0) (N := some 17) (v := ?_) (a' := ?_) #[true, false, false, false, false, false, false, false, false, false] rfl rfl (any_of HT_.out (by kernel_rfl)) (fun _ _ _ h => h) (Or.inl ⟨by rfl, ?_⟩) ?_ ?_
                rotate_left
                · intro w'
                  go_simp
                  with_reducible rfl
                rotate_left
                · simp only [Act.put, List.setIfInBounds_toArray, List.set_cons_zero, List.set_cons_succ, i64_w, i32_w]
                  rfl
                refine pure_ (i := 1) (N := some 18) (v := ?_) (a' := ?_) #[true, true, false, false, false, false, false, false, false, false] rfl rfl (any_of HT_.out (by kernel_rfl)) (fun _ _ _ h => h) (Or.inl ⟨by rfl, ?_⟩) ?_ ?_
                rotate_left
                · intro w'
                  go_simp
                  with_reducible rfl
                rotate_left
                · simp only [Act.put, List.setIfInBounds_toArray, List.set_cons_zero, List.set_cons_succ, i64_w, i32_w]
                  rfl
                refine pure_ (i := 2) (N := some 19) (v := ?_) (a' := ?_) #[true, true, true, false, false, false, false, false, false, false] rfl rfl (any_of HT_.out (by kernel_rfl)) (fun _ _ _ h => h) (Or.inl ⟨by rfl, ?_⟩) ?_ ?_
                rotate_left
                · intro w'
                  go_simp
                  with_reducible rfl
                rotate_left
                · simp only [Act.put, List.setIfInBounds_toArray, List.set_cons_zero, List.set_cons_succ, i64_w, i32_w]
                  rfl
                refine pure_ (i := 4) (N := some 21) (v := ?_) (a' := ?_) #[true, true, true, false, true, false, false, false, false, false] rfl rfl (any_of HT_.out (by kernel_rfl)) (fun _ _ _ h => h) (Or.inl ⟨by rfl, ?_⟩) ?_ ?_
                rotate_left
                · intro w'
                  go_simp
                  with_reducible rfl
                rotate_left
                · simp only [Act.put, List.setIfInBounds_toArray, List.set_cons_zero, List.set_cons_succ, i64_w, i32_w]
                  rfl
                refine pure_ (i := 5) (N := some 22) (v := ?_) (a' := ?_) #[true, true, true, false, true, true, false, false, false, false] rfl rfl (any_of HT_.out (by kernel_rfl)) (fun _ _ _ h => h) (Or.inl ⟨by rfl, ?_⟩) ?_ ?_
                rotate_left
                · intro w'
                  go_simp
                  with_reducible rfl
                rotate_left
                · simp only [Act.put, List.setIfInBounds_toArray, List.set_cons_zero, List.set_cons_succ, i64_w, i32_w]
                  rfl
                refine pure_ (i := 6) (N := some 23) (v := ?_) (a' := ?_) #[true, true, true, false, true, true, true, false, false, false] rfl rfl (any_of HT_.out (by kernel_rfl)) (fun _ _ _ h => h) (Or.inl ⟨by rfl, ?_⟩) ?_ ?_
                rotate_left
                · intro w'
                  go_simp
                  with_reducible rfl
                rotate_left
                · simp only [Act.put, List.setIfInBounds_toArray, List.set_cons_zero, List.set_cons_succ, i64_w, i32_w]
                  rfl
                refine take_ (i := 3) (N := some 20) (v := ?_) (a' := ?_) #[true, true, true, true, true, true, true, false, false, false] rfl rfl (take_ofW HT_.out HW_.out (by kernel_rfl)) (fun _ _ _ h => h) (Or.inl ⟨by rfl, ?_⟩) hHeld ?_ ?_
                rotate_left
                · rintro w' ⟨s0, s1, s2, s3, s4, s5, s6, s7, s8, s9⟩
                  go_simp
                  with_reducible rfl
                rotate_left
                · simp only [Act.put, List.setIfInBounds_toArray, List.set_cons_zero, List.set_cons_succ, i64_w, i32_w]
                  rfl
                refine take_ (i := 7) (N := some 24) (v := ?_) (a' := ?_) #[true, true, true, true, true, true, true, true, false, false] rfl rfl (take_ofW HT_.out HW_.out (by kernel_rfl)) (fun _ _ _ h => h) (Or.inl ⟨by rfl, ?_⟩) hHeld ?_ ?_
                rotate_left
                · rintro w' ⟨s0, s1, s2, s3, s4, s5, s6, s7, s8, s9⟩
                  go_simp
                  with_reducible rfl
                rotate_left
                · simp only [Act.put, List.setIfInBounds_toArray, List.set_cons_zero, List.set_cons_succ, i64_w, i32_w]
                  rfl
                refine one_ (i := 8) (N := some 25) #[true, true, true, true, true, true, true, true, true, false] rfl rfl (one_of HT_.out (by kernel_rfl)) (by decide) (fun K hK => ?_)
                refine goes_ Tryd.func54 (by kernel_rfl) rfl #[.agg #[.string ((rd_T70 l0 x5_1).f0), .int .i64 ((rd_T70 l0 x5_1).f1.f0), .string ((rd_T70 l0 x5_1).f1.f1), .slice A291_3 ((rd_T70 l0 x5_1).f1.f2).length c291_3, .slice A291_4 ((rd_T70 l0 x5_1).f1.f3).length c291_4], .agg #[.string ((rd_T70 l1 x5_1).f0), .int .i64 ((rd_T70 l1 x5_1).f1.f0), .string ((rd_T70 l1 x5_1).f1.f1), .slice A292_3 ((rd_T70 l1 x5_1).f1.f2).length c292_3, .slice A292_4 ((rd_T70 l1 x5_1).f1.f3).length c292_4]] (by rfl) rfl rfl mapA ?_
                with_reducible refine (laws_eqArg.calls k1 ((rd_T70 l0 x5_1).f0) ((rd_T70 l0 x5_1).f1.f0) ((rd_T70 l0 x5_1).f1.f1) _ _ ((rd_T70 l0 x5_1).f1.f2) _ _ ((rd_T70 l0 x5_1).f1.f3) ((rd_T70 l1 x5_1).f0) ((rd_T70 l1 x5_1).f1.f0) ((rd_T70 l1 x5_1).f1.f1) _ _ ((rd_T70 l1 x5_1).f1.f2) _ _ ((rd_T70 l1 x5_1).f1.f3) false _ ?side1 ?side2 ?side3 ?side4 ?side5 ?side6 ?side7 ?side8 A7.out).mono ?_
                (case side1 => exact cbA HR291_3 HB)
                (case side2 => exact HC291_3.out)
                (case side3 => exact cbA HR291_4 HB)
                (case side4 => exact HC291_4.out)
                (case side5 => exact cbA HR292_3 HB)
                (case side6 => exact HC292_3.out)
                (case side7 => exact cbA HR292_4 HB)
                (case side8 => exact HC292_4.out)
                rintro e w12 ⟨rfl, hb⟩
                refine ⟨_, rfl, ?_⟩
                have n0_ := Aside0.mk (below_step (belB HB) hb)
                clear HB
                have HB := n0_
                clear n0_
                (try clear hb)
                (try clear hb2)
                (try clear hk)
                (try clear hi)
                refine hK.out _ _ ⟨((HB.out.cell (World.block_lt_of_cell? w _ hw291_0)).trans hw291_0), ((HB.out.cell (World.block_lt_of_cell? w _ hw291_1)).trans hw291_1), ((HB.out.cell (World.block_lt_of_cell? w _ hw291_2)).trans hw291_2), ((HB.out.cell (World.block_lt_of_cell? w _ hw291_3)).trans hw291_3), ((HB.out.cell (World.block_lt_of_cell? w _ hw291_4)).trans hw291_4), ((HB.out.cell (World.block_lt_of_cell? w _ hw292_0)).trans hw292_0), ((HB.out.cell (World.block_lt_of_cell? w _ hw292_1)).trans hw292_1), ((HB.out.cell (World.block_lt_of_cell? w _ hw292_2)).trans hw292_2), ((HB.out.cell (World.block_lt_of_cell? w _ hw292_3)).trans hw292_3), ((HB.out.cell (World.block_lt_of_cell? w _ hw292_4)).trans hw292_4)⟩ (fun hHeld => ?_)
                clear hK K
                refine norm_ (a' := ?_) ?_ ?_
                rotate_left
                · show Act.put _ (some 25) _ = _
                  simp only [Act.put, List.setIfInBounds_toArray, List.set_cons_zero, List.set_cons_succ, i64_w, i32_w]
                  rfl
                refine pure_ (i := 9) (N := some 26) (v := ?_) (a' := ?_) #[true, true, true, true, true, true, true, true, true, true] rfl rfl (any_of HT_.out (by kernel_rfl)) (fun _ _ _ h => h) (Or.inl ⟨by rfl, ?_⟩) ?_ ?_
                rotate_left
                · intro w'
                  go_simp
                  with_reducible rfl
                rotate_left
                · simp only [Act.put, List.setIfInBounds_toArray, List.set_cons_zero, List.set_cons_succ, i64_w, i32_w]
                  rfl
                refine done_ (done_of HT_.out (by kernel_rfl)) ?_
                try go_wp2
                go_ret
                exact ⟨erA, belB HB⟩
            · rw [if_neg c6] at H
              exact absurd H (by simp)
          · rw [if_neg c5] at H
            exact absurd H (by simp)
        · rw [if_neg c4] at H
          have c4b0 : decide (x5_1 < (l0.length : Int)) = false := decide_eq_false c4
          clear c4
          obtain rfl := Option.some.inj H
          go_wp2
          go_ret
          exact ⟨erA, belB HB⟩
  · rw [if_neg c3] at H
    have c3b0 : ((l0.length : Int) == (l1.length : Int)) = false := beq_eq_false_iff_ne.mpr c3
    have c3b1 : ((l0.length : Int) != (l1.length : Int)) = true := bne_iff_ne.mpr c3
    have c3b2 : (l0.length == l1.length) = false := by first | simpa using c3 | (simp at c3 ⊢; omega)
    obtain rfl := Option.some.inj H
    go_enter Tryd.func22, Tryd.ntmps22
    go_wp2
    go_ret
    exact ⟨erA, belB HB⟩

/-! ### laws_FnExactArgsOk: function 5 -/
def laws_FnExactArgsOk.f (k : Nat) (l0 : List (S68)) : Option (Bool) := (laws_szArgS.f k l0 1048576).bind fun t294 => (if t294 < 0 then (some true) else ((laws_toArgS.f k l0).bind fun t295 => ((spec_ArgsOk.f k t295).bind fun t298 => ((laws_toArgS.f k l0).bind fun t299 => ((impl_ArgsOk.f k t299).bind fun t302 => (if (t302 != t298) = true then (some false) else ((laws_toArgS.f k l0).bind fun t303 => ((laws_eqArgS.f k t299 t303).bind fun t306 => (if t306 = true then (some true) else (some false))))))))))
theorem laws_FnExactArgsOk.mono : ∀ a0 k, LeO (laws_FnExactArgsOk.f k a0) (laws_FnExactArgsOk.f (k + 1) a0) := by
  intro a0 k
  unfold laws_FnExactArgsOk.f
  repeat' first
      | (with_reducible exact impl_ArgsOk.mono _ _)
      | (with_reducible exact laws_eqArgS.mono _ _ _)
      | (with_reducible exact laws_szArgS.mono _ _ _)
      | (with_reducible exact laws_toArgS.mono _ _)
      | (with_reducible exact spec_ArgsOk.mono _ _)
      | (with_reducible exact LeO.refl _)
      | (with_reducible exact LeO.none _)
      | (with_reducible refine LeO.ite ?_ ?_)
      | (with_reducible refine LeO.bind ?_ (fun _ => ?_))
      | exact impl_ArgsOk.mono _ _
      | exact laws_eqArgS.mono _ _ _
      | exact laws_szArgS.mono _ _ _
      | exact laws_toArgS.mono _ _
      | exact spec_ArgsOk.mono _ _
      | exact LeO.none _
      | refine LeO.ite ?_ ?_
      | refine LeO.bind ?_ (fun _ => ?_)
set_option maxHeartbeats 8000000 in
set_option maxRecDepth 100000 in
theorem laws_FnExactArgsOk.calls (k : Nat) (A0 : Option Addr) (c0 : Nat) (l0 : List (S68)) (r : Bool) (w : World) (hr0 : Kd.C k68 w A0 l0.length l0) (hc0 : l0.length ≤ c0) (hG : Gl w) (h : laws_FnExactArgsOk.f k l0 = some r) :
    Calls Tryd.prog 5 #[.slice A0 l0.length c0] w fun e w' => e = .returned (.bool r) ∧ Below w.heap.size w w' := by
  have HG := Aside0.mk hG
  clear hG
  have HR0 := Aside0.mk hr0
  have HC0 := Aside0.mk hc0
  clear hr0 hc0
  have HB := Aside0.mk (Below.refl w.heap.size w)
  have H : ((laws_szArgS.f k l0 1048576).bind fun t294 => (if t294 < 0 then (some true) else ((laws_toArgS.f k l0).bind fun t295 => ((spec_ArgsOk.f k t295).bind fun t298 => ((laws_toArgS.f k l0).bind fun t299 => ((impl_ArgsOk.f k t299).bind fun t302 => (if (t302 != t298) = true then (some false) else ((laws_toArgS.f k l0).bind fun t303 => ((laws_eqArgS.f k t299 t303).bind fun t306 => (if t306 = true then (some true) else (some false))))))))))) = some r := h
  clear h
  replace H := Option.bind_eq_some_iff.mp H
  obtain ⟨t294, A20, H⟩ := H
  replace H : (if t294 < 0 then (some true) else ((laws_toArgS.f k l0).bind fun t295 => ((spec_ArgsOk.f k t295).bind fun t298 => ((laws_toArgS.f k l0).bind fun t299 => ((impl_ArgsOk.f k t299).bind fun t302 => (if (t302 != t298) = true then (some false) else ((laws_toArgS.f k l0).bind fun t303 => ((laws_eqArgS.f k t299 t303).bind fun t306 => (if t306 = true then (some true) else (some false)))))))))) = some r := H
  have A2 := Aside0.mk A20
  clear A20
  by_cases c3 : t294 < 0
  · rw [if_pos c3] at H
    have c3b0 : decide (t294 < 0) = true := decide_eq_true c3
    clear c3
    obtain rfl := Option.some.inj H
    go_enter Tryd.func5, Tryd.ntmps5
    go_wp2_with (first | ((with_reducible refine gate_callee (f := 18) rfl ?_); refine goesL_ (some 9) rfl rfl Tryd.func18 (by kernel_rfl) rfl #[.slice A0 l0.length c0, .int .i64 1048576] rfl mapA ?_; (with_reducible refine (laws_szArgS.calls k _ _ l0 1048576 t294 _ ?side1 ?side2 A2.out).mono ?_); (case side1 => repeat (first | exact HR0.out | (with_reducible refine Kd.C_alloc ?_ _) | (with_reducible refine Kd.C_drewN ?_ _) | (with_reducible refine Kd.C_drew ?_))); (case side2 => exact HC0.out); rintro e w4 ⟨rfl, hb⟩; refine ⟨_, rfl, ?_⟩; have n0_ := Aside0.mk (below_step (belB HB) hb); clear HB; have HB := n0_; clear n0_; (try clear hb)))
    go_ret
    exact ⟨erA, belB HB⟩
  · rw [if_neg c3] at H
    have c3b0 : decide (t294 < 0) = false := decide_eq_false c3
    clear c3
    replace H := Option.bind_eq_some_iff.mp H
    obtain ⟨t295, A50, H⟩ := H
    replace H : ((spec_ArgsOk.f k t295).bind fun t298 => ((laws_toArgS.f k l0).bind fun t299 => ((impl_ArgsOk.f k t299).bind fun t302 => (if (t302 != t298) = true then (some false) else ((laws_toArgS.f k l0).bind fun t303 => ((laws_eqArgS.f k t299 t303).bind fun t306 => (if t306 = true then (some true) else (some false)))))))) = some r := H
    have A5 := Aside0.mk A50
    clear A50
    replace H := Option.bind_eq_some_iff.mp H
    obtain ⟨t298, A60, H⟩ := H
    replace H : ((laws_toArgS.f k l0).bind fun t299 => ((impl_ArgsOk.f k t299).bind fun t302 => (if (t302 != t298) = true then (some false) else ((laws_toArgS.f k l0).bind fun t303 => ((laws_eqArgS.f k t299 t303).bind fun t306 => (if t306 = true then (some true) else (some false))))))) = some r := H
    have A6 := Aside0.mk A60
    clear A60
    replace H := Option.bind_eq_some_iff.mp H
    obtain ⟨t299, A70, H⟩ := H
    replace H : ((impl_ArgsOk.f k t299).bind fun t302 => (if (t302 != t298) = true then (some false) else ((laws_toArgS.f k l0).bind fun t303 => ((laws_eqArgS.f k t299 t303).bind fun t306 => (if t306 = true then (some true) else (some false)))))) = some r := H
    have A7 := Aside0.mk A70
    clear A70
    replace H := Option.bind_eq_some_iff.mp H
    obtain ⟨t302, A80, H⟩ := H
    replace H : (if (t302 != t298) = true then (some false) else ((laws_toArgS.f k l0).bind fun t303 => ((laws_eqArgS.f k t299 t303).bind fun t306 => (if t306 = true then (some true) else (some false))))) = some r := H
    have A8 := Aside0.mk A80
    clear A80
    by_cases c9 : (t302 != t298) = true
    · rw [if_pos c9] at H
      have c9b0 : (t302 != t298) = true := c9
      (try (have c9b1 : decide (t302 = t298) = false := by simpa using c9))
      (try (have c9b2 : (t302 == t298) = false := by simpa using c9))
      (try (have c9b3 : ¬ (t302 = t298) := by simpa using c9))
      clear c9
      obtain rfl := Option.some.inj H
      go_enter Tryd.func5, Tryd.ntmps5
      go_wp2_with (first | ((with_reducible refine gate_callee (f := 18) rfl ?_); refine goesL_ (some 9) rfl rfl Tryd.func18 (by kernel_rfl) rfl #[.slice A0 l0.length c0, .int .i64 1048576] rfl mapA ?_; (with_reducible refine (laws_szArgS.calls k _ _ l0 1048576 t294 _ ?side1 ?side2 A2.out).mono ?_); (case side1 => repeat (first | exact HR0.out | (with_reducible refine Kd.C_alloc ?_ _) | (with_reducible refine Kd.C_drewN ?_ _) | (with_reducible refine Kd.C_drew ?_))); (case side2 => exact HC0.out); rintro e w10 ⟨rfl, hb⟩; refine ⟨_, rfl, ?_⟩; have n0_ := Aside0.mk (below_step (belB HB) hb); clear HB; have HB := n0_; clear n0_; (try clear hb)) | ((with_reducible refine gate_callee (f := 20) rfl ?_); refine goesL_ (some 13) rfl rfl Tryd.func20 (by kernel_rfl) rfl #[.slice A0 l0.length c0] rfl mapA ?_; (with_reducible refine (laws_toArgS.calls k _ _ l0 t295 _ ?side1 ?side2 A5.out).mono ?_); (case side1 => exact cbA HR0 HB); (case side2 => exact HC0.out); rintro e w11 ⟨v296, rfl, ho0, hb⟩; refine ⟨_, rfl, ?_⟩; have n0_ := Aside0.mk (Kd.R_lower ho0 (below_size (belB HB))); have n1_ := Aside0.mk (below_step (belB HB) hb); clear HB; have HO297 := n0_; have HB := n1_; clear n0_ n1_; (try clear hb); (try clear ho0); obtain ⟨Ao12, co12, eo12⟩ := Kd.R_slice HO297.out; subst eo12) | ((with_reducible refine gate_callee (f := 19) rfl ?_); refine goesL_ (some 14) rfl rfl Tryd.func19 (by kernel_rfl) rfl #[.slice Ao12 t295.length co12] rfl mapA ?_; (with_reducible refine (spec_ArgsOk.calls k _ _ t295 t298 _ ?side1 ?side2 A6.out).mono ?_); (case side1 => repeat (first | exact (Kd.R_reads' HO297.out).2.2 | (with_reducible refine Kd.C_alloc ?_ _) | (with_reducible refine Kd.C_drewN ?_ _) | (with_reducible refine Kd.C_drew ?_))); (case side2 => exact (Kd.R_reads' HO297.out).2.1); rintro e w13 ⟨rfl, hb⟩; refine ⟨_, rfl, ?_⟩; have n0_ := Aside0.mk (Kd.R_below (kdB HO297) hb); have n1_ := Aside0.mk (below_step (belB HB) hb); clear HO297; clear HB; have HO297 := n0_; have HB := n1_; clear n0_ n1_; (try clear hb)) | ((with_reducible refine gate_callee (f := 20) rfl ?_); refine goesL_ (some 16) rfl rfl Tryd.func20 (by kernel_rfl) rfl #[.slice A0 l0.length c0] rfl mapA ?_; (with_reducible refine (laws_toArgS.calls k _ _ l0 t299 _ ?side1 ?side2 A7.out).mono ?_); (case side1 => exact cbA HR0 HB); (case side2 => exact HC0.out); rintro e w14 ⟨v300, rfl, ho0, hb⟩; refine ⟨_, rfl, ?_⟩; have n0_ := Aside0.mk (Kd.R_elder' (kdB HO297) (Kd.R_base ho0) hb); have n1_ := Aside0.mk (Kd.R_lower (Kd.R_new' ho0 (Kd.R_lt (kdB HO297))) (below_size (belB HB))); have n2_ := Aside0.mk (below_step (belB HB) hb); clear HO297; clear HB; have HO297 := n0_; have HO301 := n1_; have HB := n2_; clear n0_ n1_ n2_; (try clear hb); (try clear ho0); obtain ⟨Ao15, co15, eo15⟩ := Kd.R_slice HO301.out; subst eo15) | ((with_reducible refine gate_callee (f := 21) rfl ?_); refine goesL_ (some 18) rfl rfl Tryd.func21 (by kernel_rfl) rfl #[.slice Ao15 t299.length co15] rfl mapA ?_; (with_reducible refine (impl_ArgsOk.calls k _ _ t299 t302 _ ?side1 ?side2 (Gl.below HG.out (belB HB)) A8.out).mono ?_); (case side1 => repeat (first | exact (Kd.R_reads' HO301.out).2.2 | (with_reducible refine Kd.C_alloc ?_ _) | (with_reducible refine Kd.C_drewN ?_ _) | (with_reducible refine Kd.C_drew ?_))); (case side2 => exact (Kd.R_reads' HO301.out).2.1); rintro e w16 ⟨rfl, hb⟩; refine ⟨_, rfl, ?_⟩; have n0_ := Aside0.mk (Kd.R_below (kdB HO297) hb); have n1_ := Aside0.mk (Kd.R_below (kdB HO301) hb); have n2_ := Aside0.mk (below_step (belB HB) hb); clear HO297; clear HO301; clear HB; have HO297 := n0_; have HO301 := n1_; have HB := n2_; clear n0_ n1_ n2_; (try clear hb)))
      go_ret
      exact ⟨erA, belB HB⟩
    · rw [if_neg c9] at H
      have c9b0 : (t302 != t298) = false := by simpa using c9
      (try (have c9b1 : decide (t302 = t298) = true := by simpa using c9))
      (try (have c9b2 : (t302 == t298) = true := by simpa using c9))
      clear c9
      replace H := Option.bind_eq_some_iff.mp H
      obtain ⟨t303, A170, H⟩ := H
      replace H : ((laws_eqArgS.f k t299 t303).bind fun t306 => (if t306 = true then (some true) else (some false))) = some r := H
      have A17 := Aside0.mk A170
      clear A170
      replace H := Option.bind_eq_some_iff.mp H
      obtain ⟨t306, A180, H⟩ := H
      replace H : (if t306 = true then (some true) else (some false)) = some r := H
      have A18 := Aside0.mk A180
      clear A180
      by_cases c19 : t306 = true
      · subst c19
        have H1 : (some true) = some r := by rw [if_pos rfl] at H; exact H
        clear H
        have H := H1
        clear H1
        obtain rfl := Option.some.inj H
        go_enter Tryd.func5, Tryd.ntmps5
        go_wp2_with (first | ((with_reducible refine gate_callee (f := 18) rfl ?_); refine goesL_ (some 9) rfl rfl Tryd.func18 (by kernel_rfl) rfl #[.slice A0 l0.length c0, .int .i64 1048576] rfl mapA ?_; (with_reducible refine (laws_szArgS.calls k _ _ l0 1048576 t294 _ ?side1 ?side2 A2.out).mono ?_); (case side1 => repeat (first | exact HR0.out | (with_reducible refine Kd.C_alloc ?_ _) | (with_reducible refine Kd.C_drewN ?_ _) | (with_reducible refine Kd.C_drew ?_))); (case side2 => exact HC0.out); rintro e w20 ⟨rfl, hb⟩; refine ⟨_, rfl, ?_⟩; have n0_ := Aside0.mk (below_step (belB HB) hb); clear HB; have HB := n0_; clear n0_; (try clear hb)) | ((with_reducible refine gate_callee (f := 20) rfl ?_); refine goesL_ (some 13) rfl rfl Tryd.func20 (by kernel_rfl) rfl #[.slice A0 l0.length c0] rfl mapA ?_; (with_reducible refine (laws_toArgS.calls k _ _ l0 t295 _ ?side1 ?side2 A5.out).mono ?_); (case side1 => exact cbA HR0 HB); (case side2 => exact HC0.out); rintro e w21 ⟨v296, rfl, ho0, hb⟩; refine ⟨_, rfl, ?_⟩; have n0_ := Aside0.mk (Kd.R_lower ho0 (below_size (belB HB))); have n1_ := Aside0.mk (below_step (belB HB) hb); clear HB; have HO297 := n0_; have HB := n1_; clear n0_ n1_; (try clear hb); (try clear ho0); obtain ⟨Ao22, co22, eo22⟩ := Kd.R_slice HO297.out; subst eo22) | ((with_reducible refine gate_callee (f := 19) rfl ?_); refine goesL_ (some 14) rfl rfl Tryd.func19 (by kernel_rfl) rfl #[.slice Ao22 t295.length co22] rfl mapA ?_; (with_reducible refine (spec_ArgsOk.calls k _ _ t295 t298 _ ?side1 ?side2 A6.out).mono ?_); (case side1 => repeat (first | exact (Kd.R_reads' HO297.out).2.2 | (with_reducible refine Kd.C_alloc ?_ _) | (with_reducible refine Kd.C_drewN ?_ _) | (with_reducible refine Kd.C_drew ?_))); (case side2 => exact (Kd.R_reads' HO297.out).2.1); rintro e w23 ⟨rfl, hb⟩; refine ⟨_, rfl, ?_⟩; have n0_ := Aside0.mk (Kd.R_below (kdB HO297) hb); have n1_ := Aside0.mk (below_step (belB HB) hb); clear HO297; clear HB; have HO297 := n0_; have HB := n1_; clear n0_ n1_; (try clear hb)) | ((with_reducible refine gate_callee (f := 20) rfl ?_); refine goesL_ (some 16) rfl rfl Tryd.func20 (by kernel_rfl) rfl #[.slice A0 l0.length c0] rfl mapA ?_; (with_reducible refine (laws_toArgS.calls k _ _ l0 t299 _ ?side1 ?side2 A7.out).mono ?_); (case side1 => exact cbA HR0 HB); (case side2 => exact HC0.out); rintro e w24 ⟨v300, rfl, ho0, hb⟩; refine ⟨_, rfl, ?_⟩; have n0_ := Aside0.mk (Kd.R_elder' (kdB HO297) (Kd.R_base ho0) hb); have n1_ := Aside0.mk (Kd.R_lower (Kd.R_new' ho0 (Kd.R_lt (kdB HO297))) (below_size (belB HB))); have n2_ := Aside0.mk (below_step (belB HB) hb); clear HO297; clear HB; have HO297 := n0_; have HO301 := n1_; have HB := n2_; clear n0_ n1_ n2_; (try clear hb); (try clear ho0); obtain ⟨Ao25, co25, eo25⟩ := Kd.R_slice HO301.out; subst eo25) | ((with_reducible refine gate_callee (f := 21) rfl ?_); refine goesL_ (some 18) rfl rfl Tryd.func21 (by kernel_rfl) rfl #[.slice Ao25 t299.length co25] rfl mapA ?_; (with_reducible refine (impl_ArgsOk.calls k _ _ t299 t302 _ ?side1 ?side2 (Gl.below HG.out (belB HB)) A8.out).mono ?_); (case side1 => repeat (first | exact (Kd.R_reads' HO301.out).2.2 | (with_reducible refine Kd.C_alloc ?_ _) | (with_reducible refine Kd.C_drewN ?_ _) | (with_reducible refine Kd.C_drew ?_))); (case side2 => exact (Kd.R_reads' HO301.out).2.1); rintro e w26 ⟨rfl, hb⟩; refine ⟨_, rfl, ?_⟩; have n0_ := Aside0.mk (Kd.R_below (kdB HO297) hb); have n1_ := Aside0.mk (Kd.R_below (kdB HO301) hb); have n2_ := Aside0.mk (below_step (belB HB) hb); clear HO297; clear HO301; clear HB; have HO297 := n0_; have HO301 := n1_; have HB := n2_; clear n0_ n1_ n2_; (try clear hb)) | ((with_reducible refine gate_callee (f := 20) rfl ?_); refine goesL_ (some 24) rfl rfl Tryd.func20 (by kernel_rfl) rfl #[.slice A0 l0.length c0] rfl mapA ?_; (with_reducible refine (laws_toArgS.calls k _ _ l0 t303 _ ?side1 ?side2 A17.out).mono ?_); (case side1 => exact cbA HR0 HB); (case side2 => exact HC0.out); rintro e w27 ⟨v304, rfl, ho0, hb⟩; refine ⟨_, rfl, ?_⟩; have n0_ := Aside0.mk (Kd.R_elder' (kdB HO297) (Kd.R_base ho0) hb); have n1_ := Aside0.mk (Kd.R_elder' (kdB HO301) (Kd.R_base ho0) hb); have n2_ := Aside0.mk (Kd.R_lower (Kd.R_new' (Kd.R_new' ho0 (Kd.R_lt (kdB HO297))) (Kd.R_lt (kdB HO301))) (below_size (belB HB))); have n3_ := Aside0.mk (below_step (belB HB) hb); clear HO297; clear HO301; clear HB; have HO297 := n0_; have HO301 := n1_; have HO305 := n2_; have HB := n3_; clear n0_ n1_ n2_ n3_; (try clear hb); (try clear ho0); obtain ⟨Ao28, co28, eo28⟩ := Kd.R_slice HO305.out; subst eo28) | ((with_reducible refine gate_callee (f := 22) rfl ?_); refine goesL_ (some 25) rfl rfl Tryd.func22 (by kernel_rfl) rfl #[.slice Ao25 t299.length co25, .slice Ao28 t303.length co28] rfl mapA ?_; (with_reducible refine (laws_eqArgS.calls k _ _ t299 _ _ t303 true _ ?side1 ?side2 ?side3 ?side4 A18.out).mono ?_); (case side1 => repeat (first | exact (Kd.R_reads' HO301.out).2.2 | (with_reducible refine Kd.C_alloc ?_ _) | (with_reducible refine Kd.C_drewN ?_ _) | (with_reducible refine Kd.C_drew ?_))); (case side2 => exact (Kd.R_reads' HO301.out).2.1); (case side3 => repeat (first | exact (Kd.R_reads' HO305.out).2.2 | (with_reducible refine Kd.C_alloc ?_ _) | (with_reducible refine Kd.C_drewN ?_ _) | (with_reducible refine Kd.C_drew ?_))); (case side4 => exact (Kd.R_reads' HO305.out).2.1); rintro e w29 ⟨rfl, hb⟩; refine ⟨_, rfl, ?_⟩; have n0_ := Aside0.mk (Kd.R_below (kdB HO297) hb); have n1_ := Aside0.mk (Kd.R_below (kdB HO301) hb); have n2_ := Aside0.mk (Kd.R_below (kdB HO305) hb); have n3_ := Aside0.mk (below_step (belB HB) hb); clear HO297; clear HO301; clear HO305; clear HB; have HO297 := n0_; have HO301 := n1_; have HO305 := n2_; have HB := n3_; clear n0_ n1_ n2_ n3_; (try clear hb)))
        go_ret
        exact ⟨erA, belB HB⟩
      · replace c19 := Bool.eq_false_iff.mpr c19
        subst c19
        have H1 : (some false) = some r := by rw [if_neg (show ¬ (false = true) by decide)] at H; exact H
        clear H
        have H := H1
        clear H1
        obtain rfl := Option.some.inj H
        go_enter Tryd.func5, Tryd.ntmps5
        go_wp2_with (first | ((with_reducible refine gate_callee (f := 18) rfl ?_); refine goesL_ (some 9) rfl rfl Tryd.func18 (by kernel_rfl) rfl #[.slice A0 l0.length c0, .int .i64 1048576] rfl mapA ?_; (with_reducible refine (laws_szArgS.calls k _ _ l0 1048576 t294 _ ?side1 ?side2 A2.out).mono ?_); (case side1 => repeat (first | exact HR0.out | (with_reducible refine Kd.C_alloc ?_ _) | (with_reducible refine Kd.C_drewN ?_ _) | (with_reducible refine Kd.C_drew ?_))); (case side2 => exact HC0.out); rintro e w30 ⟨rfl, hb⟩; refine ⟨_, rfl, ?_⟩; have n0_ := Aside0.mk (below_step (belB HB) hb); clear HB; have HB := n0_; clear n0_; (try clear hb)) | ((with_reducible refine gate_callee (f := 20) rfl ?_); refine goesL_ (some 13) rfl rfl Tryd.func20 (by kernel_rfl) rfl #[.slice A0 l0.length c0] rfl mapA ?_; (with_reducible refine (laws_toArgS.calls k _ _ l0 t295 _ ?side1 ?side2 A5.out).mono ?_); (case side1 => exact cbA HR0 HB); (case side2 => exact HC0.out); rintro e w31 ⟨v296, rfl, ho0, hb⟩; refine ⟨_, rfl, ?_⟩; have n0_ := Aside0.mk (Kd.R_lower ho0 (below_size (belB HB))); have n1_ := Aside0.mk (below_step (belB HB) hb); clear HB; have HO297 := n0_; have HB := n1_; clear n0_ n1_; (try clear hb); (try clear ho0); obtain ⟨Ao32, co32, eo32⟩ := Kd.R_slice HO297.out; subst eo32) | ((with_reducible refine gate_callee (f := 19) rfl ?_); refine goesL_ (some 14) rfl rfl Tryd.func19 (by kernel_rfl) rfl #[.slice Ao32 t295.length co32] rfl mapA ?_; (with_reducible refine (spec_ArgsOk.calls k _ _ t295 t298 _ ?side1 ?side2 A6.out).mono ?_); (case side1 => repeat (first | exact (Kd.R_reads' HO297.out).2.2 | (with_reducible refine Kd.C_alloc ?_ _) | (with_reducible refine Kd.C_drewN ?_ _) | (with_reducible refine Kd.C_drew ?_))); (case side2 => exact (Kd.R_reads' HO297.out).2.1); rintro e w33 ⟨rfl, hb⟩; refine ⟨_, rfl, ?_⟩; have n0_ := Aside0.mk (Kd.R_below (kdB HO297) hb); have n1_ := Aside0.mk (below_step (belB HB) hb); clear HO297; clear HB; have HO297 := n0_; have HB := n1_; clear n0_ n1_; (try clear hb)) | ((with_reducible refine gate_callee (f := 20) rfl ?_); refine goesL_ (some 16) rfl rfl Tryd.func20 (by kernel_rfl) rfl #[.slice A0 l0.length c0] rfl mapA ?_; (with_reducible refine (laws_toArgS.calls k _ _ l0 t299 _ ?side1 ?side2 A7.out).mono ?_); (case side1 => exact cbA HR0 HB); (case side2 => exact HC0.out); rintro e w34 ⟨v300, rfl, ho0, hb⟩; refine ⟨_, rfl, ?_⟩; have n0_ := Aside0.mk (Kd.R_elder' (kdB HO297) (Kd.R_base ho0) hb); have n1_ := Aside0.mk (Kd.R_lower (Kd.R_new' ho0 (Kd.R_lt (kdB HO297))) (below_size (belB HB))); have n2_ := Aside0.mk (below_step (belB HB) hb); clear HO297; clear HB; have HO297 := n0_; have HO301 := n1_; have HB := n2_; clear n0_ n1_ n2_; (try clear hb); (try clear ho0); obtain ⟨Ao35, co35, eo35⟩ := Kd.R_slice HO301.out; subst eo35) | ((with_reducible refine gate_callee (f := 21) rfl ?_); refine goesL_ (some 18) rfl rfl Tryd.func21 (by kernel_rfl) rfl #[.slice Ao35 t299.length co35] rfl mapA ?_; (with_reducible refine (impl_ArgsOk.calls k _ _ t299 t302 _ ?side1 ?side2 (Gl.below HG.out (belB HB)) A8.out).mono ?_); (case side1 => repeat (first | exact (Kd.R_reads' HO301.out).2.2 | (with_reducible refine Kd.C_alloc ?_ _) | (with_reducible refine Kd.C_drewN ?_ _) | (with_reducible refine Kd.C_drew ?_))); (case side2 => exact (Kd.R_reads' HO301.out).2.1); rintro e w36 ⟨rfl, hb⟩; refine ⟨_, rfl, ?_⟩; have n0_ := Aside0.mk (Kd.R_below (kdB HO297) hb); have n1_ := Aside0.mk (Kd.R_below (kdB HO301) hb); have n2_ := Aside0.mk (below_step (belB HB) hb); clear HO297; clear HO301; clear HB; have HO297 := n0_; have HO301 := n1_; have HB := n2_; clear n0_ n1_ n2_; (try clear hb)) | ((with_reducible refine gate_callee (f := 20) rfl ?_); refine goesL_ (some 24) rfl rfl Tryd.func20 (by kernel_rfl) rfl #[.slice A0 l0.length c0] rfl mapA ?_; (with_reducible refine (laws_toArgS.calls k _ _ l0 t303 _ ?side1 ?side2 A17.out).mono ?_); (case side1 => exact cbA HR0 HB); (case side2 => exact HC0.out); rintro e w37 ⟨v304, rfl, ho0, hb⟩; refine ⟨_, rfl, ?_⟩; have n0_ := Aside0.mk (Kd.R_elder' (kdB HO297) (Kd.R_base ho0) hb); have n1_ := Aside0.mk (Kd.R_elder' (kdB HO301) (Kd.R_base ho0) hb); have n2_ := Aside0.mk (Kd.R_lower (Kd.R_new' (Kd.R_new' ho0 (Kd.R_lt (kdB HO297))) (Kd.R_lt (kdB HO301))) (below_size (belB HB))); have n3_ := Aside0.mk (below_step (belB HB) hb); clear HO297; clear HO301; clear HB; have HO297 := n0_; have HO301 := n1_; have HO305 := n2_; have HB := n3_; clear n0_ n1_ n2_ n3_; (try clear hb); (try clear ho0); obtain ⟨Ao38, co38, eo38⟩ := Kd.R_slice HO305.out; subst eo38) | ((with_reducible refine gate_callee (f := 22) rfl ?_); refine goesL_ (some 25) rfl rfl Tryd.func22 (by kernel_rfl) rfl #[.slice Ao35 t299.length co35, .slice Ao38 t303.length co38] rfl mapA ?_; (with_reducible refine (laws_eqArgS.calls k _ _ t299 _ _ t303 false _ ?side1 ?side2 ?side3 ?side4 A18.out).mono ?_); (case side1 => repeat (first | exact (Kd.R_reads' HO301.out).2.2 | (with_reducible refine Kd.C_alloc ?_ _) | (with_reducible refine Kd.C_drewN ?_ _) | (with_reducible refine Kd.C_drew ?_))); (case side2 => exact (Kd.R_reads' HO301.out).2.1); (case side3 => repeat (first | exact (Kd.R_reads' HO305.out).2.2 | (with_reducible refine Kd.C_alloc ?_ _) | (with_reducible refine Kd.C_drewN ?_ _) | (with_reducible refine Kd.C_drew ?_))); (case side4 => exact (Kd.R_reads' HO305.out).2.1); rintro e w39 ⟨rfl, hb⟩; refine ⟨_, rfl, ?_⟩; have n0_ := Aside0.mk (Kd.R_below (kdB HO297) hb); have n1_ := Aside0.mk (Kd.R_below (kdB HO301) hb); have n2_ := Aside0.mk (Kd.R_below (kdB HO305) hb); have n3_ := Aside0.mk (below_step (belB HB) hb); clear HO297; clear HO301; clear HO305; clear HB; have HO297 := n0_; have HO301 := n1_; have HO305 := n2_; have HB := n3_; clear n0_ n1_ n2_ n3_; (try clear hb)))
        go_ret
        exact ⟨erA, belB HB⟩

end Go.Proofs.YtjhagdjjlgjlbaaDoor.OFnExactArgsOk
