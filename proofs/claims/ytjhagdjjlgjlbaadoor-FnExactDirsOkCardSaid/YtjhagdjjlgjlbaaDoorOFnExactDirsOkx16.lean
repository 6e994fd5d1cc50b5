/- The machine side of one law, written by a program of this session out of Lean's print of the translation: for each Go function that is reached a plain Lean function and the proof that the call comes to just its answer; each under the condition that the plain function answers 'some'. -/
import Derived.Test.YtjhagdjjlgjlbaaDoorOFnExactDirsOkx0
import Derived.Test.YtjhagdjjlgjlbaaDoorOFnExactDirsOkx1
import Derived.Test.YtjhagdjjlgjlbaaDoorOFnExactDirsOkx8
import Derived.Test.YtjhagdjjlgjlbaaDoorOFnExactDirsOkx9
import Derived.Test.YtjhagdjjlgjlbaaDoorOFnExactDirsOkx14
import Derived.Test.YtjhagdjjlgjlbaaDoorOFnExactDirsOkx15
namespace Go.Proofs.YtjhagdjjlgjlbaaDoor.OFnExactDirsOk
open Go.Proofs.YtjhagdjjlgjlbaaDoor.GlU Go.Proofs.YtjhagdjjlgjlbaaDoor.Ix
open Go.RowKit Go.Proofs.YtjhagdjjlgjlbaaDoorW.PrintWords Go.Proofs.YtjhagdjjlgjlbaaDoorW.PrintLast Go.Proofs.YtjhagdjjlgjlbaaDoorW.PrintMore
attribute [local go_sem] max2_int min2_int max_two min_two max_three min_three max_four min_four   -- for this text's walks alone
set_option linter.unusedVariables false
set_option linter.unusedSimpArgs false

/-! ### laws_eqDirS: function 29 -/
def laws_eqDirS.l0 : Nat → List (S81) → List (S81) → Int → Option (Bool)
  | 0, _, _, _ => none
  | k + 1, x0, x1, x5 => if x5 < (x0.length : Int) then (if 0 ≤ x5 then (if x5 < (x1.length : Int) then ((laws_eqDir.f k ((rd_T81 x0 x5).f0) ((rd_T81 x0 x5).f1) ((rd_T81 x1 x5).f0) ((rd_T81 x1 x5).f1)).bind fun t322 => (if t322 = true then (laws_eqDirS.l0 k x0 x1 (wrap64 (x5 + 1))) else (some false))) else (none)) else (none)) else (some true)
def laws_eqDirS.f (k : Nat) (l0 : List (S81)) (l1 : List (S81)) : Option (Bool) := if (l0.length : Int) = (l1.length : Int) then (laws_eqDirS.l0 k l0 l1 0) else (some false)
theorem laws_eqDirS.mono_l : ∀ k, (∀ y0 y1 y2, LeO (laws_eqDirS.l0 k y0 y1 y2) (laws_eqDirS.l0 (k + 1) y0 y1 y2))
  | 0 => fun _ _ _ r h => by simp [laws_eqDirS.l0] at h
  | k + 1 => by
    have ih0 := laws_eqDirS.mono_l k
    · intro y0 y1 y2
      unfold laws_eqDirS.l0
      repeat' first
      | (with_reducible exact ih0 _ _ _)
      | (with_reducible exact laws_eqDir.mono _ _ _ _ _)
      | (with_reducible exact LeO.refl _)
      | (with_reducible exact LeO.none _)
      | (with_reducible refine LeO.ite ?_ ?_)
      | (with_reducible refine LeO.bind ?_ (fun _ => ?_))
      | exact ih0 _ _ _
      | exact laws_eqDir.mono _ _ _ _ _
      | exact LeO.none _
      | refine LeO.ite ?_ ?_
      | refine LeO.bind ?_ (fun _ => ?_)
theorem laws_eqDirS.mono : ∀ a0 a1 k, LeO (laws_eqDirS.f k a0 a1) (laws_eqDirS.f (k + 1) a0 a1) := by
  intro a0 a1 k
  have ih0 := laws_eqDirS.mono_l k
  unfold laws_eqDirS.f
  repeat' first
      | (with_reducible exact ih0 _ _ _)
      | (with_reducible exact laws_eqDir.mono _ _ _ _ _)
      | (with_reducible exact LeO.refl _)
      | (with_reducible exact LeO.none _)
      | (with_reducible refine LeO.ite ?_ ?_)
      | (with_reducible refine LeO.bind ?_ (fun _ => ?_))
      | exact ih0 _ _ _
      | exact laws_eqDir.mono _ _ _ _ _
      | exact LeO.none _
      | refine LeO.ite ?_ ?_
      | refine LeO.bind ?_ (fun _ => ?_)
def laws_eqDirS.T6 : Bool × List (List Nat × List Nat) := (true, [([], []), ([], []), ([0, 1], [0, 1]), ([2], [2]), ([], []), ([], []), ([4, 5], [4, 5]), ([6], [6]), ([3, 7], [3, 7]), ([8], [8])])
def laws_eqDirS.B6 : List Nat := [0, 0, 3, 7, 0, 0, 48, 112, 255, 511]
theorem laws_eqDirS.tab6 : rtab .any (opsOf Tryd.f29 6) = laws_eqDirS.T6 := by kernel_rfl
theorem laws_eqDirS.bits6 : waitsOk laws_eqDirS.T6.2 laws_eqDirS.B6 = true := by kernel_rfl
set_option maxHeartbeats 8000000 in
set_option maxRecDepth 100000 in
theorem laws_eqDirS.calls (k : Nat) (A0 : Option Addr) (c0 : Nat) (l0 : List (S81)) (A1 : Option Addr) (c1 : Nat) (l1 : List (S81)) (r : Bool) (w : World) (hr0 : Kd.C k81 w A0 l0.length l0) (hc0 : l0.length ≤ c0) (hr1 : Kd.C k81 w A1 l1.length l1) (hc1 : l1.length ≤ c1) (h : laws_eqDirS.f k l0 l1 = some r) :
    Calls Tryd.prog 29 #[.slice A0 l0.length c0, .slice A1 l1.length c1] w fun e w' => e = .returned (.bool r) ∧ Below w.heap.size w w' := by
  have hu81 := Tryd.underlying81
  have HR0 := Aside0.mk hr0
  have HC0 := Aside0.mk hc0
  clear hr0 hc0
  have HR1 := Aside0.mk hr1
  have HC1 := Aside0.mk hc1
  clear hr1 hc1
  have HB := Aside0.mk (Below.refl w.heap.size w)
  have H : (if (l0.length : Int) = (l1.length : Int) then (laws_eqDirS.l0 k l0 l1 0) else (some false)) = some r := h
  clear h
  by_cases c3 : (l0.length : Int) = (l1.length : Int)
  · rw [if_pos c3] at H
    have c3b0 : ((l0.length : Int) == (l1.length : Int)) = true := beq_iff_eq.mpr c3
    have c3b1 : ((l0.length : Int) != (l1.length : Int)) = false := bne_eq_false_iff_eq.mpr c3
    have c3b2 : (l0.length == l1.length) = true := by first | simpa using c3 | (simp at c3 ⊢; omega)
    clear c3
    have H' := Aside0.mk H
    clear H
    go_enter Tryd.func29, Tryd.ntmps29
    go_wp2
    go_loopg [5] k (fun kq v5 w' => ∃ (x5_1 : Int), v5 = .int .i64 x5_1 ∧ Aside0 (laws_eqDirS.l0 kq l0 l1 x5_1 = some r) ∧ Aside0 (kq ≤ k) ∧ Aside0 (Below w.heap.size w w'))
    case atStart => exact ⟨(0), enA, H', ⟨Nat.le_refl _⟩, ⟨belB HB⟩⟩
    case round =>
      clear H'
      try clear c1
      try clear c2
      try clear p2
      try clear c3
      try clear c3b0
      try clear c3b1
      try clear c3b2
      obtain ⟨x5_1, rfl, HA, HK1, HB⟩ := hrel
      cases gk with
      | zero => exact absurd HA.out (by simp [laws_eqDirS.l0])
      | succ k1 =>
        have H := HA.out
        clear HA
        simp only [laws_eqDirS.l0] at H
        by_cases c4 : x5_1 < (l0.length : Int)
        · rw [if_pos c4] at H
          have c4b0 : decide (x5_1 < (l0.length : Int)) = true := decide_eq_true c4
          clear c4
          by_cases c5 : 0 ≤ x5_1
          · rw [if_pos c5] at H
            have c5b0 : decide (0 ≤ x5_1) = true := decide_eq_true c5
            clear c5
            by_cases c6 : x5_1 < (l1.length : Int)
            · rw [if_pos c6] at H
              have c6b0 : decide (x5_1 < (l1.length : Int)) = true := decide_eq_true c6
              clear c6
              replace H := Option.bind_eq_some_iff.mp H
              obtain ⟨t322, A70, H⟩ := H
              replace H : (if t322 = true then (laws_eqDirS.l0 k1 l0 l1 (wrap64 (x5_1 + 1))) else (some false)) = some r := H
              have A7 := Aside0.mk A70
              clear A70
              by_cases c8 : t322 = true
              · subst c8
                have H1 : (laws_eqDirS.l0 k1 l0 l1 (wrap64 (x5_1 + 1))) = some r := by rw [if_pos rfl] at H; exact H
                clear H
                have H := H1
                clear H1
                have H' := Aside0.mk H
                clear H
                try go_wp2
                have n0_ := Aside0.mk (below_drew1 HB.out)
                clear HB
                have HB := n0_
                clear n0_
                have p320 : 0 ≤ (x5_1 : Int) := odA
                have q320 : x5_1 < (l0.length : Int) := odA
                obtain ⟨ad320, A320_1, c320_1, e320, hx320_0, hx320_1, hl320_1, hi320_1⟩ := at_T81 HR0.out x5_1 p320 q320
                have hw320_1 := hx320_1
                have hw320_0 := hx320_0
                cases e320
                (try replace hx320_0 := (HB.out.cell (World.block_lt_of_cell? w _ hx320_0)).trans hx320_0)
                (try replace hx320_1 := (HB.out.cell (World.block_lt_of_cell? w _ hx320_1)).trans hx320_1)
                have HR320_1 := Aside0.mk hi320_1
                have HC320_1 := Aside0.mk hl320_1
                clear hi320_1 hl320_1
                replace p320 := eq_true p320
                replace q320 := eq_true q320
                have p321 : 0 ≤ (x5_1 : Int) := odA
                have q321 : x5_1 < (l1.length : Int) := odA
                obtain ⟨ad321, A321_1, c321_1, e321, hx321_0, hx321_1, hl321_1, hi321_1⟩ := at_T81 HR1.out x5_1 p321 q321
                have hw321_1 := hx321_1
                have hw321_0 := hx321_0
                cases e321
                (try replace hx321_0 := (HB.out.cell (World.block_lt_of_cell? w _ hx321_0)).trans hx321_0)
                (try replace hx321_1 := (HB.out.cell (World.block_lt_of_cell? w _ hx321_1)).trans hx321_1)
                have HR321_1 := Aside0.mk hi321_1
                have HC321_1 := Aside0.mk hl321_1
                clear hi321_1 hl321_1
                replace p321 := eq_true p321
                replace q321 := eq_true q321
                refine start_ (n := 10) (S := fun w' => w'.cell? (ad320.add ((x5_1).toNat * 2)) = some (.string ((rd_T81 l0 x5_1).f0)) ∧ w'.cell? ⟨(ad320.add ((x5_1).toNat * 2)).block, (ad320.add ((x5_1).toNat * 2)).off + 1, none⟩ = some (.slice A320_1 ((rd_T81 l0 x5_1).f1).length c320_1) ∧ w'.cell? (ad321.add ((x5_1).toNat * 2)) = some (.string ((rd_T81 l1 x5_1).f0)) ∧ w'.cell? ⟨(ad321.add ((x5_1).toNat * 2)).block, (ad321.add ((x5_1).toNat * 2)).off + 1, none⟩ = some (.slice A321_1 ((rd_T81 l1 x5_1).f1).length c321_1)) (ds := []) #[false, false, false, false, false, false, false, false, false, false] (by kernel_rfl) rfl rfl ⟨((HB.out.cell (World.block_lt_of_cell? w _ hw320_0)).trans hw320_0), ((HB.out.cell (World.block_lt_of_cell? w _ hw320_1)).trans hw320_1), ((HB.out.cell (World.block_lt_of_cell? w _ hw321_0)).trans hw321_0), ((HB.out.cell (World.block_lt_of_cell? w _ hw321_1)).trans hw321_1)⟩ (fun hHeld => ?_); refine with_tabW laws_eqDirS.tab6 laws_eqDirS.bits6 (fun HT_ HW_ => ?_)
                generalize wr.drew = w9 at HB HR320_1 HR321_1 hx320_0 hx320_1 hx321_0 hx321_1 hHeld ⊢
                refine pure_ (i := 0) (N := some 17) (v := ?_) (a' := ?_) #[true, false, false, false, false, false, false, false, false, false] rfl rfl (any_of HT_.out (by kernel_rfl)) (fun _ _ _ h => h) (Or.inl ⟨by rfl, ?_⟩) ?_ ?_
                rotate_left
                · intro w'
                  go_simp
                  with_reducible rfl
                rotate_left
                · simp only [Act.put, List.setIfInBounds_toArray, List.set_cons_zero, List.set_cons_succ, i64_w, i32_w]
                  rfl
                refine pure_ (i := 1) (N := some 18) (v := ?_) (a' := ?_) #[true, true, false, false, false, false, false, false, false, false] rfl rfl (any_of HT_.out (by kernel_rfl)) (fun _ _ _ h => h) (Or.inl ⟨by rfl, ?_⟩) ?_ ?_
                rotate_left
                · intro w'
                  go_simp
                  with_reducible rfl
                rotate_left
                · simp only [Act.put, List.setIfInBounds_toArray, List.set_cons_zero, List.set_cons_succ, i64_w, i32_w]
                  rfl
                refine pure_ (i := 2) (N := some 19) (v := ?_) (a' := ?_) #[true, true, true, false, false, false, false, false, false, false] rfl rfl (any_of HT_.out (by kernel_rfl)) (fun _ _ _ h => h) (Or.inl ⟨by rfl, ?_⟩) ?_ ?_
                rotate_left
                · intro w'
                  go_simp
                  with_reducible rfl
                rotate_left
                · simp only [Act.put, List.setIfInBounds_toArray, List.set_cons_zero, List.set_cons_succ, i64_w, i32_w]
                  rfl
                refine pure_ (i := 4) (N := some 21) (v := ?_) (a' := ?_) #[true, true, true, false, true, false, false, false, false, false] rfl rfl (any_of HT_.out (by kernel_rfl)) (fun _ _ _ h => h) (Or.inl ⟨by rfl, ?_⟩) ?_ ?_
                rotate_left
                · intro w'
                  go_simp
                  with_reducible rfl
                rotate_left
                · simp only [Act.put, List.setIfInBounds_toArray, List.set_cons_zero, List.set_cons_succ, i64_w, i32_w]
                  rfl
                refine pure_ (i := 5) (N := some 22) (v := ?_) (a' := ?_) #[true, true, true, false, true, true, false, false, false, false] rfl rfl (any_of HT_.out (by kernel_rfl)) (fun _ _ _ h => h) (Or.inl ⟨by rfl, ?_⟩) ?_ ?_
                rotate_left
                · intro w'
                  go_simp
                  with_reducible rfl
                rotate_left
                · simp only [Act.put, List.setIfInBounds_toArray, List.set_cons_zero, List.set_cons_succ, i64_w, i32_w]
                  rfl
                refine pure_ (i := 6) (N := some 23) (v := ?_) (a' := ?_) #[true, true, true, false, true, true, true, false, false, false] rfl rfl (any_of HT_.out (by kernel_rfl)) (fun _ _ _ h => h) (Or.inl ⟨by rfl, ?_⟩) ?_ ?_
                rotate_left
                · intro w'
                  go_simp
                  with_reducible rfl
                rotate_left
                · simp only [Act.put, List.setIfInBounds_toArray, List.set_cons_zero, List.set_cons_succ, i64_w, i32_w]
                  rfl
                refine take_ (i := 3) (N := some 20) (v := ?_) (a' := ?_) #[true, true, true, true, true, true, true, false, false, false] rfl rfl (take_ofW HT_.out HW_.out (by kernel_rfl)) (fun _ _ _ h => h) (Or.inl ⟨by rfl, ?_⟩) hHeld ?_ ?_
                rotate_left
                · rintro w' ⟨s0, s1, s2, s3⟩
                  go_simp
                  with_reducible rfl
                rotate_left
                · simp only [Act.put, List.setIfInBounds_toArray, List.set_cons_zero, List.set_cons_succ, i64_w, i32_w]
                  rfl
                refine take_ (i := 7) (N := some 24) (v := ?_) (a' := ?_) #[true, true, true, true, true, true, true, true, false, false] rfl rfl (take_ofW HT_.out HW_.out (by kernel_rfl)) (fun _ _ _ h => h) (Or.inl ⟨by rfl, ?_⟩) hHeld ?_ ?_
                rotate_left
                · rintro w' ⟨s0, s1, s2, s3⟩
                  go_simp
                  with_reducible rfl
                rotate_left
                · simp only [Act.put, List.setIfInBounds_toArray, List.set_cons_zero, List.set_cons_succ, i64_w, i32_w]
                  rfl
                refine one_ (i := 8) (N := some 25) #[true, true, true, true, true, true, true, true, true, false] rfl rfl (one_of HT_.out (by kernel_rfl)) (by decide) (fun K hK => ?_)
                refine goes_ Tryd.func61 (by kernel_rfl) rfl #[.agg #[.string ((rd_T81 l0 x5_1).f0), .slice A320_1 ((rd_T81 l0 x5_1).f1).length c320_1], .agg #[.string ((rd_T81 l1 x5_1).f0), .slice A321_1 ((rd_T81 l1 x5_1).f1).length c321_1]] (by rfl) rfl rfl mapA ?_
                with_reducible refine (laws_eqDir.calls k1 ((rd_T81 l0 x5_1).f0) _ _ ((rd_T81 l0 x5_1).f1) ((rd_T81 l1 x5_1).f0) _ _ ((rd_T81 l1 x5_1).f1) true _ ?side1 ?side2 ?side3 ?side4 A7.out).mono ?_
                (case side1 => exact cbA HR320_1 HB)
                (case side2 => exact HC320_1.out)
                (case side3 => exact cbA HR321_1 HB)
                (case side4 => exact HC321_1.out)
                rintro e w10 ⟨rfl, hb⟩
                refine ⟨_, rfl, ?_⟩
                have n0_ := Aside0.mk (below_step (belB HB) hb)
                clear HB
                have HB := n0_
                clear n0_
                (try clear hb)
                (try clear hb2)
                (try clear hk)
                (try clear hi)
                refine hK.out _ _ ⟨((HB.out.cell (World.block_lt_of_cell? w _ hw320_0)).trans hw320_0), ((HB.out.cell (World.block_lt_of_cell? w _ hw320_1)).trans hw320_1), ((HB.out.cell (World.block_lt_of_cell? w _ hw321_0)).trans hw321_0), ((HB.out.cell (World.block_lt_of_cell? w _ hw321_1)).trans hw321_1)⟩ (fun hHeld => ?_)
                clear hK K
                refine norm_ (a' := ?_) ?_ ?_
                rotate_left
                · show Act.put _ (some 25) _ = _
                  simp only [Act.put, List.setIfInBounds_toArray, List.set_cons_zero, List.set_cons_succ, i64_w, i32_w]
                  rfl
                refine pure_ (i := 9) (N := some 26) (v := ?_) (a' := ?_) #[true, true, true, true, true, true, true, true, true, true] rfl rfl (any_of HT_.out (by kernel_rfl)) (fun _ _ _ h => h) (Or.inl ⟨by rfl, ?_⟩) ?_ ?_
                rotate_left
                · intro w'
                  go_simp
                  with_reducible rfl
                rotate_left
                · simp only [Act.put, List.setIfInBounds_toArray, List.set_cons_zero, List.set_cons_succ, i64_w, i32_w]
                  rfl
                refine done_ (done_of HT_.out (by kernel_rfl)) ?_
                try go_wp2
                go_roundg k1
                case measure => have := HK1.out; omega
                case rel => exact ⟨(wrap64 (x5_1 + 1)), enA, H', ⟨by have := HK1.out; omega⟩, ⟨belB HB⟩⟩
              · replace c8 := Bool.eq_false_iff.mpr c8
                subst c8
                have H1 : (some false) = some r := by rw [if_neg (show ¬ (false = true) by decide)] at H; exact H
                clear H
                have H := H1
                clear H1
                obtain rfl := Option.some.inj H
                try go_wp2
                have n0_ := Aside0.mk (below_drew1 HB.out)
                clear HB
                have HB := n0_
                clear n0_
                have p320 : 0 ≤ (x5_1 : Int) := odA
                have q320 : x5_1 < (l0.length : Int) := odA
                obtain ⟨ad320, A320_1, c320_1, e320, hx320_0, hx320_1, hl320_1, hi320_1⟩ := at_T81 HR0.out x5_1 p320 q320
                have hw320_1 := hx320_1
                have hw320_0 := hx320_0
                cases e320
                (try replace hx320_0 := (HB.out.cell (World.block_lt_of_cell? w _ hx320_0)).trans hx320_0)
                (try replace hx320_1 := (HB.out.cell (World.block_lt_of_cell? w _ hx320_1)).trans hx320_1)
                have HR320_1 := Aside0.mk hi320_1
                have HC320_1 := Aside0.mk hl320_1
                clear hi320_1 hl320_1
                replace p320 := eq_true p320
                replace q320 := eq_true q320
                have p321 : 0 ≤ (x5_1 : Int) := odA
                have q321 : x5_1 < (l1.length : Int) := odA
                obtain ⟨ad321, A321_1, c321_1, e321, hx321_0, hx321_1, hl321_1, hi321_1⟩ := at_T81 HR1.out x5_1 p321 q321
                have hw321_1 := hx321_1
                have hw321_0 := hx321_0
                cases e321
                (try replace hx321_0 := (HB.out.cell (World.block_lt_of_cell? w _ hx321_0)).trans hx321_0)
                (try replace hx321_1 := (HB.out.cell (World.block_lt_of_cell? w _ hx321_1)).trans hx321_1)
                have HR321_1 := Aside0.mk hi321_1
                have HC321_1 := Aside0.mk hl321_1
                clear hi321_1 hl321_1
                replace p321 := eq_true p321
                replace q321 := eq_true q321
                refine start_ (n := 10) (S := fun w' => w'.cell? (ad320.add ((x5_1).toNat * 2)) = some (.string ((rd_T81 l0 x5_1).f0)) ∧ w'.cell? ⟨(ad320.add ((x5_1).toNat * 2)).block, (ad320.add ((x5_1).toNat * 2)).off + 1, none⟩ = some (.slice A320_1 ((rd_T81 l0 x5_1).f1).length c320_1) ∧ w'.cell? (ad321.add ((x5_1).toNat * 2)) = some (.string ((rd_T81 l1 x5_1).f0)) ∧ w'.cell? ⟨(ad321.add ((x5_1).toNat * 2)).block, (ad321.add ((x5_1).toNat * 2)).off + 1, none⟩ = some (.slice A321_1 ((rd_T81 l1 x5_1).f1).length c321_1)) (ds := []) #[false, false, false, false, false, false, false, false, false, false] (by kernel_rfl) rfl rfl ⟨((HB.out.cell (World.block_lt_of_cell? w _ hw320_0)).trans hw320_0), ((HB.out.cell (World.block_lt_of_cell? w _ hw320_1)).trans hw320_1), ((HB.out.cell (World.block_lt_of_cell? w _ hw321_0)).trans hw321_0), ((HB.out.cell (World.block_lt_of_cell? w _ hw321_1)).trans hw321_1)⟩ (fun hHeld => ?_); refine with_tabW laws_eqDirS.tab6 laws_eqDirS.bits6 (fun HT_ HW_ => ?_)
                generalize wr.drew = w11 at HB HR320_1 HR321_1 hx320_0 hx320_1 hx321_0 hx321_1 hHeld ⊢
                refine pure_ (i := 0) (N := some 17) (v := ?_) (a' := ?_) #[true, false, false, false, false, false, false, false, false, false] rfl rfl (any_of HT_.out (by kernel_rfl)) (fun _ _ _ h => h) (Or.inl ⟨by rfl, ?_⟩) ?_ ?_
                rotate_left
                · intro w'
                  go_simp
                  with_reducible rfl
                rotate_left
                · simp only [Act.put, List.setIfInBounds_toArray, List.set_cons_zero, List.set_cons_succ, i64_w, i32_w]
                  rfl
                refine pure_ (i := 1) (N := some 18) (v := ?_) (a' := ?_) #[true, true, false, false, false, false, false, false, false, false] rfl rfl (any_of HT_.out (by kernel_rfl)) (fun _ _ _ h => h) (Or.inl ⟨by rfl, ?_⟩) ?_ ?_
                rotate_left
                · intro w'
                  go_simp
                  with_reducible rfl
                rotate_left
                · simp only [Act.put, List.setIfInBounds_toArray, List.set_cons_zero, List.set_cons_succ, i64_w, i32_w]
                  rfl
                refine pure_ (i := 2) (N := some 19) (v := ?_) (a' := ?_) #[true, true, true, false, false, false, false, false, false, false] rfl rfl (any_of HT_.out (by kernel_rfl)) (fun _ _ _ h => h) (Or.inl ⟨by rfl, ?_⟩) ?_ ?_
                rotate_left
                · intro w'
                  go_simp
                  with_reducible rfl
                rotate_left
                · simp only [Act.put, List.setIfInBounds_toArray, List.set_cons_zero, List.set_cons_succ, i64_w, i32_w]
                  rfl
                refine pure_ (i := 4) (N := some 21) (v := ?_) (a' := ?_) #[true, true, true, false, true, false, false, false, false, false] rfl rfl (any_of HT_.out (by kernel_rfl)) (fun _ _ _ h => h) (Or.inl ⟨by rfl, ?_⟩) ?_ ?_
                rotate_left
                · intro w'
                  go_simp
                  with_reducible rfl
                rotate_left
                · simp only [Act.put, List.setIfInBounds_toArray, List.set_cons_zero, List.set_cons_succ, i64_w, i32_w]
                  rfl
                refine pure_ (i := 5) (N := some 22) (v := ?_) (a' := ?_) #[true, true, true, false, true, true, false, false, false, false] rfl rfl (any_of HT_.out (by kernel_rfl)) (fun _ _ _ h => h) (Or.inl ⟨by rfl, ?_⟩) ?_ ?_
                rotate_left
                · intro w'
                  go_simp
                  with_reducible rfl
                rotate_left
                · simp only [Act.put, List.setIfInBounds_toArray, List.set_cons_zero, List.set_cons_succ, i64_w, i32_w]
                  rfl
                refine pure_ (i := 6) (N := some 23) (v := ?_) (a' := ?_) #[true, true, true, false, true, true, true, false, false, false] rfl rfl (any_of HT_.out (by kernel_rfl)) (fun _ _ _ h => h) (Or.inl ⟨by rfl, ?_⟩) ?_ ?_
                rotate_left
                · intro w'
                  go_simp
                  with_reducible rfl
                rotate_left
                · simp only [Act.put, List.setIfInBounds_toArray, List.set_cons_zero, List.set_cons_succ, i64_w, i32_w]
                  rfl
                refine take_ (i := 3) (N := some 20) (v := ?_) (a' := ?_) #[true, true, true, true, true, true, true, false, false, false] rfl rfl (take_ofW HT_.out HW_.out (by kernel_rfl)) (fun _ _ _ h => h) (Or.inl ⟨by rfl, ?_⟩) hHeld ?_ ?_
                rotate_left
                · rintro w' ⟨s0, s1, s2, s3⟩
                  go_simp
                  with_reducible rfl
                rotate_left
                · simp only [Act.put, List.setIfInBounds_toArray, List.set_cons_zero, List.set_cons_succ, i64_w, i32_w]
                  rfl
                refine take_ (i := 7) (N := some 24) (v := ?_) (a' := ?_) #[true, true, true, true, true, true, true, true, false, false] rfl rfl (take_ofW HT_.out HW_.out (by kernel_rfl)) (fun _ _ _ h => h) (Or.inl ⟨by rfl, ?_⟩) hHeld ?_ ?_
                rotate_left
                · rintro w' ⟨s0, s1, s2, s3⟩
                  go_simp
                  with_reducible rfl
                rotate_left
                · simp only [Act.put, List.setIfInBounds_toArray, List.set_cons_zero, List.set_cons_succ, i64_w, i32_w]
                  rfl
                refine one_ (i := 8) (N := some 25) #[true, true, true, true, true, true, true, true, true, false] rfl rfl (one_of HT_.out (by kernel_rfl)) (by decide) (fun K hK => ?_)
                refine goes_ Tryd.func61 (by kernel_rfl) rfl #[.agg #[.string ((rd_T81 l0 x5_1).f0), .slice A320_1 ((rd_T81 l0 x5_1).f1).length c320_1], .agg #[.string ((rd_T81 l1 x5_1).f0), .slice A321_1 ((rd_T81 l1 x5_1).f1).length c321_1]] (by rfl) rfl rfl mapA ?_
                with_reducible refine (laws_eqDir.calls k1 ((rd_T81 l0 x5_1).f0) _ _ ((rd_T81 l0 x5_1).f1) ((rd_T81 l1 x5_1).f0) _ _ ((rd_T81 l1 x5_1).f1) false _ ?side1 ?side2 ?side3 ?side4 A7.out).mono ?_
                (case side1 => exact cbA HR320_1 HB)
                (case side2 => exact HC320_1.out)
                (case side3 => exact cbA HR321_1 HB)
                (case side4 => exact HC321_1.out)
                rintro e w12 ⟨rfl, hb⟩
                refine ⟨_, rfl, ?_⟩
                have n0_ := Aside0.mk (below_step (belB HB) hb)
                clear HB
                have HB := n0_
                clear n0_
                (try clear hb)
                (try clear hb2)
                (try clear hk)
                (try clear hi)
                refine hK.out _ _ ⟨((HB.out.cell (World.block_lt_of_cell? w _ hw320_0)).trans hw320_0), ((HB.out.cell (World.block_lt_of_cell? w _ hw320_1)).trans hw320_1), ((HB.out.cell (World.block_lt_of_cell? w _ hw321_0)).trans hw321_0), ((HB.out.cell (World.block_lt_of_cell? w _ hw321_1)).trans hw321_1)⟩ (fun hHeld => ?_)
                clear hK K
                refine norm_ (a' := ?_) ?_ ?_
                rotate_left
                · show Act.put _ (some 25) _ = _
                  simp only [Act.put, List.setIfInBounds_toArray, List.set_cons_zero, List.set_cons_succ, i64_w, i32_w]
                  rfl
                refine pure_ (i := 9) (N := some 26) (v := ?_) (a' := ?_) #[true, true, true, true, true, true, true, true, true, true] rfl rfl (any_of HT_.out (by kernel_rfl)) (fun _ _ _ h => h) (Or.inl ⟨by rfl, ?_⟩) ?_ ?_
                rotate_left
                · intro w'
                  go_simp
                  with_reducible rfl
                rotate_left
                · simp only [Act.put, List.setIfInBounds_toArray, List.set_cons_zero, List.set_cons_succ, i64_w, i32_w]
                  rfl
                refine done_ (done_of HT_.out (by kernel_rfl)) ?_
                try go_wp2
                go_ret
                exact ⟨erA, belB HB⟩
            · rw [if_neg c6] at H
              exact absurd H (by simp)
          · rw [if_neg c5] at H
            exact absurd H (by simp)
        · rw [if_neg c4] at H
          have c4b0 : decide (x5_1 < (l0.length : Int)) = false := decide_eq_false c4
          clear c4
          obtain rfl := Option.some.inj H
          go_wp2
          go_ret
          exact ⟨erA, belB HB⟩
  · rw [if_neg c3] at H
    have c3b0 : ((l0.length : Int) == (l1.length : Int)) = false := beq_eq_false_iff_ne.mpr c3
    have c3b1 : ((l0.length : Int) != (l1.length : Int)) = true := bne_iff_ne.mpr c3
    have c3b2 : (l0.length == l1.length) = false := by first | simpa using c3 | (simp at c3 ⊢; omega)
    obtain rfl := Option.some.inj H
    go_enter Tryd.func29, Tryd.ntmps29
    go_wp2
    go_ret
    exact ⟨erA, belB HB⟩

/-! ### laws_FnExactDirsOk: function 7 -/
def laws_FnExactDirsOk.f (k : Nat) (l0 : List (S79)) : Option (Bool) := (laws_szDirS.f k l0 1048576).bind fun t323 => (if t323 < 0 then (some true) else ((laws_toDirS.f k l0).bind fun t324 => ((spec_DirsOk.f k t324).bind fun t327 => ((laws_toDirS.f k l0).bind fun t328 => ((impl_DirsOk.f k t328).bind fun t331 => (if (t331 != t327) = true then (some false) else ((laws_toDirS.f k l0).bind fun t332 => ((laws_eqDirS.f k t328 t332).bind fun t335 => (if t335 = true then (some true) else (some false))))))))))
theorem laws_FnExactDirsOk.mono : ∀ a0 k, LeO (laws_FnExactDirsOk.f k a0) (laws_FnExactDirsOk.f (k + 1) a0) := by
  intro a0 k
  unfold laws_FnExactDirsOk.f
  repeat' first
      | (with_reducible exact impl_DirsOk.mono _ _)
      | (with_reducible exact laws_eqDirS.mono _ _ _)
      | (with_reducible exact laws_szDirS.mono _ _ _)
      | (with_reducible exact laws_toDirS.mono _ _)
      | (with_reducible exact spec_DirsOk.mono _ _)
      | (with_reducible exact LeO.refl _)
      | (with_reducible exact LeO.none _)
      | (with_reducible refine LeO.ite ?_ ?_)
      | (with_reducible refine LeO.bind ?_ (fun _ => ?_))
      | exact impl_DirsOk.mono _ _
      | exact laws_eqDirS.mono _ _ _
      | exact laws_szDirS.mono _ _ _
      | exact laws_toDirS.mono _ _
      | exact spec_DirsOk.mono _ _
      | exact LeO.none _
      | refine LeO.ite ?_ ?_
      | refine LeO.bind ?_ (fun _ => ?_)
set_option maxHeartbeats 8000000 in
set_option maxRecDepth 100000 in
theorem laws_FnExactDirsOk.calls (k : Nat) (A0 : Option Addr) (c0 : Nat) (l0 : List (S79)) (r : Bool) (w : World) (hr0 : Kd.C k79 w A0 l0.length l0) (hc0 : l0.length ≤ c0) (hG : Gl w) (h : laws_FnExactDirsOk.f k l0 = some r) :
    Calls Tryd.prog 7 #[.slice A0 l0.length c0] w fun e w' => e = .returned (.bool r) ∧ Below w.heap.size w w' := by
  have HG := Aside0.mk hG
  clear hG
  have HR0 := Aside0.mk hr0
  have HC0 := Aside0.mk hc0
  clear hr0 hc0
  have HB := Aside0.mk (Below.refl w.heap.size w)
  have H : ((laws_szDirS.f k l0 1048576).bind fun t323 => (if t323 < 0 then (some true) else ((laws_toDirS.f k l0).bind fun t324 => ((spec_DirsOk.f k t324).bind fun t327 => ((laws_toDirS.f k l0).bind fun t328 => ((impl_DirsOk.f k t328).bind fun t331 => (if (t331 != t327) = true then (some false) else ((laws_toDirS.f k l0).bind fun t332 => ((laws_eqDirS.f k t328 t332).bind fun t335 => (if t335 = true then (some true) else (some false))))))))))) = some r := h
  clear h
  replace H := Option.bind_eq_some_iff.mp H
  obtain ⟨t323, A20, H⟩ := H
  replace H : (if t323 < 0 then (some true) else ((laws_toDirS.f k l0).bind fun t324 => ((spec_DirsOk.f k t324).bind fun t327 => ((laws_toDirS.f k l0).bind fun t328 => ((impl_DirsOk.f k t328).bind fun t331 => (if (t331 != t327) = true then (some false) else ((laws_toDirS.f k l0).bind fun t332 => ((laws_eqDirS.f k t328 t332).bind fun t335 => (if t335 = true then (some true) else (some false)))))))))) = some r := H
  have A2 := Aside0.mk A20
  clear A20
  by_cases c3 : t323 < 0
  · rw [if_pos c3] at H
    have c3b0 : decide (t323 < 0) = true := decide_eq_true c3
    clear c3
    obtain rfl := Option.some.inj H
    go_enter Tryd.func7, Tryd.ntmps7
    go_wp2_with (first | ((with_reducible refine gate_callee (f := 25) rfl ?_); refine goesL_ (some 9) rfl rfl Tryd.func25 (by kernel_rfl) rfl #[.slice A0 l0.length c0, .int .i64 1048576] rfl mapA ?_; (with_reducible refine (laws_szDirS.calls k _ _ l0 1048576 t323 _ ?side1 ?side2 A2.out).mono ?_); (case side1 => repeat (first | exact HR0.out | (with_reducible refine Kd.C_alloc ?_ _) | (with_reducible refine Kd.C_drewN ?_ _) | (with_reducible refine Kd.C_drew ?_))); (case side2 => exact HC0.out); rintro e w4 ⟨rfl, hb⟩; refine ⟨_, rfl, ?_⟩; have n0_ := Aside0.mk (below_step (belB HB) hb); clear HB; have HB := n0_; clear n0_; (try clear hb)))
    go_ret
    exact ⟨erA, belB HB⟩
  · rw [if_neg c3] at H
    have c3b0 : decide (t323 < 0) = false := decide_eq_false c3
    clear c3
    replace H := Option.bind_eq_some_iff.mp H
    obtain ⟨t324, A50, H⟩ := H
    replace H : ((spec_DirsOk.f k t324).bind fun t327 => ((laws_toDirS.f k l0).bind fun t328 => ((impl_DirsOk.f k t328).bind fun t331 => (if (t331 != t327) = true then (some false) else ((laws_toDirS.f k l0).bind fun t332 => ((laws_eqDirS.f k t328 t332).bind fun t335 => (if t335 = true then (some true) else (some false)))))))) = some r := H
    have A5 := Aside0.mk A50
    clear A50
    replace H := Option.bind_eq_some_iff.mp H
    obtain ⟨t327, A60, H⟩ := H
    replace H : ((laws_toDirS.f k l0).bind fun t328 => ((impl_DirsOk.f k t328).bind fun t331 => (if (t331 != t327) = true then (some false) else ((laws_toDirS.f k l0).bind fun t332 => ((laws_eqDirS.f k t328 t332).bind fun t335 => (if t335 = true then (some true) else (some false))))))) = some r := H
    have A6 := Aside0.mk A60
    clear A60
    replace H := Option.bind_eq_some_iff.mp H
    obtain ⟨t328, A70, H⟩ := H
    replace H : ((impl_DirsOk.f k t328).bind fun t331 => (if (t331 != t327) = true then (some false) else ((laws_toDirS.f k l0).bind fun t332 => ((laws_eqDirS.f k t328 t332).bind fun t335 => (if t335 = true then (some true) else (some false)))))) = some r := H
    have A7 := Aside0.mk A70
    clear A70
    replace H := Option.bind_eq_some_iff.mp H
    obtain ⟨t331, A80, H⟩ := H
    replace H : (if (t331 != t327) = true then (some false) else ((laws_toDirS.f k l0).bind fun t332 => ((laws_eqDirS.f k t328 t332).bind fun t335 => (if t335 = true then (some true) else (some false))))) = some r := H
    have A8 := Aside0.mk A80
    clear A80
    by_cases c9 : (t331 != t327) = true
    · rw [if_pos c9] at H
      have c9b0 : (t331 != t327) = true := c9
      (try (have c9b1 : decide (t331 = t327) = false := by simpa using c9))
      (try (have c9b2 : (t331 == t327) = false := by simpa using c9))
      (try (have c9b3 : ¬ (t331 = t327) := by simpa using c9))
      clear c9
      obtain rfl := Option.some.inj H
      go_enter Tryd.func7, Tryd.ntmps7
      go_wp2_with (first | ((with_reducible refine gate_callee (f := 25) rfl ?_); refine goesL_ (some 9) rfl rfl Tryd.func25 (by kernel_rfl) rfl #[.slice A0 l0.length c0, .int .i64 1048576] rfl mapA ?_; (with_reducible refine (laws_szDirS.calls k _ _ l0 1048576 t323 _ ?side1 ?side2 A2.out).mono ?_); (case side1 => repeat (first | exact HR0.out | (with_reducible refine Kd.C_alloc ?_ _) | (with_reducible refine Kd.C_drewN ?_ _) | (with_reducible refine Kd.C_drew ?_))); (case side2 => exact HC0.out); rintro e w10 ⟨rfl, hb⟩; refine ⟨_, rfl, ?_⟩; have n0_ := Aside0.mk (below_step (belB HB) hb); clear HB; have HB := n0_; clear n0_; (try clear hb)) | ((with_reducible refine gate_callee (f := 27) rfl ?_); refine goesL_ (some 13) rfl rfl Tryd.func27 (by kernel_rfl) rfl #[.slice A0 l0.length c0] rfl mapA ?_; (with_reducible refine (laws_toDirS.calls k _ _ l0 t324 _ ?side1 ?side2 A5.out).mono ?_); (case side1 => exact cbA HR0 HB); (case side2 => exact HC0.out); rintro e w11 ⟨v325, rfl, ho0, hb⟩; refine ⟨_, rfl, ?_⟩; have n0_ := Aside0.mk (Kd.R_lower ho0 (below_size (belB HB))); have n1_ := Aside0.mk (below_step (belB HB) hb); clear HB; have HO326 := n0_; have HB := n1_; clear n0_ n1_; (try clear hb); (try clear ho0); obtain ⟨Ao12, co12, eo12⟩ := Kd.R_slice HO326.out; subst eo12) | ((with_reducible refine gate_callee (f := 26) rfl ?_); refine goesL_ (some 14) rfl rfl Tryd.func26 (by kernel_rfl) rfl #[.slice Ao12 t324.length co12] rfl mapA ?_; (with_reducible refine (spec_DirsOk.calls k _ _ t324 t327 _ ?side1 ?side2 A6.out).mono ?_); (case side1 => repeat (first | exact (Kd.R_reads' HO326.out).2.2 | (with_reducible refine Kd.C_alloc ?_ _) | (with_reducible refine Kd.C_drewN ?_ _) | (with_reducible refine Kd.C_drew ?_))); (case side2 => exact (Kd.R_reads' HO326.out).2.1); rintro e w13 ⟨rfl, hb⟩; refine ⟨_, rfl, ?_⟩; have n0_ := Aside0.mk (Kd.R_below (kdB HO326) hb); have n1_ := Aside0.mk (below_step (belB HB) hb); clear HO326; clear HB; have HO326 := n0_; have HB := n1_; clear n0_ n1_; (try clear hb)) | ((with_reducible refine gate_callee (f := 27) rfl ?_); refine goesL_ (some 16) rfl rfl Tryd.func27 (by kernel_rfl) rfl #[.slice A0 l0.length c0] rfl mapA ?_; (with_reducible refine (laws_toDirS.calls k _ _ l0 t328 _ ?side1 ?side2 A7.out).mono ?_); (case side1 => exact cbA HR0 HB); (case side2 => exact HC0.out); rintro e w14 ⟨v329, rfl, ho0, hb⟩; refine ⟨_, rfl, ?_⟩; have n0_ := Aside0.mk (Kd.R_elder' (kdB HO326) (Kd.R_base ho0) hb); have n1_ := Aside0.mk (Kd.R_lower (Kd.R_new' ho0 (Kd.R_lt (kdB HO326))) (below_size (belB HB))); have n2_ := Aside0.mk (below_step (belB HB) hb); clear HO326; clear HB; have HO326 := n0_; have HO330 := n1_; have HB := n2_; clear n0_ n1_ n2_; (try clear hb); (try clear ho0); obtain ⟨Ao15, co15, eo15⟩ := Kd.R_slice HO330.out; subst eo15) | ((with_reducible refine gate_callee (f := 28) rfl ?_); refine goesL_ (some 18) rfl rfl Tryd.func28 (by kernel_rfl) rfl #[.slice Ao15 t328.length co15] rfl mapA ?_; (with_reducible refine (impl_DirsOk.calls k _ _ t328 t331 _ ?side1 ?side2 (Gl.below HG.out (belB HB)) A8.out).mono ?_); (case side1 => repeat (first | exact (Kd.R_reads' HO330.out).2.2 | (with_reducible refine Kd.C_alloc ?_ _) | (with_reducible refine Kd.C_drewN ?_ _) | (with_reducible refine Kd.C_drew ?_))); (case side2 => exact (Kd.R_reads' HO330.out).2.1); rintro e w16 ⟨rfl, hb⟩; refine ⟨_, rfl, ?_⟩; have n0_ := Aside0.mk (Kd.R_below (kdB HO326) hb); have n1_ := Aside0.mk (Kd.R_below (kdB HO330) hb); have n2_ := Aside0.mk (below_step (belB HB) hb); clear HO326; clear HO330; clear HB; have HO326 := n0_; have HO330 := n1_; have HB := n2_; clear n0_ n1_ n2_; (try clear hb)))
      go_ret
      exact ⟨erA, belB HB⟩
    · rw [if_neg c9] at H
      have c9b0 : (t331 != t327) = false := by simpa using c9
      (try (have c9b1 : decide (t331 = t327) = true := by simpa using c9))
      (try (have c9b2 : (t331 == t327) = true := by simpa using c9))
      clear c9
      replace H := Option.bind_eq_some_iff.mp H
      obtain ⟨t332, A170, H⟩ := H
      replace H : ((laws_eqDirS.f k t328 t332).bind fun t335 => (if t335 = true then (some true) else (some false))) = some r := H
      have A17 := Aside0.mk A170
      clear A170
      replace H := Option.bind_eq_some_iff.mp H
      obtain ⟨t335, A180, H⟩ := H
      replace H : (if t335 = true then (some true) else (some false)) = some r := H
      have A18 := Aside0.mk A180
      clear A180
      by_cases c19 : t335 = true
      · subst c19
        have H1 : (some true) = some r := by rw [if_pos rfl] at H; exact H
        clear H
        have H := H1
        clear H1
        obtain rfl := Option.some.inj H
        go_enter Tryd.func7, Tryd.ntmps7
        go_wp2_with (first | ((with_reducible refine gate_callee (f := 25) rfl ?_); refine goesL_ (some 9) rfl rfl Tryd.func25 (by kernel_rfl) rfl #[.slice A0 l0.length c0, .int .i64 1048576] rfl mapA ?_; (with_reducible refine (laws_szDirS.calls k _ _ l0 1048576 t323 _ ?side1 ?side2 A2.out).mono ?_); (case side1 => repeat (first | exact HR0.out | (with_reducible refine Kd.C_alloc ?_ _) | (with_reducible refine Kd.C_drewN ?_ _) | (with_reducible refine Kd.C_drew ?_))); (case side2 => exact HC0.out); rintro e w20 ⟨rfl, hb⟩; refine ⟨_, rfl, ?_⟩; have n0_ := Aside0.mk (below_step (belB HB) hb); clear HB; have HB := n0_; clear n0_; (try clear hb)) | ((with_reducible refine gate_callee (f := 27) rfl ?_); refine goesL_ (some 13) rfl rfl Tryd.func27 (by kernel_rfl) rfl #[.slice A0 l0.length c0] rfl mapA ?_; (with_reducible refine (laws_toDirS.calls k _ _ l0 t324 _ ?side1 ?side2 A5.out).mono ?_); (case side1 => exact cbA HR0 HB); (case side2 => exact HC0.out); rintro e w21 ⟨v325, rfl, ho0, hb⟩; refine ⟨_, rfl, ?_⟩; have n0_ := Aside0.mk (Kd.R_lower ho0 (below_size (belB HB))); have n1_ := Aside0.mk (below_step (belB HB) hb); clear HB; have HO326 := n0_; have HB := n1_; clear n0_ n1_; (try clear hb); (try clear ho0); obtain ⟨Ao22, co22, eo22⟩ := Kd.R_slice HO326.out; subst eo22) | ((with_reducible refine gate_callee (f := 26) rfl ?_); refine goesL_ (some 14) rfl rfl Tryd.func26 (by kernel_rfl) rfl #[.slice Ao22 t324.length co22] rfl mapA ?_; (with_reducible refine (spec_DirsOk.calls k _ _ t324 t327 _ ?side1 ?side2 A6.out).mono ?_); (case side1 => repeat (first | exact (Kd.R_reads' HO326.out).2.2 | (with_reducible refine Kd.C_alloc ?_ _) | (with_reducible refine Kd.C_drewN ?_ _) | (with_reducible refine Kd.C_drew ?_))); (case side2 => exact (Kd.R_reads' HO326.out).2.1); rintro e w23 ⟨rfl, hb⟩; refine ⟨_, rfl, ?_⟩; have n0_ := Aside0.mk (Kd.R_below (kdB HO326) hb); have n1_ := Aside0.mk (below_step (belB HB) hb); clear HO326; clear HB; have HO326 := n0_; have HB := n1_; clear n0_ n1_; (try clear hb)) | ((with_reducible refine gate_callee (f := 27) rfl ?_); refine goesL_ (some 16) rfl rfl Tryd.func27 (by kernel_rfl) rfl #[.slice A0 l0.length c0] rfl mapA ?_; (with_reducible refine (laws_toDirS.calls k _ _ l0 t328 _ ?side1 ?side2 A7.out).mono ?_); (case side1 => exact cbA HR0 HB); (case side2 => exact HC0.out); rintro e w24 ⟨v329, rfl, ho0, hb⟩; refine ⟨_, rfl, ?_⟩; have n0_ := Aside0.mk (Kd.R_elder' (kdB HO326) (Kd.R_base ho0) hb); have n1_ := Aside0.mk (Kd.R_lower (Kd.R_new' ho0 (Kd.R_lt (kdB HO326))) (below_size (belB HB))); have n2_ := Aside0.mk (below_step (belB HB) hb); clear HO326; clear HB; have HO326 := n0_; have HO330 := n1_; have HB := n2_; clear n0_ n1_ n2_; (try clear hb); (try clear ho0); obtain ⟨Ao25, co25, eo25⟩ := Kd.R_slice HO330.out; subst eo25) | ((with_reducible refine gate_callee (f := 28) rfl ?_); refine goesL_ (some 18) rfl rfl Tryd.func28 (by kernel_rfl) rfl #[.slice Ao25 t328.length co25] rfl mapA ?_; (with_reducible refine (impl_DirsOk.calls k _ _ t328 t331 _ ?side1 ?side2 (Gl.below HG.out (belB HB)) A8.out).mono ?_); (case side1 => repeat (first | exact (Kd.R_reads' HO330.out).2.2 | (with_reducible refine Kd.C_alloc ?_ _) | (with_reducible refine Kd.C_drewN ?_ _) | (with_reducible refine Kd.C_drew ?_))); (case side2 => exact (Kd.R_reads' HO330.out).2.1); rintro e w26 ⟨rfl, hb⟩; refine ⟨_, rfl, ?_⟩; have n0_ := Aside0.mk (Kd.R_below (kdB HO326) hb); have n1_ := Aside0.mk (Kd.R_below (kdB HO330) hb); have n2_ := Aside0.mk (below_step (belB HB) hb); clear HO326; clear HO330; clear HB; have HO326 := n0_; have HO330 := n1_; have HB := n2_; clear n0_ n1_ n2_; (try clear hb)) | ((with_reducible refine gate_callee (f := 27) rfl ?_); refine goesL_ (some 24) rfl rfl Tryd.func27 (by kernel_rfl) rfl #[.slice A0 l0.length c0] rfl mapA ?_; (with_reducible refine (laws_toDirS.calls k _ _ l0 t332 _ ?side1 ?side2 A17.out).mono ?_); (case side1 => exact cbA HR0 HB); (case side2 => exact HC0.out); rintro e w27 ⟨v333, rfl, ho0, hb⟩; refine ⟨_, rfl, ?_⟩; have n0_ := Aside0.mk (Kd.R_elder' (kdB HO326) (Kd.R_base ho0) hb); have n1_ := Aside0.mk (Kd.R_elder' (kdB HO330) (Kd.R_base ho0) hb); have n2_ := Aside0.mk (Kd.R_lower (Kd.R_new' (Kd.R_new' ho0 (Kd.R_lt (kdB HO326))) (Kd.R_lt (kdB HO330))) (below_size (belB HB))); have n3_ := Aside0.mk (below_step (belB HB) hb); clear HO326; clear HO330; clear HB; have HO326 := n0_; have HO330 := n1_; have HO334 := n2_; have HB := n3_; clear n0_ n1_ n2_ n3_; (try clear hb); (try clear ho0); obtain ⟨Ao28, co28, eo28⟩ := Kd.R_slice HO334.out; subst eo28) | ((with_reducible refine gate_callee (f := 29) rfl ?_); refine goesL_ (some 25) rfl rfl Tryd.func29 (by kernel_rfl) rfl #[.slice Ao25 t328.length co25, .slice Ao28 t332.length co28] rfl mapA ?_; (with_reducible refine (laws_eqDirS.calls k _ _ t328 _ _ t332 true _ ?side1 ?side2 ?side3 ?side4 A18.out).mono ?_); (case side1 => repeat (first | exact (Kd.R_reads' HO330.out).2.2 | (with_reducible refine Kd.C_alloc ?_ _) | (with_reducible refine Kd.C_drewN ?_ _) | (with_reducible refine Kd.C_drew ?_))); (case side2 => exact (Kd.R_reads' HO330.out).2.1); (case side3 => repeat (first | exact (Kd.R_reads' HO334.out).2.2 | (with_reducible refine Kd.C_alloc ?_ _) | (with_reducible refine Kd.C_drewN ?_ _) | (with_reducible refine Kd.C_drew ?_))); (case side4 => exact (Kd.R_reads' HO334.out).2.1); rintro e w29 ⟨rfl, hb⟩; refine ⟨_, rfl, ?_⟩; have n0_ := Aside0.mk (Kd.R_below (kdB HO326) hb); have n1_ := Aside0.mk (Kd.R_below (kdB HO330) hb); have n2_ := Aside0.mk (Kd.R_below (kdB HO334) hb); have n3_ := Aside0.mk (below_step (belB HB) hb); clear HO326; clear HO330; clear HO334; clear HB; have HO326 := n0_; have HO330 := n1_; have HO334 := n2_; have HB := n3_; clear n0_ n1_ n2_ n3_; (try clear hb)))
        go_ret
        exact ⟨erA, belB HB⟩
      · replace c19 := Bool.eq_false_iff.mpr c19
        subst c19
        have H1 : (some false) = some r := by rw [if_neg (show ¬ (false = true) by decide)] at H; exact H
        clear H
        have H := H1
        clear H1
        obtain rfl := Option.some.inj H
        go_enter Tryd.func7, Tryd.ntmps7
        go_wp2_with (first | ((with_reducible refine gate_callee (f := 25) rfl ?_); refine goesL_ (some 9) rfl rfl Tryd.func25 (by kernel_rfl) rfl #[.slice A0 l0.length c0, .int .i64 1048576] rfl mapA ?_; (with_reducible refine (laws_szDirS.calls k _ _ l0 1048576 t323 _ ?side1 ?side2 A2.out).mono ?_); (case side1 => repeat (first | exact HR0.out | (with_reducible refine Kd.C_alloc ?_ _) | (with_reducible refine Kd.C_drewN ?_ _) | (with_reducible refine Kd.C_drew ?_))); (case side2 => exact HC0.out); rintro e w30 ⟨rfl, hb⟩; refine ⟨_, rfl, ?_⟩; have n0_ := Aside0.mk (below_step (belB HB) hb); clear HB; have HB := n0_; clear n0_; (try clear hb)) | ((with_reducible refine gate_callee (f := 27) rfl ?_); refine goesL_ (some 13) rfl rfl Tryd.func27 (by kernel_rfl) rfl #[.slice A0 l0.length c0] rfl mapA ?_; (with_reducible refine (laws_toDirS.calls k _ _ l0 t324 _ ?side1 ?side2 A5.out).mono ?_); (case side1 => exact cbA HR0 HB); (case side2 => exact HC0.out); rintro e w31 ⟨v325, rfl, ho0, hb⟩; refine ⟨_, rfl, ?_⟩; have n0_ := Aside0.mk (Kd.R_lower ho0 (below_size (belB HB))); have n1_ := Aside0.mk (below_step (belB HB) hb); clear HB; have HO326 := n0_; have HB := n1_; clear n0_ n1_; (try clear hb); (try clear ho0); obtain ⟨Ao32, co32, eo32⟩ := Kd.R_slice HO326.out; subst eo32) | ((with_reducible refine gate_callee (f := 26) rfl ?_); refine goesL_ (some 14) rfl rfl Tryd.func26 (by kernel_rfl) rfl #[.slice Ao32 t324.length co32] rfl mapA ?_; (with_reducible refine (spec_DirsOk.calls k _ _ t324 t327 _ ?side1 ?side2 A6.out).mono ?_); (case side1 => repeat (first | exact (Kd.R_reads' HO326.out).2.2 | (with_reducible refine Kd.C_alloc ?_ _) | (with_reducible refine Kd.C_drewN ?_ _) | (with_reducible refine Kd.C_drew ?_))); (case side2 => exact (Kd.R_reads' HO326.out).2.1); rintro e w33 ⟨rfl, hb⟩; refine ⟨_, rfl, ?_⟩; have n0_ := Aside0.mk (Kd.R_below (kdB HO326) hb); have n1_ := Aside0.mk (below_step (belB HB) hb); clear HO326; clear HB; have HO326 := n0_; have HB := n1_; clear n0_ n1_; (try clear hb)) | ((with_reducible refine gate_callee (f := 27) rfl ?_); refine goesL_ (some 16) rfl rfl Tryd.func27 (by kernel_rfl) rfl #[.slice A0 l0.length c0] rfl mapA ?_; (with_reducible refine (laws_toDirS.calls k _ _ l0 t328 _ ?side1 ?side2 A7.out).mono ?_); (case side1 => exact cbA HR0 HB); (case side2 => exact HC0.out); rintro e w34 ⟨v329, rfl, ho0, hb⟩; refine ⟨_, rfl, ?_⟩; have n0_ := Aside0.mk (Kd.R_elder' (kdB HO326) (Kd.R_base ho0) hb); have n1_ := Aside0.mk (Kd.R_lower (Kd.R_new' ho0 (Kd.R_lt (kdB HO326))) (below_size (belB HB))); have n2_ := Aside0.mk (below_step (belB HB) hb); clear HO326; clear HB; have HO326 := n0_; have HO330 := n1_; have HB := n2_; clear n0_ n1_ n2_; (try clear hb); (try clear ho0); obtain ⟨Ao35, co35, eo35⟩ := Kd.R_slice HO330.out; subst eo35) | ((with_reducible refine gate_callee (f := 28) rfl ?_); refine goesL_ (some 18) rfl rfl Tryd.func28 (by kernel_rfl) rfl #[.slice Ao35 t328.length co35] rfl mapA ?_; (with_reducible refine (impl_DirsOk.calls k _ _ t328 t331 _ ?side1 ?side2 (Gl.below HG.out (belB HB)) A8.out).mono ?_); (case side1 => repeat (first | exact (Kd.R_reads' HO330.out).2.2 | (with_reducible refine Kd.C_alloc ?_ _) | (with_reducible refine Kd.C_drewN ?_ _) | (with_reducible refine Kd.C_drew ?_))); (case side2 => exact (Kd.R_reads' HO330.out).2.1); rintro e w36 ⟨rfl, hb⟩; refine ⟨_, rfl, ?_⟩; have n0_ := Aside0.mk (Kd.R_below (kdB HO326) hb); have n1_ := Aside0.mk (Kd.R_below (kdB HO330) hb); have n2_ := Aside0.mk (below_step (belB HB) hb); clear HO326; clear HO330; clear HB; have HO326 := n0_; have HO330 := n1_; have HB := n2_; clear n0_ n1_ n2_; (try clear hb)) | ((with_reducible refine gate_callee (f := 27) rfl ?_); refine goesL_ (some 24) rfl rfl Tryd.func27 (by kernel_rfl) rfl #[.slice A0 l0.length c0] rfl mapA ?_; (with_reducible refine (laws_toDirS.calls k _ _ l0 t332 _ ?side1 ?side2 A17.out).mono ?_); (case side1 => exact cbA HR0 HB); (case side2 => exact HC0.out); rintro e w37 ⟨v333, rfl, ho0, hb⟩; refine ⟨_, rfl, ?_⟩; have n0_ := Aside0.mk (Kd.R_elder' (kdB HO326) (Kd.R_base ho0) hb); have n1_ := Aside0.mk (Kd.R_elder' (kdB HO330) (Kd.R_base ho0) hb); have n2_ := Aside0.mk (Kd.R_lower (Kd.R_new' (Kd.R_new' ho0 (Kd.R_lt (kdB HO326))) (Kd.R_lt (kdB HO330))) (below_size (belB HB))); have n3_ := Aside0.mk (below_step (belB HB) hb); clear HO326; clear HO330; clear HB; have HO326 := n0_; have HO330 := n1_; have HO334 := n2_; have HB := n3_; clear n0_ n1_ n2_ n3_; (try clear hb); (try clear ho0); obtain ⟨Ao38, co38, eo38⟩ := Kd.R_slice HO334.out; subst eo38) | ((with_reducible refine gate_callee (f := 29) rfl ?_); refine goesL_ (some 25) rfl rfl Tryd.func29 (by kernel_rfl) rfl #[.slice Ao35 t328.length co35, .slice Ao38 t332.length co38] rfl mapA ?_; (with_reducible refine (laws_eqDirS.calls k _ _ t328 _ _ t332 false _ ?side1 ?side2 ?side3 ?side4 A18.out).mono ?_); (case side1 => repeat (first | exact (Kd.R_reads' HO330.out).2.2 | (with_reducible refine Kd.C_alloc ?_ _) | (with_reducible refine Kd.C_drewN ?_ _) | (with_reducible refine Kd.C_drew ?_))); (case side2 => exact (Kd.R_reads' HO330.out).2.1); (case side3 => repeat (first | exact (Kd.R_reads' HO334.out).2.2 | (with_reducible refine Kd.C_alloc ?_ _) | (with_reducible refine Kd.C_drewN ?_ _) | (with_reducible refine Kd.C_drew ?_))); (case side4 => exact (Kd.R_reads' HO334.out).2.1); rintro e w39 ⟨rfl, hb⟩; refine ⟨_, rfl, ?_⟩; have n0_ := Aside0.mk (Kd.R_below (kdB HO326) hb); have n1_ := Aside0.mk (Kd.R_below (kdB HO330) hb); have n2_ := Aside0.mk (Kd.R_below (kdB HO334) hb); have n3_ := Aside0.mk (below_step (belB HB) hb); clear HO326; clear HO330; clear HO334; clear HB; have HO326 := n0_; have HO330 := n1_; have HO334 := n2_; have HB := n3_; clear n0_ n1_ n2_ n3_; (try clear hb)))
        go_ret
        exact ⟨erA, belB HB⟩

end Go.Proofs.YtjhagdjjlgjlbaaDoor.OFnExactDirsOk
