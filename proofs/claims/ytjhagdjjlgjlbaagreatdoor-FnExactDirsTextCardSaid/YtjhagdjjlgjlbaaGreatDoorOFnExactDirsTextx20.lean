/- The machine side of one law, written by a program. -/
import Derived.Test.YtjhagdjjlgjlbaaGreatDoorOFnExactDirsTextx0
import Derived.Test.YtjhagdjjlgjlbaaGreatDoorOFnExactDirsTextx1
import Derived.Test.YtjhagdjjlgjlbaaGreatDoorOFnExactDirsTextx10
import Derived.Test.YtjhagdjjlgjlbaaGreatDoorOFnExactDirsTextx11
import Derived.Test.YtjhagdjjlgjlbaaGreatDoorOFnExactDirsTextx17
import Derived.Test.YtjhagdjjlgjlbaaGreatDoorOFnExactDirsTextx19
namespace Go.Proofs.YtjhagdjjlgjlbaaGreatDoor.OFnExactDirsText
open Go.Proofs.YtjhagdjjlgjlbaaGreatDoor.GlU Go.Proofs.YtjhagdjjlgjlbaaGreatDoor.Ix
open Go.RowKit Go.Proofs.YtjhagdjjlgjlbaaGreatDoorW.PrintWords Go.Proofs.YtjhagdjjlgjlbaaGreatDoorW.PrintLast Go.Proofs.YtjhagdjjlgjlbaaGreatDoorW.PrintMore
attribute [local go_sem] max2_int min2_int max_two min_two max_three min_three max_four min_four
set_option linter.unusedVariables false
set_option linter.unusedSimpArgs false

def laws_eqDirS.l0 : Nat → List (S38) → List (S38) → Int → Option (Bool)
 | 0, _, _, _ => none
 | k + 1, x0, x1, x5 => if x5 < (x0.length : Int) then (if 0 ≤ x5 then (if x5 < (x1.length : Int) then ((laws_eqDir.f k ((rd_T38 x0 x5).f0) ((rd_T38 x0 x5).f1) ((rd_T38 x1 x5).f0) ((rd_T38 x1 x5).f1)).bind fun t476 => (if t476 = true then (laws_eqDirS.l0 k x0 x1 (wrap64 (x5 + 1))) else (some false))) else (none)) else (none)) else (some true)
def laws_eqDirS.f (k : Nat) (l0 : List (S38)) (l1 : List (S38)) : Option (Bool) := if (l0.length : Int) = (l1.length : Int) then (laws_eqDirS.l0 k l0 l1 0) else (some false)
theorem laws_eqDirS.mono_l : ∀ k, (∀ y0 y1 y2, LeO (laws_eqDirS.l0 k y0 y1 y2) (laws_eqDirS.l0 (k + 1) y0 y1 y2))
 | 0 => fun _ _ _ r h => by simp [laws_eqDirS.l0] at h
 | k + 1 => by
  have ih0 := laws_eqDirS.mono_l k
  ·intro y0 y1 y2; unfold laws_eqDirS.l0
   repeat' first
   | (with_reducible first | exact ih0 _ _ _ | exact laws_eqDir.mono _ _ _ _ _ | exact LeO.refl _ | exact LeO.none _ | refine LeO.ite ?_ ?_ | refine LeO.bind ?_ (fun _ => ?_))
   | exact ih0 _ _ _ | exact laws_eqDir.mono _ _ _ _ _ | exact LeO.none _ | refine LeO.ite ?_ ?_ | refine LeO.bind ?_ (fun _ => ?_)
theorem laws_eqDirS.mono : ∀ a0 a1 k, LeO (laws_eqDirS.f k a0 a1) (laws_eqDirS.f (k + 1) a0 a1) := by
 intro a0 a1 k; have ih0 := laws_eqDirS.mono_l k; unfold laws_eqDirS.f
 repeat' first
   | (with_reducible first | exact ih0 _ _ _ | exact laws_eqDir.mono _ _ _ _ _ | exact LeO.refl _ | exact LeO.none _ | refine LeO.ite ?_ ?_ | refine LeO.bind ?_ (fun _ => ?_))
   | exact ih0 _ _ _ | exact laws_eqDir.mono _ _ _ _ _ | exact LeO.none _ | refine LeO.ite ?_ ?_ | refine LeO.bind ?_ (fun _ => ?_)
def laws_eqDirS.T6 : Bool × List (List Nat × List Nat) := (true, [([], []), ([], []), ([0, 1], [0, 1]), ([2], [2]), ([], []), ([], []), ([4, 5], [4, 5]), ([6], [6]), ([3, 7], [3, 7]), ([8], [8])])
def laws_eqDirS.B6 : List Nat := [0, 0, 3, 7, 0, 0, 48, 112, 255, 511]
theorem laws_eqDirS.tab6 : rtab .any (opsOf Tryz.f8 6) = laws_eqDirS.T6 := by kernel_rfl
theorem laws_eqDirS.bits6 : waitsOk laws_eqDirS.T6.2 laws_eqDirS.B6 = true := by kernel_rfl
set_option maxHeartbeats 8000000 in
set_option maxRecDepth 100000 in
theorem laws_eqDirS.calls (k : Nat) (A0 : Option Addr) (c0 : Nat) (l0 : List (S38)) (A1 : Option Addr) (c1 : Nat) (l1 : List (S38)) (r : Bool) (w : World) (hr0 : Kd.C k38 w A0 l0.length l0) (hc0 : l0.length ≤ c0) (hr1 : Kd.C k38 w A1 l1.length l1) (hc1 : l1.length ≤ c1) (h : laws_eqDirS.f k l0 l1 = some r) :
  Calls Tryz.prog 8 #[.slice A0 l0.length c0, .slice A1 l1.length c1] w fun e w' => e = .returned (.bool r) ∧ Below w.heap.size w w' := by
 have hu38 := Tryz.underlying38; have HR0 := Aside0.mk hr0; have HC0 := Aside0.mk hc0; clear hr0 hc0; have HR1 := Aside0.mk hr1; have HC1 := Aside0.mk hc1; clear hr1 hc1; have HB := Aside0.mk (Below.refl w.heap.size w); have H : (if (l0.length : Int) = (l1.length : Int) then (laws_eqDirS.l0 k l0 l1 0) else (some false)) = some r := h; clear h
 by_cases c3 : (l0.length : Int) = (l1.length : Int)
 ·rw [if_pos c3] at H; have c3b0 := beq_iff_eq.mpr c3; have c3b1 := bne_eq_false_iff_eq.mpr c3
  have c3b2 : (l0.length == l1.length) = true := by first | simpa using c3 | (simp at c3 ⊢; omega)
  clear c3
  have H' := Aside0.mk H
  clear H
  go_enter Tryz.func8, Tryz.ntmps8
  go_wp2
  go_loopg [5] k (fun kq v5 w' => ∃ (x5_1 : Int), v5 = .int .i64 x5_1 ∧ Aside0 (laws_eqDirS.l0 kq l0 l1 x5_1 = some r) ∧ Aside0 (kq ≤ k) ∧ Aside0 (Below w.heap.size w w'))
  case atStart => exact ⟨(0), enA, H', ⟨Nat.le_refl _⟩, ⟨belB HB⟩⟩
  case round =>
   clear H'
   try clear c1
   try clear p2
   try clear c3
   try clear c3b0
   try clear c3b1
   try clear c3b2
   obtain ⟨x5_1, rfl, HA, HK1, HB⟩ := hrel
   cases gk with
   | zero => exact absurd HA.out (by simp [laws_eqDirS.l0])
   | succ k1 =>
    have H := HA.out; clear HA
    simp only [laws_eqDirS.l0] at H
    by_cases c4 : x5_1 < (l0.length : Int)
    ·rw [if_pos c4] at H; have c4b0 := decide_eq_true c4; clear c4
     by_cases c5 : 0 ≤ x5_1
     ·rw [if_pos c5] at H; have c5b0 := decide_eq_true c5; clear c5
      by_cases c6 : x5_1 < (l1.length : Int)
      ·rw [if_pos c6] at H; have c6b0 := decide_eq_true c6; clear c6; replace H := Option.bind_eq_some_iff.mp H; obtain ⟨t476, A70, H⟩ := H; replace H : (if t476 = true then (laws_eqDirS.l0 k1 l0 l1 (wrap64 (x5_1 + 1))) else (some false)) = some r := H; have A7 := Aside0.mk A70; clear A70
       by_cases c8 : t476 = true
       ·subst c8
        have H1 : (laws_eqDirS.l0 k1 l0 l1 (wrap64 (x5_1 + 1))) = some r := by rw [if_pos rfl] at H; exact H
        clear H; have H := H1; clear H1
        have H' := Aside0.mk H
        clear H
        try go_wp2
        replace HB := Aside0.mk (below_drew1 HB.out); have p474 : 0 ≤ (x5_1 : Int) := odA; have q474 : x5_1 < (l0.length : Int) := odA; obtain ⟨ad474, A474_1, c474_1, e474, hx474_0, hx474_1, hl474_1, hi474_1⟩ := at_T38 HR0.out x5_1 p474 q474; have hw474_1 := hx474_1; have hw474_0 := hx474_0
        cases e474
        (try replace hx474_0 := celB HB hx474_0)
        (try replace hx474_1 := celB HB hx474_1)
        have HR474_1 := Aside0.mk hi474_1; have HC474_1 := Aside0.mk hl474_1; clear hi474_1 hl474_1; replace p474 := eq_true p474; replace q474 := eq_true q474; have p475 : 0 ≤ (x5_1 : Int) := odA; have q475 : x5_1 < (l1.length : Int) := odA; obtain ⟨ad475, A475_1, c475_1, e475, hx475_0, hx475_1, hl475_1, hi475_1⟩ := at_T38 HR1.out x5_1 p475 q475; have hw475_1 := hx475_1; have hw475_0 := hx475_0
        cases e475
        (try replace hx475_0 := celB HB hx475_0)
        (try replace hx475_1 := celB HB hx475_1)
        have HR475_1 := Aside0.mk hi475_1; have HC475_1 := Aside0.mk hl475_1; clear hi475_1 hl475_1; replace p475 := eq_true p475; replace q475 := eq_true q475
        refine start_ (n := 10) (S := fun w' => w'.cell? (ad474.add ((x5_1).toNat * 2)) = some (.string ((rd_T38 l0 x5_1).f0)) ∧ w'.cell? ⟨(ad474.add ((x5_1).toNat * 2)).block, (ad474.add ((x5_1).toNat * 2)).off + 1, none⟩ = some (.slice A474_1 ((rd_T38 l0 x5_1).f1).length c474_1) ∧ w'.cell? (ad475.add ((x5_1).toNat * 2)) = some (.string ((rd_T38 l1 x5_1).f0)) ∧ w'.cell? ⟨(ad475.add ((x5_1).toNat * 2)).block, (ad475.add ((x5_1).toNat * 2)).off + 1, none⟩ = some (.slice A475_1 ((rd_T38 l1 x5_1).f1).length c475_1)) (ds := []) #[false, false, false, false, false, false, false, false, false, false] (by kernel_rfl) rfl rfl ⟨((HB.out.cell (World.block_lt_of_cell? w _ hw474_0)).trans hw474_0), ((HB.out.cell (World.block_lt_of_cell? w _ hw474_1)).trans hw474_1), ((HB.out.cell (World.block_lt_of_cell? w _ hw475_0)).trans hw475_0), ((HB.out.cell (World.block_lt_of_cell? w _ hw475_1)).trans hw475_1)⟩ (fun hHeld => ?_); refine with_tabW laws_eqDirS.tab6 laws_eqDirS.bits6 (fun HT_ HW_ => ?_)
        generalize wr.drew = w9 at HB HR474_1 HR475_1 hx474_0 hx474_1 hx475_0 hx475_1 hHeld ⊢
        refine pure_ (i := 0) (N := some 17) (v := ?_) (a' := ?_) #[true, false, false, false, false, false, false, false, false, false] rfl rfl (any_of HT_.out (by kernel_rfl)) (fun _ _ _ h => h) (Or.inl ⟨by rfl, ?_⟩) ?_ ?_
        rotate_left
        ·intro w'; go_simp
         with_reducible rfl
        rotate_left
        ·exact putA
        refine pure_ (i := 1) (N := some 18) (v := ?_) (a' := ?_) #[true, true, false, false, false, false, false, false, false, false] rfl rfl (any_of HT_.out (by kernel_rfl)) (fun _ _ _ h => h) (Or.inl ⟨by rfl, ?_⟩) ?_ ?_
        rotate_left
        ·intro w'; go_simp
         with_reducible rfl
        rotate_left
        ·exact putA
        refine pure_ (i := 2) (N := some 19) (v := ?_) (a' := ?_) #[true, true, true, false, false, false, false, false, false, false] rfl rfl (any_of HT_.out (by kernel_rfl)) (fun _ _ _ h => h) (Or.inl ⟨by rfl, ?_⟩) ?_ ?_
        rotate_left
        ·intro w'; go_simp
         with_reducible rfl
        rotate_left
        ·exact putA
        refine pure_ (i := 4) (N := some 21) (v := ?_) (a' := ?_) #[true, true, true, false, true, false, false, false, false, false] rfl rfl (any_of HT_.out (by kernel_rfl)) (fun _ _ _ h => h) (Or.inl ⟨by rfl, ?_⟩) ?_ ?_
        rotate_left
        ·intro w'; go_simp
         with_reducible rfl
        rotate_left
        ·exact putA
        refine pure_ (i := 5) (N := some 22) (v := ?_) (a' := ?_) #[true, true, true, false, true, true, false, false, false, false] rfl rfl (any_of HT_.out (by kernel_rfl)) (fun _ _ _ h => h) (Or.inl ⟨by rfl, ?_⟩) ?_ ?_
        rotate_left
        ·intro w'; go_simp
         with_reducible rfl
        rotate_left
        ·exact putA
        refine pure_ (i := 6) (N := some 23) (v := ?_) (a' := ?_) #[true, true, true, false, true, true, true, false, false, false] rfl rfl (any_of HT_.out (by kernel_rfl)) (fun _ _ _ h => h) (Or.inl ⟨by rfl, ?_⟩) ?_ ?_
        rotate_left
        ·intro w'; go_simp
         with_reducible rfl
        rotate_left
        ·exact putA
        refine take_ (i := 3) (N := some 20) (v := ?_) (a' := ?_) #[true, true, true, true, true, true, true, false, false, false] rfl rfl (take_ofW HT_.out HW_.out (by kernel_rfl)) (fun _ _ _ h => h) (Or.inl ⟨by rfl, ?_⟩) hHeld ?_ ?_
        rotate_left
        ·rintro w' ⟨s0, s1, s2, s3⟩
         go_simp
         with_reducible rfl
        rotate_left
        ·exact putA
        refine take_ (i := 7) (N := some 24) (v := ?_) (a' := ?_) #[true, true, true, true, true, true, true, true, false, false] rfl rfl (take_ofW HT_.out HW_.out (by kernel_rfl)) (fun _ _ _ h => h) (Or.inl ⟨by rfl, ?_⟩) hHeld ?_ ?_
        rotate_left
        ·rintro w' ⟨s0, s1, s2, s3⟩
         go_simp
         with_reducible rfl
        rotate_left
        ·exact putA
        refine one_ (i := 8) (N := some 25) #[true, true, true, true, true, true, true, true, true, false] rfl rfl (one_of HT_.out (by kernel_rfl)) (by decide) (fun K hK => ?_)
        refine goes_ Tryz.func15 (by kernel_rfl) rfl #[.agg #[.string ((rd_T38 l0 x5_1).f0), .slice A474_1 ((rd_T38 l0 x5_1).f1).length c474_1], .agg #[.string ((rd_T38 l1 x5_1).f0), .slice A475_1 ((rd_T38 l1 x5_1).f1).length c475_1]] (by rfl) rfl rfl mapA ?_
        with_reducible refine (laws_eqDir.calls k1 ((rd_T38 l0 x5_1).f0) _ _ ((rd_T38 l0 x5_1).f1) ((rd_T38 l1 x5_1).f0) _ _ ((rd_T38 l1 x5_1).f1) true _ ?side1 ?side2 ?side3 ?side4 A7.out).mono ?_
        (case side1 => exact cbA HR474_1 HB)
        (case side2 => exact HC474_1.out)
        (case side3 => exact cbA HR475_1 HB)
        (case side4 => exact HC475_1.out)
        rintro e w10 ⟨rfl, hb⟩
        refine ⟨_, rfl, ?_⟩; replace HB := Aside0.mk (below_step (belB HB) hb)
        (try clear hb)
        (try clear hb2)
        (try clear hk)
        (try clear hi)
        refine hK.out _ _ ⟨((HB.out.cell (World.block_lt_of_cell? w _ hw474_0)).trans hw474_0), ((HB.out.cell (World.block_lt_of_cell? w _ hw474_1)).trans hw474_1), ((HB.out.cell (World.block_lt_of_cell? w _ hw475_0)).trans hw475_0), ((HB.out.cell (World.block_lt_of_cell? w _ hw475_1)).trans hw475_1)⟩ (fun hHeld => ?_); clear hK K; refine norm_ (a' := ?_) ?_ ?_; rotate_left
        ·show Act.put _ (some 25) _ = _
         simp only [Act.put, List.setIfInBounds_toArray, List.set_cons_zero, List.set_cons_succ, i64_w, i32_w]
         rfl
        refine pure_ (i := 9) (N := some 26) (v := ?_) (a' := ?_) #[true, true, true, true, true, true, true, true, true, true] rfl rfl (any_of HT_.out (by kernel_rfl)) (fun _ _ _ h => h) (Or.inl ⟨by rfl, ?_⟩) ?_ ?_
        rotate_left
        ·intro w'; go_simp
         with_reducible rfl
        rotate_left
        ·exact putA
        refine done_ (done_of HT_.out (by kernel_rfl)) ?_
        try go_wp2
        go_roundg k1
        case measure => have := HK1.out; omega
        case rel => exact ⟨(wrap64 (x5_1 + 1)), enA, H', ⟨by have := HK1.out; omega⟩, ⟨belB HB⟩⟩
       ·replace c8 := Bool.eq_false_iff.mpr c8; subst c8
        have H1 : (some false) = some r := by rw [if_neg (show ¬ (false = true) by decide)] at H; exact H
        clear H; have H := H1; clear H1; obtain rfl := Option.some.inj H
        try go_wp2
        replace HB := Aside0.mk (below_drew1 HB.out); have p474 : 0 ≤ (x5_1 : Int) := odA; have q474 : x5_1 < (l0.length : Int) := odA; obtain ⟨ad474, A474_1, c474_1, e474, hx474_0, hx474_1, hl474_1, hi474_1⟩ := at_T38 HR0.out x5_1 p474 q474; have hw474_1 := hx474_1; have hw474_0 := hx474_0
        cases e474
        (try replace hx474_0 := celB HB hx474_0)
        (try replace hx474_1 := celB HB hx474_1)
        have HR474_1 := Aside0.mk hi474_1; have HC474_1 := Aside0.mk hl474_1; clear hi474_1 hl474_1; replace p474 := eq_true p474; replace q474 := eq_true q474; have p475 : 0 ≤ (x5_1 : Int) := odA; have q475 : x5_1 < (l1.length : Int) := odA; obtain ⟨ad475, A475_1, c475_1, e475, hx475_0, hx475_1, hl475_1, hi475_1⟩ := at_T38 HR1.out x5_1 p475 q475; have hw475_1 := hx475_1; have hw475_0 := hx475_0
        cases e475
        (try replace hx475_0 := celB HB hx475_0)
        (try replace hx475_1 := celB HB hx475_1)
        have HR475_1 := Aside0.mk hi475_1; have HC475_1 := Aside0.mk hl475_1; clear hi475_1 hl475_1; replace p475 := eq_true p475; replace q475 := eq_true q475
        refine start_ (n := 10) (S := fun w' => w'.cell? (ad474.add ((x5_1).toNat * 2)) = some (.string ((rd_T38 l0 x5_1).f0)) ∧ w'.cell? ⟨(ad474.add ((x5_1).toNat * 2)).block, (ad474.add ((x5_1).toNat * 2)).off + 1, none⟩ = some (.slice A474_1 ((rd_T38 l0 x5_1).f1).length c474_1) ∧ w'.cell? (ad475.add ((x5_1).toNat * 2)) = some (.string ((rd_T38 l1 x5_1).f0)) ∧ w'.cell? ⟨(ad475.add ((x5_1).toNat * 2)).block, (ad475.add ((x5_1).toNat * 2)).off + 1, none⟩ = some (.slice A475_1 ((rd_T38 l1 x5_1).f1).length c475_1)) (ds := []) #[false, false, false, false, false, false, false, false, false, false] (by kernel_rfl) rfl rfl ⟨((HB.out.cell (World.block_lt_of_cell? w _ hw474_0)).trans hw474_0), ((HB.out.cell (World.block_lt_of_cell? w _ hw474_1)).trans hw474_1), ((HB.out.cell (World.block_lt_of_cell? w _ hw475_0)).trans hw475_0), ((HB.out.cell (World.block_lt_of_cell? w _ hw475_1)).trans hw475_1)⟩ (fun hHeld => ?_); refine with_tabW laws_eqDirS.tab6 laws_eqDirS.bits6 (fun HT_ HW_ => ?_)
        generalize wr.drew = w11 at HB HR474_1 HR475_1 hx474_0 hx474_1 hx475_0 hx475_1 hHeld ⊢
        refine pure_ (i := 0) (N := some 17) (v := ?_) (a' := ?_) #[true, false, false, false, false, false, false, false, false, false] rfl rfl (any_of HT_.out (by kernel_rfl)) (fun _ _ _ h => h) (Or.inl ⟨by rfl, ?_⟩) ?_ ?_
        rotate_left
        ·intro w'; go_simp
         with_reducible rfl
        rotate_left
        ·exact putA
        refine pure_ (i := 1) (N := some 18) (v := ?_) (a' := ?_) #[true, true, false, false, false, false, false, false, false, false] rfl rfl (any_of HT_.out (by kernel_rfl)) (fun _ _ _ h => h) (Or.inl ⟨by rfl, ?_⟩) ?_ ?_
        rotate_left
        ·intro w'; go_simp
         with_reducible rfl
        rotate_left
        ·exact putA
        refine pure_ (i := 2) (N := some 19) (v := ?_) (a' := ?_) #[true, true, true, false, false, false, false, false, false, false] rfl rfl (any_of HT_.out (by kernel_rfl)) (fun _ _ _ h => h) (Or.inl ⟨by rfl, ?_⟩) ?_ ?_
        rotate_left
        ·intro w'; go_simp
         with_reducible rfl
        rotate_left
        ·exact putA
        refine pure_ (i := 4) (N := some 21) (v := ?_) (a' := ?_) #[true, true, true, false, true, false, false, false, false, false] rfl rfl (any_of HT_.out (by kernel_rfl)) (fun _ _ _ h => h) (Or.inl ⟨by rfl, ?_⟩) ?_ ?_
        rotate_left
        ·intro w'; go_simp
         with_reducible rfl
        rotate_left
        ·exact putA
        refine pure_ (i := 5) (N := some 22) (v := ?_) (a' := ?_) #[true, true, true, false, true, true, false, false, false, false] rfl rfl (any_of HT_.out (by kernel_rfl)) (fun _ _ _ h => h) (Or.inl ⟨by rfl, ?_⟩) ?_ ?_
        rotate_left
        ·intro w'; go_simp
         with_reducible rfl
        rotate_left
        ·exact putA
        refine pure_ (i := 6) (N := some 23) (v := ?_) (a' := ?_) #[true, true, true, false, true, true, true, false, false, false] rfl rfl (any_of HT_.out (by kernel_rfl)) (fun _ _ _ h => h) (Or.inl ⟨by rfl, ?_⟩) ?_ ?_
        rotate_left
        ·intro w'; go_simp
         with_reducible rfl
        rotate_left
        ·exact putA
        refine take_ (i := 3) (N := some 20) (v := ?_) (a' := ?_) #[true, true, true, true, true, true, true, false, false, false] rfl rfl (take_ofW HT_.out HW_.out (by kernel_rfl)) (fun _ _ _ h => h) (Or.inl ⟨by rfl, ?_⟩) hHeld ?_ ?_
        rotate_left
        ·rintro w' ⟨s0, s1, s2, s3⟩
         go_simp
         with_reducible rfl
        rotate_left
        ·exact putA
        refine take_ (i := 7) (N := some 24) (v := ?_) (a' := ?_) #[true, true, true, true, true, true, true, true, false, false] rfl rfl (take_ofW HT_.out HW_.out (by kernel_rfl)) (fun _ _ _ h => h) (Or.inl ⟨by rfl, ?_⟩) hHeld ?_ ?_
        rotate_left
        ·rintro w' ⟨s0, s1, s2, s3⟩
         go_simp
         with_reducible rfl
        rotate_left
        ·exact putA
        refine one_ (i := 8) (N := some 25) #[true, true, true, true, true, true, true, true, true, false] rfl rfl (one_of HT_.out (by kernel_rfl)) (by decide) (fun K hK => ?_)
        refine goes_ Tryz.func15 (by kernel_rfl) rfl #[.agg #[.string ((rd_T38 l0 x5_1).f0), .slice A474_1 ((rd_T38 l0 x5_1).f1).length c474_1], .agg #[.string ((rd_T38 l1 x5_1).f0), .slice A475_1 ((rd_T38 l1 x5_1).f1).length c475_1]] (by rfl) rfl rfl mapA ?_
        with_reducible refine (laws_eqDir.calls k1 ((rd_T38 l0 x5_1).f0) _ _ ((rd_T38 l0 x5_1).f1) ((rd_T38 l1 x5_1).f0) _ _ ((rd_T38 l1 x5_1).f1) false _ ?side1 ?side2 ?side3 ?side4 A7.out).mono ?_
        (case side1 => exact cbA HR474_1 HB)
        (case side2 => exact HC474_1.out)
        (case side3 => exact cbA HR475_1 HB)
        (case side4 => exact HC475_1.out)
        rintro e w12 ⟨rfl, hb⟩
        refine ⟨_, rfl, ?_⟩; replace HB := Aside0.mk (below_step (belB HB) hb)
        (try clear hb)
        (try clear hb2)
        (try clear hk)
        (try clear hi)
        refine hK.out _ _ ⟨((HB.out.cell (World.block_lt_of_cell? w _ hw474_0)).trans hw474_0), ((HB.out.cell (World.block_lt_of_cell? w _ hw474_1)).trans hw474_1), ((HB.out.cell (World.block_lt_of_cell? w _ hw475_0)).trans hw475_0), ((HB.out.cell (World.block_lt_of_cell? w _ hw475_1)).trans hw475_1)⟩ (fun hHeld => ?_); clear hK K; refine norm_ (a' := ?_) ?_ ?_; rotate_left
        ·show Act.put _ (some 25) _ = _
         simp only [Act.put, List.setIfInBounds_toArray, List.set_cons_zero, List.set_cons_succ, i64_w, i32_w]
         rfl
        refine pure_ (i := 9) (N := some 26) (v := ?_) (a' := ?_) #[true, true, true, true, true, true, true, true, true, true] rfl rfl (any_of HT_.out (by kernel_rfl)) (fun _ _ _ h => h) (Or.inl ⟨by rfl, ?_⟩) ?_ ?_
        rotate_left
        ·intro w'; go_simp
         with_reducible rfl
        rotate_left
        ·exact putA
        refine done_ (done_of HT_.out (by kernel_rfl)) ?_
        try go_wp2
        go_ret
        exact ⟨erA, belB HB⟩
      ·rw [if_neg c6] at H
       exact absurd H (by simp)
     ·rw [if_neg c5] at H
      exact absurd H (by simp)
    ·rw [if_neg c4] at H; have c4b0 := decide_eq_false c4; clear c4; obtain rfl := Option.some.inj H
     go_wp2
     go_ret
     exact ⟨erA, belB HB⟩
 ·rw [if_neg c3] at H; have c3b0 := beq_eq_false_iff_ne.mpr c3; have c3b1 := bne_iff_ne.mpr c3
  have c3b2 : (l0.length == l1.length) = false := by first | simpa using c3 | (simp at c3 ⊢; omega)
  obtain rfl := Option.some.inj H
  go_enter Tryz.func8, Tryz.ntmps8
  go_wp2
  go_ret
  exact ⟨erA, belB HB⟩

def laws_FnExactDirsText.f (k : Nat) (l0 : List (S32)) : Option (Bool) := (laws_szDirS.f k l0 1048576).bind fun t477 => (if t477 < 0 then (some true) else ((laws_toDirS.f k l0).bind fun t478 => ((spec_DirsText.f k t478).bind fun t481 => ((laws_toDirS.f k l0).bind fun t482 => ((impl_DirsText.f k t482).bind fun t485 => (if t485.toList = t481.toList then ((laws_toDirS.f k l0).bind fun t486 => ((laws_eqDirS.f k t482 t486).bind fun t489 => (if t489 = true then (some true) else (some false)))) else (some false)))))))
theorem laws_FnExactDirsText.mono : ∀ a0 k, LeO (laws_FnExactDirsText.f k a0) (laws_FnExactDirsText.f (k + 1) a0) := by
 intro a0 k; unfold laws_FnExactDirsText.f
 repeat' first
   | (with_reducible first | exact impl_DirsText.mono _ _ | exact laws_eqDirS.mono _ _ _ | exact laws_szDirS.mono _ _ _ | exact laws_toDirS.mono _ _ | exact spec_DirsText.mono _ _ | exact LeO.refl _ | exact LeO.none _ | refine LeO.ite ?_ ?_ | refine LeO.bind ?_ (fun _ => ?_))
   | exact impl_DirsText.mono _ _ | exact laws_eqDirS.mono _ _ _ | exact laws_szDirS.mono _ _ _ | exact laws_toDirS.mono _ _ | exact spec_DirsText.mono _ _ | exact LeO.none _ | refine LeO.ite ?_ ?_ | refine LeO.bind ?_ (fun _ => ?_)
set_option maxHeartbeats 8000000 in
set_option maxRecDepth 100000 in
theorem laws_FnExactDirsText.calls (k : Nat) (A0 : Option Addr) (c0 : Nat) (l0 : List (S32)) (r : Bool) (w : World) (hr0 : Kd.C k32 w A0 l0.length l0) (hc0 : l0.length ≤ c0) (hG : Gl w) (h : laws_FnExactDirsText.f k l0 = some r) :
  Calls Tryz.prog 3 #[.slice A0 l0.length c0] w fun e w' => e = .returned (.bool r) ∧ Below w.heap.size w w' := by
 have HG := Aside0.mk hG; clear hG; have HR0 := Aside0.mk hr0; have HC0 := Aside0.mk hc0; clear hr0 hc0; have HB := Aside0.mk (Below.refl w.heap.size w); have H : ((laws_szDirS.f k l0 1048576).bind fun t477 => (if t477 < 0 then (some true) else ((laws_toDirS.f k l0).bind fun t478 => ((spec_DirsText.f k t478).bind fun t481 => ((laws_toDirS.f k l0).bind fun t482 => ((impl_DirsText.f k t482).bind fun t485 => (if t485.toList = t481.toList then ((laws_toDirS.f k l0).bind fun t486 => ((laws_eqDirS.f k t482 t486).bind fun t489 => (if t489 = true then (some true) else (some false)))) else (some false)))))))) = some r := h; clear h; replace H := Option.bind_eq_some_iff.mp H; obtain ⟨t477, A20, H⟩ := H; replace H : (if t477 < 0 then (some true) else ((laws_toDirS.f k l0).bind fun t478 => ((spec_DirsText.f k t478).bind fun t481 => ((laws_toDirS.f k l0).bind fun t482 => ((impl_DirsText.f k t482).bind fun t485 => (if t485.toList = t481.toList then ((laws_toDirS.f k l0).bind fun t486 => ((laws_eqDirS.f k t482 t486).bind fun t489 => (if t489 = true then (some true) else (some false)))) else (some false))))))) = some r := H; have A2 := Aside0.mk A20; clear A20
 by_cases c3 : t477 < 0
 ·rw [if_pos c3] at H; have c3b0 := decide_eq_true c3; clear c3; obtain rfl := Option.some.inj H
  go_enter Tryz.func3, Tryz.ntmps3
  go_wp2_with (first | ((with_reducible refine gate_callee (f := 4) rfl ?_); refine goesL_ (some 9) rfl rfl Tryz.func4 (by kernel_rfl) rfl #[.slice A0 l0.length c0, .int .i64 1048576] rfl mapA ?_; (with_reducible refine (laws_szDirS.calls k _ _ l0 1048576 t477 _ ?side1 ?side2 A2.out).mono ?_); (case side1 => repeat (first | exact HR0.out | (with_reducible refine Kd.C_alloc ?_ _) | (with_reducible refine Kd.C_drewN ?_ _) | (with_reducible refine Kd.C_drew ?_))); (case side2 => exact HC0.out); rintro e w4 ⟨rfl, hb⟩; refine ⟨_, rfl, ?_⟩; replace HB := Aside0.mk (below_step (belB HB) hb); (try clear hb)))
  go_ret
  exact ⟨erA, belB HB⟩
 ·rw [if_neg c3] at H; have c3b0 := decide_eq_false c3; clear c3; replace H := Option.bind_eq_some_iff.mp H; obtain ⟨t478, A50, H⟩ := H; replace H : ((spec_DirsText.f k t478).bind fun t481 => ((laws_toDirS.f k l0).bind fun t482 => ((impl_DirsText.f k t482).bind fun t485 => (if t485.toList = t481.toList then ((laws_toDirS.f k l0).bind fun t486 => ((laws_eqDirS.f k t482 t486).bind fun t489 => (if t489 = true then (some true) else (some false)))) else (some false))))) = some r := H; have A5 := Aside0.mk A50; clear A50; replace H := Option.bind_eq_some_iff.mp H; obtain ⟨t481, A60, H⟩ := H; replace H : ((laws_toDirS.f k l0).bind fun t482 => ((impl_DirsText.f k t482).bind fun t485 => (if t485.toList = t481.toList then ((laws_toDirS.f k l0).bind fun t486 => ((laws_eqDirS.f k t482 t486).bind fun t489 => (if t489 = true then (some true) else (some false)))) else (some false)))) = some r := H; have A6 := Aside0.mk A60; clear A60; replace H := Option.bind_eq_some_iff.mp H; obtain ⟨t482, A70, H⟩ := H; replace H : ((impl_DirsText.f k t482).bind fun t485 => (if t485.toList = t481.toList then ((laws_toDirS.f k l0).bind fun t486 => ((laws_eqDirS.f k t482 t486).bind fun t489 => (if t489 = true then (some true) else (some false)))) else (some false))) = some r := H; have A7 := Aside0.mk A70; clear A70; replace H := Option.bind_eq_some_iff.mp H; obtain ⟨t485, A80, H⟩ := H; replace H : (if t485.toList = t481.toList then ((laws_toDirS.f k l0).bind fun t486 => ((laws_eqDirS.f k t482 t486).bind fun t489 => (if t489 = true then (some true) else (some false)))) else (some false)) = some r := H; have A8 := Aside0.mk A80; clear A80
  by_cases c9 : t485.toList = t481.toList
  ·rw [if_pos c9] at H; have c9b0 := beq_iff_eq.mpr c9; have c9b1 := bne_eq_false_iff_eq.mpr c9; clear c9; replace H := Option.bind_eq_some_iff.mp H; obtain ⟨t486, A100, H⟩ := H; replace H : ((laws_eqDirS.f k t482 t486).bind fun t489 => (if t489 = true then (some true) else (some false))) = some r := H; have A10 := Aside0.mk A100; clear A100; replace H := Option.bind_eq_some_iff.mp H; obtain ⟨t489, A110, H⟩ := H; replace H : (if t489 = true then (some true) else (some false)) = some r := H; have A11 := Aside0.mk A110; clear A110
   by_cases c12 : t489 = true
   ·subst c12
    have H1 : (some true) = some r := by rw [if_pos rfl] at H; exact H
    clear H; have H := H1; clear H1; obtain rfl := Option.some.inj H
    go_enter Tryz.func3, Tryz.ntmps3
    go_wp2_with (first | ((with_reducible refine gate_callee (f := 4) rfl ?_); refine goesL_ (some 9) rfl rfl Tryz.func4 (by kernel_rfl) rfl #[.slice A0 l0.length c0, .int .i64 1048576] rfl mapA ?_; (with_reducible refine (laws_szDirS.calls k _ _ l0 1048576 t477 _ ?side1 ?side2 A2.out).mono ?_); (case side1 => repeat (first | exact HR0.out | (with_reducible refine Kd.C_alloc ?_ _) | (with_reducible refine Kd.C_drewN ?_ _) | (with_reducible refine Kd.C_drew ?_))); (case side2 => exact HC0.out); rintro e w13 ⟨rfl, hb⟩; refine ⟨_, rfl, ?_⟩; replace HB := Aside0.mk (below_step (belB HB) hb); (try clear hb)) | ((with_reducible refine gate_callee (f := 6) rfl ?_); refine goesL_ (some 13) rfl rfl Tryz.func6 (by kernel_rfl) rfl #[.slice A0 l0.length c0] rfl mapA ?_; (with_reducible refine (laws_toDirS.calls k _ _ l0 t478 _ ?side1 ?side2 A5.out).mono ?_); (case side1 => exact cbA HR0 HB); (case side2 => exact HC0.out); rintro e w14 ⟨v479, rfl, ho0, hb⟩; refine ⟨_, rfl, ?_⟩; have HO480 := Aside0.mk (Kd.R_lower ho0 (below_size (belB HB))); replace HB := Aside0.mk (below_step (belB HB) hb); (try clear hb); (try clear ho0); obtain ⟨Ao15, co15, eo15⟩ := Kd.R_slice HO480.out; subst eo15) | ((with_reducible refine gate_callee (f := 5) rfl ?_); refine goesL_ (some 14) rfl rfl Tryz.func5 (by kernel_rfl) rfl #[.slice Ao15 t478.length co15] rfl mapA ?_; (with_reducible refine (spec_DirsText.calls k _ _ t478 t481 _ ?side1 ?side2 A6.out).mono ?_); (case side1 => repeat (first | exact (Kd.R_reads' HO480.out).2.2 | (with_reducible refine Kd.C_alloc ?_ _) | (with_reducible refine Kd.C_drewN ?_ _) | (with_reducible refine Kd.C_drew ?_))); (case side2 => exact (Kd.R_reads' HO480.out).2.1); rintro e w16 ⟨rfl, hb⟩; refine ⟨_, rfl, ?_⟩; replace HO480 := Aside0.mk (Kd.R_below (kdB HO480) hb); replace HB := Aside0.mk (below_step (belB HB) hb); (try clear hb)) | ((with_reducible refine gate_callee (f := 6) rfl ?_); refine goesL_ (some 16) rfl rfl Tryz.func6 (by kernel_rfl) rfl #[.slice A0 l0.length c0] rfl mapA ?_; (with_reducible refine (laws_toDirS.calls k _ _ l0 t482 _ ?side1 ?side2 A7.out).mono ?_); (case side1 => exact cbA HR0 HB); (case side2 => exact HC0.out); rintro e w17 ⟨v483, rfl, ho0, hb⟩; refine ⟨_, rfl, ?_⟩; have HO484 := Aside0.mk (Kd.R_lower (Kd.R_new' ho0 (Kd.R_lt (kdB HO480))) (below_size (belB HB))); replace HO480 := Aside0.mk (Kd.R_elder' (kdB HO480) (Kd.R_base ho0) hb); replace HB := Aside0.mk (below_step (belB HB) hb); (try clear hb); (try clear ho0); obtain ⟨Ao18, co18, eo18⟩ := Kd.R_slice HO484.out; subst eo18) | ((with_reducible refine gate_callee (f := 7) rfl ?_); refine goesL_ (some 18) rfl rfl Tryz.func7 (by kernel_rfl) rfl #[.slice Ao18 t482.length co18] rfl mapA ?_; (with_reducible refine (impl_DirsText.calls k _ _ t482 t485 _ ?side1 ?side2 (Gl.below HG.out (belB HB)) A8.out).mono ?_); (case side1 => repeat (first | exact (Kd.R_reads' HO484.out).2.2 | (with_reducible refine Kd.C_alloc ?_ _) | (with_reducible refine Kd.C_drewN ?_ _) | (with_reducible refine Kd.C_drew ?_))); (case side2 => exact (Kd.R_reads' HO484.out).2.1); rintro e w19 ⟨rfl, hb⟩; refine ⟨_, rfl, ?_⟩; replace HO480 := Aside0.mk (Kd.R_below (kdB HO480) hb); replace HO484 := Aside0.mk (Kd.R_below (kdB HO484) hb); replace HB := Aside0.mk (below_step (belB HB) hb); (try clear hb)) | ((with_reducible refine gate_callee (f := 6) rfl ?_); refine goesL_ (some 24) rfl rfl Tryz.func6 (by kernel_rfl) rfl #[.slice A0 l0.length c0] rfl mapA ?_; (with_reducible refine (laws_toDirS.calls k _ _ l0 t486 _ ?side1 ?side2 A10.out).mono ?_); (case side1 => exact cbA HR0 HB); (case side2 => exact HC0.out); rintro e w20 ⟨v487, rfl, ho0, hb⟩; refine ⟨_, rfl, ?_⟩; have HO488 := Aside0.mk (Kd.R_lower (Kd.R_new' (Kd.R_new' ho0 (Kd.R_lt (kdB HO480))) (Kd.R_lt (kdB HO484))) (below_size (belB HB))); replace HO480 := Aside0.mk (Kd.R_elder' (kdB HO480) (Kd.R_base ho0) hb); replace HO484 := Aside0.mk (Kd.R_elder' (kdB HO484) (Kd.R_base ho0) hb); replace HB := Aside0.mk (below_step (belB HB) hb); (try clear hb); (try clear ho0); obtain ⟨Ao21, co21, eo21⟩ := Kd.R_slice HO488.out; subst eo21) | ((with_reducible refine gate_callee (f := 8) rfl ?_); refine goesL_ (some 25) rfl rfl Tryz.func8 (by kernel_rfl) rfl #[.slice Ao18 t482.length co18, .slice Ao21 t486.length co21] rfl mapA ?_; (with_reducible refine (laws_eqDirS.calls k _ _ t482 _ _ t486 true _ ?side1 ?side2 ?side3 ?side4 A11.out).mono ?_); (case side1 => repeat (first | exact (Kd.R_reads' HO484.out).2.2 | (with_reducible refine Kd.C_alloc ?_ _) | (with_reducible refine Kd.C_drewN ?_ _) | (with_reducible refine Kd.C_drew ?_))); (case side2 => exact (Kd.R_reads' HO484.out).2.1); (case side3 => repeat (first | exact (Kd.R_reads' HO488.out).2.2 | (with_reducible refine Kd.C_alloc ?_ _) | (with_reducible refine Kd.C_drewN ?_ _) | (with_reducible refine Kd.C_drew ?_))); (case side4 => exact (Kd.R_reads' HO488.out).2.1); rintro e w22 ⟨rfl, hb⟩; refine ⟨_, rfl, ?_⟩; replace HO480 := Aside0.mk (Kd.R_below (kdB HO480) hb); replace HO484 := Aside0.mk (Kd.R_below (kdB HO484) hb); replace HO488 := Aside0.mk (Kd.R_below (kdB HO488) hb); replace HB := Aside0.mk (below_step (belB HB) hb); (try clear hb)))
    go_ret
    exact ⟨erA, belB HB⟩
   ·replace c12 := Bool.eq_false_iff.mpr c12; subst c12
    have H1 : (some false) = some r := by rw [if_neg (show ¬ (false = true) by decide)] at H; exact H
    clear H; have H := H1; clear H1; obtain rfl := Option.some.inj H
    go_enter Tryz.func3, Tryz.ntmps3
    go_wp2_with (first | ((with_reducible refine gate_callee (f := 4) rfl ?_); refine goesL_ (some 9) rfl rfl Tryz.func4 (by kernel_rfl) rfl #[.slice A0 l0.length c0, .int .i64 1048576] rfl mapA ?_; (with_reducible refine (laws_szDirS.calls k _ _ l0 1048576 t477 _ ?side1 ?side2 A2.out).mono ?_); (case side1 => repeat (first | exact HR0.out | (with_reducible refine Kd.C_alloc ?_ _) | (with_reducible refine Kd.C_drewN ?_ _) | (with_reducible refine Kd.C_drew ?_))); (case side2 => exact HC0.out); rintro e w23 ⟨rfl, hb⟩; refine ⟨_, rfl, ?_⟩; replace HB := Aside0.mk (below_step (belB HB) hb); (try clear hb)) | ((with_reducible refine gate_callee (f := 6) rfl ?_); refine goesL_ (some 13) rfl rfl Tryz.func6 (by kernel_rfl) rfl #[.slice A0 l0.length c0] rfl mapA ?_; (with_reducible refine (laws_toDirS.calls k _ _ l0 t478 _ ?side1 ?side2 A5.out).mono ?_); (case side1 => exact cbA HR0 HB); (case side2 => exact HC0.out); rintro e w24 ⟨v479, rfl, ho0, hb⟩; refine ⟨_, rfl, ?_⟩; have HO480 := Aside0.mk (Kd.R_lower ho0 (below_size (belB HB))); replace HB := Aside0.mk (below_step (belB HB) hb); (try clear hb); (try clear ho0); obtain ⟨Ao25, co25, eo25⟩ := Kd.R_slice HO480.out; subst eo25) | ((with_reducible refine gate_callee (f := 5) rfl ?_); refine goesL_ (some 14) rfl rfl Tryz.func5 (by kernel_rfl) rfl #[.slice Ao25 t478.length co25] rfl mapA ?_; (with_reducible refine (spec_DirsText.calls k _ _ t478 t481 _ ?side1 ?side2 A6.out).mono ?_); (case side1 => repeat (first | exact (Kd.R_reads' HO480.out).2.2 | (with_reducible refine Kd.C_alloc ?_ _) | (with_reducible refine Kd.C_drewN ?_ _) | (with_reducible refine Kd.C_drew ?_))); (case side2 => exact (Kd.R_reads' HO480.out).2.1); rintro e w26 ⟨rfl, hb⟩; refine ⟨_, rfl, ?_⟩; replace HO480 := Aside0.mk (Kd.R_below (kdB HO480) hb); replace HB := Aside0.mk (below_step (belB HB) hb); (try clear hb)) | ((with_reducible refine gate_callee (f := 6) rfl ?_); refine goesL_ (some 16) rfl rfl Tryz.func6 (by kernel_rfl) rfl #[.slice A0 l0.length c0] rfl mapA ?_; (with_reducible refine (laws_toDirS.calls k _ _ l0 t482 _ ?side1 ?side2 A7.out).mono ?_); (case side1 => exact cbA HR0 HB); (case side2 => exact HC0.out); rintro e w27 ⟨v483, rfl, ho0, hb⟩; refine ⟨_, rfl, ?_⟩; have HO484 := Aside0.mk (Kd.R_lower (Kd.R_new' ho0 (Kd.R_lt (kdB HO480))) (below_size (belB HB))); replace HO480 := Aside0.mk (Kd.R_elder' (kdB HO480) (Kd.R_base ho0) hb); replace HB := Aside0.mk (below_step (belB HB) hb); (try clear hb); (try clear ho0); obtain ⟨Ao28, co28, eo28⟩ := Kd.R_slice HO484.out; subst eo28) | ((with_reducible refine gate_callee (f := 7) rfl ?_); refine goesL_ (some 18) rfl rfl Tryz.func7 (by kernel_rfl) rfl #[.slice Ao28 t482.length co28] rfl mapA ?_; (with_reducible refine (impl_DirsText.calls k _ _ t482 t485 _ ?side1 ?side2 (Gl.below HG.out (belB HB)) A8.out).mono ?_); (case side1 => repeat (first | exact (Kd.R_reads' HO484.out).2.2 | (with_reducible refine Kd.C_alloc ?_ _) | (with_reducible refine Kd.C_drewN ?_ _) | (with_reducible refine Kd.C_drew ?_))); (case side2 => exact (Kd.R_reads' HO484.out).2.1); rintro e w29 ⟨rfl, hb⟩; refine ⟨_, rfl, ?_⟩; replace HO480 := Aside0.mk (Kd.R_below (kdB HO480) hb); replace HO484 := Aside0.mk (Kd.R_below (kdB HO484) hb); replace HB := Aside0.mk (below_step (belB HB) hb); (try clear hb)) | ((with_reducible refine gate_callee (f := 6) rfl ?_); refine goesL_ (some 24) rfl rfl Tryz.func6 (by kernel_rfl) rfl #[.slice A0 l0.length c0] rfl mapA ?_; (with_reducible refine (laws_toDirS.calls k _ _ l0 t486 _ ?side1 ?side2 A10.out).mono ?_); (case side1 => exact cbA HR0 HB); (case side2 => exact HC0.out); rintro e w30 ⟨v487, rfl, ho0, hb⟩; refine ⟨_, rfl, ?_⟩; have HO488 := Aside0.mk (Kd.R_lower (Kd.R_new' (Kd.R_new' ho0 (Kd.R_lt (kdB HO480))) (Kd.R_lt (kdB HO484))) (below_size (belB HB))); replace HO480 := Aside0.mk (Kd.R_elder' (kdB HO480) (Kd.R_base ho0) hb); replace HO484 := Aside0.mk (Kd.R_elder' (kdB HO484) (Kd.R_base ho0) hb); replace HB := Aside0.mk (below_step (belB HB) hb); (try clear hb); (try clear ho0); obtain ⟨Ao31, co31, eo31⟩ := Kd.R_slice HO488.out; subst eo31) | ((with_reducible refine gate_callee (f := 8) rfl ?_); refine goesL_ (some 25) rfl rfl Tryz.func8 (by kernel_rfl) rfl #[.slice Ao28 t482.length co28, .slice Ao31 t486.length co31] rfl mapA ?_; (with_reducible refine (laws_eqDirS.calls k _ _ t482 _ _ t486 false _ ?side1 ?side2 ?side3 ?side4 A11.out).mono ?_); (case side1 => repeat (first | exact (Kd.R_reads' HO484.out).2.2 | (with_reducible refine Kd.C_alloc ?_ _) | (with_reducible refine Kd.C_drewN ?_ _) | (with_reducible refine Kd.C_drew ?_))); (case side2 => exact (Kd.R_reads' HO484.out).2.1); (case side3 => repeat (first | exact (Kd.R_reads' HO488.out).2.2 | (with_reducible refine Kd.C_alloc ?_ _) | (with_reducible refine Kd.C_drewN ?_ _) | (with_reducible refine Kd.C_drew ?_))); (case side4 => exact (Kd.R_reads' HO488.out).2.1); rintro e w32 ⟨rfl, hb⟩; refine ⟨_, rfl, ?_⟩; replace HO480 := Aside0.mk (Kd.R_below (kdB HO480) hb); replace HO484 := Aside0.mk (Kd.R_below (kdB HO484) hb); replace HO488 := Aside0.mk (Kd.R_below (kdB HO488) hb); replace HB := Aside0.mk (below_step (belB HB) hb); (try clear hb)))
    go_ret
    exact ⟨erA, belB HB⟩
  ·rw [if_neg c9] at H; have c9b0 := beq_eq_false_iff_ne.mpr c9; have c9b1 := bne_iff_ne.mpr c9; obtain rfl := Option.some.inj H
   go_enter Tryz.func3, Tryz.ntmps3
   go_wp2_with (first | ((with_reducible refine gate_callee (f := 4) rfl ?_); refine goesL_ (some 9) rfl rfl Tryz.func4 (by kernel_rfl) rfl #[.slice A0 l0.length c0, .int .i64 1048576] rfl mapA ?_; (with_reducible refine (laws_szDirS.calls k _ _ l0 1048576 t477 _ ?side1 ?side2 A2.out).mono ?_); (case side1 => repeat (first | exact HR0.out | (with_reducible refine Kd.C_alloc ?_ _) | (with_reducible refine Kd.C_drewN ?_ _) | (with_reducible refine Kd.C_drew ?_))); (case side2 => exact HC0.out); rintro e w33 ⟨rfl, hb⟩; refine ⟨_, rfl, ?_⟩; replace HB := Aside0.mk (below_step (belB HB) hb); (try clear hb)) | ((with_reducible refine gate_callee (f := 6) rfl ?_); refine goesL_ (some 13) rfl rfl Tryz.func6 (by kernel_rfl) rfl #[.slice A0 l0.length c0] rfl mapA ?_; (with_reducible refine (laws_toDirS.calls k _ _ l0 t478 _ ?side1 ?side2 A5.out).mono ?_); (case side1 => exact cbA HR0 HB); (case side2 => exact HC0.out); rintro e w34 ⟨v479, rfl, ho0, hb⟩; refine ⟨_, rfl, ?_⟩; have HO480 := Aside0.mk (Kd.R_lower ho0 (below_size (belB HB))); replace HB := Aside0.mk (below_step (belB HB) hb); (try clear hb); (try clear ho0); obtain ⟨Ao35, co35, eo35⟩ := Kd.R_slice HO480.out; subst eo35) | ((with_reducible refine gate_callee (f := 5) rfl ?_); refine goesL_ (some 14) rfl rfl Tryz.func5 (by kernel_rfl) rfl #[.slice Ao35 t478.length co35] rfl mapA ?_; (with_reducible refine (spec_DirsText.calls k _ _ t478 t481 _ ?side1 ?side2 A6.out).mono ?_); (case side1 => repeat (first | exact (Kd.R_reads' HO480.out).2.2 | (with_reducible refine Kd.C_alloc ?_ _) | (with_reducible refine Kd.C_drewN ?_ _) | (with_reducible refine Kd.C_drew ?_))); (case side2 => exact (Kd.R_reads' HO480.out).2.1); rintro e w36 ⟨rfl, hb⟩; refine ⟨_, rfl, ?_⟩; replace HO480 := Aside0.mk (Kd.R_below (kdB HO480) hb); replace HB := Aside0.mk (below_step (belB HB) hb); (try clear hb)) | ((with_reducible refine gate_callee (f := 6) rfl ?_); refine goesL_ (some 16) rfl rfl Tryz.func6 (by kernel_rfl) rfl #[.slice A0 l0.length c0] rfl mapA ?_; (with_reducible refine (laws_toDirS.calls k _ _ l0 t482 _ ?side1 ?side2 A7.out).mono ?_); (case side1 => exact cbA HR0 HB); (case side2 => exact HC0.out); rintro e w37 ⟨v483, rfl, ho0, hb⟩; refine ⟨_, rfl, ?_⟩; have HO484 := Aside0.mk (Kd.R_lower (Kd.R_new' ho0 (Kd.R_lt (kdB HO480))) (below_size (belB HB))); replace HO480 := Aside0.mk (Kd.R_elder' (kdB HO480) (Kd.R_base ho0) hb); replace HB := Aside0.mk (below_step (belB HB) hb); (try clear hb); (try clear ho0); obtain ⟨Ao38, co38, eo38⟩ := Kd.R_slice HO484.out; subst eo38) | ((with_reducible refine gate_callee (f := 7) rfl ?_); refine goesL_ (some 18) rfl rfl Tryz.func7 (by kernel_rfl) rfl #[.slice Ao38 t482.length co38] rfl mapA ?_; (with_reducible refine (impl_DirsText.calls k _ _ t482 t485 _ ?side1 ?side2 (Gl.below HG.out (belB HB)) A8.out).mono ?_); (case side1 => repeat (first | exact (Kd.R_reads' HO484.out).2.2 | (with_reducible refine Kd.C_alloc ?_ _) | (with_reducible refine Kd.C_drewN ?_ _) | (with_reducible refine Kd.C_drew ?_))); (case side2 => exact (Kd.R_reads' HO484.out).2.1); rintro e w39 ⟨rfl, hb⟩; refine ⟨_, rfl, ?_⟩; replace HO480 := Aside0.mk (Kd.R_below (kdB HO480) hb); replace HO484 := Aside0.mk (Kd.R_below (kdB HO484) hb); replace HB := Aside0.mk (below_step (belB HB) hb); (try clear hb)))
   go_ret
   exact ⟨erA, belB HB⟩

end Go.Proofs.YtjhagdjjlgjlbaaGreatDoor.OFnExactDirsText
-- narrow
