/- The machine side of one law, written by a program. -/
import Derived.Test.YtkcomfmdcmjagaaOFnExactAllSelsx0
import Derived.Test.YtkcomfmdcmjagaaOFnExactAllSelsx8
namespace Go.Proofs.Ytkcomfmdcmjagaa.OFnExactAllSels
open Go.Proofs.Ytkcomfmdcmjagaa.Mark Go.Proofs.Ytkcomfmdcmjagaa.Ix
open Go.RowKit Go.Proofs.YtkcomfmdcmjagaaW.PrintWords Go.Proofs.YtkcomfmdcmjagaaW.PrintLast Go.Proofs.YtkcomfmdcmjagaaW.PrintMore
attribute [local go_sem] max2_int min2_int max_two min_two max_three min_three max_four min_four
set_option linter.unusedVariables false
set_option linter.unusedSimpArgs false

def spec_l10Args.l0 : Nat → List (S78) → List (S78) → Int → Option ((List (S78)))
 | 0, _, _, _ => none
 | k + 1, x0, x3, x4 => if x4 < (x0.length : Int) then (if 0 ≤ x4 then ((spec_l07Copy.f k ((rd_T78 x0 x4).f1.f0) ((rd_T78 x0 x4).f1.f1) ((rd_T78 x0 x4).f1.f2) ((rd_T78 x0 x4).f1.f3)).bind fun bt273 => (if x3.length < 1599289640401 then (spec_l10Args.l0 k x0 (x3 ++ [(⟨(rd_T78 x0 x4).f0, (⟨bt273.1, bt273.2.1, bt273.2.2.1, bt273.2.2.2⟩ : S30)⟩ : S78)]) (wrap64 (x4 + 1))) else (none))) else (none)) else (some x3)
def spec_l10Args.f (k : Nat) (l0 : List (S78)) : Option ((List (S78))) := spec_l10Args.l0 k l0 (([] : List (S78))) 0
theorem spec_l10Args.mono_l : ∀ k, (∀ y0 y1 y2, LeO (spec_l10Args.l0 k y0 y1 y2) (spec_l10Args.l0 (k + 1) y0 y1 y2))
 | 0 => fun _ _ _ r h => by simp [spec_l10Args.l0] at h
 | k + 1 => by
  have ih0 := spec_l10Args.mono_l k
  ·intro y0 y1 y2; unfold spec_l10Args.l0
   repeat' first
   | (with_reducible first | exact ih0 _ _ _ | exact spec_l07Copy.mono _ _ _ _ _ | exact LeO.refl _ | exact LeO.none _ | refine LeO.ite ?_ ?_ | refine LeO.bind ?_ (fun _ => ?_))
   | exact ih0 _ _ _ | exact spec_l07Copy.mono _ _ _ _ _ | exact LeO.none _ | refine LeO.ite ?_ ?_ | refine LeO.bind ?_ (fun _ => ?_)
theorem spec_l10Args.mono : ∀ a0 k, LeO (spec_l10Args.f k a0) (spec_l10Args.f (k + 1) a0) := by
 intro a0 k; have ih0 := spec_l10Args.mono_l k; unfold spec_l10Args.f
 repeat' first
   | (with_reducible first | exact ih0 _ _ _ | exact spec_l07Copy.mono _ _ _ _ _ | exact LeO.refl _ | exact LeO.none _ | refine LeO.ite ?_ ?_ | refine LeO.bind ?_ (fun _ => ?_))
   | exact ih0 _ _ _ | exact spec_l07Copy.mono _ _ _ _ _ | exact LeO.none _ | refine LeO.ite ?_ ?_ | refine LeO.bind ?_ (fun _ => ?_)
def spec_l10Args.T5 : Bool × List (List Nat × List Nat) := (true, [([], []), ([], []), ([], []), ([1, 2], [1, 2]), ([3], [3]), ([4], [4]), ([], []), ([], []), ([6, 7], [6, 7]), ([8], [8]), ([9], [9]), ([10], [10]), ([5, 11], [5, 11]), ([12], [12]), ([0, 13, 11], [0, 13]), ([14, 14, 0, 1, 2, 3, 4, 5, 6, 7, 8, 9, 10, 11, 12, 13, 14], [0, 14])])
def spec_l10Args.B5 : List Nat := [0, 0, 0, 6, 14, 30, 0, 0, 192, 448, 960, 1984, 4094, 8190, 16383, 32767]
theorem spec_l10Args.tab5 : rtab .any (opsOf Try.f73 5) = spec_l10Args.T5 := by kernel_rfl
theorem spec_l10Args.bits5 : waitsOk spec_l10Args.T5.2 spec_l10Args.B5 = true := by kernel_rfl
set_option maxHeartbeats 8000000 in
set_option maxRecDepth 100000 in
theorem spec_l10Args.calls (k : Nat) (A0 : Option Addr) (c0 : Nat) (l0 : List (S78)) (r : List (S78)) (w : World) (hr0 : Kd.C k78 w A0 l0.length l0) (hc0 : l0.length ≤ c0) (h : spec_l10Args.f k l0 = some r) :
  Calls Try.prog 73 #[.slice A0 l0.length c0] w fun e w' => ∃ v0_ : Value, e = .returned (v0_) ∧ Kd.R k78 78 w' w.heap.size (fun _ => True) v0_ r ∧ Below w.heap.size w w' := by
 have hu30 := Try.underlying30; have hu78 := Try.underlying78; have HR0 := Aside0.mk hr0; have HC0 := Aside0.mk hc0; clear hr0 hc0; have HB := Aside0.mk (Below.refl w.heap.size w); have H : (spec_l10Args.l0 k l0 (([] : List (S78))) 0) = some r := h; clear h
 obtain ⟨y268, hy268⟩ : ∃ y_ : List (S78), y_ = (([] : List (S78))) := ⟨_, rfl⟩
 replace H : (spec_l10Args.l0 k l0 y268 0) = some r := reA H hy268; have Ny268 := Aside0.mk hy268; clear hy268
 have H' := Aside0.mk H
 clear H
 go_enter Try.func73, Try.ntmps73
 go_wp2_with (first | ((with_reducible refine gate_dst (N := 5) rfl ?_); refine Kd.R_lit k78 _ 78 ?hg (N := 5) ?hd (xs := ([] : List (S78))) (inner := []) (ok := fun _ => True) (okp := fun _ => True) ?hr ?hp (fun _ hk => hk) trivial (Below.refl _ _) (Nat.le_refl _) (by simp) ?_; (case hd => rfl); (case hg => rfl); (case hr => first | (go_simp; done) | (go_simp; rfl)); (case hp => exact (Reps.none _ _)); intro v269 w2 ho3 hb hg_ hnew_; clear hg_ hnew_; (first | rw [← Ny268.out] at ho3 | (simp only [Int.reduceToNat] at ho3; rw [← Ny268.out] at ho3)); have HO270 := Aside0.mk (Kd.R_lower ho3 (below_size (belB HB))); replace HB := Aside0.mk (below_step (belB HB) hb); clear hb ho3))
 go_loopg [3, 4] k (fun kq v3 v4 w' => ∃ (x3_1 : List (S78)) (x4_1 : Int), v4 = .int .i64 x4_1 ∧ Aside0 (spec_l10Args.l0 kq l0 x3_1 x4_1 = some r) ∧ Aside0 (kq ≤ k) ∧ Aside0 (Kd.R k78 78 w' w.heap.size (fun _ => True) v3 x3_1) ∧ Aside0 (Below w.heap.size w w'))
 case atStart => exact ⟨(y268), (0), enA, H', ⟨Nat.le_refl _⟩, ⟨kdB HO270⟩, ⟨belB HB⟩⟩
 case round =>
  clear H'
  try clear p2
  obtain ⟨x3_1, x4_1, rfl, HA, HK1, HO_3, HB⟩ := hrel
  cases gk with
  | zero => exact absurd HA.out (by simp [spec_l10Args.l0])
  | succ k1 =>
   have H := HA.out; clear HA
   simp only [spec_l10Args.l0] at H
   by_cases c4 : x4_1 < (l0.length : Int)
   ·rw [if_pos c4] at H; have c4b0 := decide_eq_true c4; clear c4
    by_cases c5 : 0 ≤ x4_1
    ·rw [if_pos c5] at H; have c5b0 := decide_eq_true c5; clear c5; replace H := Option.bind_eq_some_iff.mp H; obtain ⟨⟨t273, t274, t275, t278⟩, A60, H⟩ := H; replace H : (if x3_1.length < 1599289640401 then (spec_l10Args.l0 k1 l0 (x3_1 ++ [(⟨(rd_T78 l0 x4_1).f0, (⟨t273, t274, t275, t278⟩ : S30)⟩ : S78)]) (wrap64 (x4_1 + 1))) else (none)) = some r := H; have A6 := Aside0.mk A60; clear A60
     by_cases c7 : x3_1.length < 1599289640401
     ·rw [if_pos c7] at H; have LMc7 := Aside0.mk c7; clear c7
      obtain ⟨y281, hy281⟩ : ∃ y_ : List (S78), y_ = (x3_1 ++ [(⟨(rd_T78 l0 x4_1).f0, (⟨t273, t274, t275, t278⟩ : S30)⟩ : S78)]) := ⟨_, rfl⟩
      replace H : (spec_l10Args.l0 k1 l0 y281 (wrap64 (x4_1 + 1))) = some r := reA H hy281; have Ny281 := Aside0.mk hy281; clear hy281
      have H' := Aside0.mk H
      clear H
      try go_wp2
      replace HO_3 := Aside0.mk (Kd.R_drew HO_3.out); replace HB := Aside0.mk (below_drew1 HB.out); have p271 : 0 ≤ (x4_1 : Int) := odA; have q271 : x4_1 < (l0.length : Int) := odA; obtain ⟨ad271, A271_3, c271_3, A271_4, c271_4, e271, hx271_0, hx271_1, hx271_2, hx271_3, hx271_4, hl271_3, hi271_3, hl271_4, hi271_4⟩ := at_T78 HR0.out x4_1 p271 q271; have hw271_4 := hx271_4; have hw271_3 := hx271_3; have hw271_2 := hx271_2; have hw271_1 := hx271_1; have hw271_0 := hx271_0
      cases e271
      (try replace hx271_0 := celB HB hx271_0)
      (try replace hx271_1 := celB HB hx271_1)
      (try replace hx271_2 := celB HB hx271_2)
      (try replace hx271_3 := celB HB hx271_3)
      (try replace hx271_4 := celB HB hx271_4)
      have HR271_3 := Aside0.mk hi271_3; have HC271_3 := Aside0.mk hl271_3; clear hi271_3 hl271_3; have HR271_4 := Aside0.mk hi271_4; have HC271_4 := Aside0.mk hl271_4; clear hi271_4 hl271_4; replace p271 := eq_true p271; replace q271 := eq_true q271; have p272 : 0 ≤ (x4_1 : Int) := odA; have q272 : x4_1 < (l0.length : Int) := odA; obtain ⟨ad272, A272_3, c272_3, A272_4, c272_4, e272, hx272_0, hx272_1, hx272_2, hx272_3, hx272_4, hl272_3, hi272_3, hl272_4, hi272_4⟩ := at_T78 HR0.out x4_1 p272 q272; have hw272_4 := hx272_4; have hw272_3 := hx272_3; have hw272_2 := hx272_2; have hw272_1 := hx272_1; have hw272_0 := hx272_0
      obtain rfl : ad271 = ad272 := (by injection e272)
      (try replace hx272_0 := celB HB hx272_0)
      (try replace hx272_1 := celB HB hx272_1)
      (try replace hx272_2 := celB HB hx272_2)
      (try replace hx272_3 := celB HB hx272_3)
      (try replace hx272_4 := celB HB hx272_4)
      have HR272_3 := Aside0.mk hi272_3; have HC272_3 := Aside0.mk hl272_3; clear hi272_3 hl272_3; have HR272_4 := Aside0.mk hi272_4; have HC272_4 := Aside0.mk hl272_4; clear hi272_4 hl272_4; replace p272 := eq_true p272; replace q272 := eq_true q272; have ea_ := Option.some.inj (hx271_3.symm.trans hx272_3)
      injection ea_ with ea_ en_ ec_
      subst ea_; subst ec_; clear en_; have ea_ := Option.some.inj (hx271_4.symm.trans hx272_4)
      injection ea_ with ea_ en_ ec_
      subst ea_; subst ec_; clear en_
      refine start_ (n := 16) (S := fun w' => w'.cell? (ad271.add ((x4_1).toNat * 5)) = some (.string ((rd_T78 l0 x4_1).f0)) ∧ w'.cell? ⟨(ad271.add ((x4_1).toNat * 5)).block, (ad271.add ((x4_1).toNat * 5)).off + 1, none⟩ = some (.int .i64 ((rd_T78 l0 x4_1).f1.f0)) ∧ w'.cell? ⟨(ad271.add ((x4_1).toNat * 5)).block, (ad271.add ((x4_1).toNat * 5)).off + 2, none⟩ = some (.string ((rd_T78 l0 x4_1).f1.f1)) ∧ w'.cell? ⟨(ad271.add ((x4_1).toNat * 5)).block, (ad271.add ((x4_1).toNat * 5)).off + 3, none⟩ = some (.slice A271_3 ((rd_T78 l0 x4_1).f1.f2).length c271_3) ∧ w'.cell? ⟨(ad271.add ((x4_1).toNat * 5)).block, (ad271.add ((x4_1).toNat * 5)).off + 4, none⟩ = some (.slice A271_4 ((rd_T78 l0 x4_1).f1.f3).length c271_4) ∧ w'.cell? (ad271.add ((x4_1).toNat * 5)) = some (.string ((rd_T78 l0 x4_1).f0)) ∧ w'.cell? ⟨(ad271.add ((x4_1).toNat * 5)).block, (ad271.add ((x4_1).toNat * 5)).off + 1, none⟩ = some (.int .i64 ((rd_T78 l0 x4_1).f1.f0)) ∧ w'.cell? ⟨(ad271.add ((x4_1).toNat * 5)).block, (ad271.add ((x4_1).toNat * 5)).off + 2, none⟩ = some (.string ((rd_T78 l0 x4_1).f1.f1)) ∧ w'.cell? ⟨(ad271.add ((x4_1).toNat * 5)).block, (ad271.add ((x4_1).toNat * 5)).off + 3, none⟩ = some (.slice A271_3 ((rd_T78 l0 x4_1).f1.f2).length c271_3) ∧ w'.cell? ⟨(ad271.add ((x4_1).toNat * 5)).block, (ad271.add ((x4_1).toNat * 5)).off + 4, none⟩ = some (.slice A271_4 ((rd_T78 l0 x4_1).f1.f3).length c271_4)) (ds := []) #[false, false, false, false, false, false, false, false, false, false, false, false, false, false, false, false] (by kernel_rfl) rfl rfl ⟨((HB.out.cell (World.block_lt_of_cell? w _ hw271_0)).trans hw271_0), ((HB.out.cell (World.block_lt_of_cell? w _ hw271_1)).trans hw271_1), ((HB.out.cell (World.block_lt_of_cell? w _ hw271_2)).trans hw271_2), ((HB.out.cell (World.block_lt_of_cell? w _ hw271_3)).trans hw271_3), ((HB.out.cell (World.block_lt_of_cell? w _ hw271_4)).trans hw271_4), ((HB.out.cell (World.block_lt_of_cell? w _ hw272_0)).trans hw272_0), ((HB.out.cell (World.block_lt_of_cell? w _ hw272_1)).trans hw272_1), ((HB.out.cell (World.block_lt_of_cell? w _ hw272_2)).trans hw272_2), ((HB.out.cell (World.block_lt_of_cell? w _ hw272_3)).trans hw272_3), ((HB.out.cell (World.block_lt_of_cell? w _ hw272_4)).trans hw272_4)⟩ (fun hHeld => ?_); refine with_tabW spec_l10Args.tab5 spec_l10Args.bits5 (fun HT_ HW_ => ?_)
      generalize wr.drew = w8 at HO_3 HB HR271_3 HR271_4 HR272_3 HR272_4 hx271_0 hx271_1 hx271_2 hx271_3 hx271_4 hx272_0 hx272_1 hx272_2 hx272_3 hx272_4 hHeld ⊢
      refine pure_ (i := 0) (N := some 12) (v := ?_) (a' := ?_) #[true, false, false, false, false, false, false, false, false, false, false, false, false, false, false, false] rfl rfl (any_of HT_.out (by kernel_rfl)) (fun _ _ _ h => h) (Or.inl ⟨by rfl, ?_⟩) ?_ ?_
      rotate_left
      ·intro w'; go_simp
       with_reducible rfl
      rotate_left
      ·exact putA
      refine pure_ (i := 1) (N := some 13) (v := ?_) (a' := ?_) #[true, true, false, false, false, false, false, false, false, false, false, false, false, false, false, false] rfl rfl (any_of HT_.out (by kernel_rfl)) (fun _ _ _ h => h) (Or.inl ⟨by rfl, ?_⟩) ?_ ?_
      rotate_left
      ·intro w'; go_simp
       with_reducible rfl
      rotate_left
      ·exact putA
      refine pure_ (i := 2) (N := some 14) (v := ?_) (a' := ?_) #[true, true, true, false, false, false, false, false, false, false, false, false, false, false, false, false] rfl rfl (any_of HT_.out (by kernel_rfl)) (fun _ _ _ h => h) (Or.inl ⟨by rfl, ?_⟩) ?_ ?_
      rotate_left
      ·intro w'; go_simp
       with_reducible rfl
      rotate_left
      ·exact putA
      refine pure_ (i := 3) (N := some 15) (v := ?_) (a' := ?_) #[true, true, true, true, false, false, false, false, false, false, false, false, false, false, false, false] rfl rfl (any_of HT_.out (by kernel_rfl)) (fun _ _ _ h => h) (Or.inl ⟨by rfl, ?_⟩) ?_ ?_
      rotate_left
      ·intro w'; go_simp
       with_reducible rfl
      rotate_left
      ·exact putA
      refine pure_ (i := 4) (N := some 16) (v := ?_) (a' := ?_) #[true, true, true, true, true, false, false, false, false, false, false, false, false, false, false, false] rfl rfl (any_of HT_.out (by kernel_rfl)) (fun _ _ _ h => h) (Or.inl ⟨by rfl, ?_⟩) ?_ ?_
      rotate_left
      ·intro w'; go_simp
       with_reducible rfl
      rotate_left
      ·exact putA
      refine pure_ (i := 6) (N := some 18) (v := ?_) (a' := ?_) #[true, true, true, true, true, false, true, false, false, false, false, false, false, false, false, false] rfl rfl (any_of HT_.out (by kernel_rfl)) (fun _ _ _ h => h) (Or.inl ⟨by rfl, ?_⟩) ?_ ?_
      rotate_left
      ·intro w'; go_simp
       with_reducible rfl
      rotate_left
      ·exact putA
      refine pure_ (i := 7) (N := some 19) (v := ?_) (a' := ?_) #[true, true, true, true, true, false, true, true, false, false, false, false, false, false, false, false] rfl rfl (any_of HT_.out (by kernel_rfl)) (fun _ _ _ h => h) (Or.inl ⟨by rfl, ?_⟩) ?_ ?_
      rotate_left
      ·intro w'; go_simp
       with_reducible rfl
      rotate_left
      ·exact putA
      refine pure_ (i := 8) (N := some 20) (v := ?_) (a' := ?_) #[true, true, true, true, true, false, true, true, true, false, false, false, false, false, false, false] rfl rfl (any_of HT_.out (by kernel_rfl)) (fun _ _ _ h => h) (Or.inl ⟨by rfl, ?_⟩) ?_ ?_
      rotate_left
      ·intro w'; go_simp
       with_reducible rfl
      rotate_left
      ·exact putA
      refine pure_ (i := 9) (N := some 21) (v := ?_) (a' := ?_) #[true, true, true, true, true, false, true, true, true, true, false, false, false, false, false, false] rfl rfl (any_of HT_.out (by kernel_rfl)) (fun _ _ _ h => h) (Or.inl ⟨by rfl, ?_⟩) ?_ ?_
      rotate_left
      ·intro w'; go_simp
       with_reducible rfl
      rotate_left
      ·exact putA
      refine take_ (i := 5) (N := some 17) (v := ?_) (a' := ?_) #[true, true, true, true, true, true, true, true, true, true, false, false, false, false, false, false] rfl rfl (take_ofW HT_.out HW_.out (by kernel_rfl)) (fun _ _ _ h => h) (Or.inl ⟨by rfl, ?_⟩) hHeld ?_ ?_
      rotate_left
      ·rintro w' ⟨s0, s1, s2, s3, s4, s5, s6, s7, s8, s9⟩
       go_simp
       with_reducible rfl
      rotate_left
      ·exact putA
      refine take_ (i := 10) (N := some 22) (v := ?_) (a' := ?_) #[true, true, true, true, true, true, true, true, true, true, true, false, false, false, false, false] rfl rfl (take_ofW HT_.out HW_.out (by kernel_rfl)) (fun _ _ _ h => h) (Or.inl ⟨by rfl, ?_⟩) hHeld ?_ ?_
      rotate_left
      ·rintro w' ⟨s0, s1, s2, s3, s4, s5, s6, s7, s8, s9⟩
       go_simp
       with_reducible rfl
      rotate_left
      ·exact putA
      refine one_ (i := 11) (N := some 23) #[true, true, true, true, true, true, true, true, true, true, true, true, false, false, false, false] rfl rfl (one_of HT_.out (by kernel_rfl)) (by decide) (fun K hK => ?_)
      refine goes_ Try.func78 (by kernel_rfl) rfl #[.agg #[.int .i64 ((rd_T78 l0 x4_1).f1.f0), .string ((rd_T78 l0 x4_1).f1.f1), .slice A271_3 ((rd_T78 l0 x4_1).f1.f2).length c271_3, .slice A271_4 ((rd_T78 l0 x4_1).f1.f3).length c271_4]] (by rfl) rfl rfl mapA ?_
      with_reducible refine (spec_l07Copy.calls k1 ((rd_T78 l0 x4_1).f1.f0) ((rd_T78 l0 x4_1).f1.f1) _ _ ((rd_T78 l0 x4_1).f1.f2) _ _ ((rd_T78 l0 x4_1).f1.f3) t273 t274 t275 t278 _ ?side1 ?side2 ?side3 ?side4 A6.out).mono ?_
      (case side1 => exact cbA HR272_3 HB)
      (case side2 => exact HC272_3.out)
      (case side3 => exact cbA HR272_4 HB)
      (case side4 => exact HC272_4.out)
      rintro e w9 ⟨v276, v279, rfl, ho0, ho1, hb⟩
      refine ⟨_, rfl, ?_⟩; have HO277 := Aside0.mk (Kd.R_lower ho0 (below_size (belB HB))); have HO280 := Aside0.mk (Kd.R_lower ho1 (below_size (belB HB))); replace HO_3 := Aside0.mk (Kd.R_mono (Kd.R_told (Kd.R_told (Kd.R_old (kdB HO_3) hb) (Kd.R_base ho0)) (Kd.R_base ho1)) (fun _ h_ => h_.1)); replace HB := Aside0.mk (below_step (belB HB) hb)
      (try clear hb)
      (try clear hb2)
      (try clear hk)
      (try clear hi)
      (try clear ho0)
      (try clear ho1)
      obtain ⟨Ao10, co10, eo10⟩ := Kd.R_slice HO280.out
      (first | subst eo10 | (injection eo10 with f1_ f2_ f3_; have f4_ := f1_.symm; have f5_ := f3_.symm; clear f1_ f2_ f3_; subst f4_; subst f5_))
      obtain ⟨Ao11, co11, eo11⟩ := Kd.R_slice HO277.out
      (first | subst eo11 | (injection eo11 with f1_ f2_ f3_; have f4_ := f1_.symm; have f5_ := f3_.symm; clear f1_ f2_ f3_; subst f4_; subst f5_))
      refine hK.out _ _ ⟨((HB.out.cell (World.block_lt_of_cell? w _ hw271_0)).trans hw271_0), ((HB.out.cell (World.block_lt_of_cell? w _ hw271_1)).trans hw271_1), ((HB.out.cell (World.block_lt_of_cell? w _ hw271_2)).trans hw271_2), ((HB.out.cell (World.block_lt_of_cell? w _ hw271_3)).trans hw271_3), ((HB.out.cell (World.block_lt_of_cell? w _ hw271_4)).trans hw271_4), ((HB.out.cell (World.block_lt_of_cell? w _ hw272_0)).trans hw272_0), ((HB.out.cell (World.block_lt_of_cell? w _ hw272_1)).trans hw272_1), ((HB.out.cell (World.block_lt_of_cell? w _ hw272_2)).trans hw272_2), ((HB.out.cell (World.block_lt_of_cell? w _ hw272_3)).trans hw272_3), ((HB.out.cell (World.block_lt_of_cell? w _ hw272_4)).trans hw272_4)⟩ (fun hHeld => ?_); clear hK K; refine norm_ (a' := ?_) ?_ ?_; rotate_left
      ·show Act.put _ (some 23) _ = _
       simp only [Act.put, List.setIfInBounds_toArray, List.set_cons_zero, List.set_cons_succ, i64_w, i32_w]
       rfl
      refine pure_ (i := 12) (N := some 24) (v := ?_) (a' := ?_) #[true, true, true, true, true, true, true, true, true, true, true, true, true, false, false, false] rfl rfl (any_of HT_.out (by kernel_rfl)) (fun _ _ _ h => h) (Or.inl ⟨by rfl, ?_⟩) ?_ ?_
      rotate_left
      ·intro w'; go_simp
       with_reducible rfl
      rotate_left
      ·exact putA
      refine one_ (i := 13) (N := some 25) #[true, true, true, true, true, true, true, true, true, true, true, true, true, true, false, false] rfl rfl (one_of HT_.out (by kernel_rfl)) (by decide) (fun K hK => ?_)
      refine value_ (w1 := ?_) (v := ?_) (by rfl) rfl ?_ ?_
      rotate_left 2
      ·go_simp
       constructor
       ·rfl
       ·rfl
      refine hK.out _ _ ⟨(World.cell?_alloc_lt _ _ _ (World.block_lt_of_cell? _ _ (((HB.out.cell (World.block_lt_of_cell? w _ hw271_0)).trans hw271_0)))).trans (((HB.out.cell (World.block_lt_of_cell? w _ hw271_0)).trans hw271_0)), (World.cell?_alloc_lt _ _ _ (World.block_lt_of_cell? _ _ (((HB.out.cell (World.block_lt_of_cell? w _ hw271_1)).trans hw271_1)))).trans (((HB.out.cell (World.block_lt_of_cell? w _ hw271_1)).trans hw271_1)), (World.cell?_alloc_lt _ _ _ (World.block_lt_of_cell? _ _ (((HB.out.cell (World.block_lt_of_cell? w _ hw271_2)).trans hw271_2)))).trans (((HB.out.cell (World.block_lt_of_cell? w _ hw271_2)).trans hw271_2)), (World.cell?_alloc_lt _ _ _ (World.block_lt_of_cell? _ _ (((HB.out.cell (World.block_lt_of_cell? w _ hw271_3)).trans hw271_3)))).trans (((HB.out.cell (World.block_lt_of_cell? w _ hw271_3)).trans hw271_3)), (World.cell?_alloc_lt _ _ _ (World.block_lt_of_cell? _ _ (((HB.out.cell (World.block_lt_of_cell? w _ hw271_4)).trans hw271_4)))).trans (((HB.out.cell (World.block_lt_of_cell? w _ hw271_4)).trans hw271_4)), (World.cell?_alloc_lt _ _ _ (World.block_lt_of_cell? _ _ (((HB.out.cell (World.block_lt_of_cell? w _ hw272_0)).trans hw272_0)))).trans (((HB.out.cell (World.block_lt_of_cell? w _ hw272_0)).trans hw272_0)), (World.cell?_alloc_lt _ _ _ (World.block_lt_of_cell? _ _ (((HB.out.cell (World.block_lt_of_cell? w _ hw272_1)).trans hw272_1)))).trans (((HB.out.cell (World.block_lt_of_cell? w _ hw272_1)).trans hw272_1)), (World.cell?_alloc_lt _ _ _ (World.block_lt_of_cell? _ _ (((HB.out.cell (World.block_lt_of_cell? w _ hw272_2)).trans hw272_2)))).trans (((HB.out.cell (World.block_lt_of_cell? w _ hw272_2)).trans hw272_2)), (World.cell?_alloc_lt _ _ _ (World.block_lt_of_cell? _ _ (((HB.out.cell (World.block_lt_of_cell? w _ hw272_3)).trans hw272_3)))).trans (((HB.out.cell (World.block_lt_of_cell? w _ hw272_3)).trans hw272_3)), (World.cell?_alloc_lt _ _ _ (World.block_lt_of_cell? _ _ (((HB.out.cell (World.block_lt_of_cell? w _ hw272_4)).trans hw272_4)))).trans (((HB.out.cell (World.block_lt_of_cell? w _ hw272_4)).trans hw272_4))⟩ (fun hHeld => ?_); clear hK K; refine norm_ (a' := ?_) ?_ ?_; rotate_left
      ·show Act.put _ (some 25) _ = _
       simp only [Act.put, List.setIfInBounds_toArray, List.set_cons_zero, List.set_cons_succ, i64_w, i32_w]
       rfl
      refine one_ (i := 14) (N := some 26) #[true, true, true, true, true, true, true, true, true, true, true, true, true, true, true, false] rfl rfl (one_of HT_.out (by kernel_rfl)) (by decide) (fun K hK => ?_)
      refine Kd.R_append_step k78 (w0 := w) w.heap.size (by rfl) (.tmp 12) (.tmp 25) 42 78 (.agg #[(.string ⟨#[]⟩), (.int .i64 0), (.string ⟨#[]⟩), (.slice none 0 0), (.slice none 0 0)]) 88 rfl Try.underlying42 info78 rfl (by decide) (by omega) u3 x3_1 (⟨(rd_T78 l0 x4_1).f0, (⟨t273, t274, t275, t278⟩ : S30)⟩ : S78) [.string ((rd_T78 l0 x4_1).f0), .int .i64 t273, .string t274, .slice Ao11 t275.length co11, .slice Ao10 t278.length co10] (fun _ => True) (fun k_ => ((fun _ => True)) k_ ∧ some k_ ≠ (u3 : Value).ownBlock) rfl rfl ?aP (fun _ hk => hk) ?aF ?aO ?aB ?aS ?aL ?_
      (case aP => exact k78_mkM _ _ _ (⟨(rd_T78 l0 x4_1).f0, (⟨t273, t274, t275, t278⟩ : S30)⟩ : S78) (Kd.R_mono (Kd.R_apart' (HO277.out) (Kd.R_typed HO_3.out) (by decide)) (fun k_ hk => ⟨trivial, hk.2⟩)) (Kd.R_mono (Kd.R_apart' (HO280.out) (Kd.R_typed HO_3.out) (by decide)) (fun k_ hk => ⟨trivial, hk.2⟩)))
      (case aB => exact (belB HB))
      (case aF => exact (fun _ _ => trivial))
      (case aO => exact (by (with_reducible repeat (first | apply Kd.R_alloc | apply Kd.R_drewN | apply Kd.R_drew)); exact Kd.R_mono HO_3.out (fun _ hk => trivial)))
      (case aS => exact (below_size (belB HB)))
      (case aL => have := LMc7.out; omega)
      intro v282 w12 ho hb hg hat; rw [← Ny281.out] at ho; have HO283 := Aside0.mk (ho); replace HB := Aside0.mk (hb); clear HO_3 HO277 HO280; clear ho hb hg hat; refine hK.out _ _ ⟨((HB.out.cell (World.block_lt_of_cell? w _ hw271_0)).trans hw271_0), ((HB.out.cell (World.block_lt_of_cell? w _ hw271_1)).trans hw271_1), ((HB.out.cell (World.block_lt_of_cell? w _ hw271_2)).trans hw271_2), ((HB.out.cell (World.block_lt_of_cell? w _ hw271_3)).trans hw271_3), ((HB.out.cell (World.block_lt_of_cell? w _ hw271_4)).trans hw271_4), ((HB.out.cell (World.block_lt_of_cell? w _ hw272_0)).trans hw272_0), ((HB.out.cell (World.block_lt_of_cell? w _ hw272_1)).trans hw272_1), ((HB.out.cell (World.block_lt_of_cell? w _ hw272_2)).trans hw272_2), ((HB.out.cell (World.block_lt_of_cell? w _ hw272_3)).trans hw272_3), ((HB.out.cell (World.block_lt_of_cell? w _ hw272_4)).trans hw272_4)⟩ (fun hHeld => ?_); clear hK K; refine norm_ (a' := ?_) ?_ ?_; rotate_left
      ·show Act.put _ (some 26) _ = _
       simp only [Act.put, List.setIfInBounds_toArray, List.set_cons_zero, List.set_cons_succ, i64_w, i32_w]
       rfl
      refine pure_ (i := 15) (N := some 3) (v := ?_) (a' := ?_) #[true, true, true, true, true, true, true, true, true, true, true, true, true, true, true, true] rfl rfl (any_of HT_.out (by kernel_rfl)) (fun _ _ _ h => h) (Or.inl ⟨by rfl, ?_⟩) ?_ ?_
      rotate_left
      ·intro w'; go_simp
       with_reducible rfl
      rotate_left
      ·exact putA
      refine done_ (done_of HT_.out (by kernel_rfl)) ?_
      try go_wp2
      go_roundg k1
      case measure => have := HK1.out; omega
      case rel => exact ⟨(y281), (wrap64 (x4_1 + 1)), enA, H', ⟨by have := HK1.out; omega⟩, ⟨kdB HO283⟩, ⟨belB HB⟩⟩
     ·rw [if_neg c7] at H
      exact absurd H (by simp)
    ·rw [if_neg c5] at H
     exact absurd H (by simp)
   ·rw [if_neg c4] at H; have c4b0 := decide_eq_false c4; clear c4; obtain rfl := Option.some.inj H
    go_wp2
    go_ret
    exact ⟨_, erA, kdB HO_3, belB HB⟩

def spec_l10Dirs.l0 : Nat → List (S95) → List (S95) → Int → Option ((List (S95)))
 | 0, _, _, _ => none
 | k + 1, x0, x3, x4 => if x4 < (x0.length : Int) then (if 0 ≤ x4 then ((spec_l10Args.f k ((rd_T95 x0 x4).f1)).bind fun t289 => (if x3.length < 3518437208883 then (spec_l10Dirs.l0 k x0 (x3 ++ [(⟨(rd_T95 x0 x4).f0, t289⟩ : S95)]) (wrap64 (x4 + 1))) else (none))) else (none)) else (some x3)
def spec_l10Dirs.f (k : Nat) (l0 : List (S95)) : Option ((List (S95))) := spec_l10Dirs.l0 k l0 (([] : List (S95))) 0
theorem spec_l10Dirs.mono_l : ∀ k, (∀ y0 y1 y2, LeO (spec_l10Dirs.l0 k y0 y1 y2) (spec_l10Dirs.l0 (k + 1) y0 y1 y2))
 | 0 => fun _ _ _ r h => by simp [spec_l10Dirs.l0] at h
 | k + 1 => by
  have ih0 := spec_l10Dirs.mono_l k
  ·intro y0 y1 y2; unfold spec_l10Dirs.l0
   repeat' first
   | (with_reducible first | exact ih0 _ _ _ | exact spec_l10Args.mono _ _ | exact LeO.refl _ | exact LeO.none _ | refine LeO.ite ?_ ?_ | refine LeO.bind ?_ (fun _ => ?_))
   | exact ih0 _ _ _ | exact spec_l10Args.mono _ _ | exact LeO.none _ | refine LeO.ite ?_ ?_ | refine LeO.bind ?_ (fun _ => ?_)
theorem spec_l10Dirs.mono : ∀ a0 k, LeO (spec_l10Dirs.f k a0) (spec_l10Dirs.f (k + 1) a0) := by
 intro a0 k; have ih0 := spec_l10Dirs.mono_l k; unfold spec_l10Dirs.f
 repeat' first
   | (with_reducible first | exact ih0 _ _ _ | exact spec_l10Args.mono _ _ | exact LeO.refl _ | exact LeO.none _ | refine LeO.ite ?_ ?_ | refine LeO.bind ?_ (fun _ => ?_))
   | exact ih0 _ _ _ | exact spec_l10Args.mono _ _ | exact LeO.none _ | refine LeO.ite ?_ ?_ | refine LeO.bind ?_ (fun _ => ?_)
def spec_l10Dirs.T5 : Bool × List (List Nat × List Nat) := (true, [([], []), ([], []), ([], []), ([1, 2], [1, 2]), ([3], [3]), ([4], [4]), ([], []), ([], []), ([6, 7], [6, 7]), ([8], [8]), ([9], [9]), ([10], [10]), ([5, 11], [5, 11]), ([12], [12]), ([0, 13, 11], [0, 13]), ([14, 14, 0, 1, 2, 3, 4, 5, 6, 7, 8, 9, 10, 11, 12, 13, 14], [0, 14])])
def spec_l10Dirs.B5 : List Nat := [0, 0, 0, 6, 14, 30, 0, 0, 192, 448, 960, 1984, 4094, 8190, 16383, 32767]
theorem spec_l10Dirs.tab5 : rtab .any (opsOf Try.f74 5) = spec_l10Dirs.T5 := by kernel_rfl
theorem spec_l10Dirs.bits5 : waitsOk spec_l10Dirs.T5.2 spec_l10Dirs.B5 = true := by kernel_rfl
set_option maxHeartbeats 8000000 in
set_option maxRecDepth 100000 in
theorem spec_l10Dirs.calls (k : Nat) (A0 : Option Addr) (c0 : Nat) (l0 : List (S95)) (r : List (S95)) (w : World) (hr0 : Kd.C k95 w A0 l0.length l0) (hc0 : l0.length ≤ c0) (h : spec_l10Dirs.f k l0 = some r) :
  Calls Try.prog 74 #[.slice A0 l0.length c0] w fun e w' => ∃ v0_ : Value, e = .returned (v0_) ∧ Kd.R k95 95 w' w.heap.size (fun _ => True) v0_ r ∧ Below w.heap.size w w' := by
 have hu95 := Try.underlying95; have HR0 := Aside0.mk hr0; have HC0 := Aside0.mk hc0; clear hr0 hc0; have HB := Aside0.mk (Below.refl w.heap.size w); have H : (spec_l10Dirs.l0 k l0 (([] : List (S95))) 0) = some r := h; clear h
 obtain ⟨y284, hy284⟩ : ∃ y_ : List (S95), y_ = (([] : List (S95))) := ⟨_, rfl⟩
 replace H : (spec_l10Dirs.l0 k l0 y284 0) = some r := reA H hy284; have Ny284 := Aside0.mk hy284; clear hy284
 have H' := Aside0.mk H
 clear H
 go_enter Try.func74, Try.ntmps74
 go_wp2_with (first | ((with_reducible refine gate_dst (N := 5) rfl ?_); refine Kd.R_lit k95 _ 95 ?hg (N := 5) ?hd (xs := ([] : List (S95))) (inner := []) (ok := fun _ => True) (okp := fun _ => True) ?hr ?hp (fun _ hk => hk) trivial (Below.refl _ _) (Nat.le_refl _) (by simp) ?_; (case hd => rfl); (case hg => rfl); (case hr => first | (go_simp; done) | (go_simp; rfl)); (case hp => exact (Reps.none _ _)); intro v285 w2 ho3 hb hg_ hnew_; clear hg_ hnew_; (first | rw [← Ny284.out] at ho3 | (simp only [Int.reduceToNat] at ho3; rw [← Ny284.out] at ho3)); have HO286 := Aside0.mk (Kd.R_lower ho3 (below_size (belB HB))); replace HB := Aside0.mk (below_step (belB HB) hb); clear hb ho3))
 go_loopg [3, 4] k (fun kq v3 v4 w' => ∃ (x3_1 : List (S95)) (x4_1 : Int), v4 = .int .i64 x4_1 ∧ Aside0 (spec_l10Dirs.l0 kq l0 x3_1 x4_1 = some r) ∧ Aside0 (kq ≤ k) ∧ Aside0 (Kd.R k95 95 w' w.heap.size (fun _ => True) v3 x3_1) ∧ Aside0 (Below w.heap.size w w'))
 case atStart => exact ⟨(y284), (0), enA, H', ⟨Nat.le_refl _⟩, ⟨kdB HO286⟩, ⟨belB HB⟩⟩
 case round =>
  clear H'
  try clear p2
  obtain ⟨x3_1, x4_1, rfl, HA, HK1, HO_3, HB⟩ := hrel
  cases gk with
  | zero => exact absurd HA.out (by simp [spec_l10Dirs.l0])
  | succ k1 =>
   have H := HA.out; clear HA
   simp only [spec_l10Dirs.l0] at H
   by_cases c4 : x4_1 < (l0.length : Int)
   ·rw [if_pos c4] at H; have c4b0 := decide_eq_true c4; clear c4
    by_cases c5 : 0 ≤ x4_1
    ·rw [if_pos c5] at H; have c5b0 := decide_eq_true c5; clear c5; replace H := Option.bind_eq_some_iff.mp H; obtain ⟨t289, A60, H⟩ := H; replace H : (if x3_1.length < 3518437208883 then (spec_l10Dirs.l0 k1 l0 (x3_1 ++ [(⟨(rd_T95 l0 x4_1).f0, t289⟩ : S95)]) (wrap64 (x4_1 + 1))) else (none)) = some r := H; have A6 := Aside0.mk A60; clear A60
     by_cases c7 : x3_1.length < 3518437208883
     ·rw [if_pos c7] at H; have LMc7 := Aside0.mk c7; clear c7
      obtain ⟨y292, hy292⟩ : ∃ y_ : List (S95), y_ = (x3_1 ++ [(⟨(rd_T95 l0 x4_1).f0, t289⟩ : S95)]) := ⟨_, rfl⟩
      replace H : (spec_l10Dirs.l0 k1 l0 y292 (wrap64 (x4_1 + 1))) = some r := reA H hy292; have Ny292 := Aside0.mk hy292; clear hy292
      have H' := Aside0.mk H
      clear H
      try go_wp2
      replace HO_3 := Aside0.mk (Kd.R_drew HO_3.out); replace HB := Aside0.mk (below_drew1 HB.out); have p287 : 0 ≤ (x4_1 : Int) := odA; have q287 : x4_1 < (l0.length : Int) := odA; obtain ⟨ad287, A287_1, c287_1, e287, hx287_0, hx287_1, hl287_1, hi287_1⟩ := at_T95 HR0.out x4_1 p287 q287; have hw287_1 := hx287_1; have hw287_0 := hx287_0
      cases e287
      (try replace hx287_0 := celB HB hx287_0)
      (try replace hx287_1 := celB HB hx287_1)
      have HR287_1 := Aside0.mk hi287_1; have HC287_1 := Aside0.mk hl287_1; clear hi287_1 hl287_1; replace p287 := eq_true p287; replace q287 := eq_true q287; have p288 : 0 ≤ (x4_1 : Int) := odA; have q288 : x4_1 < (l0.length : Int) := odA; obtain ⟨ad288, A288_1, c288_1, e288, hx288_0, hx288_1, hl288_1, hi288_1⟩ := at_T95 HR0.out x4_1 p288 q288; have hw288_1 := hx288_1; have hw288_0 := hx288_0
      obtain rfl : ad287 = ad288 := (by injection e288)
      (try replace hx288_0 := celB HB hx288_0)
      (try replace hx288_1 := celB HB hx288_1)
      have HR288_1 := Aside0.mk hi288_1; have HC288_1 := Aside0.mk hl288_1; clear hi288_1 hl288_1; replace p288 := eq_true p288; replace q288 := eq_true q288; have ea_ := Option.some.inj (hx287_1.symm.trans hx288_1)
      injection ea_ with ea_ en_ ec_
      subst ea_; subst ec_; clear en_
      refine start_ (n := 16) (S := fun w' => w'.cell? (ad287.add ((x4_1).toNat * 2)) = some (.string ((rd_T95 l0 x4_1).f0)) ∧ w'.cell? ⟨(ad287.add ((x4_1).toNat * 2)).block, (ad287.add ((x4_1).toNat * 2)).off + 1, none⟩ = some (.slice A287_1 ((rd_T95 l0 x4_1).f1).length c287_1) ∧ w'.cell? (ad287.add ((x4_1).toNat * 2)) = some (.string ((rd_T95 l0 x4_1).f0)) ∧ w'.cell? ⟨(ad287.add ((x4_1).toNat * 2)).block, (ad287.add ((x4_1).toNat * 2)).off + 1, none⟩ = some (.slice A287_1 ((rd_T95 l0 x4_1).f1).length c287_1)) (ds := []) #[false, false, false, false, false, false, false, false, false, false, false, false, false, false, false, false] (by kernel_rfl) rfl rfl ⟨((HB.out.cell (World.block_lt_of_cell? w _ hw287_0)).trans hw287_0), ((HB.out.cell (World.block_lt_of_cell? w _ hw287_1)).trans hw287_1), ((HB.out.cell (World.block_lt_of_cell? w _ hw288_0)).trans hw288_0), ((HB.out.cell (World.block_lt_of_cell? w _ hw288_1)).trans hw288_1)⟩ (fun hHeld => ?_); refine with_tabW spec_l10Dirs.tab5 spec_l10Dirs.bits5 (fun HT_ HW_ => ?_)
      generalize wr.drew = w8 at HO_3 HB HR287_1 HR288_1 hx287_0 hx287_1 hx288_0 hx288_1 hHeld ⊢
      refine pure_ (i := 0) (N := some 12) (v := ?_) (a' := ?_) #[true, false, false, false, false, false, false, false, false, false, false, false, false, false, false, false] rfl rfl (any_of HT_.out (by kernel_rfl)) (fun _ _ _ h => h) (Or.inl ⟨by rfl, ?_⟩) ?_ ?_
      rotate_left
      ·intro w'; go_simp
       with_reducible rfl
      rotate_left
      ·exact putA
      refine pure_ (i := 1) (N := some 13) (v := ?_) (a' := ?_) #[true, true, false, false, false, false, false, false, false, false, false, false, false, false, false, false] rfl rfl (any_of HT_.out (by kernel_rfl)) (fun _ _ _ h => h) (Or.inl ⟨by rfl, ?_⟩) ?_ ?_
      rotate_left
      ·intro w'; go_simp
       with_reducible rfl
      rotate_left
      ·exact putA
      refine pure_ (i := 2) (N := some 14) (v := ?_) (a' := ?_) #[true, true, true, false, false, false, false, false, false, false, false, false, false, false, false, false] rfl rfl (any_of HT_.out (by kernel_rfl)) (fun _ _ _ h => h) (Or.inl ⟨by rfl, ?_⟩) ?_ ?_
      rotate_left
      ·intro w'; go_simp
       with_reducible rfl
      rotate_left
      ·exact putA
      refine pure_ (i := 3) (N := some 15) (v := ?_) (a' := ?_) #[true, true, true, true, false, false, false, false, false, false, false, false, false, false, false, false] rfl rfl (any_of HT_.out (by kernel_rfl)) (fun _ _ _ h => h) (Or.inl ⟨by rfl, ?_⟩) ?_ ?_
      rotate_left
      ·intro w'; go_simp
       with_reducible rfl
      rotate_left
      ·exact putA
      refine pure_ (i := 4) (N := some 16) (v := ?_) (a' := ?_) #[true, true, true, true, true, false, false, false, false, false, false, false, false, false, false, false] rfl rfl (any_of HT_.out (by kernel_rfl)) (fun _ _ _ h => h) (Or.inl ⟨by rfl, ?_⟩) ?_ ?_
      rotate_left
      ·intro w'; go_simp
       with_reducible rfl
      rotate_left
      ·exact putA
      refine pure_ (i := 6) (N := some 18) (v := ?_) (a' := ?_) #[true, true, true, true, true, false, true, false, false, false, false, false, false, false, false, false] rfl rfl (any_of HT_.out (by kernel_rfl)) (fun _ _ _ h => h) (Or.inl ⟨by rfl, ?_⟩) ?_ ?_
      rotate_left
      ·intro w'; go_simp
       with_reducible rfl
      rotate_left
      ·exact putA
      refine pure_ (i := 7) (N := some 19) (v := ?_) (a' := ?_) #[true, true, true, true, true, false, true, true, false, false, false, false, false, false, false, false] rfl rfl (any_of HT_.out (by kernel_rfl)) (fun _ _ _ h => h) (Or.inl ⟨by rfl, ?_⟩) ?_ ?_
      rotate_left
      ·intro w'; go_simp
       with_reducible rfl
      rotate_left
      ·exact putA
      refine pure_ (i := 8) (N := some 20) (v := ?_) (a' := ?_) #[true, true, true, true, true, false, true, true, true, false, false, false, false, false, false, false] rfl rfl (any_of HT_.out (by kernel_rfl)) (fun _ _ _ h => h) (Or.inl ⟨by rfl, ?_⟩) ?_ ?_
      rotate_left
      ·intro w'; go_simp
       with_reducible rfl
      rotate_left
      ·exact putA
      refine pure_ (i := 9) (N := some 21) (v := ?_) (a' := ?_) #[true, true, true, true, true, false, true, true, true, true, false, false, false, false, false, false] rfl rfl (any_of HT_.out (by kernel_rfl)) (fun _ _ _ h => h) (Or.inl ⟨by rfl, ?_⟩) ?_ ?_
      rotate_left
      ·intro w'; go_simp
       with_reducible rfl
      rotate_left
      ·exact putA
      refine take_ (i := 5) (N := some 17) (v := ?_) (a' := ?_) #[true, true, true, true, true, true, true, true, true, true, false, false, false, false, false, false] rfl rfl (take_ofW HT_.out HW_.out (by kernel_rfl)) (fun _ _ _ h => h) (Or.inl ⟨by rfl, ?_⟩) hHeld ?_ ?_
      rotate_left
      ·rintro w' ⟨s0, s1, s2, s3⟩
       go_simp
       with_reducible rfl
      rotate_left
      ·exact putA
      refine take_ (i := 10) (N := some 22) (v := ?_) (a' := ?_) #[true, true, true, true, true, true, true, true, true, true, true, false, false, false, false, false] rfl rfl (take_ofW HT_.out HW_.out (by kernel_rfl)) (fun _ _ _ h => h) (Or.inl ⟨by rfl, ?_⟩) hHeld ?_ ?_
      rotate_left
      ·rintro w' ⟨s0, s1, s2, s3⟩
       go_simp
       with_reducible rfl
      rotate_left
      ·exact putA
      refine one_ (i := 11) (N := some 23) #[true, true, true, true, true, true, true, true, true, true, true, true, false, false, false, false] rfl rfl (one_of HT_.out (by kernel_rfl)) (by decide) (fun K hK => ?_)
      refine goes_ Try.func73 (by kernel_rfl) rfl #[.slice A287_1 ((rd_T95 l0 x4_1).f1).length c287_1] (by rfl) rfl rfl mapA ?_
      with_reducible refine (spec_l10Args.calls k1 _ _ ((rd_T95 l0 x4_1).f1) t289 _ ?side1 ?side2 A6.out).mono ?_
      (case side1 => exact cbA HR288_1 HB)
      (case side2 => exact HC288_1.out)
      rintro e w9 ⟨v290, rfl, ho0, hb⟩
      refine ⟨_, rfl, ?_⟩; have HO291 := Aside0.mk (Kd.R_lower ho0 (below_size (belB HB))); replace HO_3 := Aside0.mk (Kd.R_elder' (kdB HO_3) (Kd.R_base ho0) hb); replace HB := Aside0.mk (below_step (belB HB) hb)
      (try clear hb)
      (try clear hb2)
      (try clear hk)
      (try clear hi)
      (try clear ho0)
      obtain ⟨Ao10, co10, eo10⟩ := Kd.R_slice HO291.out
      (first | subst eo10 | (injection eo10 with f1_ f2_ f3_; have f4_ := f1_.symm; have f5_ := f3_.symm; clear f1_ f2_ f3_; subst f4_; subst f5_))
      refine hK.out _ _ ⟨((HB.out.cell (World.block_lt_of_cell? w _ hw287_0)).trans hw287_0), ((HB.out.cell (World.block_lt_of_cell? w _ hw287_1)).trans hw287_1), ((HB.out.cell (World.block_lt_of_cell? w _ hw288_0)).trans hw288_0), ((HB.out.cell (World.block_lt_of_cell? w _ hw288_1)).trans hw288_1)⟩ (fun hHeld => ?_); clear hK K; refine norm_ (a' := ?_) ?_ ?_; rotate_left
      ·show Act.put _ (some 23) _ = _
       simp only [Act.put, List.setIfInBounds_toArray, List.set_cons_zero, List.set_cons_succ, i64_w, i32_w]
       rfl
      refine pure_ (i := 12) (N := some 24) (v := ?_) (a' := ?_) #[true, true, true, true, true, true, true, true, true, true, true, true, true, false, false, false] rfl rfl (any_of HT_.out (by kernel_rfl)) (fun _ _ _ h => h) (Or.inl ⟨by rfl, ?_⟩) ?_ ?_
      rotate_left
      ·intro w'; go_simp
       with_reducible rfl
      rotate_left
      ·exact putA
      refine one_ (i := 13) (N := some 25) #[true, true, true, true, true, true, true, true, true, true, true, true, true, true, false, false] rfl rfl (one_of HT_.out (by kernel_rfl)) (by decide) (fun K hK => ?_)
      refine value_ (w1 := ?_) (v := ?_) (by rfl) rfl ?_ ?_
      rotate_left 2
      ·go_simp
       constructor
       ·rfl
       ·rfl
      refine hK.out _ _ ⟨(World.cell?_alloc_lt _ _ _ (World.block_lt_of_cell? _ _ (((HB.out.cell (World.block_lt_of_cell? w _ hw287_0)).trans hw287_0)))).trans (((HB.out.cell (World.block_lt_of_cell? w _ hw287_0)).trans hw287_0)), (World.cell?_alloc_lt _ _ _ (World.block_lt_of_cell? _ _ (((HB.out.cell (World.block_lt_of_cell? w _ hw287_1)).trans hw287_1)))).trans (((HB.out.cell (World.block_lt_of_cell? w _ hw287_1)).trans hw287_1)), (World.cell?_alloc_lt _ _ _ (World.block_lt_of_cell? _ _ (((HB.out.cell (World.block_lt_of_cell? w _ hw288_0)).trans hw288_0)))).trans (((HB.out.cell (World.block_lt_of_cell? w _ hw288_0)).trans hw288_0)), (World.cell?_alloc_lt _ _ _ (World.block_lt_of_cell? _ _ (((HB.out.cell (World.block_lt_of_cell? w _ hw288_1)).trans hw288_1)))).trans (((HB.out.cell (World.block_lt_of_cell? w _ hw288_1)).trans hw288_1))⟩ (fun hHeld => ?_); clear hK K; refine norm_ (a' := ?_) ?_ ?_; rotate_left
      ·show Act.put _ (some 25) _ = _
       simp only [Act.put, List.setIfInBounds_toArray, List.set_cons_zero, List.set_cons_succ, i64_w, i32_w]
       rfl
      refine one_ (i := 14) (N := some 26) #[true, true, true, true, true, true, true, true, true, true, true, true, true, true, true, false] rfl rfl (one_of HT_.out (by kernel_rfl)) (by decide) (fun K hK => ?_)
      refine Kd.R_append_step k95 (w0 := w) w.heap.size (by rfl) (.tmp 12) (.tmp 25) 51 95 (.agg #[(.string ⟨#[]⟩), (.slice none 0 0)]) 40 rfl Try.underlying51 info95 rfl (by decide) (by omega) u3 x3_1 (⟨(rd_T95 l0 x4_1).f0, t289⟩ : S95) [.string ((rd_T95 l0 x4_1).f0), .slice Ao10 t289.length co10] (fun _ => True) (fun k_ => ((fun _ => True)) k_ ∧ some k_ ≠ (u3 : Value).ownBlock) rfl rfl ?aP (fun _ hk => hk) ?aF ?aO ?aB ?aS ?aL ?_
      (case aP => exact k95_mkM _ _ _ (⟨(rd_T95 l0 x4_1).f0, t289⟩ : S95) (Kd.R_mono (Kd.R_apart' (HO291.out) (Kd.R_typed HO_3.out) (by decide)) (fun k_ hk => ⟨trivial, hk.2⟩)))
      (case aB => exact (belB HB))
      (case aF => exact (fun _ _ => trivial))
      (case aO => exact (by (with_reducible repeat (first | apply Kd.R_alloc | apply Kd.R_drewN | apply Kd.R_drew)); exact Kd.R_mono HO_3.out (fun _ hk => trivial)))
      (case aS => exact (below_size (belB HB)))
      (case aL => have := LMc7.out; omega)
      intro v293 w11 ho hb hg hat; rw [← Ny292.out] at ho; have HO294 := Aside0.mk (ho); replace HB := Aside0.mk (hb); clear HO_3 HO291; clear ho hb hg hat; refine hK.out _ _ ⟨((HB.out.cell (World.block_lt_of_cell? w _ hw287_0)).trans hw287_0), ((HB.out.cell (World.block_lt_of_cell? w _ hw287_1)).trans hw287_1), ((HB.out.cell (World.block_lt_of_cell? w _ hw288_0)).trans hw288_0), ((HB.out.cell (World.block_lt_of_cell? w _ hw288_1)).trans hw288_1)⟩ (fun hHeld => ?_); clear hK K; refine norm_ (a' := ?_) ?_ ?_; rotate_left
      ·show Act.put _ (some 26) _ = _
       simp only [Act.put, List.setIfInBounds_toArray, List.set_cons_zero, List.set_cons_succ, i64_w, i32_w]
       rfl
      refine pure_ (i := 15) (N := some 3) (v := ?_) (a' := ?_) #[true, true, true, true, true, true, true, true, true, true, true, true, true, true, true, true] rfl rfl (any_of HT_.out (by kernel_rfl)) (fun _ _ _ h => h) (Or.inl ⟨by rfl, ?_⟩) ?_ ?_
      rotate_left
      ·intro w'; go_simp
       with_reducible rfl
      rotate_left
      ·exact putA
      refine done_ (done_of HT_.out (by kernel_rfl)) ?_
      try go_wp2
      go_roundg k1
      case measure => have := HK1.out; omega
      case rel => exact ⟨(y292), (wrap64 (x4_1 + 1)), enA, H', ⟨by have := HK1.out; omega⟩, ⟨kdB HO294⟩, ⟨belB HB⟩⟩
     ·rw [if_neg c7] at H
      exact absurd H (by simp)
    ·rw [if_neg c5] at H
     exact absurd H (by simp)
   ·rw [if_neg c4] at H; have c4b0 := decide_eq_false c4; clear c4; obtain rfl := Option.some.inj H
    go_wp2
    go_ret
    exact ⟨_, erA, kdB HO_3, belB HB⟩

mutual
def spec_l11Copy.l0 : Nat → List (S54) → List (S54) → Int → Option ((List (S54)))
 | 0, _, _, _ => none
 | k + 1, x0, x3, x4 => if x4 < (x0.length : Int) then (if 0 ≤ x4 then ((spec_l10Args.f k ((rd_T54 x0 x4).f4)).bind fun t300 => ((spec_l10Dirs.f k ((rd_T54 x0 x4).f5)).bind fun t303 => ((spec_l11Copy.f k ((rd_T54 x0 x4).f6)).bind fun t307 => (if x3.length < 1099511627776 then (spec_l11Copy.l0 k x0 (x3 ++ [(⟨(rd_T54 x0 x4).f0, (rd_T54 x0 x4).f1, (rd_T54 x0 x4).f2, (rd_T54 x0 x4).f3, t300, t303, t307⟩ : S54)]) (wrap64 (x4 + 1))) else (none))))) else (none)) else (some x3)
def spec_l11Copy.f : Nat → List (S54) → Option ((List (S54)))
 | 0, _ => none
 | k + 1, l0 => spec_l11Copy.l0 k l0 (([] : List (S54))) 0
end
theorem spec_l11Copy.mono_l : ∀ k, (∀ y0, LeO (spec_l11Copy.f k y0) (spec_l11Copy.f (k + 1) y0)) ∧ (∀ y0 y1 y2, LeO (spec_l11Copy.l0 k y0 y1 y2) (spec_l11Copy.l0 (k + 1) y0 y1 y2))
 | 0 => ⟨fun _ r h => by simp [spec_l11Copy.f] at h, fun _ _ _ r h => by simp [spec_l11Copy.l0] at h⟩
 | k + 1 => by
  obtain ⟨ih0, ih1⟩ := spec_l11Copy.mono_l k; refine ⟨?_, ?_⟩
  ·intro y0; unfold spec_l11Copy.f
   repeat' first
   | (with_reducible first | exact ih0 _ | exact ih1 _ _ _ | exact spec_l10Args.mono _ _ | exact spec_l10Dirs.mono _ _ | exact LeO.refl _ | exact LeO.none _ | refine LeO.ite ?_ ?_ | refine LeO.bind ?_ (fun _ => ?_))
   | exact ih0 _ | exact ih1 _ _ _ | exact spec_l10Args.mono _ _ | exact spec_l10Dirs.mono _ _ | exact LeO.none _ | refine LeO.ite ?_ ?_ | refine LeO.bind ?_ (fun _ => ?_)
  ·intro y0 y1 y2; unfold spec_l11Copy.l0
   repeat' first
   | (with_reducible first | exact ih0 _ | exact ih1 _ _ _ | exact spec_l10Args.mono _ _ | exact spec_l10Dirs.mono _ _ | exact LeO.refl _ | exact LeO.none _ | refine LeO.ite ?_ ?_ | refine LeO.bind ?_ (fun _ => ?_))
   | exact ih0 _ | exact ih1 _ _ _ | exact spec_l10Args.mono _ _ | exact spec_l10Dirs.mono _ _ | exact LeO.none _ | refine LeO.ite ?_ ?_ | refine LeO.bind ?_ (fun _ => ?_)
theorem spec_l11Copy.mono : ∀ a0 k, LeO (spec_l11Copy.f k a0) (spec_l11Copy.f (k + 1) a0) := by
 intro a0 k; obtain ⟨ih0, ih1⟩ := spec_l11Copy.mono_l k; exact ih0 a0
set_option maxHeartbeats 8000000 in
set_option maxRecDepth 100000 in
theorem spec_l11Copy.calls (k : Nat) : ∀ (A0 : Option Addr) (c0 : Nat) (l0 : List (S54)) (r : List (S54)) (w : World) (hr0 : Kd.C k54 w A0 l0.length l0) (hc0 : l0.length ≤ c0) (h : spec_l11Copy.f k l0 = some r),
  Calls Try.prog 61 #[.slice A0 l0.length c0] w fun e w' => ∃ v0_ : Value, e = .returned (v0_) ∧ Kd.R k54 54 w' w.heap.size (fun _ => True) v0_ r ∧ Below w.heap.size w w' := by
 induction k using Nat.strongRecOn with
 | _ k ih =>
 intro A0 c0 l0 r w hr0 hc0 h
 cases k with
 | zero => exact absurd h (by simp [spec_l11Copy.f])
 | succ k =>
 simp only [spec_l11Copy.f] at h
 have hu54 := Try.underlying54; have HR0 := Aside0.mk hr0; have HC0 := Aside0.mk hc0; clear hr0 hc0; have HB := Aside0.mk (Below.refl w.heap.size w); have H : (spec_l11Copy.l0 k l0 (([] : List (S54))) 0) = some r := h; clear h
 obtain ⟨y295, hy295⟩ : ∃ y_ : List (S54), y_ = (([] : List (S54))) := ⟨_, rfl⟩
 replace H : (spec_l11Copy.l0 k l0 y295 0) = some r := reA H hy295; have Ny295 := Aside0.mk hy295; clear hy295
 have H' := Aside0.mk H
 clear H
 go_enter Try.func61, Try.ntmps61
 go_wp2_with (first | ((with_reducible refine gate_dst (N := 6) rfl ?_); refine Kd.R_lit k54 _ 54 ?hg (N := 6) ?hd (xs := ([] : List (S54))) (inner := []) (ok := fun _ => True) (okp := fun _ => True) ?hr ?hp (fun _ hk => hk) trivial (Below.refl _ _) (Nat.le_refl _) (by simp) ?_; (case hd => rfl); (case hg => rfl); (case hr => first | (go_simp; done) | (go_simp; rfl)); (case hp => exact (Reps.none _ _)); intro v296 w2 ho3 hb hg_ hnew_; clear hg_ hnew_; (first | rw [← Ny295.out] at ho3 | (simp only [Int.reduceToNat] at ho3; rw [← Ny295.out] at ho3)); have HO297 := Aside0.mk (Kd.R_lower ho3 (below_size (belB HB))); replace HB := Aside0.mk (below_step (belB HB) hb); clear hb ho3))
 go_loopg [3, 4] k (fun kq v3 v4 w' => ∃ (x3_1 : List (S54)) (x4_1 : Int), v4 = .int .i64 x4_1 ∧ Aside0 (spec_l11Copy.l0 kq l0 x3_1 x4_1 = some r) ∧ Aside0 (kq ≤ k) ∧ Aside0 (Kd.R k54 54 w' w.heap.size (fun _ => True) v3 x3_1) ∧ Aside0 (Below w.heap.size w w'))
 case atStart => exact ⟨(y295), (0), enA, H', ⟨Nat.le_refl _⟩, ⟨kdB HO297⟩, ⟨belB HB⟩⟩
 case round =>
  clear H'
  try clear p2
  obtain ⟨x3_1, x4_1, rfl, HA, HK1, HO_3, HB⟩ := hrel
  cases gk with
  | zero => exact absurd HA.out (by simp [spec_l11Copy.l0])
  | succ k1 =>
   have H := HA.out; clear HA
   simp only [spec_l11Copy.l0] at H
   by_cases c4 : x4_1 < (l0.length : Int)
   ·rw [if_pos c4] at H; have c4b0 := decide_eq_true c4; clear c4
    by_cases c5 : 0 ≤ x4_1
    ·rw [if_pos c5] at H; have c5b0 := decide_eq_true c5; clear c5; replace H := Option.bind_eq_some_iff.mp H; obtain ⟨t300, A60, H⟩ := H; replace H : ((spec_l10Dirs.f k1 ((rd_T54 l0 x4_1).f5)).bind fun t303 => ((spec_l11Copy.f k1 ((rd_T54 l0 x4_1).f6)).bind fun t307 => (if x3_1.length < 1099511627776 then (spec_l11Copy.l0 k1 l0 (x3_1 ++ [(⟨(rd_T54 l0 x4_1).f0, (rd_T54 l0 x4_1).f1, (rd_T54 l0 x4_1).f2, (rd_T54 l0 x4_1).f3, t300, t303, t307⟩ : S54)]) (wrap64 (x4_1 + 1))) else (none)))) = some r := H; have A6 := Aside0.mk A60; clear A60; replace H := Option.bind_eq_some_iff.mp H; obtain ⟨t303, A70, H⟩ := H; replace H : ((spec_l11Copy.f k1 ((rd_T54 l0 x4_1).f6)).bind fun t307 => (if x3_1.length < 1099511627776 then (spec_l11Copy.l0 k1 l0 (x3_1 ++ [(⟨(rd_T54 l0 x4_1).f0, (rd_T54 l0 x4_1).f1, (rd_T54 l0 x4_1).f2, (rd_T54 l0 x4_1).f3, t300, t303, t307⟩ : S54)]) (wrap64 (x4_1 + 1))) else (none))) = some r := H; have A7 := Aside0.mk A70; clear A70; replace H := Option.bind_eq_some_iff.mp H; obtain ⟨t307, A80, H⟩ := H; replace H : (if x3_1.length < 1099511627776 then (spec_l11Copy.l0 k1 l0 (x3_1 ++ [(⟨(rd_T54 l0 x4_1).f0, (rd_T54 l0 x4_1).f1, (rd_T54 l0 x4_1).f2, (rd_T54 l0 x4_1).f3, t300, t303, t307⟩ : S54)]) (wrap64 (x4_1 + 1))) else (none)) = some r := H; have A8 := Aside0.mk A80; clear A80
     by_cases c9 : x3_1.length < 1099511627776
     ·rw [if_pos c9] at H; have LMc9 := Aside0.mk c9; clear c9
      obtain ⟨y310, hy310⟩ : ∃ y_ : List (S54), y_ = (x3_1 ++ [(⟨(rd_T54 l0 x4_1).f0, (rd_T54 l0 x4_1).f1, (rd_T54 l0 x4_1).f2, (rd_T54 l0 x4_1).f3, t300, t303, t307⟩ : S54)]) := ⟨_, rfl⟩
      replace H : (spec_l11Copy.l0 k1 l0 y310 (wrap64 (x4_1 + 1))) = some r := reA H hy310; have Ny310 := Aside0.mk hy310; clear hy310
      have H' := Aside0.mk H
      clear H; have p298 : 0 ≤ (x4_1 : Int) := odA; have q298 : x4_1 < (l0.length : Int) := odA; obtain ⟨ad298, A298_4, c298_4, A298_5, c298_5, A298_6, c298_6, e298, hx298_0, hx298_1, hx298_2, hx298_3, hx298_4, hx298_5, hx298_6, hl298_4, hi298_4, hl298_5, hi298_5, hl298_6, hi298_6⟩ := at_T54 HR0.out x4_1 p298 q298
      cases e298
      (try replace hx298_0 := celB HB hx298_0)
      (try replace hx298_1 := celB HB hx298_1)
      (try replace hx298_2 := celB HB hx298_2)
      (try replace hx298_3 := celB HB hx298_3)
      (try replace hx298_4 := celB HB hx298_4)
      (try replace hx298_5 := celB HB hx298_5)
      (try replace hx298_6 := celB HB hx298_6)
      have HR298_4 := Aside0.mk hi298_4; have HC298_4 := Aside0.mk hl298_4; clear hi298_4 hl298_4; have HR298_5 := Aside0.mk hi298_5; have HC298_5 := Aside0.mk hl298_5; clear hi298_5 hl298_5; have HR298_6 := Aside0.mk hi298_6; have HC298_6 := Aside0.mk hl298_6; clear hi298_6 hl298_6; replace p298 := eq_true p298; replace q298 := eq_true q298
      go_wp2_with (first | ((with_reducible refine gate_dst (N := 5) rfl ?_); refine boxE (N := 5) (cs := #[.int .i64 0, .string (⟨#[]⟩ : ByteArray), .string (⟨#[]⟩ : ByteArray), .string (⟨#[]⟩ : ByteArray), .slice none 0 0, .slice none 0 0, .slice none 0 0]) (t := 54) ?_; intro gb299 hg w10 hbox hb; have BK299 := Aside0.mk (hbox); have GW299 := Aside0.mk ((gbA (w := w) HB hg)); have GE299 := Aside0.mk ((gbA (w := w) HB hg)); replace HO_3 := Aside0.mk (Kd.R_below (Kd.R_elderB (kdB HO_3) gb299 (Nat.le_of_eq hg.symm)) hb); replace HB := Aside0.mk (below_step (belB HB) hb); clear hb hbox hg; have hcz11_0 : w10.cell? ⟨gb299, 0, none⟩ = some (.int .i64 0) := (blk_cell BK299.out 0).trans rfl; have hcz11_1 : w10.cell? ⟨gb299, 1, none⟩ = some (.string (⟨#[]⟩ : ByteArray)) := (blk_cell BK299.out 1).trans rfl; have hcz11_2 : w10.cell? ⟨gb299, 2, none⟩ = some (.string (⟨#[]⟩ : ByteArray)) := (blk_cell BK299.out 2).trans rfl; have hcz11_3 : w10.cell? ⟨gb299, 3, none⟩ = some (.string (⟨#[]⟩ : ByteArray)) := (blk_cell BK299.out 3).trans rfl; have hcz11_4 : w10.cell? ⟨gb299, 4, none⟩ = some (.slice none 0 0) := (blk_cell BK299.out 4).trans rfl; have hcz11_5 : w10.cell? ⟨gb299, 5, none⟩ = some (.slice none 0 0) := (blk_cell BK299.out 5).trans rfl; have hcz11_6 : w10.cell? ⟨gb299, 6, none⟩ = some (.slice none 0 0) := (blk_cell BK299.out 6).trans rfl; have hfz11_0 := blk_frozen BK299.out 0; have hfz11_1 := blk_frozen BK299.out 1; have hfz11_2 := blk_frozen BK299.out 2; have hfz11_3 := blk_frozen BK299.out 3; have hfz11_4 := blk_frozen BK299.out 4; have hfz11_5 := blk_frozen BK299.out 5; have hfz11_6 := blk_frozen BK299.out 6) | ((with_reducible refine gate_callee (f := 73) rfl ?_); refine goesL_ (some 19) rfl rfl Try.func73 (by kernel_rfl) rfl #[.slice A298_4 ((rd_T54 l0 x4_1).f4).length c298_4] rfl mapA ?_; (with_reducible refine (spec_l10Args.calls k1 _ _ ((rd_T54 l0 x4_1).f4) t300 _ ?side1 ?side2 A6.out).mono ?_); (case side1 => exact Kd.C_below HR298_4.out (belS HB GE299)); (case side2 => exact HC298_4.out); rintro e w12 ⟨v301, rfl, ho0, hb⟩; refine ⟨_, rfl, ?_⟩; have HO302 := Aside0.mk (Kd.R_lower ho0 (below_size (belS HB GE299))); replace HO_3 := Aside0.mk (Kd.R_elder' (by (with_reducible repeat (first | apply Kd.R_alloc | apply Kd.R_drewN | apply Kd.R_drew)); exact (Kd.R_mono (Kd.R_far (p := ⟨gb299, 6, none⟩) (Kd.R_far (p := ⟨gb299, 5, none⟩) (Kd.R_far (p := ⟨gb299, 4, none⟩) (Kd.R_far (p := ⟨gb299, 3, none⟩) (Kd.R_far (p := ⟨gb299, 2, none⟩) (Kd.R_far (p := ⟨gb299, 1, none⟩) (Kd.R_far (p := ⟨gb299, 0, none⟩) (Kd.R_mono HO_3.out (fun k_ hk => (⟨hk, hk.2⟩ : _ ∧ k_ ≠ gb299))) (fun _ hk => hk.2) (.int .i64 ((rd_T54 l0 x4_1).f0))) (fun _ hk => hk.2) (.string ((rd_T54 l0 x4_1).f1))) (fun _ hk => hk.2) (.string ((rd_T54 l0 x4_1).f2))) (fun _ hk => hk.2) (.string ((rd_T54 l0 x4_1).f3))) (fun _ hk => hk.2) (.slice A298_4 ((rd_T54 l0 x4_1).f4).length c298_4)) (fun _ hk => hk.2) (.slice A298_5 ((rd_T54 l0 x4_1).f5).length c298_5)) (fun _ hk => hk.2) (.slice A298_6 ((rd_T54 l0 x4_1).f6).length c298_6)) (fun _ h_ => h_.1))) (Kd.R_base ho0) hb); replace BK299 := Aside0.mk (blk_below (g := gb299) (o := .cells #[.int .i64 ((rd_T54 l0 x4_1).f0), .string ((rd_T54 l0 x4_1).f1), .string ((rd_T54 l0 x4_1).f2), .string ((rd_T54 l0 x4_1).f3), .slice A298_4 ((rd_T54 l0 x4_1).f4).length c298_4, .slice A298_5 ((rd_T54 l0 x4_1).f5).length c298_5, .slice A298_6 ((rd_T54 l0 x4_1).f6).length c298_6] 54 (0, 0)) (by (with_reducible repeat (first | refine blk_drewN ?_ _ | refine blk_drew ?_ | refine blk_alloc ?_ _)); refine blk_put (cs := #[.int .i64 ((rd_T54 l0 x4_1).f0), .string ((rd_T54 l0 x4_1).f1), .string ((rd_T54 l0 x4_1).f2), .string ((rd_T54 l0 x4_1).f3), .slice A298_4 ((rd_T54 l0 x4_1).f4).length c298_4, .slice A298_5 ((rd_T54 l0 x4_1).f5).length c298_5, .slice none 0 0]) ?_ 6 _ rfl; (with_reducible repeat (first | refine blk_drewN ?_ _ | refine blk_drew ?_ | refine blk_alloc ?_ _)); refine blk_put (cs := #[.int .i64 ((rd_T54 l0 x4_1).f0), .string ((rd_T54 l0 x4_1).f1), .string ((rd_T54 l0 x4_1).f2), .string ((rd_T54 l0 x4_1).f3), .slice A298_4 ((rd_T54 l0 x4_1).f4).length c298_4, .slice none 0 0, .slice none 0 0]) ?_ 5 _ rfl; (with_reducible repeat (first | refine blk_drewN ?_ _ | refine blk_drew ?_ | refine blk_alloc ?_ _)); refine blk_put (cs := #[.int .i64 ((rd_T54 l0 x4_1).f0), .string ((rd_T54 l0 x4_1).f1), .string ((rd_T54 l0 x4_1).f2), .string ((rd_T54 l0 x4_1).f3), .slice none 0 0, .slice none 0 0, .slice none 0 0]) ?_ 4 _ rfl; (with_reducible repeat (first | refine blk_drewN ?_ _ | refine blk_drew ?_ | refine blk_alloc ?_ _)); refine blk_put (cs := #[.int .i64 ((rd_T54 l0 x4_1).f0), .string ((rd_T54 l0 x4_1).f1), .string ((rd_T54 l0 x4_1).f2), .string (⟨#[]⟩ : ByteArray), .slice none 0 0, .slice none 0 0, .slice none 0 0]) ?_ 3 _ rfl; (with_reducible repeat (first | refine blk_drewN ?_ _ | refine blk_drew ?_ | refine blk_alloc ?_ _)); refine blk_put (cs := #[.int .i64 ((rd_T54 l0 x4_1).f0), .string ((rd_T54 l0 x4_1).f1), .string (⟨#[]⟩ : ByteArray), .string (⟨#[]⟩ : ByteArray), .slice none 0 0, .slice none 0 0, .slice none 0 0]) ?_ 2 _ rfl; (with_reducible repeat (first | refine blk_drewN ?_ _ | refine blk_drew ?_ | refine blk_alloc ?_ _)); refine blk_put (cs := #[.int .i64 ((rd_T54 l0 x4_1).f0), .string (⟨#[]⟩ : ByteArray), .string (⟨#[]⟩ : ByteArray), .string (⟨#[]⟩ : ByteArray), .slice none 0 0, .slice none 0 0, .slice none 0 0]) ?_ 1 _ rfl; (with_reducible repeat (first | refine blk_drewN ?_ _ | refine blk_drew ?_ | refine blk_alloc ?_ _)); refine blk_put (cs := #[.int .i64 0, .string (⟨#[]⟩ : ByteArray), .string (⟨#[]⟩ : ByteArray), .string (⟨#[]⟩ : ByteArray), .slice none 0 0, .slice none 0 0, .slice none 0 0]) ?_ 0 _ rfl; (with_reducible repeat (first | refine blk_drewN ?_ _ | refine blk_drew ?_ | refine blk_alloc ?_ _)); exact BK299.out) hb); replace HB := Aside0.mk (below_step (belS HB GE299) hb); (try clear hb); (try clear ho0); obtain ⟨Ao13, co13, eo13⟩ := Kd.R_slice HO302.out; subst eo13; have hcz14_0 : w12.cell? ⟨gb299, 0, none⟩ = some (.int .i64 ((rd_T54 l0 x4_1).f0)) := (blk_cell BK299.out 0).trans rfl; have hcz14_1 : w12.cell? ⟨gb299, 1, none⟩ = some (.string ((rd_T54 l0 x4_1).f1)) := (blk_cell BK299.out 1).trans rfl; have hcz14_2 : w12.cell? ⟨gb299, 2, none⟩ = some (.string ((rd_T54 l0 x4_1).f2)) := (blk_cell BK299.out 2).trans rfl; have hcz14_3 : w12.cell? ⟨gb299, 3, none⟩ = some (.string ((rd_T54 l0 x4_1).f3)) := (blk_cell BK299.out 3).trans rfl; have hcz14_4 : w12.cell? ⟨gb299, 4, none⟩ = some (.slice A298_4 ((rd_T54 l0 x4_1).f4).length c298_4) := (blk_cell BK299.out 4).trans rfl; have hcz14_5 : w12.cell? ⟨gb299, 5, none⟩ = some (.slice A298_5 ((rd_T54 l0 x4_1).f5).length c298_5) := (blk_cell BK299.out 5).trans rfl; have hcz14_6 : w12.cell? ⟨gb299, 6, none⟩ = some (.slice A298_6 ((rd_T54 l0 x4_1).f6).length c298_6) := (blk_cell BK299.out 6).trans rfl; have hfz14_0 := blk_frozen BK299.out 0; have hfz14_1 := blk_frozen BK299.out 1; have hfz14_2 := blk_frozen BK299.out 2; have hfz14_3 := blk_frozen BK299.out 3; have hfz14_4 := blk_frozen BK299.out 4; have hfz14_5 := blk_frozen BK299.out 5; have hfz14_6 := blk_frozen BK299.out 6) | ((with_reducible refine gate_callee (f := 74) rfl ?_); refine goesL_ (some 23) rfl rfl Try.func74 (by kernel_rfl) rfl #[.slice A298_5 ((rd_T54 l0 x4_1).f5).length c298_5] rfl mapA ?_; (with_reducible refine (spec_l10Dirs.calls k1 _ _ ((rd_T54 l0 x4_1).f5) t303 _ ?side1 ?side2 A7.out).mono ?_); (case side1 => exact Kd.C_below HR298_5.out (belS HB GE299)); (case side2 => exact HC298_5.out); rintro e w15 ⟨v304, rfl, ho0, hb⟩; refine ⟨_, rfl, ?_⟩; have HO305 := Aside0.mk (Kd.R_lower (Kd.R_new' ho0 (Kd.R_lt (by (with_reducible repeat (first | apply Kd.R_alloc | apply Kd.R_drewN | apply Kd.R_drew)); exact (Kd.R_mono (Kd.R_far (p := ⟨gb299, 4, none⟩) (Kd.R_types HO302.out BK299.out (by decide)) (fun _ hk => hk.2) (.slice Ao13 t300.length co13)) (fun _ h_ => h_.1))))) (below_size (belS HB GE299))); replace HO_3 := Aside0.mk (Kd.R_elder' (by (with_reducible repeat (first | apply Kd.R_alloc | apply Kd.R_drewN | apply Kd.R_drew)); exact (Kd.R_mono (Kd.R_far (p := ⟨gb299, 4, none⟩) (Kd.R_mono HO_3.out (fun k_ hk => (⟨hk, hk.1.2⟩ : _ ∧ k_ ≠ gb299))) (fun _ hk => hk.2) (.slice Ao13 t300.length co13)) (fun _ h_ => h_.1))) (Kd.R_base ho0) hb); replace HO302 := Aside0.mk (Kd.R_below (by (with_reducible repeat (first | apply Kd.R_alloc | apply Kd.R_drewN | apply Kd.R_drew)); exact (Kd.R_mono (Kd.R_far (p := ⟨gb299, 4, none⟩) (Kd.R_types HO302.out BK299.out (by decide)) (fun _ hk => hk.2) (.slice Ao13 t300.length co13)) (fun _ h_ => h_.1))) hb); replace BK299 := Aside0.mk (blk_below (g := gb299) (o := .cells #[.int .i64 ((rd_T54 l0 x4_1).f0), .string ((rd_T54 l0 x4_1).f1), .string ((rd_T54 l0 x4_1).f2), .string ((rd_T54 l0 x4_1).f3), .slice Ao13 t300.length co13, .slice A298_5 ((rd_T54 l0 x4_1).f5).length c298_5, .slice A298_6 ((rd_T54 l0 x4_1).f6).length c298_6] 54 (0, 0)) (by (with_reducible repeat (first | refine blk_drewN ?_ _ | refine blk_drew ?_ | refine blk_alloc ?_ _)); refine blk_put (cs := #[.int .i64 ((rd_T54 l0 x4_1).f0), .string ((rd_T54 l0 x4_1).f1), .string ((rd_T54 l0 x4_1).f2), .string ((rd_T54 l0 x4_1).f3), .slice A298_4 ((rd_T54 l0 x4_1).f4).length c298_4, .slice A298_5 ((rd_T54 l0 x4_1).f5).length c298_5, .slice A298_6 ((rd_T54 l0 x4_1).f6).length c298_6]) ?_ 4 _ rfl; (with_reducible repeat (first | refine blk_drewN ?_ _ | refine blk_drew ?_ | refine blk_alloc ?_ _)); exact BK299.out) hb); replace HB := Aside0.mk (below_step (belS HB GE299) hb); (try clear hb); (try clear ho0); obtain ⟨Ao16, co16, eo16⟩ := Kd.R_slice HO305.out; subst eo16; have hcz17_0 : w15.cell? ⟨gb299, 0, none⟩ = some (.int .i64 ((rd_T54 l0 x4_1).f0)) := (blk_cell BK299.out 0).trans rfl; have hcz17_1 : w15.cell? ⟨gb299, 1, none⟩ = some (.string ((rd_T54 l0 x4_1).f1)) := (blk_cell BK299.out 1).trans rfl; have hcz17_2 : w15.cell? ⟨gb299, 2, none⟩ = some (.string ((rd_T54 l0 x4_1).f2)) := (blk_cell BK299.out 2).trans rfl; have hcz17_3 : w15.cell? ⟨gb299, 3, none⟩ = some (.string ((rd_T54 l0 x4_1).f3)) := (blk_cell BK299.out 3).trans rfl; have hcz17_4 : w15.cell? ⟨gb299, 4, none⟩ = some (.slice Ao13 t300.length co13) := (blk_cell BK299.out 4).trans rfl; have hcz17_5 : w15.cell? ⟨gb299, 5, none⟩ = some (.slice A298_5 ((rd_T54 l0 x4_1).f5).length c298_5) := (blk_cell BK299.out 5).trans rfl; have hcz17_6 : w15.cell? ⟨gb299, 6, none⟩ = some (.slice A298_6 ((rd_T54 l0 x4_1).f6).length c298_6) := (blk_cell BK299.out 6).trans rfl; have hfz17_0 := blk_frozen BK299.out 0; have hfz17_1 := blk_frozen BK299.out 1; have hfz17_2 := blk_frozen BK299.out 2; have hfz17_3 := blk_frozen BK299.out 3; have hfz17_4 := blk_frozen BK299.out 4; have hfz17_5 := blk_frozen BK299.out 5; have hfz17_6 := blk_frozen BK299.out 6; have p306 : 0 ≤ (x4_1 : Int) := odA; have q306 : x4_1 < (l0.length : Int) := odA; obtain ⟨ad306, A306_4, c306_4, A306_5, c306_5, A306_6, c306_6, e306, hx306_0, hx306_1, hx306_2, hx306_3, hx306_4, hx306_5, hx306_6, hl306_4, hi306_4, hl306_5, hi306_5, hl306_6, hi306_6⟩ := at_T54 HR0.out x4_1 p306 q306; obtain rfl : ad298 = ad306 := (by injection e306); have hn306_0 : ad298.block ≠ gb299 := Nat.ne_of_lt (Nat.lt_of_lt_of_le (by have := World.block_lt_of_cell? _ _ hx306_0; first | rwa [add_block] at this | exact this) GW299.out); replace hx306_0 := (HB.out.cell (World.block_lt_of_cell? w _ hx306_0)).trans hx306_0; replace hx306_1 := (HB.out.cell (World.block_lt_of_cell? w _ hx306_1)).trans hx306_1; replace hx306_2 := (HB.out.cell (World.block_lt_of_cell? w _ hx306_2)).trans hx306_2; replace hx306_3 := (HB.out.cell (World.block_lt_of_cell? w _ hx306_3)).trans hx306_3; replace hx306_4 := (HB.out.cell (World.block_lt_of_cell? w _ hx306_4)).trans hx306_4; replace hx306_5 := (HB.out.cell (World.block_lt_of_cell? w _ hx306_5)).trans hx306_5; replace hx306_6 := (HB.out.cell (World.block_lt_of_cell? w _ hx306_6)).trans hx306_6; have HR306_4 := Aside0.mk hi306_4; have HC306_4 := Aside0.mk hl306_4; clear hi306_4 hl306_4; have HR306_5 := Aside0.mk hi306_5; have HC306_5 := Aside0.mk hl306_5; clear hi306_5 hl306_5; have HR306_6 := Aside0.mk hi306_6; have HC306_6 := Aside0.mk hl306_6; clear hi306_6 hl306_6; replace hx306_0 := (cell_far (p := ⟨gb299, 5, none⟩) (by first | (rw [add_block]; exact hn306_0) | (show (Addr.add _ _).block ≠ _; rw [add_block]; exact hn306_0) | exact hn306_0) (.slice Ao16 t303.length co16)).trans hx306_0; replace hx306_1 := (cell_far (p := ⟨gb299, 5, none⟩) (by first | (rw [add_block]; exact hn306_0) | (show (Addr.add _ _).block ≠ _; rw [add_block]; exact hn306_0) | exact hn306_0) (.slice Ao16 t303.length co16)).trans hx306_1; replace hx306_2 := (cell_far (p := ⟨gb299, 5, none⟩) (by first | (rw [add_block]; exact hn306_0) | (show (Addr.add _ _).block ≠ _; rw [add_block]; exact hn306_0) | exact hn306_0) (.slice Ao16 t303.length co16)).trans hx306_2; replace hx306_3 := (cell_far (p := ⟨gb299, 5, none⟩) (by first | (rw [add_block]; exact hn306_0) | (show (Addr.add _ _).block ≠ _; rw [add_block]; exact hn306_0) | exact hn306_0) (.slice Ao16 t303.length co16)).trans hx306_3; replace hx306_4 := (cell_far (p := ⟨gb299, 5, none⟩) (by first | (rw [add_block]; exact hn306_0) | (show (Addr.add _ _).block ≠ _; rw [add_block]; exact hn306_0) | exact hn306_0) (.slice Ao16 t303.length co16)).trans hx306_4; replace hx306_5 := (cell_far (p := ⟨gb299, 5, none⟩) (by first | (rw [add_block]; exact hn306_0) | (show (Addr.add _ _).block ≠ _; rw [add_block]; exact hn306_0) | exact hn306_0) (.slice Ao16 t303.length co16)).trans hx306_5; replace hx306_6 := (cell_far (p := ⟨gb299, 5, none⟩) (by first | (rw [add_block]; exact hn306_0) | (show (Addr.add _ _).block ≠ _; rw [add_block]; exact hn306_0) | exact hn306_0) (.slice Ao16 t303.length co16)).trans hx306_6; clear hn306_0; replace p306 := eq_true p306; replace q306 := eq_true q306) | ((with_reducible refine gate_callee (f := 61) rfl ?_); refine goesL_ (some 30) rfl rfl Try.func61 (by kernel_rfl) rfl #[.slice A306_6 ((rd_T54 l0 x4_1).f6).length c306_6] rfl mapA ?_; (with_reducible refine (ih k1 (by have := HK1.out; omega) _ _ ((rd_T54 l0 x4_1).f6) t307 _ ?side1 ?side2 A8.out).mono ?_); (case side1 => exact Kd.C_below HR306_6.out (belS HB GE299)); (case side2 => exact HC306_6.out); rintro e w18 ⟨v308, rfl, ho0, hb⟩; refine ⟨_, rfl, ?_⟩; have HO309 := Aside0.mk (Kd.R_lower (Kd.R_newB (Kd.R_new' (Kd.R_new' (Kd.R_new' ho0 (Kd.R_lt (by (with_reducible repeat (first | apply Kd.R_alloc | apply Kd.R_drewN | apply Kd.R_drew)); exact (Kd.R_mono (Kd.R_far (p := ⟨gb299, 5, none⟩) (Kd.R_mono HO_3.out (fun k_ hk => (⟨hk, hk.1.1.2⟩ : _ ∧ k_ ≠ gb299))) (fun _ hk => hk.2) (.slice Ao16 t303.length co16)) (fun _ h_ => h_.1))))) (Kd.R_lt (by (with_reducible repeat (first | apply Kd.R_alloc | apply Kd.R_drewN | apply Kd.R_drew)); exact (Kd.R_mono (Kd.R_far (p := ⟨gb299, 5, none⟩) (Kd.R_types HO302.out BK299.out (by decide)) (fun _ hk => hk.2) (.slice Ao16 t303.length co16)) (fun _ h_ => h_.1))))) (Kd.R_lt (by (with_reducible repeat (first | apply Kd.R_alloc | apply Kd.R_drewN | apply Kd.R_drew)); exact (Kd.R_mono (Kd.R_far (p := ⟨gb299, 5, none⟩) (Kd.R_types HO305.out BK299.out (by decide)) (fun _ hk => hk.2) (.slice Ao16 t303.length co16)) (fun _ h_ => h_.1))))) (g := gb299) (o := .cells #[.int .i64 ((rd_T54 l0 x4_1).f0), .string ((rd_T54 l0 x4_1).f1), .string ((rd_T54 l0 x4_1).f2), .string ((rd_T54 l0 x4_1).f3), .slice Ao13 t300.length co13, .slice Ao16 t303.length co16, .slice A298_6 ((rd_T54 l0 x4_1).f6).length c298_6] 54 (0, 0)) (by (with_reducible repeat (first | refine blk_drewN ?_ _ | refine blk_drew ?_ | refine blk_alloc ?_ _)); refine blk_put (cs := #[.int .i64 ((rd_T54 l0 x4_1).f0), .string ((rd_T54 l0 x4_1).f1), .string ((rd_T54 l0 x4_1).f2), .string ((rd_T54 l0 x4_1).f3), .slice Ao13 t300.length co13, .slice A298_5 ((rd_T54 l0 x4_1).f5).length c298_5, .slice A298_6 ((rd_T54 l0 x4_1).f6).length c298_6]) ?_ 5 _ rfl; (with_reducible repeat (first | refine blk_drewN ?_ _ | refine blk_drew ?_ | refine blk_alloc ?_ _)); exact BK299.out)) (below_size (belS HB GE299))); replace HO_3 := Aside0.mk (Kd.R_elder' (by (with_reducible repeat (first | apply Kd.R_alloc | apply Kd.R_drewN | apply Kd.R_drew)); exact (Kd.R_mono (Kd.R_far (p := ⟨gb299, 5, none⟩) (Kd.R_mono HO_3.out (fun k_ hk => (⟨hk, hk.1.1.2⟩ : _ ∧ k_ ≠ gb299))) (fun _ hk => hk.2) (.slice Ao16 t303.length co16)) (fun _ h_ => h_.1))) (Kd.R_base ho0) hb); replace HO302 := Aside0.mk (Kd.R_below (by (with_reducible repeat (first | apply Kd.R_alloc | apply Kd.R_drewN | apply Kd.R_drew)); exact (Kd.R_mono (Kd.R_far (p := ⟨gb299, 5, none⟩) (Kd.R_types HO302.out BK299.out (by decide)) (fun _ hk => hk.2) (.slice Ao16 t303.length co16)) (fun _ h_ => h_.1))) hb); replace HO305 := Aside0.mk (Kd.R_below (by (with_reducible repeat (first | apply Kd.R_alloc | apply Kd.R_drewN | apply Kd.R_drew)); exact (Kd.R_mono (Kd.R_far (p := ⟨gb299, 5, none⟩) (Kd.R_types HO305.out BK299.out (by decide)) (fun _ hk => hk.2) (.slice Ao16 t303.length co16)) (fun _ h_ => h_.1))) hb); replace BK299 := Aside0.mk (blk_below (g := gb299) (o := .cells #[.int .i64 ((rd_T54 l0 x4_1).f0), .string ((rd_T54 l0 x4_1).f1), .string ((rd_T54 l0 x4_1).f2), .string ((rd_T54 l0 x4_1).f3), .slice Ao13 t300.length co13, .slice Ao16 t303.length co16, .slice A298_6 ((rd_T54 l0 x4_1).f6).length c298_6] 54 (0, 0)) (by (with_reducible repeat (first | refine blk_drewN ?_ _ | refine blk_drew ?_ | refine blk_alloc ?_ _)); refine blk_put (cs := #[.int .i64 ((rd_T54 l0 x4_1).f0), .string ((rd_T54 l0 x4_1).f1), .string ((rd_T54 l0 x4_1).f2), .string ((rd_T54 l0 x4_1).f3), .slice Ao13 t300.length co13, .slice A298_5 ((rd_T54 l0 x4_1).f5).length c298_5, .slice A298_6 ((rd_T54 l0 x4_1).f6).length c298_6]) ?_ 5 _ rfl; (with_reducible repeat (first | refine blk_drewN ?_ _ | refine blk_drew ?_ | refine blk_alloc ?_ _)); exact BK299.out) hb); replace HB := Aside0.mk (below_step (belS HB GE299) hb); (try clear hb); (try clear ho0); obtain ⟨Ao19, co19, eo19⟩ := Kd.R_slice HO309.out; subst eo19; have hcz20_0 : w18.cell? ⟨gb299, 0, none⟩ = some (.int .i64 ((rd_T54 l0 x4_1).f0)) := (blk_cell BK299.out 0).trans rfl; have hcz20_1 : w18.cell? ⟨gb299, 1, none⟩ = some (.string ((rd_T54 l0 x4_1).f1)) := (blk_cell BK299.out 1).trans rfl; have hcz20_2 : w18.cell? ⟨gb299, 2, none⟩ = some (.string ((rd_T54 l0 x4_1).f2)) := (blk_cell BK299.out 2).trans rfl; have hcz20_3 : w18.cell? ⟨gb299, 3, none⟩ = some (.string ((rd_T54 l0 x4_1).f3)) := (blk_cell BK299.out 3).trans rfl; have hcz20_4 : w18.cell? ⟨gb299, 4, none⟩ = some (.slice Ao13 t300.length co13) := (blk_cell BK299.out 4).trans rfl; have hcz20_5 : w18.cell? ⟨gb299, 5, none⟩ = some (.slice Ao16 t303.length co16) := (blk_cell BK299.out 5).trans rfl; have hcz20_6 : w18.cell? ⟨gb299, 6, none⟩ = some (.slice A298_6 ((rd_T54 l0 x4_1).f6).length c298_6) := (blk_cell BK299.out 6).trans rfl; have hfz20_0 := blk_frozen BK299.out 0; have hfz20_1 := blk_frozen BK299.out 1; have hfz20_2 := blk_frozen BK299.out 2; have hfz20_3 := blk_frozen BK299.out 3; have hfz20_4 := blk_frozen BK299.out 4; have hfz20_5 := blk_frozen BK299.out 5; have hfz20_6 := blk_frozen BK299.out 6) | ((with_reducible refine gate_store (t := 52) (p := 31) rfl ?_); refine store_event (t := 52) (p := 31) (v := ?vo_w21) (w1 := (w18.setCell ⟨gb299, 6, none⟩ (.slice Ao19 t307.length co19))) ?hg ?ho ?hn ?hr ?_; (case ho => rfl); (case hg => rfl); (case hn => rfl); (case hr => first | (go_simp; done) | (go_simp; rfl)); intro w21 hw; have n0_ : Aside0 (Kd.R k54 54 w21 w.heap.size (fun k_ => some k_ ≠ (.slice Ao13 t300.length co13 : Value).ownBlock ∧ some k_ ≠ (.slice Ao16 t303.length co16 : Value).ownBlock ∧ some k_ ≠ (.slice Ao19 t307.length co19 : Value).ownBlock ∧ k_ ≠ gb299) u3 x3_1) := ⟨(by rw [hw]; exact (by (with_reducible repeat (first | apply Kd.R_alloc | apply Kd.R_drewN | apply Kd.R_drew)); exact Kd.R_mono (Kd.R_far (p := ⟨gb299, 6, none⟩) (Kd.R_mono HO_3.out (fun k_ hk => (⟨hk, hk.1.1.1.2⟩ : _ ∧ k_ ≠ gb299))) (fun _ hk => hk.2) (.slice Ao19 t307.length co19)) (fun _ hk => ⟨hk.1.1.1.2, ⟨hk.1.1.2, ⟨hk.1.2, hk.1.1.1.1.2⟩⟩⟩)))⟩; have n1_ : Aside0 (Kd.R k78 78 w21 w.heap.size (fun _ => True) (.slice Ao13 t300.length co13) t300) := ⟨(by rw [hw]; exact (by (with_reducible repeat (first | apply Kd.R_alloc | apply Kd.R_drewN | apply Kd.R_drew)); exact Kd.R_mono (Kd.R_far (p := ⟨gb299, 6, none⟩) (Kd.R_types HO302.out BK299.out (by decide)) (fun _ hk => hk.2) (.slice Ao19 t307.length co19)) (fun _ hk => trivial)))⟩; have n2_ : Aside0 (Kd.R k95 95 w21 w.heap.size (fun k_ => some k_ ≠ (.slice Ao13 t300.length co13 : Value).ownBlock) (.slice Ao16 t303.length co16) t303) := ⟨(by rw [hw]; exact (by (with_reducible repeat (first | apply Kd.R_alloc | apply Kd.R_drewN | apply Kd.R_drew)); exact Kd.R_mono (Kd.R_far (p := ⟨gb299, 6, none⟩) (Kd.R_types HO305.out BK299.out (by decide)) (fun _ hk => hk.2) (.slice Ao19 t307.length co19)) (fun _ hk => hk.1.2)))⟩; have n3_ : Aside0 (Kd.R k54 54 w21 w.heap.size (fun k_ => some k_ ≠ (u3 : Value).ownBlock ∧ some k_ ≠ (.slice Ao13 t300.length co13 : Value).ownBlock ∧ some k_ ≠ (.slice Ao16 t303.length co16 : Value).ownBlock ∧ k_ ≠ gb299) (.slice Ao19 t307.length co19) t307) := ⟨(by rw [hw]; exact (by (with_reducible repeat (first | apply Kd.R_alloc | apply Kd.R_drewN | apply Kd.R_drew)); exact Kd.R_mono (Kd.R_far (p := ⟨gb299, 6, none⟩) (Kd.R_mono HO309.out (fun k_ hk => (⟨hk, hk.2⟩ : _ ∧ k_ ≠ gb299))) (fun _ hk => hk.2) (.slice Ao19 t307.length co19)) (fun _ hk => ⟨hk.1.1.1.1.2, ⟨hk.1.1.1.2, ⟨hk.1.1.2, hk.1.2⟩⟩⟩)))⟩; have n4_ : Aside0 (w21.heap[gb299]? = some (.cells #[.int .i64 ((rd_T54 l0 x4_1).f0), .string ((rd_T54 l0 x4_1).f1), .string ((rd_T54 l0 x4_1).f2), .string ((rd_T54 l0 x4_1).f3), .slice Ao13 t300.length co13, .slice Ao16 t303.length co16, .slice Ao19 t307.length co19] 54 (0, 0))) := ⟨(by rw [hw]; exact (by (with_reducible repeat (first | refine blk_drewN ?_ _ | refine blk_drew ?_ | refine blk_alloc ?_ _)); refine blk_put (cs := #[.int .i64 ((rd_T54 l0 x4_1).f0), .string ((rd_T54 l0 x4_1).f1), .string ((rd_T54 l0 x4_1).f2), .string ((rd_T54 l0 x4_1).f3), .slice Ao13 t300.length co13, .slice Ao16 t303.length co16, .slice A298_6 ((rd_T54 l0 x4_1).f6).length c298_6]) ?_ 6 _ rfl; (with_reducible repeat (first | refine blk_drewN ?_ _ | refine blk_drew ?_ | refine blk_alloc ?_ _)); exact BK299.out))⟩; have n5_ : Aside0 (Below w.heap.size w w21) := ⟨(by rw [hw]; exact (belS HB GE299))⟩; clear hw; clear HO_3; clear HO302; clear HO305; clear HO309; clear BK299; clear HB; have HO_3 := n0_; have HO302 := n1_; have HO305 := n2_; have HO309 := n3_; have BK299 := n4_; have HB := n5_; clear n0_ n1_ n2_ n3_ n4_ n5_; have hcz22_0 : w21.cell? ⟨gb299, 0, none⟩ = some (.int .i64 ((rd_T54 l0 x4_1).f0)) := (blk_cell BK299.out 0).trans rfl; have hcz22_1 : w21.cell? ⟨gb299, 1, none⟩ = some (.string ((rd_T54 l0 x4_1).f1)) := (blk_cell BK299.out 1).trans rfl; have hcz22_2 : w21.cell? ⟨gb299, 2, none⟩ = some (.string ((rd_T54 l0 x4_1).f2)) := (blk_cell BK299.out 2).trans rfl; have hcz22_3 : w21.cell? ⟨gb299, 3, none⟩ = some (.string ((rd_T54 l0 x4_1).f3)) := (blk_cell BK299.out 3).trans rfl; have hcz22_4 : w21.cell? ⟨gb299, 4, none⟩ = some (.slice Ao13 t300.length co13) := (blk_cell BK299.out 4).trans rfl; have hcz22_5 : w21.cell? ⟨gb299, 5, none⟩ = some (.slice Ao16 t303.length co16) := (blk_cell BK299.out 5).trans rfl; have hcz22_6 : w21.cell? ⟨gb299, 6, none⟩ = some (.slice Ao19 t307.length co19) := (blk_cell BK299.out 6).trans rfl; have hfz22_0 := blk_frozen BK299.out 0; have hfz22_1 := blk_frozen BK299.out 1; have hfz22_2 := blk_frozen BK299.out 2; have hfz22_3 := blk_frozen BK299.out 3; have hfz22_4 := blk_frozen BK299.out 4; have hfz22_5 := blk_frozen BK299.out 5; have hfz22_6 := blk_frozen BK299.out 6) | ((with_reducible refine gate_builtin (b := .append) (xs := #[.tmp 32, .tmp 34]) rfl ?_); at_builtin; refine Kd.R_append k54 (w0 := w) w.heap.size rfl (.tmp 32) (.tmp 34) 52 54 (.agg #[(.int .i64 0), (.string ⟨#[]⟩), (.string ⟨#[]⟩), (.string ⟨#[]⟩), (.slice none 0 0), (.slice none 0 0), (.slice none 0 0)]) 128 rfl Try.underlying52 info54 rfl (by decide) (by omega) u3 x3_1 (⟨(rd_T54 l0 x4_1).f0, (rd_T54 l0 x4_1).f1, (rd_T54 l0 x4_1).f2, (rd_T54 l0 x4_1).f3, t300, t303, t307⟩ : S54) [.int .i64 ((rd_T54 l0 x4_1).f0), .string ((rd_T54 l0 x4_1).f1), .string ((rd_T54 l0 x4_1).f2), .string ((rd_T54 l0 x4_1).f3), .slice Ao13 t300.length co13, .slice Ao16 t303.length co16, .slice Ao19 t307.length co19] (fun k_ => k_ ≠ gb299) (fun k_ => ((fun k_ => k_ ≠ gb299)) k_ ∧ some k_ ≠ (u3 : Value).ownBlock) rfl rfl ?aP (fun _ hk => hk) ?aF ?aO ?aB ?aS ?aL ?_; (case aP => exact k54_mkM _ _ _ (⟨(rd_T54 l0 x4_1).f0, (rd_T54 l0 x4_1).f1, (rd_T54 l0 x4_1).f2, (rd_T54 l0 x4_1).f3, t300, t303, t307⟩ : S54) (Kd.R_mono (Kd.R_types (Kd.R_apart' (HO302.out) (Kd.R_typed HO_3.out) (by decide)) BK299.out (by decide)) (fun k_ hk => ⟨hk.2, hk.1.2⟩)) (Kd.R_mono (Kd.R_types (Kd.R_apart' (HO305.out) (Kd.R_typed HO_3.out) (by decide)) BK299.out (by decide)) (fun k_ hk => ⟨hk.2, hk.1.2⟩)) (Kd.R_mono (HO309.out) (fun k_ hk => ⟨hk.2.2.2, hk.1⟩))); (case aB => exact (belS HB GE299)); (case aF => exact (fun k_ hk => Kd.freshB (g := gb299) (o := .cells #[.int .i64 ((rd_T54 l0 x4_1).f0), .string ((rd_T54 l0 x4_1).f1), .string ((rd_T54 l0 x4_1).f2), .string ((rd_T54 l0 x4_1).f3), .slice Ao13 t300.length co13, .slice Ao16 t303.length co16, .slice Ao19 t307.length co19] 54 (0, 0)) (blkA BK299) k_ hk)); (case aO => exact (by (with_reducible repeat (first | apply Kd.R_alloc | apply Kd.R_drewN | apply Kd.R_drew)); exact Kd.R_mono HO_3.out (fun _ hk => hk.2.2.2))); (case aS => exact (below_size (belS HB GE299))); (case aL => have := LMc9.out; omega); intro v311 w23 ho hb hg hat; rw [← Ny310.out] at ho; have HO312 := Aside0.mk (ho); replace BK299 := Aside0.mk (blk_grown (g := gb299) (o := .cells #[.int .i64 ((rd_T54 l0 x4_1).f0), .string ((rd_T54 l0 x4_1).f1), .string ((rd_T54 l0 x4_1).f2), .string ((rd_T54 l0 x4_1).f3), .slice Ao13 t300.length co13, .slice Ao16 t303.length co16, .slice Ao19 t307.length co19] 54 (0, 0)) (blkA BK299) hg (Kd.R_away HO_3.out (fun _ hk => hk.2.2.2))); replace HB := Aside0.mk (hb); clear HO_3 HO302 HO305 HO309; clear ho hb hg hat))
      go_roundg k1
      case measure => have := HK1.out; omega
      case rel => exact ⟨(y310), (wrap64 (x4_1 + 1)), enA, H', ⟨by have := HK1.out; omega⟩, ⟨by (with_reducible repeat (first | apply Kd.R_alloc | apply Kd.R_drewN | apply Kd.R_drew)); exact Kd.R_mono HO312.out (fun _ hk => trivial)⟩, ⟨belS HB GE299⟩⟩
     ·rw [if_neg c9] at H
      exact absurd H (by simp)
    ·rw [if_neg c5] at H
     exact absurd H (by simp)
   ·rw [if_neg c4] at H; have c4b0 := decide_eq_false c4; clear c4; obtain rfl := Option.some.inj H
    go_wp2
    go_ret
    exact ⟨_, erA, kdB HO_3, belB HB⟩

end Go.Proofs.Ytkcomfmdcmjagaa.OFnExactAllSels
-- narrow
