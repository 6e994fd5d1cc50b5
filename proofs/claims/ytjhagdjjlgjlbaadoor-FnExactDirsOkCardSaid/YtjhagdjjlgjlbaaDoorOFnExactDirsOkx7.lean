/- The machine side of one law, written by a program of this session out of Lean's print of the translation: for each Go function that is reached a plain Lean function and the proof that the call comes to just its answer; each under the condition that the plain function answers 'some'. -/
import Derived.Test.YtjhagdjjlgjlbaaDoorOFnExactDirsOkx0
import Derived.Test.YtjhagdjjlgjlbaaDoorOFnExactDirsOkx2
import Derived.Test.YtjhagdjjlgjlbaaDoorOFnExactDirsOkx6
namespace Go.Proofs.YtjhagdjjlgjlbaaDoor.OFnExactDirsOk
open Go.Proofs.YtjhagdjjlgjlbaaDoor.GlU Go.Proofs.YtjhagdjjlgjlbaaDoor.Ix
open Go.RowKit Go.Proofs.YtjhagdjjlgjlbaaDoorW.PrintWords Go.Proofs.YtjhagdjjlgjlbaaDoorW.PrintLast Go.Proofs.YtjhagdjjlgjlbaaDoorW.PrintMore
attribute [local go_sem] max2_int min2_int max_two min_two max_three min_three max_four min_four   -- for this text's walks alone
set_option linter.unusedVariables false
set_option linter.unusedSimpArgs false

/-! ### spec_l07Right: function 44 -/
mutual
def spec_l07Right.j0 : Nat → Int → Bool → Int → ByteArray → List (S37) → List ByteArray → Option (Bool)
  | 0, _, _, _, _, _, _ => none
  | k + 1, x1, x5, x159000, x159001, x159002, x159003 => if x5 = true then (if x159000 = 8 then (if (x159003.length : Int) = (x159002.length : Int) then (spec_l07Right.j1 k x1 (x1 == 0) x159000 x159001 x159002 x159003) else (spec_l07Right.j1 k x1 true x159000 x159001 x159002 x159003)) else (if (x159003.length : Int) > 0 then (spec_l07Right.j1 k x1 true x159000 x159001 x159002 x159003) else (spec_l07Right.j1 k x1 (x1 == 0) x159000 x159001 x159002 x159003))) else (if (x159002.length : Int) > 0 then (spec_l07Right.j1 k x1 true x159000 x159001 x159002 x159003) else (if x159000 = 8 then (if (x159003.length : Int) = (x159002.length : Int) then (spec_l07Right.j1 k x1 false x159000 x159001 x159002 x159003) else (spec_l07Right.j1 k x1 true x159000 x159001 x159002 x159003)) else (if (x159003.length : Int) > 0 then (spec_l07Right.j1 k x1 true x159000 x159001 x159002 x159003) else (spec_l07Right.j1 k x1 false x159000 x159001 x159002 x159003))))
def spec_l07Right.j1 : Nat → Int → Bool → Int → ByteArray → List (S37) → List ByteArray → Option (Bool)
  | 0, _, _, _, _, _, _ => none
  | k + 1, x1, x57, x159000, x159001, x159002, x159003 => if x57 = true then (some false) else (spec_l07Right.l0 k x1 0 x159000 x159001 x159002 x159003)
def spec_l07Right.l0 : Nat → Int → Int → Int → ByteArray → List (S37) → List ByteArray → Option (Bool)
  | 0, _, _, _, _, _, _ => none
  | k + 1, x1, x6, x159000, x159001, x159002, x159003 => if x6 < (x159002.length : Int) then (if x159000 = 8 then (if 0 ≤ x6 then (if x6 < (x159003.length : Int) then ((spec_NameOk.f k (rdOf ByteArray.empty x159003 x6)).bind fun t161 => (if t161 = true then ((spec_l07Right.f k ((rd_T37 x159002 x6).f0) ((rd_T37 x159002 x6).f1) ((rd_T37 x159002 x6).f2) ((rd_T37 x159002 x6).f3) (wrap64 (x1 - 1))).bind fun t163 => (if t163 = true then (spec_l07Right.l0 k x1 (wrap64 (x6 + 1)) x159000 x159001 x159002 x159003) else (some false))) else (some false))) else (none)) else (none)) else (if 0 ≤ x6 then ((spec_l07Right.f k ((rd_T37 x159002 x6).f0) ((rd_T37 x159002 x6).f1) ((rd_T37 x159002 x6).f2) ((rd_T37 x159002 x6).f3) (wrap64 (x1 - 1))).bind fun t165 => (if t165 = true then (spec_l07Right.l0 k x1 (wrap64 (x6 + 1)) x159000 x159001 x159002 x159003) else (some false))) else (none))) else (some true)
def spec_l07Right.f : Nat → Int → ByteArray → List (S37) → List ByteArray → Int → Option (Bool)
  | 0, _, _, _, _, _ => none
  | k + 1, a0_0, a0_1, l0_2, l0_3, a1 => (spec_l07One.f k a0_0 a0_1 l0_2 l0_3).bind fun t159 => (if t159 = true then (if a0_0 = 7 then (spec_l07Right.j0 k a1 true a0_0 a0_1 l0_2 l0_3) else (spec_l07Right.j0 k a1 (a0_0 == 8) a0_0 a0_1 l0_2 l0_3)) else (some false))
end
theorem spec_l07Right.mono_l : ∀ k, (∀ y0 y1 y2 y3 y4, LeO (spec_l07Right.f k y0 y1 y2 y3 y4) (spec_l07Right.f (k + 1) y0 y1 y2 y3 y4)) ∧ (∀ y0 y1 y2 y3 y4 y5, LeO (spec_l07Right.j0 k y0 y1 y2 y3 y4 y5) (spec_l07Right.j0 (k + 1) y0 y1 y2 y3 y4 y5)) ∧ (∀ y0 y1 y2 y3 y4 y5, LeO (spec_l07Right.j1 k y0 y1 y2 y3 y4 y5) (spec_l07Right.j1 (k + 1) y0 y1 y2 y3 y4 y5)) ∧ (∀ y0 y1 y2 y3 y4 y5, LeO (spec_l07Right.l0 k y0 y1 y2 y3 y4 y5) (spec_l07Right.l0 (k + 1) y0 y1 y2 y3 y4 y5))
  | 0 => ⟨fun _ _ _ _ _ r h => by simp [spec_l07Right.f] at h, fun _ _ _ _ _ _ r h => by simp [spec_l07Right.j0] at h, fun _ _ _ _ _ _ r h => by simp [spec_l07Right.j1] at h, fun _ _ _ _ _ _ r h => by simp [spec_l07Right.l0] at h⟩
  | k + 1 => by
    obtain ⟨ih0, ih1, ih2, ih3⟩ := spec_l07Right.mono_l k
    refine ⟨?_, ?_, ?_, ?_⟩
    · intro y0 y1 y2 y3 y4
      unfold spec_l07Right.f
      repeat' first
      | (with_reducible exact ih0 _ _ _ _ _)
      | (with_reducible exact ih1 _ _ _ _ _ _)
      | (with_reducible exact ih2 _ _ _ _ _ _)
      | (with_reducible exact ih3 _ _ _ _ _ _)
      | (with_reducible exact spec_NameOk.mono _ _)
      | (with_reducible exact spec_l07One.mono _ _ _ _ _)
      | (with_reducible exact LeO.refl _)
      | (with_reducible exact LeO.none _)
      | (with_reducible refine LeO.ite ?_ ?_)
      | (with_reducible refine LeO.bind ?_ (fun _ => ?_))
      | exact ih0 _ _ _ _ _
      | exact ih1 _ _ _ _ _ _
      | exact ih2 _ _ _ _ _ _
      | exact ih3 _ _ _ _ _ _
      | exact spec_NameOk.mono _ _
      | exact spec_l07One.mono _ _ _ _ _
      | exact LeO.none _
      | refine LeO.ite ?_ ?_
      | refine LeO.bind ?_ (fun _ => ?_)
    · intro y0 y1 y2 y3 y4 y5
      unfold spec_l07Right.j0
      repeat' first
      | (with_reducible exact ih0 _ _ _ _ _)
      | (with_reducible exact ih1 _ _ _ _ _ _)
      | (with_reducible exact ih2 _ _ _ _ _ _)
      | (with_reducible exact ih3 _ _ _ _ _ _)
      | (with_reducible exact spec_NameOk.mono _ _)
      | (with_reducible exact spec_l07One.mono _ _ _ _ _)
      | (with_reducible exact LeO.refl _)
      | (with_reducible exact LeO.none _)
      | (with_reducible refine LeO.ite ?_ ?_)
      | (with_reducible refine LeO.bind ?_ (fun _ => ?_))
      | exact ih0 _ _ _ _ _
      | exact ih1 _ _ _ _ _ _
      | exact ih2 _ _ _ _ _ _
      | exact ih3 _ _ _ _ _ _
      | exact spec_NameOk.mono _ _
      | exact spec_l07One.mono _ _ _ _ _
      | exact LeO.none _
      | refine LeO.ite ?_ ?_
      | refine LeO.bind ?_ (fun _ => ?_)
    · intro y0 y1 y2 y3 y4 y5
      unfold spec_l07Right.j1
      repeat' first
      | (with_reducible exact ih0 _ _ _ _ _)
      | (with_reducible exact ih1 _ _ _ _ _ _)
      | (with_reducible exact ih2 _ _ _ _ _ _)
      | (with_reducible exact ih3 _ _ _ _ _ _)
      | (with_reducible exact spec_NameOk.mono _ _)
      | (with_reducible exact spec_l07One.mono _ _ _ _ _)
      | (with_reducible exact LeO.refl _)
      | (with_reducible exact LeO.none _)
      | (with_reducible refine LeO.ite ?_ ?_)
      | (with_reducible refine LeO.bind ?_ (fun _ => ?_))
      | exact ih0 _ _ _ _ _
      | exact ih1 _ _ _ _ _ _
      | exact ih2 _ _ _ _ _ _
      | exact ih3 _ _ _ _ _ _
      | exact spec_NameOk.mono _ _
      | exact spec_l07One.mono _ _ _ _ _
      | exact LeO.none _
      | refine LeO.ite ?_ ?_
      | refine LeO.bind ?_ (fun _ => ?_)
    · intro y0 y1 y2 y3 y4 y5
      unfold spec_l07Right.l0
      repeat' first
      | (with_reducible exact ih0 _ _ _ _ _)
      | (with_reducible exact ih1 _ _ _ _ _ _)
      | (with_reducible exact ih2 _ _ _ _ _ _)
      | (with_reducible exact ih3 _ _ _ _ _ _)
      | (with_reducible exact spec_NameOk.mono _ _)
      | (with_reducible exact spec_l07One.mono _ _ _ _ _)
      | (with_reducible exact LeO.refl _)
      | (with_reducible exact LeO.none _)
      | (with_reducible refine LeO.ite ?_ ?_)
      | (with_reducible refine LeO.bind ?_ (fun _ => ?_))
      | exact ih0 _ _ _ _ _
      | exact ih1 _ _ _ _ _ _
      | exact ih2 _ _ _ _ _ _
      | exact ih3 _ _ _ _ _ _
      | exact spec_NameOk.mono _ _
      | exact spec_l07One.mono _ _ _ _ _
      | exact LeO.none _
      | refine LeO.ite ?_ ?_
      | refine LeO.bind ?_ (fun _ => ?_)
theorem spec_l07Right.mono : ∀ a0 a1 a2 a3 a4 k, LeO (spec_l07Right.f k a0 a1 a2 a3 a4) (spec_l07Right.f (k + 1) a0 a1 a2 a3 a4) := by
  intro a0 a1 a2 a3 a4 k
  obtain ⟨ih0, ih1, ih2, ih3⟩ := spec_l07Right.mono_l k
  exact ih0 a0 a1 a2 a3 a4
set_option maxHeartbeats 8000000 in
set_option maxRecDepth 100000 in
theorem spec_l07Right.calls (k : Nat) : ∀ (a0_0 : Int) (a0_1 : ByteArray) (A0_2 : Option Addr) (c0_2 : Nat) (l0_2 : List (S37)) (A0_3 : Option Addr) (c0_3 : Nat) (l0_3 : List ByteArray) (a1 : Int) (r : Bool) (w : World) (hr0_2 : Kd.C k37 w A0_2 l0_2.length l0_2) (hc0_2 : l0_2.length ≤ c0_2) (hr0_3 : Kd.C Kd.string w A0_3 l0_3.length l0_3) (hc0_3 : l0_3.length ≤ c0_3) (h : spec_l07Right.f k a0_0 a0_1 l0_2 l0_3 a1 = some r),
    Calls Tryd.prog 44 #[.agg #[.int .i64 a0_0, .string a0_1, .slice A0_2 l0_2.length c0_2, .slice A0_3 l0_3.length c0_3], .int .i64 a1] w fun e w' => e = .returned (.bool r) ∧ Below w.heap.size w w' := by
  induction k using Nat.strongRecOn with
  | _ k ih =>
  intro a0_0 a0_1 A0_2 c0_2 l0_2 A0_3 c0_3 l0_3 a1 r w hr0_2 hc0_2 hr0_3 hc0_3 h
  cases k with
  | zero => exact absurd h (by simp [spec_l07Right.f])
  | succ k =>
  simp only [spec_l07Right.f] at h
  have hu37 := Tryd.underlying37
  have HR0_2 := Aside0.mk hr0_2
  have HC0_2 := Aside0.mk hc0_2
  clear hr0_2 hc0_2
  have HR0_3 := Aside0.mk hr0_3
  have HC0_3 := Aside0.mk hc0_3
  clear hr0_3 hc0_3
  have HB := Aside0.mk (Below.refl w.heap.size w)
  have H : ((spec_l07One.f k a0_0 a0_1 l0_2 l0_3).bind fun t159 => (if t159 = true then (if a0_0 = 7 then (spec_l07Right.j0 k a1 true a0_0 a0_1 l0_2 l0_3) else (spec_l07Right.j0 k a1 (a0_0 == 8) a0_0 a0_1 l0_2 l0_3)) else (some false))) = some r := h
  clear h
  replace H := Option.bind_eq_some_iff.mp H
  obtain ⟨t159, A30, H⟩ := H
  replace H : (if t159 = true then (if a0_0 = 7 then (spec_l07Right.j0 k a1 true a0_0 a0_1 l0_2 l0_3) else (spec_l07Right.j0 k a1 (a0_0 == 8) a0_0 a0_1 l0_2 l0_3)) else (some false)) = some r := H
  have A3 := Aside0.mk A30
  clear A30
  by_cases c4 : t159 = true
  · subst c4
    have H1 : (if a0_0 = 7 then (spec_l07Right.j0 k a1 true a0_0 a0_1 l0_2 l0_3) else (spec_l07Right.j0 k a1 (a0_0 == 8) a0_0 a0_1 l0_2 l0_3)) = some r := by rw [if_pos rfl] at H; exact H
    clear H
    have H := H1
    clear H1
    have HC5 := Aside0.mk H
    clear H
    go_enter Tryd.func44, Tryd.ntmps44
    go_upto_region 3 with (first | ((with_reducible refine gate_dst (N := 2) rfl ?_); (try (refine gate_guard (by rfl) ?_; dsimp only)); refine box_event ?hg (N := 2) ?hd (cs := #[.int .i64 a0_0, .string a0_1, .slice A0_2 l0_2.length c0_2, .slice A0_3 l0_3.length c0_3]) (t := 37) ?hr ?_; (case hd => rfl); (case hg => rfl); (case hr => first | (go_simp; done) | (go_simp; rfl)); intro gb158 hg w6 hbox hb; have n0_ := Aside0.mk (below_step (belB HB) hb); have n1_ := Aside0.mk (hbox); have n2_ := Aside0.mk ((by rw [hg]; exact (below_size (belB HB)) : w.heap.size ≤ gb158)); have n3_ := Aside0.mk ((by rw [hg]; exact (below_size (belB HB)) : w.heap.size ≤ gb158)); clear HB; have HB := n0_; have BK158 := n1_; have GW158 := n2_; have GE158 := n3_; clear n0_ n1_ n2_ n3_; clear hb hbox hg; have hcz7_0 : w6.cell? ⟨gb158, 0, none⟩ = some (.int .i64 a0_0) := (blk_cell BK158.out 0).trans rfl; have hcz7_1 : w6.cell? ⟨gb158, 1, none⟩ = some (.string a0_1) := (blk_cell BK158.out 1).trans rfl; have hcz7_2 : w6.cell? ⟨gb158, 2, none⟩ = some (.slice A0_2 l0_2.length c0_2) := (blk_cell BK158.out 2).trans rfl; have hcz7_3 : w6.cell? ⟨gb158, 3, none⟩ = some (.slice A0_3 l0_3.length c0_3) := (blk_cell BK158.out 3).trans rfl; have hfz7_0 := blk_frozen BK158.out 0; have hfz7_1 := blk_frozen BK158.out 1; have hfz7_2 := blk_frozen BK158.out 2; have hfz7_3 := blk_frozen BK158.out 3) | ((with_reducible refine gate_callee (f := 80) rfl ?_); refine goesL_ (some 8) rfl rfl Tryd.func80 (by kernel_rfl) rfl #[.agg #[.int .i64 a0_0, .string a0_1, .slice A0_2 l0_2.length c0_2, .slice A0_3 l0_3.length c0_3]] rfl mapA ?_; (with_reducible refine (spec_l07One.calls k a0_0 a0_1 _ _ l0_2 _ _ l0_3 true _ ?side1 ?side2 ?side3 ?side4 A3.out).mono ?_); (case side1 => exact cbA HR0_2 HB); (case side2 => exact HC0_2.out); (case side3 => exact cbA HR0_3 HB); (case side4 => exact HC0_3.out); rintro e w8 ⟨rfl, hb⟩; refine ⟨_, rfl, ?_⟩; have n0_ := Aside0.mk (blk_below (g := gb158) (o := .cells #[.int .i64 a0_0, .string a0_1, .slice A0_2 l0_2.length c0_2, .slice A0_3 l0_3.length c0_3] 37 (0, 0)) (blkA BK158) hb); have n1_ := Aside0.mk (below_step (belS HB GE158) hb); clear BK158; clear HB; have BK158 := n0_; have HB := n1_; clear n0_ n1_; (try clear hb)))
    (try simp only [Act.put, List.setIfInBounds_toArray, List.set_cons_zero, List.set_cons_succ])
    go_cut [5] (fun v5 wc => ∃ (kq : Nat) (x5_4 : Bool), v5 = .bool x5_4 ∧ Aside0 (spec_l07Right.j0 kq a1 x5_4 a0_0 a0_1 l0_2 l0_3 = some r) ∧ Aside0 (kq ≤ k) ∧ Aside0 (wc.heap[gb158]? = some (.cells #[.int .i64 a0_0, .string a0_1, (.slice A0_2 l0_2.length c0_2), (.slice A0_3 l0_3.length c0_3)] 37 (0, 0))) ∧ Aside0 (Below w.heap.size w wc))
    case first =>
      have H := HC5.out
      clear HC5
      by_cases c9 : a0_0 = 7
      · rw [if_pos c9] at H
        have c9b0 : (a0_0 == 7) = true := beq_iff_eq.mpr c9
        have c9b1 : (a0_0 != 7) = false := bne_eq_false_iff_eq.mpr c9
        clear c9
        (first | rw [c9b0] | (simp only [i64_w, i32_w]; rw [c9b0]) | skip)
        have H' := Aside0.mk H
        clear H
        have hcz10_0 : w8.cell? ⟨gb158, 0, none⟩ = some (.int .i64 a0_0) := (blk_cell BK158.out 0).trans rfl
        have hcz10_1 : w8.cell? ⟨gb158, 1, none⟩ = some (.string a0_1) := (blk_cell BK158.out 1).trans rfl
        have hcz10_2 : w8.cell? ⟨gb158, 2, none⟩ = some (.slice A0_2 l0_2.length c0_2) := (blk_cell BK158.out 2).trans rfl
        have hcz10_3 : w8.cell? ⟨gb158, 3, none⟩ = some (.slice A0_3 l0_3.length c0_3) := (blk_cell BK158.out 3).trans rfl
        have hfz10_0 := blk_frozen BK158.out 0
        have hfz10_1 := blk_frozen BK158.out 1
        have hfz10_2 := blk_frozen BK158.out 2
        have hfz10_3 := blk_frozen BK158.out 3
        go_wp2
        go_meet
        case rel => exact ⟨_, (true), enA, H', ⟨by first | omega | exact Nat.le_refl _⟩, ⟨by (with_reducible repeat (first | refine blk_drewN ?_ _ | refine blk_drew ?_ | refine blk_alloc ?_ _)); exact BK158.out⟩, ⟨belS HB GE158⟩⟩
      · rw [if_neg c9] at H
        have c9b0 : (a0_0 == 7) = false := beq_eq_false_iff_ne.mpr c9
        have c9b1 : (a0_0 != 7) = true := bne_iff_ne.mpr c9
        (first | rw [c9b0] | (simp only [i64_w, i32_w]; rw [c9b0]) | skip)
        have H' := Aside0.mk H
        clear H
        have hcz11_0 : w8.cell? ⟨gb158, 0, none⟩ = some (.int .i64 a0_0) := (blk_cell BK158.out 0).trans rfl
        have hcz11_1 : w8.cell? ⟨gb158, 1, none⟩ = some (.string a0_1) := (blk_cell BK158.out 1).trans rfl
        have hcz11_2 : w8.cell? ⟨gb158, 2, none⟩ = some (.slice A0_2 l0_2.length c0_2) := (blk_cell BK158.out 2).trans rfl
        have hcz11_3 : w8.cell? ⟨gb158, 3, none⟩ = some (.slice A0_3 l0_3.length c0_3) := (blk_cell BK158.out 3).trans rfl
        have hfz11_0 := blk_frozen BK158.out 0
        have hfz11_1 := blk_frozen BK158.out 1
        have hfz11_2 := blk_frozen BK158.out 2
        have hfz11_3 := blk_frozen BK158.out 3
        go_wp2
        go_meet
        case rel => exact ⟨_, ((a0_0 == 8)), enA, H', ⟨by first | omega | exact Nat.le_refl _⟩, ⟨by (with_reducible repeat (first | refine blk_drewN ?_ _ | refine blk_drew ?_ | refine blk_alloc ?_ _)); exact BK158.out⟩, ⟨belS HB GE158⟩⟩
    case rest =>
      clear HC5
      try clear p2
      try clear c4
      try clear c8
      try clear c9
      try clear c9b0
      try clear c9b1
      try clear hcz10_0
      try clear hcz10_1
      try clear hcz10_2
      try clear hcz10_3
      try clear hcz11_0
      try clear hcz11_1
      try clear hcz11_2
      try clear hcz11_3
      try clear hcz7_0
      try clear hcz7_1
      try clear hcz7_2
      try clear hcz7_3
      try clear hfz10_0
      try clear hfz10_1
      try clear hfz10_2
      try clear hfz10_3
      try clear hfz11_0
      try clear hfz11_1
      try clear hfz11_2
      try clear hfz11_3
      try clear hfz7_0
      try clear hfz7_1
      try clear hfz7_2
      try clear hfz7_3
      obtain ⟨kq, x5_4, rfl, HA, HJ4, BK158, HB⟩ := hcut
      cases kq with
      | zero => exact absurd HA.out (by simp [spec_l07Right.j0])
      | succ kj4 =>
        have H := HA.out
        clear HA
        simp only [spec_l07Right.j0] at H
        have HC12 := Aside0.mk H
        clear H
        go_upto_region 4 with (fail)
        go_cut [57] (fun v57 wc => ∃ (kq : Nat) (x57_11 : Bool), v57 = .bool x57_11 ∧ Aside0 (spec_l07Right.j1 kq a1 x57_11 a0_0 a0_1 l0_2 l0_3 = some r) ∧ Aside0 (kq ≤ kj4) ∧ Aside0 (wc.heap[gb158]? = some (.cells #[.int .i64 a0_0, .string a0_1, (.slice A0_2 l0_2.length c0_2), (.slice A0_3 l0_3.length c0_3)] 37 (0, 0))) ∧ Aside0 (Below w.heap.size w wc))
        case first =>
          have H := HC12.out
          clear HC12
          by_cases c13 : x5_4 = true
          · subst c13
            have H1 : (if a0_0 = 8 then (if (l0_3.length : Int) = (l0_2.length : Int) then (spec_l07Right.j1 kj4 a1 (a1 == 0) a0_0 a0_1 l0_2 l0_3) else (spec_l07Right.j1 kj4 a1 true a0_0 a0_1 l0_2 l0_3)) else (if (l0_3.length : Int) > 0 then (spec_l07Right.j1 kj4 a1 true a0_0 a0_1 l0_2 l0_3) else (spec_l07Right.j1 kj4 a1 (a1 == 0) a0_0 a0_1 l0_2 l0_3))) = some r := by rw [if_pos rfl] at H; exact H
            clear H
            have H := H1
            clear H1
            by_cases c14 : a0_0 = 8
            · rw [if_pos c14] at H
              have c14b0 : (a0_0 == 8) = true := beq_iff_eq.mpr c14
              have c14b1 : (a0_0 != 8) = false := bne_eq_false_iff_eq.mpr c14
              clear c14
              (first | rw [c14b0] | (simp only [i64_w, i32_w]; rw [c14b0]) | skip)
              by_cases c15 : (l0_3.length : Int) = (l0_2.length : Int)
              · rw [if_pos c15] at H
                have c15b0 : ((l0_3.length : Int) == (l0_2.length : Int)) = true := beq_iff_eq.mpr c15
                have c15b1 : ((l0_3.length : Int) != (l0_2.length : Int)) = false := bne_eq_false_iff_eq.mpr c15
                have c15b2 : (l0_3.length == l0_2.length) = true := by first | simpa using c15 | (simp at c15 ⊢; omega)
                clear c15
                have H' := Aside0.mk H
                clear H
                have hcz16_0 : wc.cell? ⟨gb158, 0, none⟩ = some (.int .i64 a0_0) := (blk_cell BK158.out 0).trans rfl
                have hcz16_1 : wc.cell? ⟨gb158, 1, none⟩ = some (.string a0_1) := (blk_cell BK158.out 1).trans rfl
                have hcz16_2 : wc.cell? ⟨gb158, 2, none⟩ = some (.slice A0_2 l0_2.length c0_2) := (blk_cell BK158.out 2).trans rfl
                have hcz16_3 : wc.cell? ⟨gb158, 3, none⟩ = some (.slice A0_3 l0_3.length c0_3) := (blk_cell BK158.out 3).trans rfl
                have hfz16_0 := blk_frozen BK158.out 0
                have hfz16_1 := blk_frozen BK158.out 1
                have hfz16_2 := blk_frozen BK158.out 2
                have hfz16_3 := blk_frozen BK158.out 3
                go_wp2
                go_meet
                case rel => exact ⟨_, ((a1 == 0)), enA, H', ⟨by have := HJ4.out; first | omega | exact Nat.le_refl _⟩, ⟨by (with_reducible repeat (first | refine blk_drewN ?_ _ | refine blk_drew ?_ | refine blk_alloc ?_ _)); exact BK158.out⟩, ⟨belS HB GE158⟩⟩
              · rw [if_neg c15] at H
                have c15b0 : ((l0_3.length : Int) == (l0_2.length : Int)) = false := beq_eq_false_iff_ne.mpr c15
                have c15b1 : ((l0_3.length : Int) != (l0_2.length : Int)) = true := bne_iff_ne.mpr c15
                have c15b2 : (l0_3.length == l0_2.length) = false := by first | simpa using c15 | (simp at c15 ⊢; omega)
                have H' := Aside0.mk H
                clear H
                have hcz17_0 : wc.cell? ⟨gb158, 0, none⟩ = some (.int .i64 a0_0) := (blk_cell BK158.out 0).trans rfl
                have hcz17_1 : wc.cell? ⟨gb158, 1, none⟩ = some (.string a0_1) := (blk_cell BK158.out 1).trans rfl
                have hcz17_2 : wc.cell? ⟨gb158, 2, none⟩ = some (.slice A0_2 l0_2.length c0_2) := (blk_cell BK158.out 2).trans rfl
                have hcz17_3 : wc.cell? ⟨gb158, 3, none⟩ = some (.slice A0_3 l0_3.length c0_3) := (blk_cell BK158.out 3).trans rfl
                have hfz17_0 := blk_frozen BK158.out 0
                have hfz17_1 := blk_frozen BK158.out 1
                have hfz17_2 := blk_frozen BK158.out 2
                have hfz17_3 := blk_frozen BK158.out 3
                go_wp2
                go_meet
                case rel => exact ⟨_, (true), enA, H', ⟨by have := HJ4.out; first | omega | exact Nat.le_refl _⟩, ⟨by (with_reducible repeat (first | refine blk_drewN ?_ _ | refine blk_drew ?_ | refine blk_alloc ?_ _)); exact BK158.out⟩, ⟨belS HB GE158⟩⟩
            · rw [if_neg c14] at H
              have c14b0 : (a0_0 == 8) = false := beq_eq_false_iff_ne.mpr c14
              have c14b1 : (a0_0 != 8) = true := bne_iff_ne.mpr c14
              (first | rw [c14b0] | (simp only [i64_w, i32_w]; rw [c14b0]) | skip)
              by_cases c18 : (l0_3.length : Int) > 0
              · rw [if_pos c18] at H
                have c18b0 : decide (0 < (l0_3.length : Int)) = true := decide_eq_true c18
                have c18b1 : decide (0 < l0_3.length) = true := decide_eq_true (by omega)
                clear c18
                have H' := Aside0.mk H
                clear H
                have hcz19_0 : wc.cell? ⟨gb158, 0, none⟩ = some (.int .i64 a0_0) := (blk_cell BK158.out 0).trans rfl
                have hcz19_1 : wc.cell? ⟨gb158, 1, none⟩ = some (.string a0_1) := (blk_cell BK158.out 1).trans rfl
                have hcz19_2 : wc.cell? ⟨gb158, 2, none⟩ = some (.slice A0_2 l0_2.length c0_2) := (blk_cell BK158.out 2).trans rfl
                have hcz19_3 : wc.cell? ⟨gb158, 3, none⟩ = some (.slice A0_3 l0_3.length c0_3) := (blk_cell BK158.out 3).trans rfl
                have hfz19_0 := blk_frozen BK158.out 0
                have hfz19_1 := blk_frozen BK158.out 1
                have hfz19_2 := blk_frozen BK158.out 2
                have hfz19_3 := blk_frozen BK158.out 3
                go_wp2
                go_meet
                case rel => exact ⟨_, (true), enA, H', ⟨by have := HJ4.out; first | omega | exact Nat.le_refl _⟩, ⟨by (with_reducible repeat (first | refine blk_drewN ?_ _ | refine blk_drew ?_ | refine blk_alloc ?_ _)); exact BK158.out⟩, ⟨belS HB GE158⟩⟩
              · rw [if_neg c18] at H
                have c18b0 : decide (0 < (l0_3.length : Int)) = false := decide_eq_false c18
                have c18b1 : decide (0 < l0_3.length) = false := decide_eq_false (by omega)
                clear c18
                have H' := Aside0.mk H
                clear H
                have hcz20_0 : wc.cell? ⟨gb158, 0, none⟩ = some (.int .i64 a0_0) := (blk_cell BK158.out 0).trans rfl
                have hcz20_1 : wc.cell? ⟨gb158, 1, none⟩ = some (.string a0_1) := (blk_cell BK158.out 1).trans rfl
                have hcz20_2 : wc.cell? ⟨gb158, 2, none⟩ = some (.slice A0_2 l0_2.length c0_2) := (blk_cell BK158.out 2).trans rfl
                have hcz20_3 : wc.cell? ⟨gb158, 3, none⟩ = some (.slice A0_3 l0_3.length c0_3) := (blk_cell BK158.out 3).trans rfl
                have hfz20_0 := blk_frozen BK158.out 0
                have hfz20_1 := blk_frozen BK158.out 1
                have hfz20_2 := blk_frozen BK158.out 2
                have hfz20_3 := blk_frozen BK158.out 3
                go_wp2
                go_meet
                case rel => exact ⟨_, ((a1 == 0)), enA, H', ⟨by have := HJ4.out; first | omega | exact Nat.le_refl _⟩, ⟨by (with_reducible repeat (first | refine blk_drewN ?_ _ | refine blk_drew ?_ | refine blk_alloc ?_ _)); exact BK158.out⟩, ⟨belS HB GE158⟩⟩
          · replace c13 := Bool.eq_false_iff.mpr c13
            subst c13
            have H1 : (if (l0_2.length : Int) > 0 then (spec_l07Right.j1 kj4 a1 true a0_0 a0_1 l0_2 l0_3) else (if a0_0 = 8 then (if (l0_3.length : Int) = (l0_2.length : Int) then (spec_l07Right.j1 kj4 a1 false a0_0 a0_1 l0_2 l0_3) else (spec_l07Right.j1 kj4 a1 true a0_0 a0_1 l0_2 l0_3)) else (if (l0_3.length : Int) > 0 then (spec_l07Right.j1 kj4 a1 true a0_0 a0_1 l0_2 l0_3) else (spec_l07Right.j1 kj4 a1 false a0_0 a0_1 l0_2 l0_3)))) = some r := by rw [if_neg (show ¬ (false = true) by decide)] at H; exact H
            clear H
            have H := H1
            clear H1
            by_cases c21 : (l0_2.length : Int) > 0
            · rw [if_pos c21] at H
              have c21b0 : decide (0 < (l0_2.length : Int)) = true := decide_eq_true c21
              have c21b1 : decide (0 < l0_2.length) = true := decide_eq_true (by omega)
              clear c21
              have H' := Aside0.mk H
              clear H
              have hcz22_0 : wc.cell? ⟨gb158, 0, none⟩ = some (.int .i64 a0_0) := (blk_cell BK158.out 0).trans rfl
              have hcz22_1 : wc.cell? ⟨gb158, 1, none⟩ = some (.string a0_1) := (blk_cell BK158.out 1).trans rfl
              have hcz22_2 : wc.cell? ⟨gb158, 2, none⟩ = some (.slice A0_2 l0_2.length c0_2) := (blk_cell BK158.out 2).trans rfl
              have hcz22_3 : wc.cell? ⟨gb158, 3, none⟩ = some (.slice A0_3 l0_3.length c0_3) := (blk_cell BK158.out 3).trans rfl
              have hfz22_0 := blk_frozen BK158.out 0
              have hfz22_1 := blk_frozen BK158.out 1
              have hfz22_2 := blk_frozen BK158.out 2
              have hfz22_3 := blk_frozen BK158.out 3
              go_wp2
              go_meet
              case rel => exact ⟨_, (true), enA, H', ⟨by have := HJ4.out; first | omega | exact Nat.le_refl _⟩, ⟨by (with_reducible repeat (first | refine blk_drewN ?_ _ | refine blk_drew ?_ | refine blk_alloc ?_ _)); exact BK158.out⟩, ⟨belS HB GE158⟩⟩
            · rw [if_neg c21] at H
              have c21b0 : decide (0 < (l0_2.length : Int)) = false := decide_eq_false c21
              have c21b1 : decide (0 < l0_2.length) = false := decide_eq_false (by omega)
              clear c21
              by_cases c23 : a0_0 = 8
              · rw [if_pos c23] at H
                have c23b0 : (a0_0 == 8) = true := beq_iff_eq.mpr c23
                have c23b1 : (a0_0 != 8) = false := bne_eq_false_iff_eq.mpr c23
                clear c23
                by_cases c24 : (l0_3.length : Int) = (l0_2.length : Int)
                · rw [if_pos c24] at H
                  have c24b0 : ((l0_3.length : Int) == (l0_2.length : Int)) = true := beq_iff_eq.mpr c24
                  have c24b1 : ((l0_3.length : Int) != (l0_2.length : Int)) = false := bne_eq_false_iff_eq.mpr c24
                  have c24b2 : (l0_3.length == l0_2.length) = true := by first | simpa using c24 | (simp at c24 ⊢; omega)
                  clear c24
                  have H' := Aside0.mk H
                  clear H
                  have hcz25_0 : wc.cell? ⟨gb158, 0, none⟩ = some (.int .i64 a0_0) := (blk_cell BK158.out 0).trans rfl
                  have hcz25_1 : wc.cell? ⟨gb158, 1, none⟩ = some (.string a0_1) := (blk_cell BK158.out 1).trans rfl
                  have hcz25_2 : wc.cell? ⟨gb158, 2, none⟩ = some (.slice A0_2 l0_2.length c0_2) := (blk_cell BK158.out 2).trans rfl
                  have hcz25_3 : wc.cell? ⟨gb158, 3, none⟩ = some (.slice A0_3 l0_3.length c0_3) := (blk_cell BK158.out 3).trans rfl
                  have hfz25_0 := blk_frozen BK158.out 0
                  have hfz25_1 := blk_frozen BK158.out 1
                  have hfz25_2 := blk_frozen BK158.out 2
                  have hfz25_3 := blk_frozen BK158.out 3
                  go_wp2
                  go_meet
                  case rel => exact ⟨_, (false), enA, H', ⟨by have := HJ4.out; first | omega | exact Nat.le_refl _⟩, ⟨by (with_reducible repeat (first | refine blk_drewN ?_ _ | refine blk_drew ?_ | refine blk_alloc ?_ _)); exact BK158.out⟩, ⟨belS HB GE158⟩⟩
                · rw [if_neg c24] at H
                  have c24b0 : ((l0_3.length : Int) == (l0_2.length : Int)) = false := beq_eq_false_iff_ne.mpr c24
                  have c24b1 : ((l0_3.length : Int) != (l0_2.length : Int)) = true := bne_iff_ne.mpr c24
                  have c24b2 : (l0_3.length == l0_2.length) = false := by first | simpa using c24 | (simp at c24 ⊢; omega)
                  have H' := Aside0.mk H
                  clear H
                  have hcz26_0 : wc.cell? ⟨gb158, 0, none⟩ = some (.int .i64 a0_0) := (blk_cell BK158.out 0).trans rfl
                  have hcz26_1 : wc.cell? ⟨gb158, 1, none⟩ = some (.string a0_1) := (blk_cell BK158.out 1).trans rfl
                  have hcz26_2 : wc.cell? ⟨gb158, 2, none⟩ = some (.slice A0_2 l0_2.length c0_2) := (blk_cell BK158.out 2).trans rfl
                  have hcz26_3 : wc.cell? ⟨gb158, 3, none⟩ = some (.slice A0_3 l0_3.length c0_3) := (blk_cell BK158.out 3).trans rfl
                  have hfz26_0 := blk_frozen BK158.out 0
                  have hfz26_1 := blk_frozen BK158.out 1
                  have hfz26_2 := blk_frozen BK158.out 2
                  have hfz26_3 := blk_frozen BK158.out 3
                  go_wp2
                  go_meet
                  case rel => exact ⟨_, (true), enA, H', ⟨by have := HJ4.out; first | omega | exact Nat.le_refl _⟩, ⟨by (with_reducible repeat (first | refine blk_drewN ?_ _ | refine blk_drew ?_ | refine blk_alloc ?_ _)); exact BK158.out⟩, ⟨belS HB GE158⟩⟩
              · rw [if_neg c23] at H
                have c23b0 : (a0_0 == 8) = false := beq_eq_false_iff_ne.mpr c23
                have c23b1 : (a0_0 != 8) = true := bne_iff_ne.mpr c23
                by_cases c27 : (l0_3.length : Int) > 0
                · rw [if_pos c27] at H
                  have c27b0 : decide (0 < (l0_3.length : Int)) = true := decide_eq_true c27
                  have c27b1 : decide (0 < l0_3.length) = true := decide_eq_true (by omega)
                  clear c27
                  have H' := Aside0.mk H
                  clear H
                  have hcz28_0 : wc.cell? ⟨gb158, 0, none⟩ = some (.int .i64 a0_0) := (blk_cell BK158.out 0).trans rfl
                  have hcz28_1 : wc.cell? ⟨gb158, 1, none⟩ = some (.string a0_1) := (blk_cell BK158.out 1).trans rfl
                  have hcz28_2 : wc.cell? ⟨gb158, 2, none⟩ = some (.slice A0_2 l0_2.length c0_2) := (blk_cell BK158.out 2).trans rfl
                  have hcz28_3 : wc.cell? ⟨gb158, 3, none⟩ = some (.slice A0_3 l0_3.length c0_3) := (blk_cell BK158.out 3).trans rfl
                  have hfz28_0 := blk_frozen BK158.out 0
                  have hfz28_1 := blk_frozen BK158.out 1
                  have hfz28_2 := blk_frozen BK158.out 2
                  have hfz28_3 := blk_frozen BK158.out 3
                  go_wp2
                  go_meet
                  case rel => exact ⟨_, (true), enA, H', ⟨by have := HJ4.out; first | omega | exact Nat.le_refl _⟩, ⟨by (with_reducible repeat (first | refine blk_drewN ?_ _ | refine blk_drew ?_ | refine blk_alloc ?_ _)); exact BK158.out⟩, ⟨belS HB GE158⟩⟩
                · rw [if_neg c27] at H
                  have c27b0 : decide (0 < (l0_3.length : Int)) = false := decide_eq_false c27
                  have c27b1 : decide (0 < l0_3.length) = false := decide_eq_false (by omega)
                  clear c27
                  have H' := Aside0.mk H
                  clear H
                  have hcz29_0 : wc.cell? ⟨gb158, 0, none⟩ = some (.int .i64 a0_0) := (blk_cell BK158.out 0).trans rfl
                  have hcz29_1 : wc.cell? ⟨gb158, 1, none⟩ = some (.string a0_1) := (blk_cell BK158.out 1).trans rfl
                  have hcz29_2 : wc.cell? ⟨gb158, 2, none⟩ = some (.slice A0_2 l0_2.length c0_2) := (blk_cell BK158.out 2).trans rfl
                  have hcz29_3 : wc.cell? ⟨gb158, 3, none⟩ = some (.slice A0_3 l0_3.length c0_3) := (blk_cell BK158.out 3).trans rfl
                  have hfz29_0 := blk_frozen BK158.out 0
                  have hfz29_1 := blk_frozen BK158.out 1
                  have hfz29_2 := blk_frozen BK158.out 2
                  have hfz29_3 := blk_frozen BK158.out 3
                  go_wp2
                  go_meet
                  case rel => exact ⟨_, (false), enA, H', ⟨by have := HJ4.out; first | omega | exact Nat.le_refl _⟩, ⟨by (with_reducible repeat (first | refine blk_drewN ?_ _ | refine blk_drew ?_ | refine blk_alloc ?_ _)); exact BK158.out⟩, ⟨belS HB GE158⟩⟩
        case rest =>
          clear HC12
          try clear c1
          try clear c2
          try clear p2
          try clear c4
          try clear c8
          try clear c9
          try clear c9b0
          try clear c9b1
          try clear c13
          try clear c14
          try clear c14b0
          try clear c14b1
          try clear c15
          try clear c15b0
          try clear c15b1
          try clear c15b2
          try clear c18
          try clear c18b0
          try clear c18b1
          try clear c21
          try clear c21b0
          try clear c21b1
          try clear c23
          try clear c23b0
          try clear c23b1
          try clear c24
          try clear c24b0
          try clear c24b1
          try clear c24b2
          try clear c27
          try clear c27b0
          try clear c27b1
          try clear hcz10_0
          try clear hcz10_1
          try clear hcz10_2
          try clear hcz10_3
          try clear hcz11_0
          try clear hcz11_1
          try clear hcz11_2
          try clear hcz11_3
          try clear hcz16_0
          try clear hcz16_1
          try clear hcz16_2
          try clear hcz16_3
          try clear hcz17_0
          try clear hcz17_1
          try clear hcz17_2
          try clear hcz17_3
          try clear hcz19_0
          try clear hcz19_1
          try clear hcz19_2
          try clear hcz19_3
          try clear hcz20_0
          try clear hcz20_1
          try clear hcz20_2
          try clear hcz20_3
          try clear hcz22_0
          try clear hcz22_1
          try clear hcz22_2
          try clear hcz22_3
          try clear hcz25_0
          try clear hcz25_1
          try clear hcz25_2
          try clear hcz25_3
          try clear hcz26_0
          try clear hcz26_1
          try clear hcz26_2
          try clear hcz26_3
          try clear hcz28_0
          try clear hcz28_1
          try clear hcz28_2
          try clear hcz28_3
          try clear hcz29_0
          try clear hcz29_1
          try clear hcz29_2
          try clear hcz29_3
          try clear hcz7_0
          try clear hcz7_1
          try clear hcz7_2
          try clear hcz7_3
          try clear hfz10_0
          try clear hfz10_1
          try clear hfz10_2
          try clear hfz10_3
          try clear hfz11_0
          try clear hfz11_1
          try clear hfz11_2
          try clear hfz11_3
          try clear hfz16_0
          try clear hfz16_1
          try clear hfz16_2
          try clear hfz16_3
          try clear hfz17_0
          try clear hfz17_1
          try clear hfz17_2
          try clear hfz17_3
          try clear hfz19_0
          try clear hfz19_1
          try clear hfz19_2
          try clear hfz19_3
          try clear hfz20_0
          try clear hfz20_1
          try clear hfz20_2
          try clear hfz20_3
          try clear hfz22_0
          try clear hfz22_1
          try clear hfz22_2
          try clear hfz22_3
          try clear hfz25_0
          try clear hfz25_1
          try clear hfz25_2
          try clear hfz25_3
          try clear hfz26_0
          try clear hfz26_1
          try clear hfz26_2
          try clear hfz26_3
          try clear hfz28_0
          try clear hfz28_1
          try clear hfz28_2
          try clear hfz28_3
          try clear hfz29_0
          try clear hfz29_1
          try clear hfz29_2
          try clear hfz29_3
          try clear hfz7_0
          try clear hfz7_1
          try clear hfz7_2
          try clear hfz7_3
          try clear p2
          obtain ⟨kq, x57_11, rfl, HA, HJ11, BK158, HB⟩ := hcut
          cases kq with
          | zero => exact absurd HA.out (by simp [spec_l07Right.j1])
          | succ kj11 =>
            have H := HA.out
            clear HA
            simp only [spec_l07Right.j1] at H
            by_cases c30 : x57_11 = true
            · subst c30
              have H1 : (some false) = some r := by rw [if_pos rfl] at H; exact H
              clear H
              have H := H1
              clear H1
              obtain rfl := Option.some.inj H
              go_wp2
              go_ret
              exact ⟨erA, belS HB GE158⟩
            · replace c30 := Bool.eq_false_iff.mpr c30
              subst c30
              have H1 : (spec_l07Right.l0 kj11 a1 0 a0_0 a0_1 l0_2 l0_3) = some r := by rw [if_neg (show ¬ (false = true) by decide)] at H; exact H
              clear H
              have H := H1
              clear H1
              have H' := Aside0.mk H
              clear H
              go_wp2
              go_loopg [6] kj11 (fun kq v6 w' => ∃ (x6_3 : Int), v6 = .int .i64 x6_3 ∧ Aside0 (spec_l07Right.l0 kq a1 x6_3 a0_0 a0_1 l0_2 l0_3 = some r) ∧ Aside0 (kq ≤ kj11) ∧ Aside0 (w'.heap[gb158]? = some (.cells #[.int .i64 a0_0, .string a0_1, (.slice A0_2 l0_2.length c0_2), (.slice A0_3 l0_3.length c0_3)] 37 (0, 0))) ∧ Aside0 (Below w.heap.size w w'))
              case atStart => exact ⟨(0), enA, H', ⟨Nat.le_refl _⟩, ⟨by (with_reducible repeat (first | refine blk_drewN ?_ _ | refine blk_drew ?_ | refine blk_alloc ?_ _)); exact BK158.out⟩, ⟨belS HB GE158⟩⟩
              case round =>
                clear H'
                try clear c1
                try clear c2
                try clear p2
                try clear c3
                try clear c4
                try clear c8
                try clear c9
                try clear c9b0
                try clear c9b1
                try clear c13
                try clear c14
                try clear c14b0
                try clear c14b1
                try clear c15
                try clear c15b0
                try clear c15b1
                try clear c15b2
                try clear c18
                try clear c18b0
                try clear c18b1
                try clear c21
                try clear c21b0
                try clear c21b1
                try clear c23
                try clear c23b0
                try clear c23b1
                try clear c24
                try clear c24b0
                try clear c24b1
                try clear c24b2
                try clear c27
                try clear c27b0
                try clear c27b1
                try clear c30
                try clear hcz10_0
                try clear hcz10_1
                try clear hcz10_2
                try clear hcz10_3
                try clear hcz11_0
                try clear hcz11_1
                try clear hcz11_2
                try clear hcz11_3
                try clear hcz16_0
                try clear hcz16_1
                try clear hcz16_2
                try clear hcz16_3
                try clear hcz17_0
                try clear hcz17_1
                try clear hcz17_2
                try clear hcz17_3
                try clear hcz19_0
                try clear hcz19_1
                try clear hcz19_2
                try clear hcz19_3
                try clear hcz20_0
                try clear hcz20_1
                try clear hcz20_2
                try clear hcz20_3
                try clear hcz22_0
                try clear hcz22_1
                try clear hcz22_2
                try clear hcz22_3
                try clear hcz25_0
                try clear hcz25_1
                try clear hcz25_2
                try clear hcz25_3
                try clear hcz26_0
                try clear hcz26_1
                try clear hcz26_2
                try clear hcz26_3
                try clear hcz28_0
                try clear hcz28_1
                try clear hcz28_2
                try clear hcz28_3
                try clear hcz29_0
                try clear hcz29_1
                try clear hcz29_2
                try clear hcz29_3
                try clear hcz7_0
                try clear hcz7_1
                try clear hcz7_2
                try clear hcz7_3
                try clear hfz10_0
                try clear hfz10_1
                try clear hfz10_2
                try clear hfz10_3
                try clear hfz11_0
                try clear hfz11_1
                try clear hfz11_2
                try clear hfz11_3
                try clear hfz16_0
                try clear hfz16_1
                try clear hfz16_2
                try clear hfz16_3
                try clear hfz17_0
                try clear hfz17_1
                try clear hfz17_2
                try clear hfz17_3
                try clear hfz19_0
                try clear hfz19_1
                try clear hfz19_2
                try clear hfz19_3
                try clear hfz20_0
                try clear hfz20_1
                try clear hfz20_2
                try clear hfz20_3
                try clear hfz22_0
                try clear hfz22_1
                try clear hfz22_2
                try clear hfz22_3
                try clear hfz25_0
                try clear hfz25_1
                try clear hfz25_2
                try clear hfz25_3
                try clear hfz26_0
                try clear hfz26_1
                try clear hfz26_2
                try clear hfz26_3
                try clear hfz28_0
                try clear hfz28_1
                try clear hfz28_2
                try clear hfz28_3
                try clear hfz29_0
                try clear hfz29_1
                try clear hfz29_2
                try clear hfz29_3
                try clear hfz7_0
                try clear hfz7_1
                try clear hfz7_2
                try clear hfz7_3
                try clear p2
                obtain ⟨x6_3, rfl, HA, HK3, BK158, HB⟩ := hrel
                cases gk with
                | zero => exact absurd HA.out (by simp [spec_l07Right.l0])
                | succ k3 =>
                  have H := HA.out
                  clear HA
                  simp only [spec_l07Right.l0] at H
                  by_cases c31 : x6_3 < (l0_2.length : Int)
                  · rw [if_pos c31] at H
                    have c31b0 : decide (x6_3 < (l0_2.length : Int)) = true := decide_eq_true c31
                    clear c31
                    by_cases c32 : a0_0 = 8
                    · rw [if_pos c32] at H
                      have c32b0 : (a0_0 == 8) = true := beq_iff_eq.mpr c32
                      have c32b1 : (a0_0 != 8) = false := bne_eq_false_iff_eq.mpr c32
                      clear c32
                      by_cases c33 : 0 ≤ x6_3
                      · rw [if_pos c33] at H
                        have c33b0 : decide (0 ≤ x6_3) = true := decide_eq_true c33
                        clear c33
                        by_cases c34 : x6_3 < (l0_3.length : Int)
                        · rw [if_pos c34] at H
                          have c34b0 : decide (x6_3 < (l0_3.length : Int)) = true := decide_eq_true c34
                          clear c34
                          replace H := Option.bind_eq_some_iff.mp H
                          obtain ⟨t161, A350, H⟩ := H
                          replace H : (if t161 = true then ((spec_l07Right.f k3 ((rd_T37 l0_2 x6_3).f0) ((rd_T37 l0_2 x6_3).f1) ((rd_T37 l0_2 x6_3).f2) ((rd_T37 l0_2 x6_3).f3) (wrap64 (a1 - 1))).bind fun t163 => (if t163 = true then (spec_l07Right.l0 k3 a1 (wrap64 (x6_3 + 1)) a0_0 a0_1 l0_2 l0_3) else (some false))) else (some false)) = some r := H
                          have A35 := Aside0.mk A350
                          clear A350
                          by_cases c36 : t161 = true
                          · subst c36
                            have H1 : ((spec_l07Right.f k3 ((rd_T37 l0_2 x6_3).f0) ((rd_T37 l0_2 x6_3).f1) ((rd_T37 l0_2 x6_3).f2) ((rd_T37 l0_2 x6_3).f3) (wrap64 (a1 - 1))).bind fun t163 => (if t163 = true then (spec_l07Right.l0 k3 a1 (wrap64 (x6_3 + 1)) a0_0 a0_1 l0_2 l0_3) else (some false))) = some r := by rw [if_pos rfl] at H; exact H
                            clear H
                            have H := H1
                            clear H1
                            replace H := Option.bind_eq_some_iff.mp H
                            obtain ⟨t163, A370, H⟩ := H
                            replace H : (if t163 = true then (spec_l07Right.l0 k3 a1 (wrap64 (x6_3 + 1)) a0_0 a0_1 l0_2 l0_3) else (some false)) = some r := H
                            have A37 := Aside0.mk A370
                            clear A370
                            by_cases c38 : t163 = true
                            · subst c38
                              have H1 : (spec_l07Right.l0 k3 a1 (wrap64 (x6_3 + 1)) a0_0 a0_1 l0_2 l0_3) = some r := by rw [if_pos rfl] at H; exact H
                              clear H
                              have H := H1
                              clear H1
                              have H' := Aside0.mk H
                              clear H
                              have hcz39_0 : wr.cell? ⟨gb158, 0, none⟩ = some (.int .i64 a0_0) := (blk_cell BK158.out 0).trans rfl
                              have hcz39_1 : wr.cell? ⟨gb158, 1, none⟩ = some (.string a0_1) := (blk_cell BK158.out 1).trans rfl
                              have hcz39_2 : wr.cell? ⟨gb158, 2, none⟩ = some (.slice A0_2 l0_2.length c0_2) := (blk_cell BK158.out 2).trans rfl
                              have hcz39_3 : wr.cell? ⟨gb158, 3, none⟩ = some (.slice A0_3 l0_3.length c0_3) := (blk_cell BK158.out 3).trans rfl
                              have hfz39_0 := blk_frozen BK158.out 0
                              have hfz39_1 := blk_frozen BK158.out 1
                              have hfz39_2 := blk_frozen BK158.out 2
                              have hfz39_3 := blk_frozen BK158.out 3
                              have p160 : 0 ≤ (x6_3 : Int) := odA
                              have q160 : x6_3 < (l0_3.length : Int) := odA
                              obtain ⟨ad160, e160, hx160_0⟩ := Kd.at_string HR0_3.out x6_3 p160 q160
                              cases e160
                              (try replace hx160_0 := (HB.out.cell (World.block_lt_of_cell? w _ hx160_0)).trans hx160_0)
                              replace p160 := eq_true p160
                              replace q160 := eq_true q160
                              go_wp2_with (first | (go_at_call 33; (with_reducible refine (spec_NameOk.calls k3 (rdOf ByteArray.empty l0_3 x6_3) true _ A35.out).mono ?_); rintro e w' ⟨rfl, ⟨nd, rfl⟩⟩; have p162 : 0 ≤ (x6_3 : Int) := odA; have q162 : x6_3 < (l0_2.length : Int) := odA; obtain ⟨ad162, A162_2, c162_2, A162_3, c162_3, e162, hx162_0, hx162_1, hx162_2, hx162_3, hl162_2, hi162_2, hl162_3, hi162_3⟩ := at_T37 HR0_2.out x6_3 p162 q162; cases e162; replace hx162_0 := (HB.out.cell (World.block_lt_of_cell? w _ hx162_0)).trans hx162_0; replace hx162_1 := (HB.out.cell (World.block_lt_of_cell? w _ hx162_1)).trans hx162_1; replace hx162_2 := (HB.out.cell (World.block_lt_of_cell? w _ hx162_2)).trans hx162_2; replace hx162_3 := (HB.out.cell (World.block_lt_of_cell? w _ hx162_3)).trans hx162_3; have HR162_2 := Aside0.mk hi162_2; have HC162_2 := Aside0.mk hl162_2; clear hi162_2 hl162_2; have HR162_3 := Aside0.mk hi162_3; have HC162_3 := Aside0.mk hl162_3; clear hi162_3 hl162_3; replace p162 := eq_true p162; replace q162 := eq_true q162) | (go_at_call 44; (with_reducible refine (ih k3 (by have := HJ4.out; have := HJ11.out; have := HK3.out; omega) ((rd_T37 l0_2 x6_3).f0) ((rd_T37 l0_2 x6_3).f1) _ _ ((rd_T37 l0_2 x6_3).f2) _ _ ((rd_T37 l0_2 x6_3).f3) (wrap64 (a1 - 1)) true _ ?side1 ?side2 ?side3 ?side4 A37.out).mono ?_); (case side1 => repeat (first | exact (Kd.C_below HR162_2.out (belS HB GE158)) | (with_reducible refine Kd.C_alloc ?_ _) | (with_reducible refine Kd.C_drewN ?_ _) | (with_reducible refine Kd.C_drew ?_))); (case side2 => exact HC162_2.out); (case side3 => repeat (first | exact (Kd.C_below HR162_3.out (belS HB GE158)) | (with_reducible refine Kd.C_alloc ?_ _) | (with_reducible refine Kd.C_drewN ?_ _) | (with_reducible refine Kd.C_drew ?_))); (case side4 => exact HC162_3.out); rintro e w40 ⟨rfl, hb⟩; have n0_ := Aside0.mk (blk_below (g := gb158) (o := .cells #[.int .i64 a0_0, .string a0_1, .slice (some ad162) l0_2.length c0_2, .slice (some ad160) l0_3.length c0_3] 37 (0, 0)) (blkA BK158) hb); have n1_ := Aside0.mk (below_step (belS HB GE158) hb); clear BK158; clear HB; have BK158 := n0_; have HB := n1_; clear n0_ n1_; (try clear hb)))
                              go_roundg k3
                              case measure => have := HJ4.out; have := HJ11.out; have := HK3.out; omega
                              case rel => exact ⟨(wrap64 (x6_3 + 1)), enA, H', ⟨by have := HJ4.out; have := HJ11.out; have := HK3.out; omega⟩, ⟨by (with_reducible repeat (first | refine blk_drewN ?_ _ | refine blk_drew ?_ | refine blk_alloc ?_ _)); exact BK158.out⟩, ⟨belS HB GE158⟩⟩
                            · replace c38 := Bool.eq_false_iff.mpr c38
                              subst c38
                              have H1 : (some false) = some r := by rw [if_neg (show ¬ (false = true) by decide)] at H; exact H
                              clear H
                              have H := H1
                              clear H1
                              obtain rfl := Option.some.inj H
                              have hcz41_0 : wr.cell? ⟨gb158, 0, none⟩ = some (.int .i64 a0_0) := (blk_cell BK158.out 0).trans rfl
                              have hcz41_1 : wr.cell? ⟨gb158, 1, none⟩ = some (.string a0_1) := (blk_cell BK158.out 1).trans rfl
                              have hcz41_2 : wr.cell? ⟨gb158, 2, none⟩ = some (.slice A0_2 l0_2.length c0_2) := (blk_cell BK158.out 2).trans rfl
                              have hcz41_3 : wr.cell? ⟨gb158, 3, none⟩ = some (.slice A0_3 l0_3.length c0_3) := (blk_cell BK158.out 3).trans rfl
                              have hfz41_0 := blk_frozen BK158.out 0
                              have hfz41_1 := blk_frozen BK158.out 1
                              have hfz41_2 := blk_frozen BK158.out 2
                              have hfz41_3 := blk_frozen BK158.out 3
                              have p160 : 0 ≤ (x6_3 : Int) := odA
                              have q160 : x6_3 < (l0_3.length : Int) := odA
                              obtain ⟨ad160, e160, hx160_0⟩ := Kd.at_string HR0_3.out x6_3 p160 q160
                              cases e160
                              (try replace hx160_0 := (HB.out.cell (World.block_lt_of_cell? w _ hx160_0)).trans hx160_0)
                              replace p160 := eq_true p160
                              replace q160 := eq_true q160
                              go_wp2_with (first | (go_at_call 33; (with_reducible refine (spec_NameOk.calls k3 (rdOf ByteArray.empty l0_3 x6_3) true _ A35.out).mono ?_); rintro e w' ⟨rfl, ⟨nd, rfl⟩⟩; have p162 : 0 ≤ (x6_3 : Int) := odA; have q162 : x6_3 < (l0_2.length : Int) := odA; obtain ⟨ad162, A162_2, c162_2, A162_3, c162_3, e162, hx162_0, hx162_1, hx162_2, hx162_3, hl162_2, hi162_2, hl162_3, hi162_3⟩ := at_T37 HR0_2.out x6_3 p162 q162; cases e162; replace hx162_0 := (HB.out.cell (World.block_lt_of_cell? w _ hx162_0)).trans hx162_0; replace hx162_1 := (HB.out.cell (World.block_lt_of_cell? w _ hx162_1)).trans hx162_1; replace hx162_2 := (HB.out.cell (World.block_lt_of_cell? w _ hx162_2)).trans hx162_2; replace hx162_3 := (HB.out.cell (World.block_lt_of_cell? w _ hx162_3)).trans hx162_3; have HR162_2 := Aside0.mk hi162_2; have HC162_2 := Aside0.mk hl162_2; clear hi162_2 hl162_2; have HR162_3 := Aside0.mk hi162_3; have HC162_3 := Aside0.mk hl162_3; clear hi162_3 hl162_3; replace p162 := eq_true p162; replace q162 := eq_true q162) | (go_at_call 44; (with_reducible refine (ih k3 (by have := HJ4.out; have := HJ11.out; have := HK3.out; omega) ((rd_T37 l0_2 x6_3).f0) ((rd_T37 l0_2 x6_3).f1) _ _ ((rd_T37 l0_2 x6_3).f2) _ _ ((rd_T37 l0_2 x6_3).f3) (wrap64 (a1 - 1)) false _ ?side1 ?side2 ?side3 ?side4 A37.out).mono ?_); (case side1 => repeat (first | exact (Kd.C_below HR162_2.out (belS HB GE158)) | (with_reducible refine Kd.C_alloc ?_ _) | (with_reducible refine Kd.C_drewN ?_ _) | (with_reducible refine Kd.C_drew ?_))); (case side2 => exact HC162_2.out); (case side3 => repeat (first | exact (Kd.C_below HR162_3.out (belS HB GE158)) | (with_reducible refine Kd.C_alloc ?_ _) | (with_reducible refine Kd.C_drewN ?_ _) | (with_reducible refine Kd.C_drew ?_))); (case side4 => exact HC162_3.out); rintro e w42 ⟨rfl, hb⟩; have n0_ := Aside0.mk (blk_below (g := gb158) (o := .cells #[.int .i64 a0_0, .string a0_1, .slice (some ad162) l0_2.length c0_2, .slice (some ad160) l0_3.length c0_3] 37 (0, 0)) (blkA BK158) hb); have n1_ := Aside0.mk (below_step (belS HB GE158) hb); clear BK158; clear HB; have BK158 := n0_; have HB := n1_; clear n0_ n1_; (try clear hb)))
                              go_ret
                              exact ⟨erA, belS HB GE158⟩
                          · replace c36 := Bool.eq_false_iff.mpr c36
                            subst c36
                            have H1 : (some false) = some r := by rw [if_neg (show ¬ (false = true) by decide)] at H; exact H
                            clear H
                            have H := H1
                            clear H1
                            obtain rfl := Option.some.inj H
                            have hcz43_0 : wr.cell? ⟨gb158, 0, none⟩ = some (.int .i64 a0_0) := (blk_cell BK158.out 0).trans rfl
                            have hcz43_1 : wr.cell? ⟨gb158, 1, none⟩ = some (.string a0_1) := (blk_cell BK158.out 1).trans rfl
                            have hcz43_2 : wr.cell? ⟨gb158, 2, none⟩ = some (.slice A0_2 l0_2.length c0_2) := (blk_cell BK158.out 2).trans rfl
                            have hcz43_3 : wr.cell? ⟨gb158, 3, none⟩ = some (.slice A0_3 l0_3.length c0_3) := (blk_cell BK158.out 3).trans rfl
                            have hfz43_0 := blk_frozen BK158.out 0
                            have hfz43_1 := blk_frozen BK158.out 1
                            have hfz43_2 := blk_frozen BK158.out 2
                            have hfz43_3 := blk_frozen BK158.out 3
                            have p160 : 0 ≤ (x6_3 : Int) := odA
                            have q160 : x6_3 < (l0_3.length : Int) := odA
                            obtain ⟨ad160, e160, hx160_0⟩ := Kd.at_string HR0_3.out x6_3 p160 q160
                            cases e160
                            (try replace hx160_0 := (HB.out.cell (World.block_lt_of_cell? w _ hx160_0)).trans hx160_0)
                            replace p160 := eq_true p160
                            replace q160 := eq_true q160
                            go_wp2_with (first | (go_at_call 33; (with_reducible refine (spec_NameOk.calls k3 (rdOf ByteArray.empty l0_3 x6_3) false _ A35.out).mono ?_); rintro e w' ⟨rfl, ⟨nd, rfl⟩⟩))
                            go_ret
                            exact ⟨erA, belS HB GE158⟩
                        · rw [if_neg c34] at H
                          exact absurd H (by simp)
                      · rw [if_neg c33] at H
                        exact absurd H (by simp)
                    · rw [if_neg c32] at H
                      have c32b0 : (a0_0 == 8) = false := beq_eq_false_iff_ne.mpr c32
                      have c32b1 : (a0_0 != 8) = true := bne_iff_ne.mpr c32
                      by_cases c44 : 0 ≤ x6_3
                      · rw [if_pos c44] at H
                        have c44b0 : decide (0 ≤ x6_3) = true := decide_eq_true c44
                        clear c44
                        replace H := Option.bind_eq_some_iff.mp H
                        obtain ⟨t165, A450, H⟩ := H
                        replace H : (if t165 = true then (spec_l07Right.l0 k3 a1 (wrap64 (x6_3 + 1)) a0_0 a0_1 l0_2 l0_3) else (some false)) = some r := H
                        have A45 := Aside0.mk A450
                        clear A450
                        by_cases c46 : t165 = true
                        · subst c46
                          have H1 : (spec_l07Right.l0 k3 a1 (wrap64 (x6_3 + 1)) a0_0 a0_1 l0_2 l0_3) = some r := by rw [if_pos rfl] at H; exact H
                          clear H
                          have H := H1
                          clear H1
                          have H' := Aside0.mk H
                          clear H
                          have hcz47_0 : wr.cell? ⟨gb158, 0, none⟩ = some (.int .i64 a0_0) := (blk_cell BK158.out 0).trans rfl
                          have hcz47_1 : wr.cell? ⟨gb158, 1, none⟩ = some (.string a0_1) := (blk_cell BK158.out 1).trans rfl
                          have hcz47_2 : wr.cell? ⟨gb158, 2, none⟩ = some (.slice A0_2 l0_2.length c0_2) := (blk_cell BK158.out 2).trans rfl
                          have hcz47_3 : wr.cell? ⟨gb158, 3, none⟩ = some (.slice A0_3 l0_3.length c0_3) := (blk_cell BK158.out 3).trans rfl
                          have hfz47_0 := blk_frozen BK158.out 0
                          have hfz47_1 := blk_frozen BK158.out 1
                          have hfz47_2 := blk_frozen BK158.out 2
                          have hfz47_3 := blk_frozen BK158.out 3
                          have p164 : 0 ≤ (x6_3 : Int) := odA
                          have q164 : x6_3 < (l0_2.length : Int) := odA
                          obtain ⟨ad164, A164_2, c164_2, A164_3, c164_3, e164, hx164_0, hx164_1, hx164_2, hx164_3, hl164_2, hi164_2, hl164_3, hi164_3⟩ := at_T37 HR0_2.out x6_3 p164 q164
                          cases e164
                          (try replace hx164_0 := (HB.out.cell (World.block_lt_of_cell? w _ hx164_0)).trans hx164_0)
                          (try replace hx164_1 := (HB.out.cell (World.block_lt_of_cell? w _ hx164_1)).trans hx164_1)
                          (try replace hx164_2 := (HB.out.cell (World.block_lt_of_cell? w _ hx164_2)).trans hx164_2)
                          (try replace hx164_3 := (HB.out.cell (World.block_lt_of_cell? w _ hx164_3)).trans hx164_3)
                          have HR164_2 := Aside0.mk hi164_2
                          have HC164_2 := Aside0.mk hl164_2
                          clear hi164_2 hl164_2
                          have HR164_3 := Aside0.mk hi164_3
                          have HC164_3 := Aside0.mk hl164_3
                          clear hi164_3 hl164_3
                          replace p164 := eq_true p164
                          replace q164 := eq_true q164
                          go_wp2_with (first | (go_at_call 44; (with_reducible refine (ih k3 (by have := HJ4.out; have := HJ11.out; have := HK3.out; omega) ((rd_T37 l0_2 x6_3).f0) ((rd_T37 l0_2 x6_3).f1) _ _ ((rd_T37 l0_2 x6_3).f2) _ _ ((rd_T37 l0_2 x6_3).f3) (wrap64 (a1 - 1)) true _ ?side1 ?side2 ?side3 ?side4 A45.out).mono ?_); (case side1 => exact cbA HR164_2 HB); (case side2 => exact HC164_2.out); (case side3 => exact cbA HR164_3 HB); (case side4 => exact HC164_3.out); rintro e w48 ⟨rfl, hb⟩; have n0_ := Aside0.mk (blk_below (g := gb158) (o := .cells #[.int .i64 a0_0, .string a0_1, .slice (some ad164) l0_2.length c0_2, .slice A0_3 l0_3.length c0_3] 37 (0, 0)) (blkA BK158) hb); have n1_ := Aside0.mk (below_step (belS HB GE158) hb); clear BK158; clear HB; have BK158 := n0_; have HB := n1_; clear n0_ n1_; (try clear hb)))
                          go_roundg k3
                          case measure => have := HJ4.out; have := HJ11.out; have := HK3.out; omega
                          case rel => exact ⟨(wrap64 (x6_3 + 1)), enA, H', ⟨by have := HJ4.out; have := HJ11.out; have := HK3.out; omega⟩, ⟨by (with_reducible repeat (first | refine blk_drewN ?_ _ | refine blk_drew ?_ | refine blk_alloc ?_ _)); exact BK158.out⟩, ⟨belS HB GE158⟩⟩
                        · replace c46 := Bool.eq_false_iff.mpr c46
                          subst c46
                          have H1 : (some false) = some r := by rw [if_neg (show ¬ (false = true) by decide)] at H; exact H
                          clear H
                          have H := H1
                          clear H1
                          obtain rfl := Option.some.inj H
                          have hcz49_0 : wr.cell? ⟨gb158, 0, none⟩ = some (.int .i64 a0_0) := (blk_cell BK158.out 0).trans rfl
                          have hcz49_1 : wr.cell? ⟨gb158, 1, none⟩ = some (.string a0_1) := (blk_cell BK158.out 1).trans rfl
                          have hcz49_2 : wr.cell? ⟨gb158, 2, none⟩ = some (.slice A0_2 l0_2.length c0_2) := (blk_cell BK158.out 2).trans rfl
                          have hcz49_3 : wr.cell? ⟨gb158, 3, none⟩ = some (.slice A0_3 l0_3.length c0_3) := (blk_cell BK158.out 3).trans rfl
                          have hfz49_0 := blk_frozen BK158.out 0
                          have hfz49_1 := blk_frozen BK158.out 1
                          have hfz49_2 := blk_frozen BK158.out 2
                          have hfz49_3 := blk_frozen BK158.out 3
                          have p164 : 0 ≤ (x6_3 : Int) := odA
                          have q164 : x6_3 < (l0_2.length : Int) := odA
                          obtain ⟨ad164, A164_2, c164_2, A164_3, c164_3, e164, hx164_0, hx164_1, hx164_2, hx164_3, hl164_2, hi164_2, hl164_3, hi164_3⟩ := at_T37 HR0_2.out x6_3 p164 q164
                          cases e164
                          (try replace hx164_0 := (HB.out.cell (World.block_lt_of_cell? w _ hx164_0)).trans hx164_0)
                          (try replace hx164_1 := (HB.out.cell (World.block_lt_of_cell? w _ hx164_1)).trans hx164_1)
                          (try replace hx164_2 := (HB.out.cell (World.block_lt_of_cell? w _ hx164_2)).trans hx164_2)
                          (try replace hx164_3 := (HB.out.cell (World.block_lt_of_cell? w _ hx164_3)).trans hx164_3)
                          have HR164_2 := Aside0.mk hi164_2
                          have HC164_2 := Aside0.mk hl164_2
                          clear hi164_2 hl164_2
                          have HR164_3 := Aside0.mk hi164_3
                          have HC164_3 := Aside0.mk hl164_3
                          clear hi164_3 hl164_3
                          replace p164 := eq_true p164
                          replace q164 := eq_true q164
                          go_wp2_with (first | (go_at_call 44; (with_reducible refine (ih k3 (by have := HJ4.out; have := HJ11.out; have := HK3.out; omega) ((rd_T37 l0_2 x6_3).f0) ((rd_T37 l0_2 x6_3).f1) _ _ ((rd_T37 l0_2 x6_3).f2) _ _ ((rd_T37 l0_2 x6_3).f3) (wrap64 (a1 - 1)) false _ ?side1 ?side2 ?side3 ?side4 A45.out).mono ?_); (case side1 => exact cbA HR164_2 HB); (case side2 => exact HC164_2.out); (case side3 => exact cbA HR164_3 HB); (case side4 => exact HC164_3.out); rintro e w50 ⟨rfl, hb⟩; have n0_ := Aside0.mk (blk_below (g := gb158) (o := .cells #[.int .i64 a0_0, .string a0_1, .slice (some ad164) l0_2.length c0_2, .slice A0_3 l0_3.length c0_3] 37 (0, 0)) (blkA BK158) hb); have n1_ := Aside0.mk (below_step (belS HB GE158) hb); clear BK158; clear HB; have BK158 := n0_; have HB := n1_; clear n0_ n1_; (try clear hb)))
                          go_ret
                          exact ⟨erA, belS HB GE158⟩
                      · rw [if_neg c44] at H
                        exact absurd H (by simp)
                  · rw [if_neg c31] at H
                    have c31b0 : decide (x6_3 < (l0_2.length : Int)) = false := decide_eq_false c31
                    clear c31
                    obtain rfl := Option.some.inj H
                    have hcz51_0 : wr.cell? ⟨gb158, 0, none⟩ = some (.int .i64 a0_0) := (blk_cell BK158.out 0).trans rfl
                    have hcz51_1 : wr.cell? ⟨gb158, 1, none⟩ = some (.string a0_1) := (blk_cell BK158.out 1).trans rfl
                    have hcz51_2 : wr.cell? ⟨gb158, 2, none⟩ = some (.slice A0_2 l0_2.length c0_2) := (blk_cell BK158.out 2).trans rfl
                    have hcz51_3 : wr.cell? ⟨gb158, 3, none⟩ = some (.slice A0_3 l0_3.length c0_3) := (blk_cell BK158.out 3).trans rfl
                    have hfz51_0 := blk_frozen BK158.out 0
                    have hfz51_1 := blk_frozen BK158.out 1
                    have hfz51_2 := blk_frozen BK158.out 2
                    have hfz51_3 := blk_frozen BK158.out 3
                    go_wp2
                    go_ret
                    exact ⟨erA, belS HB GE158⟩
  · replace c4 := Bool.eq_false_iff.mpr c4
    subst c4
    have H1 : (some false) = some r := by rw [if_neg (show ¬ (false = true) by decide)] at H; exact H
    clear H
    have H := H1
    clear H1
    obtain rfl := Option.some.inj H
    go_enter Tryd.func44, Tryd.ntmps44
    go_wp2_with (first | ((with_reducible refine gate_dst (N := 2) rfl ?_); (try (refine gate_guard (by rfl) ?_; dsimp only)); refine box_event ?hg (N := 2) ?hd (cs := #[.int .i64 a0_0, .string a0_1, .slice A0_2 l0_2.length c0_2, .slice A0_3 l0_3.length c0_3]) (t := 37) ?hr ?_; (case hd => rfl); (case hg => rfl); (case hr => first | (go_simp; done) | (go_simp; rfl)); intro gb158 hg w52 hbox hb; have n0_ := Aside0.mk (below_step (belB HB) hb); have n1_ := Aside0.mk (hbox); have n2_ := Aside0.mk ((by rw [hg]; exact (below_size (belB HB)) : w.heap.size ≤ gb158)); have n3_ := Aside0.mk ((by rw [hg]; exact (below_size (belB HB)) : w.heap.size ≤ gb158)); clear HB; have HB := n0_; have BK158 := n1_; have GW158 := n2_; have GE158 := n3_; clear n0_ n1_ n2_ n3_; clear hb hbox hg; have hcz53_0 : w52.cell? ⟨gb158, 0, none⟩ = some (.int .i64 a0_0) := (blk_cell BK158.out 0).trans rfl; have hcz53_1 : w52.cell? ⟨gb158, 1, none⟩ = some (.string a0_1) := (blk_cell BK158.out 1).trans rfl; have hcz53_2 : w52.cell? ⟨gb158, 2, none⟩ = some (.slice A0_2 l0_2.length c0_2) := (blk_cell BK158.out 2).trans rfl; have hcz53_3 : w52.cell? ⟨gb158, 3, none⟩ = some (.slice A0_3 l0_3.length c0_3) := (blk_cell BK158.out 3).trans rfl; have hfz53_0 := blk_frozen BK158.out 0; have hfz53_1 := blk_frozen BK158.out 1; have hfz53_2 := blk_frozen BK158.out 2; have hfz53_3 := blk_frozen BK158.out 3) | ((with_reducible refine gate_callee (f := 80) rfl ?_); refine goesL_ (some 8) rfl rfl Tryd.func80 (by kernel_rfl) rfl #[.agg #[.int .i64 a0_0, .string a0_1, .slice A0_2 l0_2.length c0_2, .slice A0_3 l0_3.length c0_3]] rfl mapA ?_; (with_reducible refine (spec_l07One.calls k a0_0 a0_1 _ _ l0_2 _ _ l0_3 false _ ?side1 ?side2 ?side3 ?side4 A3.out).mono ?_); (case side1 => exact cbA HR0_2 HB); (case side2 => exact HC0_2.out); (case side3 => exact cbA HR0_3 HB); (case side4 => exact HC0_3.out); rintro e w54 ⟨rfl, hb⟩; refine ⟨_, rfl, ?_⟩; have n0_ := Aside0.mk (blk_below (g := gb158) (o := .cells #[.int .i64 a0_0, .string a0_1, .slice A0_2 l0_2.length c0_2, .slice A0_3 l0_3.length c0_3] 37 (0, 0)) (blkA BK158) hb); have n1_ := Aside0.mk (below_step (belS HB GE158) hb); clear BK158; clear HB; have BK158 := n0_; have HB := n1_; clear n0_ n1_; (try clear hb)))
    go_ret
    exact ⟨erA, belS HB GE158⟩

end Go.Proofs.YtjhagdjjlgjlbaaDoor.OFnExactDirsOk
