/- The machine side of one law, written by a program of this session out of Lean's print of the translation: for each Go function that is reached a plain Lean function and the proof that the call comes to just its answer; each under the condition that the plain function answers 'some'. -/
import Derived.Test.YtmbninphokgbpaaDoorOFnExactBlockTextx0
import Derived.Test.YtmbninphokgbpaaDoorOFnExactBlockTextx4
namespace Go.Proofs.YtmbninphokgbpaaDoor.OFnExactBlockText
open Go.Proofs.YtmbninphokgbpaaDoor.GlB
open Go.RowKit Go.Proofs.YtmbninphokgbpaaDoorW.PrintWords Go.Proofs.YtmbninphokgbpaaDoorW.PrintLast Go.Proofs.YtmbninphokgbpaaDoorW.PrintMore
attribute [local go_sem] max2_int min2_int max_two min_two max_three min_three max_four min_four   -- for this text's walks alone
set_option linter.unusedVariables false
set_option linter.unusedSimpArgs false

/-! ### spec_BlockValue: function 20 -/
mutual
def spec_BlockValue.l0 : Nat → List ByteArray → Int → Int → Option (ByteArray)
  | 0, _, _, _ => none
  | k + 1, x3, x4, x5 => if x5 < (x3.length : Int) then (if 0 ≤ x5 then ((spec_Indent.f k (rdOf ByteArray.empty x3 x5)).bind fun t159 => (if t159 < ((rdOf ByteArray.empty x3 x5).size : Int) then (if x4 < 0 then (spec_BlockValue.l0 k x3 t159 (wrap64 (x5 + 1))) else (if t159 < x4 then (spec_BlockValue.l0 k x3 t159 (wrap64 (x5 + 1))) else (spec_BlockValue.l0 k x3 x4 (wrap64 (x5 + 1))))) else (spec_BlockValue.l0 k x3 x4 (wrap64 (x5 + 1))))) else (none)) else (spec_BlockValue.l1 k x3 x4 1)
def spec_BlockValue.l1 : Nat → List ByteArray → Int → Int → Option (ByteArray)
  | 0, _, _, _ => none
  | k + 1, x3, x4, x7 => if x7 < (x3.length : Int) then (if 0 ≤ x7 then ((spec_Indent.f k (rdOf ByteArray.empty x3 x7)).bind fun t162 => (if x4 ≥ 0 then (spec_BlockValue.j2 k x3 x4 x7 t162 (decide (t162 > x4))) else (spec_BlockValue.j2 k x3 x4 x7 t162 false))) else (none)) else (spec_BlockValue.l2 k x3 0)
def spec_BlockValue.j2 : Nat → List ByteArray → Int → Int → Int → Bool → Option (ByteArray)
  | 0, _, _, _, _, _ => none
  | k + 1, x3, x4, x7, x8, x60 => if x60 = true then (if x4 < 0 then (if 0 ≤ x7 then (if x7 < (x3.length : Int) then (if 0 ≤ ((rdOf ByteArray.empty x3 x7).size : Int) then (spec_BlockValue.l1 k (x3.set (x7 : Int).toNat ((rdOf ByteArray.empty x3 x7).extract 0 (rdOf ByteArray.empty x3 x7).size)) x4 (wrap64 (x7 + 1))) else (none)) else (none)) else (none)) else (if 0 ≤ x7 then (if x7 < (x3.length : Int) then (if 0 ≤ x4 then (if x4 ≤ ((rdOf ByteArray.empty x3 x7).size : Int) then (spec_BlockValue.l1 k (x3.set (x7 : Int).toNat ((rdOf ByteArray.empty x3 x7).extract (x4 : Int).toNat (rdOf ByteArray.empty x3 x7).size)) x4 (wrap64 (x7 + 1))) else (none)) else (none)) else (none)) else (none))) else (if x4 < 0 then (if 0 ≤ x7 then (if x7 < (x3.length : Int) then (if 0 ≤ ((rdOf ByteArray.empty x3 x7).size : Int) then (spec_BlockValue.l1 k (x3.set (x7 : Int).toNat ((rdOf ByteArray.empty x3 x7).extract 0 (rdOf ByteArray.empty x3 x7).size)) x4 (wrap64 (x7 + 1))) else (none)) else (none)) else (none)) else (if 0 ≤ x7 then (if x7 < (x3.length : Int) then (if 0 ≤ x8 then (if x8 ≤ ((rdOf ByteArray.empty x3 x7).size : Int) then (spec_BlockValue.l1 k (x3.set (x7 : Int).toNat ((rdOf ByteArray.empty x3 x7).extract (x8 : Int).toNat (rdOf ByteArray.empty x3 x7).size)) x4 (wrap64 (x7 + 1))) else (none)) else (none)) else (none)) else (none)))
def spec_BlockValue.j4 : Nat → List ByteArray → Int → Option (ByteArray)
  | 0, _, _ => none
  | k + 1, x3, x9 => spec_BlockValue.l3 k x3 x9 (x3.length : Int)
def spec_BlockValue.j6 : Nat → List ByteArray → Int → Int → Option (ByteArray)
  | 0, _, _, _ => none
  | k + 1, x3, x9, x10 => spec_BlockValue.l4 k x3 x9 x10 (([] : List Int)) x9
def spec_BlockValue.l4 : Nat → List ByteArray → Int → Int → List Int → Int → Option (ByteArray)
  | 0, _, _, _, _, _ => none
  | k + 1, x3, x9, x10, x11, x12 => if x12 < x10 then (if x12 > x9 then (if x11.length < 140737488355328 then ((some (x11 ++ [10] : List Int)).bind fun y180 => (if 0 ≤ x12 then (if x12 < (x3.length : Int) then (if y180.length + (rdOf ByteArray.empty x3 x12).size < 140737488355328 then (spec_BlockValue.l4 k x3 x9 x10 (y180 ++ bytesOf (rdOf ByteArray.empty x3 x12)) (wrap64 (x12 + 1))) else (none)) else (none)) else (none))) else (none)) else (if 0 ≤ x12 then (if x12 < (x3.length : Int) then (if x11.length + (rdOf ByteArray.empty x3 x12).size < 140737488355328 then (spec_BlockValue.l4 k x3 x9 x10 (x11 ++ bytesOf (rdOf ByteArray.empty x3 x12)) (wrap64 (x12 + 1))) else (none)) else (none)) else (none))) else (some (strOfNums x11))
def spec_BlockValue.l3 : Nat → List ByteArray → Int → Int → Option (ByteArray)
  | 0, _, _, _ => none
  | k + 1, x3, x9, x10 => if x10 > x9 then (if 0 ≤ (wrap64 (x10 - 1)) then (if (wrap64 (x10 - 1)) < (x3.length : Int) then ((spec_Indent.f k (rdOf ByteArray.empty x3 (wrap64 (x10 - 1)))).bind fun t175 => (if t175 = ((rdOf ByteArray.empty x3 (wrap64 (x10 - 1))).size : Int) then (spec_BlockValue.l3 k x3 x9 (wrap64 (x10 - 1))) else (spec_BlockValue.j6 k x3 x9 x10))) else (none)) else (none)) else (spec_BlockValue.j6 k x3 x9 x10)
def spec_BlockValue.l2 : Nat → List ByteArray → Int → Option (ByteArray)
  | 0, _, _ => none
  | k + 1, x3, x9 => if x9 < (x3.length : Int) then (if 0 ≤ x9 then ((spec_Indent.f k (rdOf ByteArray.empty x3 x9)).bind fun t172 => (if t172 = ((rdOf ByteArray.empty x3 x9).size : Int) then (spec_BlockValue.l2 k x3 (wrap64 (x9 + 1))) else (spec_BlockValue.j4 k x3 x9))) else (none)) else (spec_BlockValue.j4 k x3 x9)
end
def spec_BlockValue.f (k : Nat) (a0 : ByteArray) : Option (ByteArray) := (spec_LinesIn.f k a0).bind fun t155 => (spec_BlockValue.l0 k t155 (-1) 1)
theorem spec_BlockValue.mono_l : ∀ k, (∀ y0 y1 y2, LeO (spec_BlockValue.l0 k y0 y1 y2) (spec_BlockValue.l0 (k + 1) y0 y1 y2)) ∧ (∀ y0 y1 y2, LeO (spec_BlockValue.l1 k y0 y1 y2) (spec_BlockValue.l1 (k + 1) y0 y1 y2)) ∧ (∀ y0 y1 y2 y3 y4, LeO (spec_BlockValue.j2 k y0 y1 y2 y3 y4) (spec_BlockValue.j2 (k + 1) y0 y1 y2 y3 y4)) ∧ (∀ y0 y1, LeO (spec_BlockValue.j4 k y0 y1) (spec_BlockValue.j4 (k + 1) y0 y1)) ∧ (∀ y0 y1 y2, LeO (spec_BlockValue.j6 k y0 y1 y2) (spec_BlockValue.j6 (k + 1) y0 y1 y2)) ∧ (∀ y0 y1 y2 y3 y4, LeO (spec_BlockValue.l4 k y0 y1 y2 y3 y4) (spec_BlockValue.l4 (k + 1) y0 y1 y2 y3 y4)) ∧ (∀ y0 y1 y2, LeO (spec_BlockValue.l3 k y0 y1 y2) (spec_BlockValue.l3 (k + 1) y0 y1 y2)) ∧ (∀ y0 y1, LeO (spec_BlockValue.l2 k y0 y1) (spec_BlockValue.l2 (k + 1) y0 y1))
  | 0 => ⟨fun _ _ _ r h => by simp [spec_BlockValue.l0] at h, fun _ _ _ r h => by simp [spec_BlockValue.l1] at h, fun _ _ _ _ _ r h => by simp [spec_BlockValue.j2] at h, fun _ _ r h => by simp [spec_BlockValue.j4] at h, fun _ _ _ r h => by simp [spec_BlockValue.j6] at h, fun _ _ _ _ _ r h => by simp [spec_BlockValue.l4] at h, fun _ _ _ r h => by simp [spec_BlockValue.l3] at h, fun _ _ r h => by simp [spec_BlockValue.l2] at h⟩
  | k + 1 => by
    obtain ⟨ih0, ih1, ih2, ih3, ih4, ih5, ih6, ih7⟩ := spec_BlockValue.mono_l k
    refine ⟨?_, ?_, ?_, ?_, ?_, ?_, ?_, ?_⟩
    · intro y0 y1 y2
      unfold spec_BlockValue.l0
      repeat' first
      | (with_reducible exact ih0 _ _ _)
      | (with_reducible exact ih1 _ _ _)
      | (with_reducible exact ih2 _ _ _ _ _)
      | (with_reducible exact ih3 _ _)
      | (with_reducible exact ih4 _ _ _)
      | (with_reducible exact ih5 _ _ _ _ _)
      | (with_reducible exact ih6 _ _ _)
      | (with_reducible exact ih7 _ _)
      | (with_reducible exact spec_Indent.mono _ _)
      | (with_reducible exact spec_LinesIn.mono _ _)
      | (with_reducible exact LeO.refl _)
      | (with_reducible exact LeO.none _)
      | (with_reducible refine LeO.ite ?_ ?_)
      | (with_reducible refine LeO.bind ?_ (fun _ => ?_))
      | exact ih0 _ _ _
      | exact ih1 _ _ _
      | exact ih2 _ _ _ _ _
      | exact ih3 _ _
      | exact ih4 _ _ _
      | exact ih5 _ _ _ _ _
      | exact ih6 _ _ _
      | exact ih7 _ _
      | exact spec_Indent.mono _ _
      | exact spec_LinesIn.mono _ _
      | exact LeO.none _
      | refine LeO.ite ?_ ?_
      | refine LeO.bind ?_ (fun _ => ?_)
    · intro y0 y1 y2
      unfold spec_BlockValue.l1
      repeat' first
      | (with_reducible exact ih0 _ _ _)
      | (with_reducible exact ih1 _ _ _)
      | (with_reducible exact ih2 _ _ _ _ _)
      | (with_reducible exact ih3 _ _)
      | (with_reducible exact ih4 _ _ _)
      | (with_reducible exact ih5 _ _ _ _ _)
      | (with_reducible exact ih6 _ _ _)
      | (with_reducible exact ih7 _ _)
      | (with_reducible exact spec_Indent.mono _ _)
      | (with_reducible exact spec_LinesIn.mono _ _)
      | (with_reducible exact LeO.refl _)
      | (with_reducible exact LeO.none _)
      | (with_reducible refine LeO.ite ?_ ?_)
      | (with_reducible refine LeO.bind ?_ (fun _ => ?_))
      | exact ih0 _ _ _
      | exact ih1 _ _ _
      | exact ih2 _ _ _ _ _
      | exact ih3 _ _
      | exact ih4 _ _ _
      | exact ih5 _ _ _ _ _
      | exact ih6 _ _ _
      | exact ih7 _ _
      | exact spec_Indent.mono _ _
      | exact spec_LinesIn.mono _ _
      | exact LeO.none _
      | refine LeO.ite ?_ ?_
      | refine LeO.bind ?_ (fun _ => ?_)
    · intro y0 y1 y2 y3 y4
      unfold spec_BlockValue.j2
      repeat' first
      | (with_reducible exact ih0 _ _ _)
      | (with_reducible exact ih1 _ _ _)
      | (with_reducible exact ih2 _ _ _ _ _)
      | (with_reducible exact ih3 _ _)
      | (with_reducible exact ih4 _ _ _)
      | (with_reducible exact ih5 _ _ _ _ _)
      | (with_reducible exact ih6 _ _ _)
      | (with_reducible exact ih7 _ _)
      | (with_reducible exact spec_Indent.mono _ _)
      | (with_reducible exact spec_LinesIn.mono _ _)
      | (with_reducible exact LeO.refl _)
      | (with_reducible exact LeO.none _)
      | (with_reducible refine LeO.ite ?_ ?_)
      | (with_reducible refine LeO.bind ?_ (fun _ => ?_))
      | exact ih0 _ _ _
      | exact ih1 _ _ _
      | exact ih2 _ _ _ _ _
      | exact ih3 _ _
      | exact ih4 _ _ _
      | exact ih5 _ _ _ _ _
      | exact ih6 _ _ _
      | exact ih7 _ _
      | exact spec_Indent.mono _ _
      | exact spec_LinesIn.mono _ _
      | exact LeO.none _
      | refine LeO.ite ?_ ?_
      | refine LeO.bind ?_ (fun _ => ?_)
    · intro y0 y1
      unfold spec_BlockValue.j4
      repeat' first
      | (with_reducible exact ih0 _ _ _)
      | (with_reducible exact ih1 _ _ _)
      | (with_reducible exact ih2 _ _ _ _ _)
      | (with_reducible exact ih3 _ _)
      | (with_reducible exact ih4 _ _ _)
      | (with_reducible exact ih5 _ _ _ _ _)
      | (with_reducible exact ih6 _ _ _)
      | (with_reducible exact ih7 _ _)
      | (with_reducible exact spec_Indent.mono _ _)
      | (with_reducible exact spec_LinesIn.mono _ _)
      | (with_reducible exact LeO.refl _)
      | (with_reducible exact LeO.none _)
      | (with_reducible refine LeO.ite ?_ ?_)
      | (with_reducible refine LeO.bind ?_ (fun _ => ?_))
      | exact ih0 _ _ _
      | exact ih1 _ _ _
      | exact ih2 _ _ _ _ _
      | exact ih3 _ _
      | exact ih4 _ _ _
      | exact ih5 _ _ _ _ _
      | exact ih6 _ _ _
      | exact ih7 _ _
      | exact spec_Indent.mono _ _
      | exact spec_LinesIn.mono _ _
      | exact LeO.none _
      | refine LeO.ite ?_ ?_
      | refine LeO.bind ?_ (fun _ => ?_)
    · intro y0 y1 y2
      unfold spec_BlockValue.j6
      repeat' first
      | (with_reducible exact ih0 _ _ _)
      | (with_reducible exact ih1 _ _ _)
      | (with_reducible exact ih2 _ _ _ _ _)
      | (with_reducible exact ih3 _ _)
      | (with_reducible exact ih4 _ _ _)
      | (with_reducible exact ih5 _ _ _ _ _)
      | (with_reducible exact ih6 _ _ _)
      | (with_reducible exact ih7 _ _)
      | (with_reducible exact spec_Indent.mono _ _)
      | (with_reducible exact spec_LinesIn.mono _ _)
      | (with_reducible exact LeO.refl _)
      | (with_reducible exact LeO.none _)
      | (with_reducible refine LeO.ite ?_ ?_)
      | (with_reducible refine LeO.bind ?_ (fun _ => ?_))
      | exact ih0 _ _ _
      | exact ih1 _ _ _
      | exact ih2 _ _ _ _ _
      | exact ih3 _ _
      | exact ih4 _ _ _
      | exact ih5 _ _ _ _ _
      | exact ih6 _ _ _
      | exact ih7 _ _
      | exact spec_Indent.mono _ _
      | exact spec_LinesIn.mono _ _
      | exact LeO.none _
      | refine LeO.ite ?_ ?_
      | refine LeO.bind ?_ (fun _ => ?_)
    · intro y0 y1 y2 y3 y4
      unfold spec_BlockValue.l4
      repeat' first
      | (with_reducible exact ih0 _ _ _)
      | (with_reducible exact ih1 _ _ _)
      | (with_reducible exact ih2 _ _ _ _ _)
      | (with_reducible exact ih3 _ _)
      | (with_reducible exact ih4 _ _ _)
      | (with_reducible exact ih5 _ _ _ _ _)
      | (with_reducible exact ih6 _ _ _)
      | (with_reducible exact ih7 _ _)
      | (with_reducible exact spec_Indent.mono _ _)
      | (with_reducible exact spec_LinesIn.mono _ _)
      | (with_reducible exact LeO.refl _)
      | (with_reducible exact LeO.none _)
      | (with_reducible refine LeO.ite ?_ ?_)
      | (with_reducible refine LeO.bind ?_ (fun _ => ?_))
      | exact ih0 _ _ _
      | exact ih1 _ _ _
      | exact ih2 _ _ _ _ _
      | exact ih3 _ _
      | exact ih4 _ _ _
      | exact ih5 _ _ _ _ _
      | exact ih6 _ _ _
      | exact ih7 _ _
      | exact spec_Indent.mono _ _
      | exact spec_LinesIn.mono _ _
      | exact LeO.none _
      | refine LeO.ite ?_ ?_
      | refine LeO.bind ?_ (fun _ => ?_)
    · intro y0 y1 y2
      unfold spec_BlockValue.l3
      repeat' first
      | (with_reducible exact ih0 _ _ _)
      | (with_reducible exact ih1 _ _ _)
      | (with_reducible exact ih2 _ _ _ _ _)
      | (with_reducible exact ih3 _ _)
      | (with_reducible exact ih4 _ _ _)
      | (with_reducible exact ih5 _ _ _ _ _)
      | (with_reducible exact ih6 _ _ _)
      | (with_reducible exact ih7 _ _)
      | (with_reducible exact spec_Indent.mono _ _)
      | (with_reducible exact spec_LinesIn.mono _ _)
      | (with_reducible exact LeO.refl _)
      | (with_reducible exact LeO.none _)
      | (with_reducible refine LeO.ite ?_ ?_)
      | (with_reducible refine LeO.bind ?_ (fun _ => ?_))
      | exact ih0 _ _ _
      | exact ih1 _ _ _
      | exact ih2 _ _ _ _ _
      | exact ih3 _ _
      | exact ih4 _ _ _
      | exact ih5 _ _ _ _ _
      | exact ih6 _ _ _
      | exact ih7 _ _
      | exact spec_Indent.mono _ _
      | exact spec_LinesIn.mono _ _
      | exact LeO.none _
      | refine LeO.ite ?_ ?_
      | refine LeO.bind ?_ (fun _ => ?_)
    · intro y0 y1
      unfold spec_BlockValue.l2
      repeat' first
      | (with_reducible exact ih0 _ _ _)
      | (with_reducible exact ih1 _ _ _)
      | (with_reducible exact ih2 _ _ _ _ _)
      | (with_reducible exact ih3 _ _)
      | (with_reducible exact ih4 _ _ _)
      | (with_reducible exact ih5 _ _ _ _ _)
      | (with_reducible exact ih6 _ _ _)
      | (with_reducible exact ih7 _ _)
      | (with_reducible exact spec_Indent.mono _ _)
      | (with_reducible exact spec_LinesIn.mono _ _)
      | (with_reducible exact LeO.refl _)
      | (with_reducible exact LeO.none _)
      | (with_reducible refine LeO.ite ?_ ?_)
      | (with_reducible refine LeO.bind ?_ (fun _ => ?_))
      | exact ih0 _ _ _
      | exact ih1 _ _ _
      | exact ih2 _ _ _ _ _
      | exact ih3 _ _
      | exact ih4 _ _ _
      | exact ih5 _ _ _ _ _
      | exact ih6 _ _ _
      | exact ih7 _ _
      | exact spec_Indent.mono _ _
      | exact spec_LinesIn.mono _ _
      | exact LeO.none _
      | refine LeO.ite ?_ ?_
      | refine LeO.bind ?_ (fun _ => ?_)
theorem spec_BlockValue.mono : ∀ a0 k, LeO (spec_BlockValue.f k a0) (spec_BlockValue.f (k + 1) a0) := by
  intro a0 k
  obtain ⟨ih0, ih1, ih2, ih3, ih4, ih5, ih6, ih7⟩ := spec_BlockValue.mono_l k
  unfold spec_BlockValue.f
  repeat' first
      | (with_reducible exact ih0 _ _ _)
      | (with_reducible exact ih1 _ _ _)
      | (with_reducible exact ih2 _ _ _ _ _)
      | (with_reducible exact ih3 _ _)
      | (with_reducible exact ih4 _ _ _)
      | (with_reducible exact ih5 _ _ _ _ _)
      | (with_reducible exact ih6 _ _ _)
      | (with_reducible exact ih7 _ _)
      | (with_reducible exact spec_Indent.mono _ _)
      | (with_reducible exact spec_LinesIn.mono _ _)
      | (with_reducible exact LeO.refl _)
      | (with_reducible exact LeO.none _)
      | (with_reducible refine LeO.ite ?_ ?_)
      | (with_reducible refine LeO.bind ?_ (fun _ => ?_))
      | exact ih0 _ _ _
      | exact ih1 _ _ _
      | exact ih2 _ _ _ _ _
      | exact ih3 _ _
      | exact ih4 _ _ _
      | exact ih5 _ _ _ _ _
      | exact ih6 _ _ _
      | exact ih7 _ _
      | exact spec_Indent.mono _ _
      | exact spec_LinesIn.mono _ _
      | exact LeO.none _
      | refine LeO.ite ?_ ?_
      | refine LeO.bind ?_ (fun _ => ?_)
set_option maxHeartbeats 8000000 in
set_option maxRecDepth 100000 in
theorem spec_BlockValue.calls (k : Nat) (a0 : ByteArray) (r : ByteArray) (w : World) (h : spec_BlockValue.f k a0 = some r) :
    Calls Tryd.prog 20 #[.string a0] w fun e w' => e = .returned (.string r) ∧ Below w.heap.size w w' := by
  have HB := Aside0.mk (Below.refl w.heap.size w)
  have H : ((spec_LinesIn.f k a0).bind fun t155 => (spec_BlockValue.l0 k t155 (-1) 1)) = some r := h
  clear h
  replace H := Option.bind_eq_some_iff.mp H
  obtain ⟨t155, A20, H⟩ := H
  replace H : (spec_BlockValue.l0 k t155 (-1) 1) = some r := H
  have A2 := Aside0.mk A20
  clear A20
  have H' := Aside0.mk H
  clear H
  go_enter Tryd.func20, Tryd.ntmps20
  go_wp2_with (first | (go_at_call 16; (with_reducible refine (spec_LinesIn.calls k a0 t155 _ A2.out).mono ?_); rintro e w3 ⟨v156, rfl, ho0, hb⟩; have n0_ := Aside0.mk (Kd.R_lower ho0 (below_size (by repeat (first | (with_reducible first | exact HB.out | apply below_alloc | apply pw_below_drewN | apply below_drew1) | exact HB.out)))); have n1_ := Aside0.mk (below_step (by repeat (first | (with_reducible first | exact HB.out | apply below_alloc | apply pw_below_drewN | apply below_drew1) | exact HB.out)) hb); clear HB; have HO157 := n0_; have HB := n1_; clear n0_ n1_; (try clear hb); (try clear hb2); (try clear hk); (try clear hi); (try clear ho0)))
  repeat (go_quiet (first | (go_at_call 16; (with_reducible refine (spec_LinesIn.calls k a0 t155 _ A2.out).mono ?_); rintro e w3 ⟨v156, rfl, ho0, hb⟩; have n0_ := Aside0.mk (Kd.R_lower ho0 (below_size (by repeat (first | (with_reducible first | exact HB.out | apply below_alloc | apply pw_below_drewN | apply below_drew1) | exact HB.out)))); have n1_ := Aside0.mk (below_step (by repeat (first | (with_reducible first | exact HB.out | apply below_alloc | apply pw_below_drewN | apply below_drew1) | exact HB.out)) hb); clear HB; have HO157 := n0_; have HB := n1_; clear n0_ n1_; (try clear hb); (try clear hb2); (try clear hk); (try clear hi); (try clear ho0))); try go_wp2_with (first | (go_at_call 16; (with_reducible refine (spec_LinesIn.calls k a0 t155 _ A2.out).mono ?_); rintro e w3 ⟨v156, rfl, ho0, hb⟩; have n0_ := Aside0.mk (Kd.R_lower ho0 (below_size (by repeat (first | (with_reducible first | exact HB.out | apply below_alloc | apply pw_below_drewN | apply below_drew1) | exact HB.out)))); have n1_ := Aside0.mk (below_step (by repeat (first | (with_reducible first | exact HB.out | apply below_alloc | apply pw_below_drewN | apply below_drew1) | exact HB.out)) hb); clear HB; have HO157 := n0_; have HB := n1_; clear n0_ n1_; (try clear hb); (try clear hb2); (try clear hk); (try clear hi); (try clear ho0))))
  go_loopg [4, 5] k (fun kq v4 v5 w' => ∃ (x4_1 : Int) (x5_1 : Int), v4 = .int .i64 x4_1 ∧ v5 = .int .i64 x5_1 ∧ Aside0 (spec_BlockValue.l0 kq t155 x4_1 x5_1 = some r) ∧ Aside0 (kq ≤ k) ∧ Aside0 (Kd.R Kd.string 9 w' w.heap.size (fun _ => True) v156 t155) ∧ Aside0 (Below w.heap.size w w'))
  case atStart => exact ⟨((-1)), (1), (by first | rfl | (simp; done) | (simp [*]; done) | (simp [show ∀ l_ : List UInt8, (l_ != []) = !l_.isEmpty from fun l_ => by cases l_ <;> rfl, show ∀ l_ : List UInt8, (l_ == []) = l_.isEmpty from fun l_ => by cases l_ <;> rfl]; done)), (by first | rfl | (simp; done) | (simp [*]; done) | (simp [show ∀ l_ : List UInt8, (l_ != []) = !l_.isEmpty from fun l_ => by cases l_ <;> rfl, show ∀ l_ : List UInt8, (l_ == []) = l_.isEmpty from fun l_ => by cases l_ <;> rfl]; done)), H', ⟨Nat.le_refl _⟩, ⟨by (with_reducible repeat (first | apply Kd.R_alloc | apply Kd.R_drewN | apply Kd.R_drew)); exact HO157.out⟩, ⟨by repeat (first | (with_reducible first | exact HB.out | apply below_alloc | apply pw_below_drewN | apply below_drew1) | exact HB.out)⟩⟩
  case round =>
    clear H'
    try clear c2
    try clear p2
    obtain ⟨x4_1, x5_1, rfl, rfl, HA, HK1, HO_3, HB⟩ := hrel
    cases gk with
    | zero => exact absurd HA.out (by simp [spec_BlockValue.l0])
    | succ k1 =>
      have H := HA.out
      clear HA
      simp only [spec_BlockValue.l0] at H
      by_cases c4 : x5_1 < (t155.length : Int)
      · rw [if_pos c4] at H
        have c4b0 : decide (x5_1 < (t155.length : Int)) = true := decide_eq_true c4
        clear c4
        by_cases c5 : 0 ≤ x5_1
        · rw [if_pos c5] at H
          have c5b0 : decide (0 ≤ x5_1) = true := decide_eq_true c5
          clear c5
          replace H := Option.bind_eq_some_iff.mp H
          obtain ⟨t159, A60, H⟩ := H
          replace H : (if t159 < ((rdOf ByteArray.empty t155 x5_1).size : Int) then (if x4_1 < 0 then (spec_BlockValue.l0 k1 t155 t159 (wrap64 (x5_1 + 1))) else (if t159 < x4_1 then (spec_BlockValue.l0 k1 t155 t159 (wrap64 (x5_1 + 1))) else (spec_BlockValue.l0 k1 t155 x4_1 (wrap64 (x5_1 + 1))))) else (spec_BlockValue.l0 k1 t155 x4_1 (wrap64 (x5_1 + 1)))) = some r := H
          have A6 := Aside0.mk A60
          clear A60
          by_cases c7 : t159 < ((rdOf ByteArray.empty t155 x5_1).size : Int)
          · rw [if_pos c7] at H
            have c7b0 : decide (t159 < ((rdOf ByteArray.empty t155 x5_1).size : Int)) = true := decide_eq_true c7
            clear c7
            by_cases c8 : x4_1 < 0
            · rw [if_pos c8] at H
              have c8b0 : decide (x4_1 < 0) = true := decide_eq_true c8
              clear c8
              have H' := Aside0.mk H
              clear H
              obtain ⟨Ao9, co9, eo9⟩ := Kd.R_slice HO_3.out
              subst eo9
              have p158 : 0 ≤ (x5_1 : Int) := of_decide_eq_true (by first | (with_reducible assumption) | assumption)
              have q158 : x5_1 < (t155.length : Int) := of_decide_eq_true (by first | (with_reducible assumption) | assumption)
              obtain ⟨ad158, e158, hx158_0⟩ := Kd.at_string (Kd.R_reads' HO_3.out).2.2 x5_1 p158 q158
              cases e158
              replace p158 := eq_true p158
              replace q158 := eq_true q158
              go_wp2_with (first | (go_at_call 22; (with_reducible refine (spec_Indent.calls k1 (rdOf ByteArray.empty t155 x5_1) t159 _ A6.out).mono ?_); rintro e w' ⟨rfl, ⟨nd, rfl⟩⟩; (try first | exact ⟨rfl, _, World.drewN_drewN _ _ _⟩ | exact ⟨rfl, _, Eq.trans (World.drewN_drewN _ _ _) (congrArg (World.drewN _) (Nat.add_assoc _ _ _))⟩); have p160 : 0 ≤ (x5_1 : Int) := of_decide_eq_true (by first | (with_reducible assumption) | assumption); have q160 : x5_1 < (t155.length : Int) := of_decide_eq_true (by first | (with_reducible assumption) | assumption); obtain ⟨ad160, e160, hx160_0⟩ := Kd.at_string (Kd.R_reads' HO_3.out).2.2 x5_1 p160 q160; obtain rfl : ad158 = ad160 := (by injection e160); replace p160 := eq_true p160; replace q160 := eq_true q160))
              repeat (go_quiet (first | (go_at_call 22; (with_reducible refine (spec_Indent.calls k1 (rdOf ByteArray.empty t155 x5_1) t159 _ A6.out).mono ?_); rintro e w' ⟨rfl, ⟨nd, rfl⟩⟩; (try first | exact ⟨rfl, _, World.drewN_drewN _ _ _⟩ | exact ⟨rfl, _, Eq.trans (World.drewN_drewN _ _ _) (congrArg (World.drewN _) (Nat.add_assoc _ _ _))⟩); have p160 : 0 ≤ (x5_1 : Int) := of_decide_eq_true (by first | (with_reducible assumption) | assumption); have q160 : x5_1 < (t155.length : Int) := of_decide_eq_true (by first | (with_reducible assumption) | assumption); obtain ⟨ad160, e160, hx160_0⟩ := Kd.at_string (Kd.R_reads' HO_3.out).2.2 x5_1 p160 q160; obtain rfl : ad158 = ad160 := (by injection e160); replace p160 := eq_true p160; replace q160 := eq_true q160)); try go_wp2_with (first | (go_at_call 22; (with_reducible refine (spec_Indent.calls k1 (rdOf ByteArray.empty t155 x5_1) t159 _ A6.out).mono ?_); rintro e w' ⟨rfl, ⟨nd, rfl⟩⟩; (try first | exact ⟨rfl, _, World.drewN_drewN _ _ _⟩ | exact ⟨rfl, _, Eq.trans (World.drewN_drewN _ _ _) (congrArg (World.drewN _) (Nat.add_assoc _ _ _))⟩); have p160 : 0 ≤ (x5_1 : Int) := of_decide_eq_true (by first | (with_reducible assumption) | assumption); have q160 : x5_1 < (t155.length : Int) := of_decide_eq_true (by first | (with_reducible assumption) | assumption); obtain ⟨ad160, e160, hx160_0⟩ := Kd.at_string (Kd.R_reads' HO_3.out).2.2 x5_1 p160 q160; obtain rfl : ad158 = ad160 := (by injection e160); replace p160 := eq_true p160; replace q160 := eq_true q160)))
              go_roundg k1
              case measure => have := HK1.out; omega
              case rel => exact ⟨(t159), (wrap64 (x5_1 + 1)), (by first | rfl | (simp; done) | (simp [*]; done) | (simp [show ∀ l_ : List UInt8, (l_ != []) = !l_.isEmpty from fun l_ => by cases l_ <;> rfl, show ∀ l_ : List UInt8, (l_ == []) = l_.isEmpty from fun l_ => by cases l_ <;> rfl]; done)), (by first | rfl | (simp; done) | (simp [*]; done) | (simp [show ∀ l_ : List UInt8, (l_ != []) = !l_.isEmpty from fun l_ => by cases l_ <;> rfl, show ∀ l_ : List UInt8, (l_ == []) = l_.isEmpty from fun l_ => by cases l_ <;> rfl]; done)), H', ⟨by have := HK1.out; omega⟩, ⟨by (with_reducible repeat (first | apply Kd.R_alloc | apply Kd.R_drewN | apply Kd.R_drew)); exact HO_3.out⟩, ⟨by repeat (first | (with_reducible first | exact HB.out | apply below_alloc | apply pw_below_drewN | apply below_drew1) | exact HB.out)⟩⟩
            · rw [if_neg c8] at H
              have c8b0 : decide (x4_1 < 0) = false := decide_eq_false c8
              clear c8
              by_cases c10 : t159 < x4_1
              · rw [if_pos c10] at H
                have c10b0 : decide (t159 < x4_1) = true := decide_eq_true c10
                clear c10
                have H' := Aside0.mk H
                clear H
                obtain ⟨Ao11, co11, eo11⟩ := Kd.R_slice HO_3.out
                subst eo11
                have p158 : 0 ≤ (x5_1 : Int) := of_decide_eq_true (by first | (with_reducible assumption) | assumption)
                have q158 : x5_1 < (t155.length : Int) := of_decide_eq_true (by first | (with_reducible assumption) | assumption)
                obtain ⟨ad158, e158, hx158_0⟩ := Kd.at_string (Kd.R_reads' HO_3.out).2.2 x5_1 p158 q158
                cases e158
                replace p158 := eq_true p158
                replace q158 := eq_true q158
                go_wp2_with (first | (go_at_call 22; (with_reducible refine (spec_Indent.calls k1 (rdOf ByteArray.empty t155 x5_1) t159 _ A6.out).mono ?_); rintro e w' ⟨rfl, ⟨nd, rfl⟩⟩; (try first | exact ⟨rfl, _, World.drewN_drewN _ _ _⟩ | exact ⟨rfl, _, Eq.trans (World.drewN_drewN _ _ _) (congrArg (World.drewN _) (Nat.add_assoc _ _ _))⟩); have p160 : 0 ≤ (x5_1 : Int) := of_decide_eq_true (by first | (with_reducible assumption) | assumption); have q160 : x5_1 < (t155.length : Int) := of_decide_eq_true (by first | (with_reducible assumption) | assumption); obtain ⟨ad160, e160, hx160_0⟩ := Kd.at_string (Kd.R_reads' HO_3.out).2.2 x5_1 p160 q160; obtain rfl : ad158 = ad160 := (by injection e160); replace p160 := eq_true p160; replace q160 := eq_true q160))
                repeat (go_quiet (first | (go_at_call 22; (with_reducible refine (spec_Indent.calls k1 (rdOf ByteArray.empty t155 x5_1) t159 _ A6.out).mono ?_); rintro e w' ⟨rfl, ⟨nd, rfl⟩⟩; (try first | exact ⟨rfl, _, World.drewN_drewN _ _ _⟩ | exact ⟨rfl, _, Eq.trans (World.drewN_drewN _ _ _) (congrArg (World.drewN _) (Nat.add_assoc _ _ _))⟩); have p160 : 0 ≤ (x5_1 : Int) := of_decide_eq_true (by first | (with_reducible assumption) | assumption); have q160 : x5_1 < (t155.length : Int) := of_decide_eq_true (by first | (with_reducible assumption) | assumption); obtain ⟨ad160, e160, hx160_0⟩ := Kd.at_string (Kd.R_reads' HO_3.out).2.2 x5_1 p160 q160; obtain rfl : ad158 = ad160 := (by injection e160); replace p160 := eq_true p160; replace q160 := eq_true q160)); try go_wp2_with (first | (go_at_call 22; (with_reducible refine (spec_Indent.calls k1 (rdOf ByteArray.empty t155 x5_1) t159 _ A6.out).mono ?_); rintro e w' ⟨rfl, ⟨nd, rfl⟩⟩; (try first | exact ⟨rfl, _, World.drewN_drewN _ _ _⟩ | exact ⟨rfl, _, Eq.trans (World.drewN_drewN _ _ _) (congrArg (World.drewN _) (Nat.add_assoc _ _ _))⟩); have p160 : 0 ≤ (x5_1 : Int) := of_decide_eq_true (by first | (with_reducible assumption) | assumption); have q160 : x5_1 < (t155.length : Int) := of_decide_eq_true (by first | (with_reducible assumption) | assumption); obtain ⟨ad160, e160, hx160_0⟩ := Kd.at_string (Kd.R_reads' HO_3.out).2.2 x5_1 p160 q160; obtain rfl : ad158 = ad160 := (by injection e160); replace p160 := eq_true p160; replace q160 := eq_true q160)))
                go_roundg k1
                case measure => have := HK1.out; omega
                case rel => exact ⟨(t159), (wrap64 (x5_1 + 1)), (by first | rfl | (simp; done) | (simp [*]; done) | (simp [show ∀ l_ : List UInt8, (l_ != []) = !l_.isEmpty from fun l_ => by cases l_ <;> rfl, show ∀ l_ : List UInt8, (l_ == []) = l_.isEmpty from fun l_ => by cases l_ <;> rfl]; done)), (by first | rfl | (simp; done) | (simp [*]; done) | (simp [show ∀ l_ : List UInt8, (l_ != []) = !l_.isEmpty from fun l_ => by cases l_ <;> rfl, show ∀ l_ : List UInt8, (l_ == []) = l_.isEmpty from fun l_ => by cases l_ <;> rfl]; done)), H', ⟨by have := HK1.out; omega⟩, ⟨by (with_reducible repeat (first | apply Kd.R_alloc | apply Kd.R_drewN | apply Kd.R_drew)); exact HO_3.out⟩, ⟨by repeat (first | (with_reducible first | exact HB.out | apply below_alloc | apply pw_below_drewN | apply below_drew1) | exact HB.out)⟩⟩
              · rw [if_neg c10] at H
                have c10b0 : decide (t159 < x4_1) = false := decide_eq_false c10
                clear c10
                have H' := Aside0.mk H
                clear H
                obtain ⟨Ao12, co12, eo12⟩ := Kd.R_slice HO_3.out
                subst eo12
                have p158 : 0 ≤ (x5_1 : Int) := of_decide_eq_true (by first | (with_reducible assumption) | assumption)
                have q158 : x5_1 < (t155.length : Int) := of_decide_eq_true (by first | (with_reducible assumption) | assumption)
                obtain ⟨ad158, e158, hx158_0⟩ := Kd.at_string (Kd.R_reads' HO_3.out).2.2 x5_1 p158 q158
                cases e158
                replace p158 := eq_true p158
                replace q158 := eq_true q158
                go_wp2_with (first | (go_at_call 22; (with_reducible refine (spec_Indent.calls k1 (rdOf ByteArray.empty t155 x5_1) t159 _ A6.out).mono ?_); rintro e w' ⟨rfl, ⟨nd, rfl⟩⟩; (try first | exact ⟨rfl, _, World.drewN_drewN _ _ _⟩ | exact ⟨rfl, _, Eq.trans (World.drewN_drewN _ _ _) (congrArg (World.drewN _) (Nat.add_assoc _ _ _))⟩); have p160 : 0 ≤ (x5_1 : Int) := of_decide_eq_true (by first | (with_reducible assumption) | assumption); have q160 : x5_1 < (t155.length : Int) := of_decide_eq_true (by first | (with_reducible assumption) | assumption); obtain ⟨ad160, e160, hx160_0⟩ := Kd.at_string (Kd.R_reads' HO_3.out).2.2 x5_1 p160 q160; obtain rfl : ad158 = ad160 := (by injection e160); replace p160 := eq_true p160; replace q160 := eq_true q160))
                repeat (go_quiet (first | (go_at_call 22; (with_reducible refine (spec_Indent.calls k1 (rdOf ByteArray.empty t155 x5_1) t159 _ A6.out).mono ?_); rintro e w' ⟨rfl, ⟨nd, rfl⟩⟩; (try first | exact ⟨rfl, _, World.drewN_drewN _ _ _⟩ | exact ⟨rfl, _, Eq.trans (World.drewN_drewN _ _ _) (congrArg (World.drewN _) (Nat.add_assoc _ _ _))⟩); have p160 : 0 ≤ (x5_1 : Int) := of_decide_eq_true (by first | (with_reducible assumption) | assumption); have q160 : x5_1 < (t155.length : Int) := of_decide_eq_true (by first | (with_reducible assumption) | assumption); obtain ⟨ad160, e160, hx160_0⟩ := Kd.at_string (Kd.R_reads' HO_3.out).2.2 x5_1 p160 q160; obtain rfl : ad158 = ad160 := (by injection e160); replace p160 := eq_true p160; replace q160 := eq_true q160)); try go_wp2_with (first | (go_at_call 22; (with_reducible refine (spec_Indent.calls k1 (rdOf ByteArray.empty t155 x5_1) t159 _ A6.out).mono ?_); rintro e w' ⟨rfl, ⟨nd, rfl⟩⟩; (try first | exact ⟨rfl, _, World.drewN_drewN _ _ _⟩ | exact ⟨rfl, _, Eq.trans (World.drewN_drewN _ _ _) (congrArg (World.drewN _) (Nat.add_assoc _ _ _))⟩); have p160 : 0 ≤ (x5_1 : Int) := of_decide_eq_true (by first | (with_reducible assumption) | assumption); have q160 : x5_1 < (t155.length : Int) := of_decide_eq_true (by first | (with_reducible assumption) | assumption); obtain ⟨ad160, e160, hx160_0⟩ := Kd.at_string (Kd.R_reads' HO_3.out).2.2 x5_1 p160 q160; obtain rfl : ad158 = ad160 := (by injection e160); replace p160 := eq_true p160; replace q160 := eq_true q160)))
                go_roundg k1
                case measure => have := HK1.out; omega
                case rel => exact ⟨(x4_1), (wrap64 (x5_1 + 1)), (by first | rfl | (simp; done) | (simp [*]; done) | (simp [show ∀ l_ : List UInt8, (l_ != []) = !l_.isEmpty from fun l_ => by cases l_ <;> rfl, show ∀ l_ : List UInt8, (l_ == []) = l_.isEmpty from fun l_ => by cases l_ <;> rfl]; done)), (by first | rfl | (simp; done) | (simp [*]; done) | (simp [show ∀ l_ : List UInt8, (l_ != []) = !l_.isEmpty from fun l_ => by cases l_ <;> rfl, show ∀ l_ : List UInt8, (l_ == []) = l_.isEmpty from fun l_ => by cases l_ <;> rfl]; done)), H', ⟨by have := HK1.out; omega⟩, ⟨by (with_reducible repeat (first | apply Kd.R_alloc | apply Kd.R_drewN | apply Kd.R_drew)); exact HO_3.out⟩, ⟨by repeat (first | (with_reducible first | exact HB.out | apply below_alloc | apply pw_below_drewN | apply below_drew1) | exact HB.out)⟩⟩
          · rw [if_neg c7] at H
            have c7b0 : decide (t159 < ((rdOf ByteArray.empty t155 x5_1).size : Int)) = false := decide_eq_false c7
            clear c7
            have H' := Aside0.mk H
            clear H
            obtain ⟨Ao13, co13, eo13⟩ := Kd.R_slice HO_3.out
            subst eo13
            have p158 : 0 ≤ (x5_1 : Int) := of_decide_eq_true (by first | (with_reducible assumption) | assumption)
            have q158 : x5_1 < (t155.length : Int) := of_decide_eq_true (by first | (with_reducible assumption) | assumption)
            obtain ⟨ad158, e158, hx158_0⟩ := Kd.at_string (Kd.R_reads' HO_3.out).2.2 x5_1 p158 q158
            cases e158
            replace p158 := eq_true p158
            replace q158 := eq_true q158
            go_wp2_with (first | (go_at_call 22; (with_reducible refine (spec_Indent.calls k1 (rdOf ByteArray.empty t155 x5_1) t159 _ A6.out).mono ?_); rintro e w' ⟨rfl, ⟨nd, rfl⟩⟩; (try first | exact ⟨rfl, _, World.drewN_drewN _ _ _⟩ | exact ⟨rfl, _, Eq.trans (World.drewN_drewN _ _ _) (congrArg (World.drewN _) (Nat.add_assoc _ _ _))⟩); have p160 : 0 ≤ (x5_1 : Int) := of_decide_eq_true (by first | (with_reducible assumption) | assumption); have q160 : x5_1 < (t155.length : Int) := of_decide_eq_true (by first | (with_reducible assumption) | assumption); obtain ⟨ad160, e160, hx160_0⟩ := Kd.at_string (Kd.R_reads' HO_3.out).2.2 x5_1 p160 q160; obtain rfl : ad158 = ad160 := (by injection e160); replace p160 := eq_true p160; replace q160 := eq_true q160))
            repeat (go_quiet (first | (go_at_call 22; (with_reducible refine (spec_Indent.calls k1 (rdOf ByteArray.empty t155 x5_1) t159 _ A6.out).mono ?_); rintro e w' ⟨rfl, ⟨nd, rfl⟩⟩; (try first | exact ⟨rfl, _, World.drewN_drewN _ _ _⟩ | exact ⟨rfl, _, Eq.trans (World.drewN_drewN _ _ _) (congrArg (World.drewN _) (Nat.add_assoc _ _ _))⟩); have p160 : 0 ≤ (x5_1 : Int) := of_decide_eq_true (by first | (with_reducible assumption) | assumption); have q160 : x5_1 < (t155.length : Int) := of_decide_eq_true (by first | (with_reducible assumption) | assumption); obtain ⟨ad160, e160, hx160_0⟩ := Kd.at_string (Kd.R_reads' HO_3.out).2.2 x5_1 p160 q160; obtain rfl : ad158 = ad160 := (by injection e160); replace p160 := eq_true p160; replace q160 := eq_true q160)); try go_wp2_with (first | (go_at_call 22; (with_reducible refine (spec_Indent.calls k1 (rdOf ByteArray.empty t155 x5_1) t159 _ A6.out).mono ?_); rintro e w' ⟨rfl, ⟨nd, rfl⟩⟩; (try first | exact ⟨rfl, _, World.drewN_drewN _ _ _⟩ | exact ⟨rfl, _, Eq.trans (World.drewN_drewN _ _ _) (congrArg (World.drewN _) (Nat.add_assoc _ _ _))⟩); have p160 : 0 ≤ (x5_1 : Int) := of_decide_eq_true (by first | (with_reducible assumption) | assumption); have q160 : x5_1 < (t155.length : Int) := of_decide_eq_true (by first | (with_reducible assumption) | assumption); obtain ⟨ad160, e160, hx160_0⟩ := Kd.at_string (Kd.R_reads' HO_3.out).2.2 x5_1 p160 q160; obtain rfl : ad158 = ad160 := (by injection e160); replace p160 := eq_true p160; replace q160 := eq_true q160)))
            go_roundg k1
            case measure => have := HK1.out; omega
            case rel => exact ⟨(x4_1), (wrap64 (x5_1 + 1)), (by first | rfl | (simp; done) | (simp [*]; done) | (simp [show ∀ l_ : List UInt8, (l_ != []) = !l_.isEmpty from fun l_ => by cases l_ <;> rfl, show ∀ l_ : List UInt8, (l_ == []) = l_.isEmpty from fun l_ => by cases l_ <;> rfl]; done)), (by first | rfl | (simp; done) | (simp [*]; done) | (simp [show ∀ l_ : List UInt8, (l_ != []) = !l_.isEmpty from fun l_ => by cases l_ <;> rfl, show ∀ l_ : List UInt8, (l_ == []) = l_.isEmpty from fun l_ => by cases l_ <;> rfl]; done)), H', ⟨by have := HK1.out; omega⟩, ⟨by (with_reducible repeat (first | apply Kd.R_alloc | apply Kd.R_drewN | apply Kd.R_drew)); exact HO_3.out⟩, ⟨by repeat (first | (with_reducible first | exact HB.out | apply below_alloc | apply pw_below_drewN | apply below_drew1) | exact HB.out)⟩⟩
        · rw [if_neg c5] at H
          exact absurd H (by simp)
      · rw [if_neg c4] at H
        have c4b0 : decide (x5_1 < (t155.length : Int)) = false := decide_eq_false c4
        clear c4
        have H' := Aside0.mk H
        clear H
        obtain ⟨Ao14, co14, eo14⟩ := Kd.R_slice HO_3.out
        subst eo14
        go_wp2
        repeat (go_quiet (fail); try go_wp2)
        go_loopg [7] k1 (fun kq v7 w' => ∃ (x3_2 : List ByteArray) (x7_2 : Int), v7 = .int .i64 x7_2 ∧ Aside0 (spec_BlockValue.l1 kq x3_2 x4_1 x7_2 = some r) ∧ Aside0 (kq ≤ k1) ∧ Aside0 (Kd.R Kd.string 9 w' w.heap.size (fun _ => True) (.slice Ao14 t155.length co14) x3_2) ∧ Aside0 (Below w.heap.size w w'))
        case atStart => exact ⟨(t155), (1), (by first | rfl | (simp; done) | (simp [*]; done) | (simp [show ∀ l_ : List UInt8, (l_ != []) = !l_.isEmpty from fun l_ => by cases l_ <;> rfl, show ∀ l_ : List UInt8, (l_ == []) = l_.isEmpty from fun l_ => by cases l_ <;> rfl]; done)), H', ⟨Nat.le_refl _⟩, ⟨by (with_reducible repeat (first | apply Kd.R_alloc | apply Kd.R_drewN | apply Kd.R_drew)); exact HO_3.out⟩, ⟨by repeat (first | (with_reducible first | exact HB.out | apply below_alloc | apply pw_below_drewN | apply below_drew1) | exact HB.out)⟩⟩
        case round =>
          clear H'
          try clear c1
          try clear p1
          try clear q1
          try clear hx1
          try clear c2
          try clear p2
          try clear c4
          try clear c4b0
          try clear c5
          try clear c5b0
          try clear p6
          try clear c7
          try clear c7b0
          try clear c8
          try clear c8b0
          try clear c10
          try clear c10b0
          try clear hx158_0
          try clear hx160_0
          try clear p158
          try clear p160
          try clear p2
          try clear q158
          try clear q160
          obtain ⟨x3_2, x7_2, rfl, HA, HK2, HO_3, HB⟩ := hrel
          have hl3_2 := (Kd.R_reads' HO_3.out).1
          rw [hl3_2] at HO_3
          (try simp only [hl3_2])
          cases gk with
          | zero => exact absurd HA.out (by simp [spec_BlockValue.l1])
          | succ k2 =>
            have H := HA.out
            clear HA
            simp only [spec_BlockValue.l1] at H
            by_cases c15 : x7_2 < (x3_2.length : Int)
            · rw [if_pos c15] at H
              have c15b0 : decide (x7_2 < (x3_2.length : Int)) = true := decide_eq_true c15
              clear c15
              by_cases c16 : 0 ≤ x7_2
              · rw [if_pos c16] at H
                have c16b0 : decide (0 ≤ x7_2) = true := decide_eq_true c16
                clear c16
                replace H := Option.bind_eq_some_iff.mp H
                obtain ⟨t162, A170, H⟩ := H
                replace H : (if x4_1 ≥ 0 then (spec_BlockValue.j2 k2 x3_2 x4_1 x7_2 t162 (decide (t162 > x4_1))) else (spec_BlockValue.j2 k2 x3_2 x4_1 x7_2 t162 false)) = some r := H
                have A17 := Aside0.mk A170
                clear A170
                have HC18 := Aside0.mk H
                clear H
                have p161 : 0 ≤ (x7_2 : Int) := of_decide_eq_true (by first | (with_reducible assumption) | assumption)
                have q161 : x7_2 < (x3_2.length : Int) := of_decide_eq_true (by first | (with_reducible assumption) | assumption)
                obtain ⟨ad161, e161, hx161_0⟩ := Kd.at_string (Kd.R_reads' HO_3.out).2.2 x7_2 p161 q161
                cases e161
                replace p161 := eq_true p161
                replace q161 := eq_true q161
                go_upto_region 13 with (first | (go_at_call 22; (with_reducible refine (spec_Indent.calls k2 (rdOf ByteArray.empty x3_2 x7_2) t162 _ A17.out).mono ?_); rintro e w' ⟨rfl, ⟨nd, rfl⟩⟩; (try first | exact ⟨rfl, _, World.drewN_drewN _ _ _⟩ | exact ⟨rfl, _, Eq.trans (World.drewN_drewN _ _ _) (congrArg (World.drewN _) (Nat.add_assoc _ _ _))⟩)))
                repeat (go_quiet (first | (go_at_call 22; (with_reducible refine (spec_Indent.calls k2 (rdOf ByteArray.empty x3_2 x7_2) t162 _ A17.out).mono ?_); rintro e w' ⟨rfl, ⟨nd, rfl⟩⟩; (try first | exact ⟨rfl, _, World.drewN_drewN _ _ _⟩ | exact ⟨rfl, _, Eq.trans (World.drewN_drewN _ _ _) (congrArg (World.drewN _) (Nat.add_assoc _ _ _))⟩))); go_upto_region 13 with (first | (go_at_call 22; (with_reducible refine (spec_Indent.calls k2 (rdOf ByteArray.empty x3_2 x7_2) t162 _ A17.out).mono ?_); rintro e w' ⟨rfl, ⟨nd, rfl⟩⟩; (try first | exact ⟨rfl, _, World.drewN_drewN _ _ _⟩ | exact ⟨rfl, _, Eq.trans (World.drewN_drewN _ _ _) (congrArg (World.drewN _) (Nat.add_assoc _ _ _))⟩))))
                (try simp only [Act.put, List.setIfInBounds_toArray, List.set_cons_zero, List.set_cons_succ])
                go_cut [60] (fun v60 wc => ∃ (kq : Nat) (x60_17 : Bool), v60 = .bool x60_17 ∧ Aside0 (spec_BlockValue.j2 kq x3_2 x4_1 x7_2 t162 x60_17 = some r) ∧ Aside0 (kq ≤ k2) ∧ Aside0 (Kd.R Kd.string 9 wc w.heap.size (fun _ => True) (.slice (some ad161) x3_2.length co14) x3_2) ∧ Aside0 (Below w.heap.size w wc))
                case first =>
                  have H := HC18.out
                  clear HC18
                  by_cases c19 : x4_1 ≥ 0
                  · rw [if_pos c19] at H
                    have c19b0 : decide (0 ≤ x4_1) = true := decide_eq_true c19
                    clear c19
                    (first | rw [c19b0] | (simp only [i64_w, i32_w]; rw [c19b0]) | skip)
                    have H' := Aside0.mk H
                    clear H
                    go_wp2
                    repeat (go_quiet (fail); try go_wp2)
                    go_meet
                    case rel => exact ⟨_, (decide (t162 > x4_1)), (by first | rfl | (simp; done) | (simp [*]; done) | (simp [show ∀ l_ : List UInt8, (l_ != []) = !l_.isEmpty from fun l_ => by cases l_ <;> rfl, show ∀ l_ : List UInt8, (l_ == []) = l_.isEmpty from fun l_ => by cases l_ <;> rfl]; done)), H', ⟨by have := HK1.out; have := HK2.out; first | omega | exact Nat.le_refl _⟩, ⟨by (try simp only [hl3_2]); (with_reducible repeat (first | apply Kd.R_alloc | apply Kd.R_drewN | apply Kd.R_drew)); exact HO_3.out⟩, ⟨by repeat (first | (with_reducible first | exact HB.out | apply below_alloc | apply pw_below_drewN | apply below_drew1) | exact HB.out)⟩⟩
                  · rw [if_neg c19] at H
                    have c19b0 : decide (0 ≤ x4_1) = false := decide_eq_false c19
                    clear c19
                    (first | rw [c19b0] | (simp only [i64_w, i32_w]; rw [c19b0]) | skip)
                    have H' := Aside0.mk H
                    clear H
                    go_wp2
                    repeat (go_quiet (fail); try go_wp2)
                    go_meet
                    case rel => exact ⟨_, (false), (by first | rfl | (simp; done) | (simp [*]; done) | (simp [show ∀ l_ : List UInt8, (l_ != []) = !l_.isEmpty from fun l_ => by cases l_ <;> rfl, show ∀ l_ : List UInt8, (l_ == []) = l_.isEmpty from fun l_ => by cases l_ <;> rfl]; done)), H', ⟨by have := HK1.out; have := HK2.out; first | omega | exact Nat.le_refl _⟩, ⟨by (try simp only [hl3_2]); (with_reducible repeat (first | apply Kd.R_alloc | apply Kd.R_drewN | apply Kd.R_drew)); exact HO_3.out⟩, ⟨by repeat (first | (with_reducible first | exact HB.out | apply below_alloc | apply pw_below_drewN | apply below_drew1) | exact HB.out)⟩⟩
                case rest =>
                  clear HC18
                  try clear c1
                  try clear p1
                  try clear q1
                  try clear hx1
                  try clear c2
                  try clear p2
                  try clear c4
                  try clear c4b0
                  try clear c5
                  try clear c5b0
                  try clear p6
                  try clear c7
                  try clear c7b0
                  try clear c8
                  try clear c8b0
                  try clear c10
                  try clear c10b0
                  try clear c15
                  try clear c15b0
                  try clear p15
                  try clear q15
                  try clear hx15
                  try clear c16
                  try clear c16b0
                  try clear p16
                  try clear q16
                  try clear hx16
                  try clear c19
                  try clear c19b0
                  try clear hx158_0
                  try clear hx160_0
                  try clear hx161_0
                  try clear p1
                  try clear p158
                  try clear p160
                  try clear p161
                  try clear p2
                  try clear p6
                  try clear q1
                  try clear q158
                  try clear q160
                  try clear q161
                  obtain ⟨kq, x60_17, rfl, HA, HJ17, HO_3, HB⟩ := hcut
                  cases kq with
                  | zero => exact absurd HA.out (by simp [spec_BlockValue.j2])
                  | succ kj17 =>
                    have H := HA.out
                    clear HA
                    simp only [spec_BlockValue.j2] at H
                    by_cases c20 : x60_17 = true
                    · subst c20
                      have H1 : (if x4_1 < 0 then (if 0 ≤ x7_2 then (if x7_2 < (x3_2.length : Int) then (if 0 ≤ ((rdOf ByteArray.empty x3_2 x7_2).size : Int) then (spec_BlockValue.l1 kj17 (x3_2.set (x7_2 : Int).toNat ((rdOf ByteArray.empty x3_2 x7_2).extract 0 (rdOf ByteArray.empty x3_2 x7_2).size)) x4_1 (wrap64 (x7_2 + 1))) else (none)) else (none)) else (none)) else (if 0 ≤ x7_2 then (if x7_2 < (x3_2.length : Int) then (if 0 ≤ x4_1 then (if x4_1 ≤ ((rdOf ByteArray.empty x3_2 x7_2).size : Int) then (spec_BlockValue.l1 kj17 (x3_2.set (x7_2 : Int).toNat ((rdOf ByteArray.empty x3_2 x7_2).extract (x4_1 : Int).toNat (rdOf ByteArray.empty x3_2 x7_2).size)) x4_1 (wrap64 (x7_2 + 1))) else (none)) else (none)) else (none)) else (none))) = some r := by rw [if_pos rfl] at H; exact H
                      clear H
                      have H := H1
                      clear H1
                      by_cases c21 : x4_1 < 0
                      · rw [if_pos c21] at H
                        have c21b0 : decide (x4_1 < 0) = true := decide_eq_true c21
                        clear c21
                        by_cases c22 : 0 ≤ x7_2
                        · rw [if_pos c22] at H
                          have c22b0 : decide (0 ≤ x7_2) = true := decide_eq_true c22
                          clear c22
                          by_cases c23 : x7_2 < (x3_2.length : Int)
                          · rw [if_pos c23] at H
                            have c23b0 : decide (x7_2 < (x3_2.length : Int)) = true := decide_eq_true c23
                            clear c23
                            by_cases c24 : 0 ≤ ((rdOf ByteArray.empty x3_2 x7_2).size : Int)
                            · rw [if_pos c24] at H
                              have c24b0 := eq_true c24
                              have c24b1 : decide (0 ≤ ((rdOf ByteArray.empty x3_2 x7_2).size : Int)) = true := decide_eq_true c24
                              clear c24
                              obtain ⟨y164, hy164⟩ : ∃ y_ : List ByteArray, y_ = (x3_2.set (x7_2 : Int).toNat ((rdOf ByteArray.empty x3_2 x7_2).extract 0 (rdOf ByteArray.empty x3_2 x7_2).size)) := ⟨_, rfl⟩
                              replace H : (spec_BlockValue.l1 kj17 y164 x4_1 (wrap64 (x7_2 + 1))) = some r := by first | (rw [hy164]; with_reducible exact H) | (have H2_ := (Option.bind_some _ _).symm.trans H; rw [hy164]; with_reducible exact H2_) | (have H2_ := (Option.bind_some _ _).symm.trans H; with_reducible exact H2_) | with_reducible exact H | (rw [hy164]; exact H) | exact H
                              have Ny164 := Aside0.mk hy164
                              clear hy164
                              have H' := Aside0.mk H
                              clear H
                              have p163 : 0 ≤ (x7_2 : Int) := of_decide_eq_true (by first | (with_reducible assumption) | assumption)
                              have q163 : x7_2 < (x3_2.length : Int) := of_decide_eq_true (by first | (with_reducible assumption) | assumption)
                              obtain ⟨ad163, e163, hx163_0⟩ := Kd.at_string (Kd.R_reads' HO_3.out).2.2 x7_2 p163 q163
                              obtain rfl : ad161 = ad163 := (by injection e163)
                              replace p163 := eq_true p163
                              replace q163 := eq_true q163
                              have p25 : 0 ≤ (x7_2 : Int) := of_decide_eq_true (by first | (with_reducible assumption) | assumption)
                              have q25 : (x7_2 : Int) < ((x3_2.length : Int) : Int) := of_decide_eq_true (by first | (with_reducible assumption) | assumption)
                              obtain ⟨go25, co25, eo25, gb25, gl25, cl25, HG25⟩ := Kd.R_form HO_3.out (by omega)
                              (first | cases eo25 | (injection eo25 with ea_ en_ ec_; (first | subst ea_ | (injection ea_ with ea_; subst ea_)); subst ec_; clear en_))
                              have GB25 := Aside0.mk gb25
                              have GG25 := Aside0.mk HG25
                              clear gb25 gl25 HG25
                              (first | simp only [add_plain] at hx161_0 | skip)
                              (first | simp only [add_plain] at hx163_0 | skip)
                              obtain ⟨hx25_0, hf25_0⟩ := Kd.R_celln (⟨#[]⟩ : ByteArray) HO_3.out (x7_2 : Int) p25 q25
                              replace p25 := eq_true p25
                              replace q25 := eq_true q25
                              have HP26 := Kd.R_putg HO_3.out (x7_2 : Int) ((rdOf ByteArray.empty x3_2 x7_2).extract 0 (rdOf ByteArray.empty x3_2 x7_2).size)
                              go_wp2_with (first | ((with_reducible refine gate_store (t := 9) (p := 72) rfl ?_); (try (rw [drewN_self wc]; generalize hq_ : World.drewN wc _ = wc; have n0_ := Aside0.mk (Kd.R_at hq_ HO_3.out); have n1_ := Aside0.mk (below_at hq_ HB.out); clear hq_ HO_3 HB; have HO_3 := n0_; have HB := n1_; clear n0_ n1_; (try (have HP26 := Kd.R_putg HO_3.out (x7_2 : Int) ((rdOf ByteArray.empty x3_2 x7_2).extract 0 (rdOf ByteArray.empty x3_2 x7_2).size))))); refine store_event (t := 9) (p := 72) (v := ?vo_w27) (w1 := (wc.setCell ⟨go25, (x7_2 : Int).toNat, none⟩ (.string ((rdOf ByteArray.empty x3_2 x7_2).extract 0 (rdOf ByteArray.empty x3_2 x7_2).size)))) ?hg ?ho ?hn ?hr ?_; (case ho => rfl); (case hg => rfl); (case hn => rfl); (case hr => first | (go_simp; done) | (go_simp; rfl)); intro w27 hw; have hg : wc.grownBy w27 (some go25) := (by rw [hw]; exact HP26.2); have hp_ : Kd.R Kd.string 9 w27 w.heap.size (fun _ => True) (.slice (some ⟨go25, 0, none⟩) x3_2.length co14) y164 := (by rw [hw, Ny164.out]; exact HP26.1); clear HP26; have n0_ := Aside0.mk (hp_); have n1_ := Aside0.mk ((by rw [hw]; exact below_set (HB.out) GB25.out : Below w.heap.size w w27)); clear HO_3; clear HB; have HO_3 := n0_; have HB := n1_; clear n0_ n1_; clear hg hw hp_))
                              repeat (go_quiet (first | ((with_reducible refine gate_store (t := 9) (p := 72) rfl ?_); (try (rw [drewN_self wc]; generalize hq_ : World.drewN wc _ = wc; have n0_ := Aside0.mk (Kd.R_at hq_ HO_3.out); have n1_ := Aside0.mk (below_at hq_ HB.out); clear hq_ HO_3 HB; have HO_3 := n0_; have HB := n1_; clear n0_ n1_; (try (have HP26 := Kd.R_putg HO_3.out (x7_2 : Int) ((rdOf ByteArray.empty x3_2 x7_2).extract 0 (rdOf ByteArray.empty x3_2 x7_2).size))))); refine store_event (t := 9) (p := 72) (v := ?vo_w27) (w1 := (wc.setCell ⟨go25, (x7_2 : Int).toNat, none⟩ (.string ((rdOf ByteArray.empty x3_2 x7_2).extract 0 (rdOf ByteArray.empty x3_2 x7_2).size)))) ?hg ?ho ?hn ?hr ?_; (case ho => rfl); (case hg => rfl); (case hn => rfl); (case hr => first | (go_simp; done) | (go_simp; rfl)); intro w27 hw; have hg : wc.grownBy w27 (some go25) := (by rw [hw]; exact HP26.2); have hp_ : Kd.R Kd.string 9 w27 w.heap.size (fun _ => True) (.slice (some ⟨go25, 0, none⟩) x3_2.length co14) y164 := (by rw [hw, Ny164.out]; exact HP26.1); clear HP26; have n0_ := Aside0.mk (hp_); have n1_ := Aside0.mk ((by rw [hw]; exact below_set (HB.out) GB25.out : Below w.heap.size w w27)); clear HO_3; clear HB; have HO_3 := n0_; have HB := n1_; clear n0_ n1_; clear hg hw hp_)); try go_wp2_with (first | ((with_reducible refine gate_store (t := 9) (p := 72) rfl ?_); (try (rw [drewN_self wc]; generalize hq_ : World.drewN wc _ = wc; have n0_ := Aside0.mk (Kd.R_at hq_ HO_3.out); have n1_ := Aside0.mk (below_at hq_ HB.out); clear hq_ HO_3 HB; have HO_3 := n0_; have HB := n1_; clear n0_ n1_; (try (have HP26 := Kd.R_putg HO_3.out (x7_2 : Int) ((rdOf ByteArray.empty x3_2 x7_2).extract 0 (rdOf ByteArray.empty x3_2 x7_2).size))))); refine store_event (t := 9) (p := 72) (v := ?vo_w27) (w1 := (wc.setCell ⟨go25, (x7_2 : Int).toNat, none⟩ (.string ((rdOf ByteArray.empty x3_2 x7_2).extract 0 (rdOf ByteArray.empty x3_2 x7_2).size)))) ?hg ?ho ?hn ?hr ?_; (case ho => rfl); (case hg => rfl); (case hn => rfl); (case hr => first | (go_simp; done) | (go_simp; rfl)); intro w27 hw; have hg : wc.grownBy w27 (some go25) := (by rw [hw]; exact HP26.2); have hp_ : Kd.R Kd.string 9 w27 w.heap.size (fun _ => True) (.slice (some ⟨go25, 0, none⟩) x3_2.length co14) y164 := (by rw [hw, Ny164.out]; exact HP26.1); clear HP26; have n0_ := Aside0.mk (hp_); have n1_ := Aside0.mk ((by rw [hw]; exact below_set (HB.out) GB25.out : Below w.heap.size w w27)); clear HO_3; clear HB; have HO_3 := n0_; have HB := n1_; clear n0_ n1_; clear hg hw hp_)))
                              (try simp only [← hl3_2])
                              go_roundg kj17
                              case measure => have := HK1.out; have := HK2.out; have := HJ17.out; omega
                              case rel => exact ⟨(y164), (wrap64 (x7_2 + 1)), (by first | rfl | (simp; done) | (simp [*]; done) | (simp [show ∀ l_ : List UInt8, (l_ != []) = !l_.isEmpty from fun l_ => by cases l_ <;> rfl, show ∀ l_ : List UInt8, (l_ == []) = l_.isEmpty from fun l_ => by cases l_ <;> rfl]; done)), H', ⟨by have := HK1.out; have := HK2.out; have := HJ17.out; omega⟩, ⟨by (try simp only [hl3_2]); (with_reducible repeat (first | apply Kd.R_alloc | apply Kd.R_drewN | apply Kd.R_drew)); exact HO_3.out⟩, ⟨by repeat (first | (with_reducible first | exact HB.out | apply below_alloc | apply pw_below_drewN | apply below_drew1) | exact HB.out)⟩⟩
                            · rw [if_neg c24] at H
                              exact absurd H (by simp)
                          · rw [if_neg c23] at H
                            exact absurd H (by simp)
                        · rw [if_neg c22] at H
                          exact absurd H (by simp)
                      · rw [if_neg c21] at H
                        have c21b0 : decide (x4_1 < 0) = false := decide_eq_false c21
                        clear c21
                        by_cases c28 : 0 ≤ x7_2
                        · rw [if_pos c28] at H
                          have c28b0 : decide (0 ≤ x7_2) = true := decide_eq_true c28
                          clear c28
                          by_cases c29 : x7_2 < (x3_2.length : Int)
                          · rw [if_pos c29] at H
                            have c29b0 : decide (x7_2 < (x3_2.length : Int)) = true := decide_eq_true c29
                            clear c29
                            by_cases c30 : 0 ≤ x4_1
                            · rw [if_pos c30] at H
                              have c30b0 := eq_true c30
                              have c30b1 : decide (0 ≤ x4_1) = true := decide_eq_true c30
                              clear c30
                              by_cases c31 : x4_1 ≤ ((rdOf ByteArray.empty x3_2 x7_2).size : Int)
                              · rw [if_pos c31] at H
                                have c31b0 := eq_true c31
                                have c31b1 : decide (x4_1 ≤ ((rdOf ByteArray.empty x3_2 x7_2).size : Int)) = true := decide_eq_true c31
                                clear c31
                                obtain ⟨y166, hy166⟩ : ∃ y_ : List ByteArray, y_ = (x3_2.set (x7_2 : Int).toNat ((rdOf ByteArray.empty x3_2 x7_2).extract (x4_1 : Int).toNat (rdOf ByteArray.empty x3_2 x7_2).size)) := ⟨_, rfl⟩
                                replace H : (spec_BlockValue.l1 kj17 y166 x4_1 (wrap64 (x7_2 + 1))) = some r := by first | (rw [hy166]; with_reducible exact H) | (have H2_ := (Option.bind_some _ _).symm.trans H; rw [hy166]; with_reducible exact H2_) | (have H2_ := (Option.bind_some _ _).symm.trans H; with_reducible exact H2_) | with_reducible exact H | (rw [hy166]; exact H) | exact H
                                have Ny166 := Aside0.mk hy166
                                clear hy166
                                have H' := Aside0.mk H
                                clear H
                                have p165 : 0 ≤ (x7_2 : Int) := of_decide_eq_true (by first | (with_reducible assumption) | assumption)
                                have q165 : x7_2 < (x3_2.length : Int) := of_decide_eq_true (by first | (with_reducible assumption) | assumption)
                                obtain ⟨ad165, e165, hx165_0⟩ := Kd.at_string (Kd.R_reads' HO_3.out).2.2 x7_2 p165 q165
                                obtain rfl : ad161 = ad165 := (by injection e165)
                                replace p165 := eq_true p165
                                replace q165 := eq_true q165
                                have p32 : 0 ≤ (x7_2 : Int) := of_decide_eq_true (by first | (with_reducible assumption) | assumption)
                                have q32 : (x7_2 : Int) < ((x3_2.length : Int) : Int) := of_decide_eq_true (by first | (with_reducible assumption) | assumption)
                                obtain ⟨go32, co32, eo32, gb32, gl32, cl32, HG32⟩ := Kd.R_form HO_3.out (by omega)
                                (first | cases eo32 | (injection eo32 with ea_ en_ ec_; (first | subst ea_ | (injection ea_ with ea_; subst ea_)); subst ec_; clear en_))
                                have GB32 := Aside0.mk gb32
                                have GG32 := Aside0.mk HG32
                                clear gb32 gl32 HG32
                                (first | simp only [add_plain] at hx165_0 | skip)
                                obtain ⟨hx32_0, hf32_0⟩ := Kd.R_celln (⟨#[]⟩ : ByteArray) HO_3.out (x7_2 : Int) p32 q32
                                replace p32 := eq_true p32
                                replace q32 := eq_true q32
                                have HP33 := Kd.R_putg HO_3.out (x7_2 : Int) ((rdOf ByteArray.empty x3_2 x7_2).extract (x4_1 : Int).toNat (rdOf ByteArray.empty x3_2 x7_2).size)
                                go_wp2_with (first | ((with_reducible refine gate_store (t := 9) (p := 72) rfl ?_); (try (rw [drewN_self wc]; generalize hq_ : World.drewN wc _ = wc; have n0_ := Aside0.mk (Kd.R_at hq_ HO_3.out); have n1_ := Aside0.mk (below_at hq_ HB.out); clear hq_ HO_3 HB; have HO_3 := n0_; have HB := n1_; clear n0_ n1_; (try (have HP33 := Kd.R_putg HO_3.out (x7_2 : Int) ((rdOf ByteArray.empty x3_2 x7_2).extract (x4_1 : Int).toNat (rdOf ByteArray.empty x3_2 x7_2).size))))); refine store_event (t := 9) (p := 72) (v := ?vo_w34) (w1 := (wc.setCell ⟨go32, (x7_2 : Int).toNat, none⟩ (.string ((rdOf ByteArray.empty x3_2 x7_2).extract (x4_1 : Int).toNat (rdOf ByteArray.empty x3_2 x7_2).size)))) ?hg ?ho ?hn ?hr ?_; (case ho => rfl); (case hg => rfl); (case hn => rfl); (case hr => first | (go_simp; done) | (go_simp; rfl)); intro w34 hw; have hg : wc.grownBy w34 (some go32) := (by rw [hw]; exact HP33.2); have hp_ : Kd.R Kd.string 9 w34 w.heap.size (fun _ => True) (.slice (some ⟨go32, 0, none⟩) x3_2.length co14) y166 := (by rw [hw, Ny166.out]; exact HP33.1); clear HP33; have n0_ := Aside0.mk (hp_); have n1_ := Aside0.mk ((by rw [hw]; exact below_set (HB.out) GB32.out : Below w.heap.size w w34)); clear HO_3; clear HB; have HO_3 := n0_; have HB := n1_; clear n0_ n1_; clear hg hw hp_))
                                repeat (go_quiet (first | ((with_reducible refine gate_store (t := 9) (p := 72) rfl ?_); (try (rw [drewN_self wc]; generalize hq_ : World.drewN wc _ = wc; have n0_ := Aside0.mk (Kd.R_at hq_ HO_3.out); have n1_ := Aside0.mk (below_at hq_ HB.out); clear hq_ HO_3 HB; have HO_3 := n0_; have HB := n1_; clear n0_ n1_; (try (have HP33 := Kd.R_putg HO_3.out (x7_2 : Int) ((rdOf ByteArray.empty x3_2 x7_2).extract (x4_1 : Int).toNat (rdOf ByteArray.empty x3_2 x7_2).size))))); refine store_event (t := 9) (p := 72) (v := ?vo_w34) (w1 := (wc.setCell ⟨go32, (x7_2 : Int).toNat, none⟩ (.string ((rdOf ByteArray.empty x3_2 x7_2).extract (x4_1 : Int).toNat (rdOf ByteArray.empty x3_2 x7_2).size)))) ?hg ?ho ?hn ?hr ?_; (case ho => rfl); (case hg => rfl); (case hn => rfl); (case hr => first | (go_simp; done) | (go_simp; rfl)); intro w34 hw; have hg : wc.grownBy w34 (some go32) := (by rw [hw]; exact HP33.2); have hp_ : Kd.R Kd.string 9 w34 w.heap.size (fun _ => True) (.slice (some ⟨go32, 0, none⟩) x3_2.length co14) y166 := (by rw [hw, Ny166.out]; exact HP33.1); clear HP33; have n0_ := Aside0.mk (hp_); have n1_ := Aside0.mk ((by rw [hw]; exact below_set (HB.out) GB32.out : Below w.heap.size w w34)); clear HO_3; clear HB; have HO_3 := n0_; have HB := n1_; clear n0_ n1_; clear hg hw hp_)); try go_wp2_with (first | ((with_reducible refine gate_store (t := 9) (p := 72) rfl ?_); (try (rw [drewN_self wc]; generalize hq_ : World.drewN wc _ = wc; have n0_ := Aside0.mk (Kd.R_at hq_ HO_3.out); have n1_ := Aside0.mk (below_at hq_ HB.out); clear hq_ HO_3 HB; have HO_3 := n0_; have HB := n1_; clear n0_ n1_; (try (have HP33 := Kd.R_putg HO_3.out (x7_2 : Int) ((rdOf ByteArray.empty x3_2 x7_2).extract (x4_1 : Int).toNat (rdOf ByteArray.empty x3_2 x7_2).size))))); refine store_event (t := 9) (p := 72) (v := ?vo_w34) (w1 := (wc.setCell ⟨go32, (x7_2 : Int).toNat, none⟩ (.string ((rdOf ByteArray.empty x3_2 x7_2).extract (x4_1 : Int).toNat (rdOf ByteArray.empty x3_2 x7_2).size)))) ?hg ?ho ?hn ?hr ?_; (case ho => rfl); (case hg => rfl); (case hn => rfl); (case hr => first | (go_simp; done) | (go_simp; rfl)); intro w34 hw; have hg : wc.grownBy w34 (some go32) := (by rw [hw]; exact HP33.2); have hp_ : Kd.R Kd.string 9 w34 w.heap.size (fun _ => True) (.slice (some ⟨go32, 0, none⟩) x3_2.length co14) y166 := (by rw [hw, Ny166.out]; exact HP33.1); clear HP33; have n0_ := Aside0.mk (hp_); have n1_ := Aside0.mk ((by rw [hw]; exact below_set (HB.out) GB32.out : Below w.heap.size w w34)); clear HO_3; clear HB; have HO_3 := n0_; have HB := n1_; clear n0_ n1_; clear hg hw hp_)))
                                (try simp only [← hl3_2])
                                go_roundg kj17
                                case measure => have := HK1.out; have := HK2.out; have := HJ17.out; omega
                                case rel => exact ⟨(y166), (wrap64 (x7_2 + 1)), (by first | rfl | (simp; done) | (simp [*]; done) | (simp [show ∀ l_ : List UInt8, (l_ != []) = !l_.isEmpty from fun l_ => by cases l_ <;> rfl, show ∀ l_ : List UInt8, (l_ == []) = l_.isEmpty from fun l_ => by cases l_ <;> rfl]; done)), H', ⟨by have := HK1.out; have := HK2.out; have := HJ17.out; omega⟩, ⟨by (try simp only [hl3_2]); (with_reducible repeat (first | apply Kd.R_alloc | apply Kd.R_drewN | apply Kd.R_drew)); exact HO_3.out⟩, ⟨by repeat (first | (with_reducible first | exact HB.out | apply below_alloc | apply pw_below_drewN | apply below_drew1) | exact HB.out)⟩⟩
                              · rw [if_neg c31] at H
                                exact absurd H (by simp)
                            · rw [if_neg c30] at H
                              exact absurd H (by simp)
                          · rw [if_neg c29] at H
                            exact absurd H (by simp)
                        · rw [if_neg c28] at H
                          exact absurd H (by simp)
                    · replace c20 := Bool.eq_false_iff.mpr c20
                      subst c20
                      have H1 : (if x4_1 < 0 then (if 0 ≤ x7_2 then (if x7_2 < (x3_2.length : Int) then (if 0 ≤ ((rdOf ByteArray.empty x3_2 x7_2).size : Int) then (spec_BlockValue.l1 kj17 (x3_2.set (x7_2 : Int).toNat ((rdOf ByteArray.empty x3_2 x7_2).extract 0 (rdOf ByteArray.empty x3_2 x7_2).size)) x4_1 (wrap64 (x7_2 + 1))) else (none)) else (none)) else (none)) else (if 0 ≤ x7_2 then (if x7_2 < (x3_2.length : Int) then (if 0 ≤ t162 then (if t162 ≤ ((rdOf ByteArray.empty x3_2 x7_2).size : Int) then (spec_BlockValue.l1 kj17 (x3_2.set (x7_2 : Int).toNat ((rdOf ByteArray.empty x3_2 x7_2).extract (t162 : Int).toNat (rdOf ByteArray.empty x3_2 x7_2).size)) x4_1 (wrap64 (x7_2 + 1))) else (none)) else (none)) else (none)) else (none))) = some r := by rw [if_neg (show ¬ (false = true) by decide)] at H; exact H
                      clear H
                      have H := H1
                      clear H1
                      by_cases c35 : x4_1 < 0
                      · rw [if_pos c35] at H
                        have c35b0 : decide (x4_1 < 0) = true := decide_eq_true c35
                        clear c35
                        by_cases c36 : 0 ≤ x7_2
                        · rw [if_pos c36] at H
                          have c36b0 : decide (0 ≤ x7_2) = true := decide_eq_true c36
                          clear c36
                          by_cases c37 : x7_2 < (x3_2.length : Int)
                          · rw [if_pos c37] at H
                            have c37b0 : decide (x7_2 < (x3_2.length : Int)) = true := decide_eq_true c37
                            clear c37
                            by_cases c38 : 0 ≤ ((rdOf ByteArray.empty x3_2 x7_2).size : Int)
                            · rw [if_pos c38] at H
                              have c38b0 := eq_true c38
                              have c38b1 : decide (0 ≤ ((rdOf ByteArray.empty x3_2 x7_2).size : Int)) = true := decide_eq_true c38
                              clear c38
                              obtain ⟨y168, hy168⟩ : ∃ y_ : List ByteArray, y_ = (x3_2.set (x7_2 : Int).toNat ((rdOf ByteArray.empty x3_2 x7_2).extract 0 (rdOf ByteArray.empty x3_2 x7_2).size)) := ⟨_, rfl⟩
                              replace H : (spec_BlockValue.l1 kj17 y168 x4_1 (wrap64 (x7_2 + 1))) = some r := by first | (rw [hy168]; with_reducible exact H) | (have H2_ := (Option.bind_some _ _).symm.trans H; rw [hy168]; with_reducible exact H2_) | (have H2_ := (Option.bind_some _ _).symm.trans H; with_reducible exact H2_) | with_reducible exact H | (rw [hy168]; exact H) | exact H
                              have Ny168 := Aside0.mk hy168
                              clear hy168
                              have H' := Aside0.mk H
                              clear H
                              have p167 : 0 ≤ (x7_2 : Int) := of_decide_eq_true (by first | (with_reducible assumption) | assumption)
                              have q167 : x7_2 < (x3_2.length : Int) := of_decide_eq_true (by first | (with_reducible assumption) | assumption)
                              obtain ⟨ad167, e167, hx167_0⟩ := Kd.at_string (Kd.R_reads' HO_3.out).2.2 x7_2 p167 q167
                              obtain rfl : ad161 = ad167 := (by injection e167)
                              replace p167 := eq_true p167
                              replace q167 := eq_true q167
                              have p39 : 0 ≤ (x7_2 : Int) := of_decide_eq_true (by first | (with_reducible assumption) | assumption)
                              have q39 : (x7_2 : Int) < ((x3_2.length : Int) : Int) := of_decide_eq_true (by first | (with_reducible assumption) | assumption)
                              obtain ⟨go39, co39, eo39, gb39, gl39, cl39, HG39⟩ := Kd.R_form HO_3.out (by omega)
                              (first | cases eo39 | (injection eo39 with ea_ en_ ec_; (first | subst ea_ | (injection ea_ with ea_; subst ea_)); subst ec_; clear en_))
                              have GB39 := Aside0.mk gb39
                              have GG39 := Aside0.mk HG39
                              clear gb39 gl39 HG39
                              (first | simp only [add_plain] at hx167_0 | skip)
                              obtain ⟨hx39_0, hf39_0⟩ := Kd.R_celln (⟨#[]⟩ : ByteArray) HO_3.out (x7_2 : Int) p39 q39
                              replace p39 := eq_true p39
                              replace q39 := eq_true q39
                              have HP40 := Kd.R_putg HO_3.out (x7_2 : Int) ((rdOf ByteArray.empty x3_2 x7_2).extract 0 (rdOf ByteArray.empty x3_2 x7_2).size)
                              go_wp2_with (first | ((with_reducible refine gate_store (t := 9) (p := 72) rfl ?_); (try (rw [drewN_self wc]; generalize hq_ : World.drewN wc _ = wc; have n0_ := Aside0.mk (Kd.R_at hq_ HO_3.out); have n1_ := Aside0.mk (below_at hq_ HB.out); clear hq_ HO_3 HB; have HO_3 := n0_; have HB := n1_; clear n0_ n1_; (try (have HP40 := Kd.R_putg HO_3.out (x7_2 : Int) ((rdOf ByteArray.empty x3_2 x7_2).extract 0 (rdOf ByteArray.empty x3_2 x7_2).size))))); refine store_event (t := 9) (p := 72) (v := ?vo_w41) (w1 := (wc.setCell ⟨go39, (x7_2 : Int).toNat, none⟩ (.string ((rdOf ByteArray.empty x3_2 x7_2).extract 0 (rdOf ByteArray.empty x3_2 x7_2).size)))) ?hg ?ho ?hn ?hr ?_; (case ho => rfl); (case hg => rfl); (case hn => rfl); (case hr => first | (go_simp; done) | (go_simp; rfl)); intro w41 hw; have hg : wc.grownBy w41 (some go39) := (by rw [hw]; exact HP40.2); have hp_ : Kd.R Kd.string 9 w41 w.heap.size (fun _ => True) (.slice (some ⟨go39, 0, none⟩) x3_2.length co14) y168 := (by rw [hw, Ny168.out]; exact HP40.1); clear HP40; have n0_ := Aside0.mk (hp_); have n1_ := Aside0.mk ((by rw [hw]; exact below_set (HB.out) GB39.out : Below w.heap.size w w41)); clear HO_3; clear HB; have HO_3 := n0_; have HB := n1_; clear n0_ n1_; clear hg hw hp_))
                              repeat (go_quiet (first | ((with_reducible refine gate_store (t := 9) (p := 72) rfl ?_); (try (rw [drewN_self wc]; generalize hq_ : World.drewN wc _ = wc; have n0_ := Aside0.mk (Kd.R_at hq_ HO_3.out); have n1_ := Aside0.mk (below_at hq_ HB.out); clear hq_ HO_3 HB; have HO_3 := n0_; have HB := n1_; clear n0_ n1_; (try (have HP40 := Kd.R_putg HO_3.out (x7_2 : Int) ((rdOf ByteArray.empty x3_2 x7_2).extract 0 (rdOf ByteArray.empty x3_2 x7_2).size))))); refine store_event (t := 9) (p := 72) (v := ?vo_w41) (w1 := (wc.setCell ⟨go39, (x7_2 : Int).toNat, none⟩ (.string ((rdOf ByteArray.empty x3_2 x7_2).extract 0 (rdOf ByteArray.empty x3_2 x7_2).size)))) ?hg ?ho ?hn ?hr ?_; (case ho => rfl); (case hg => rfl); (case hn => rfl); (case hr => first | (go_simp; done) | (go_simp; rfl)); intro w41 hw; have hg : wc.grownBy w41 (some go39) := (by rw [hw]; exact HP40.2); have hp_ : Kd.R Kd.string 9 w41 w.heap.size (fun _ => True) (.slice (some ⟨go39, 0, none⟩) x3_2.length co14) y168 := (by rw [hw, Ny168.out]; exact HP40.1); clear HP40; have n0_ := Aside0.mk (hp_); have n1_ := Aside0.mk ((by rw [hw]; exact below_set (HB.out) GB39.out : Below w.heap.size w w41)); clear HO_3; clear HB; have HO_3 := n0_; have HB := n1_; clear n0_ n1_; clear hg hw hp_)); try go_wp2_with (first | ((with_reducible refine gate_store (t := 9) (p := 72) rfl ?_); (try (rw [drewN_self wc]; generalize hq_ : World.drewN wc _ = wc; have n0_ := Aside0.mk (Kd.R_at hq_ HO_3.out); have n1_ := Aside0.mk (below_at hq_ HB.out); clear hq_ HO_3 HB; have HO_3 := n0_; have HB := n1_; clear n0_ n1_; (try (have HP40 := Kd.R_putg HO_3.out (x7_2 : Int) ((rdOf ByteArray.empty x3_2 x7_2).extract 0 (rdOf ByteArray.empty x3_2 x7_2).size))))); refine store_event (t := 9) (p := 72) (v := ?vo_w41) (w1 := (wc.setCell ⟨go39, (x7_2 : Int).toNat, none⟩ (.string ((rdOf ByteArray.empty x3_2 x7_2).extract 0 (rdOf ByteArray.empty x3_2 x7_2).size)))) ?hg ?ho ?hn ?hr ?_; (case ho => rfl); (case hg => rfl); (case hn => rfl); (case hr => first | (go_simp; done) | (go_simp; rfl)); intro w41 hw; have hg : wc.grownBy w41 (some go39) := (by rw [hw]; exact HP40.2); have hp_ : Kd.R Kd.string 9 w41 w.heap.size (fun _ => True) (.slice (some ⟨go39, 0, none⟩) x3_2.length co14) y168 := (by rw [hw, Ny168.out]; exact HP40.1); clear HP40; have n0_ := Aside0.mk (hp_); have n1_ := Aside0.mk ((by rw [hw]; exact below_set (HB.out) GB39.out : Below w.heap.size w w41)); clear HO_3; clear HB; have HO_3 := n0_; have HB := n1_; clear n0_ n1_; clear hg hw hp_)))
                              (try simp only [← hl3_2])
                              go_roundg kj17
                              case measure => have := HK1.out; have := HK2.out; have := HJ17.out; omega
                              case rel => exact ⟨(y168), (wrap64 (x7_2 + 1)), (by first | rfl | (simp; done) | (simp [*]; done) | (simp [show ∀ l_ : List UInt8, (l_ != []) = !l_.isEmpty from fun l_ => by cases l_ <;> rfl, show ∀ l_ : List UInt8, (l_ == []) = l_.isEmpty from fun l_ => by cases l_ <;> rfl]; done)), H', ⟨by have := HK1.out; have := HK2.out; have := HJ17.out; omega⟩, ⟨by (try simp only [hl3_2]); (with_reducible repeat (first | apply Kd.R_alloc | apply Kd.R_drewN | apply Kd.R_drew)); exact HO_3.out⟩, ⟨by repeat (first | (with_reducible first | exact HB.out | apply below_alloc | apply pw_below_drewN | apply below_drew1) | exact HB.out)⟩⟩
                            · rw [if_neg c38] at H
                              exact absurd H (by simp)
                          · rw [if_neg c37] at H
                            exact absurd H (by simp)
                        · rw [if_neg c36] at H
                          exact absurd H (by simp)
                      · rw [if_neg c35] at H
                        have c35b0 : decide (x4_1 < 0) = false := decide_eq_false c35
                        clear c35
                        by_cases c42 : 0 ≤ x7_2
                        · rw [if_pos c42] at H
                          have c42b0 : decide (0 ≤ x7_2) = true := decide_eq_true c42
                          clear c42
                          by_cases c43 : x7_2 < (x3_2.length : Int)
                          · rw [if_pos c43] at H
                            have c43b0 : decide (x7_2 < (x3_2.length : Int)) = true := decide_eq_true c43
                            clear c43
                            by_cases c44 : 0 ≤ t162
                            · rw [if_pos c44] at H
                              have c44b0 := eq_true c44
                              have c44b1 : decide (0 ≤ t162) = true := decide_eq_true c44
                              clear c44
                              by_cases c45 : t162 ≤ ((rdOf ByteArray.empty x3_2 x7_2).size : Int)
                              · rw [if_pos c45] at H
                                have c45b0 := eq_true c45
                                have c45b1 : decide (t162 ≤ ((rdOf ByteArray.empty x3_2 x7_2).size : Int)) = true := decide_eq_true c45
                                clear c45
                                obtain ⟨y170, hy170⟩ : ∃ y_ : List ByteArray, y_ = (x3_2.set (x7_2 : Int).toNat ((rdOf ByteArray.empty x3_2 x7_2).extract (t162 : Int).toNat (rdOf ByteArray.empty x3_2 x7_2).size)) := ⟨_, rfl⟩
                                replace H : (spec_BlockValue.l1 kj17 y170 x4_1 (wrap64 (x7_2 + 1))) = some r := by first | (rw [hy170]; with_reducible exact H) | (have H2_ := (Option.bind_some _ _).symm.trans H; rw [hy170]; with_reducible exact H2_) | (have H2_ := (Option.bind_some _ _).symm.trans H; with_reducible exact H2_) | with_reducible exact H | (rw [hy170]; exact H) | exact H
                                have Ny170 := Aside0.mk hy170
                                clear hy170
                                have H' := Aside0.mk H
                                clear H
                                have p169 : 0 ≤ (x7_2 : Int) := of_decide_eq_true (by first | (with_reducible assumption) | assumption)
                                have q169 : x7_2 < (x3_2.length : Int) := of_decide_eq_true (by first | (with_reducible assumption) | assumption)
                                obtain ⟨ad169, e169, hx169_0⟩ := Kd.at_string (Kd.R_reads' HO_3.out).2.2 x7_2 p169 q169
                                obtain rfl : ad161 = ad169 := (by injection e169)
                                replace p169 := eq_true p169
                                replace q169 := eq_true q169
                                have p46 : 0 ≤ (x7_2 : Int) := of_decide_eq_true (by first | (with_reducible assumption) | assumption)
                                have q46 : (x7_2 : Int) < ((x3_2.length : Int) : Int) := of_decide_eq_true (by first | (with_reducible assumption) | assumption)
                                obtain ⟨go46, co46, eo46, gb46, gl46, cl46, HG46⟩ := Kd.R_form HO_3.out (by omega)
                                (first | cases eo46 | (injection eo46 with ea_ en_ ec_; (first | subst ea_ | (injection ea_ with ea_; subst ea_)); subst ec_; clear en_))
                                have GB46 := Aside0.mk gb46
                                have GG46 := Aside0.mk HG46
                                clear gb46 gl46 HG46
                                (first | simp only [add_plain] at hx169_0 | skip)
                                obtain ⟨hx46_0, hf46_0⟩ := Kd.R_celln (⟨#[]⟩ : ByteArray) HO_3.out (x7_2 : Int) p46 q46
                                replace p46 := eq_true p46
                                replace q46 := eq_true q46
                                have HP47 := Kd.R_putg HO_3.out (x7_2 : Int) ((rdOf ByteArray.empty x3_2 x7_2).extract (t162 : Int).toNat (rdOf ByteArray.empty x3_2 x7_2).size)
                                go_wp2_with (first | ((with_reducible refine gate_store (t := 9) (p := 72) rfl ?_); (try (rw [drewN_self wc]; generalize hq_ : World.drewN wc _ = wc; have n0_ := Aside0.mk (Kd.R_at hq_ HO_3.out); have n1_ := Aside0.mk (below_at hq_ HB.out); clear hq_ HO_3 HB; have HO_3 := n0_; have HB := n1_; clear n0_ n1_; (try (have HP47 := Kd.R_putg HO_3.out (x7_2 : Int) ((rdOf ByteArray.empty x3_2 x7_2).extract (t162 : Int).toNat (rdOf ByteArray.empty x3_2 x7_2).size))))); refine store_event (t := 9) (p := 72) (v := ?vo_w48) (w1 := (wc.setCell ⟨go46, (x7_2 : Int).toNat, none⟩ (.string ((rdOf ByteArray.empty x3_2 x7_2).extract (t162 : Int).toNat (rdOf ByteArray.empty x3_2 x7_2).size)))) ?hg ?ho ?hn ?hr ?_; (case ho => rfl); (case hg => rfl); (case hn => rfl); (case hr => first | (go_simp; done) | (go_simp; rfl)); intro w48 hw; have hg : wc.grownBy w48 (some go46) := (by rw [hw]; exact HP47.2); have hp_ : Kd.R Kd.string 9 w48 w.heap.size (fun _ => True) (.slice (some ⟨go46, 0, none⟩) x3_2.length co14) y170 := (by rw [hw, Ny170.out]; exact HP47.1); clear HP47; have n0_ := Aside0.mk (hp_); have n1_ := Aside0.mk ((by rw [hw]; exact below_set (HB.out) GB46.out : Below w.heap.size w w48)); clear HO_3; clear HB; have HO_3 := n0_; have HB := n1_; clear n0_ n1_; clear hg hw hp_))
                                repeat (go_quiet (first | ((with_reducible refine gate_store (t := 9) (p := 72) rfl ?_); (try (rw [drewN_self wc]; generalize hq_ : World.drewN wc _ = wc; have n0_ := Aside0.mk (Kd.R_at hq_ HO_3.out); have n1_ := Aside0.mk (below_at hq_ HB.out); clear hq_ HO_3 HB; have HO_3 := n0_; have HB := n1_; clear n0_ n1_; (try (have HP47 := Kd.R_putg HO_3.out (x7_2 : Int) ((rdOf ByteArray.empty x3_2 x7_2).extract (t162 : Int).toNat (rdOf ByteArray.empty x3_2 x7_2).size))))); refine store_event (t := 9) (p := 72) (v := ?vo_w48) (w1 := (wc.setCell ⟨go46, (x7_2 : Int).toNat, none⟩ (.string ((rdOf ByteArray.empty x3_2 x7_2).extract (t162 : Int).toNat (rdOf ByteArray.empty x3_2 x7_2).size)))) ?hg ?ho ?hn ?hr ?_; (case ho => rfl); (case hg => rfl); (case hn => rfl); (case hr => first | (go_simp; done) | (go_simp; rfl)); intro w48 hw; have hg : wc.grownBy w48 (some go46) := (by rw [hw]; exact HP47.2); have hp_ : Kd.R Kd.string 9 w48 w.heap.size (fun _ => True) (.slice (some ⟨go46, 0, none⟩) x3_2.length co14) y170 := (by rw [hw, Ny170.out]; exact HP47.1); clear HP47; have n0_ := Aside0.mk (hp_); have n1_ := Aside0.mk ((by rw [hw]; exact below_set (HB.out) GB46.out : Below w.heap.size w w48)); clear HO_3; clear HB; have HO_3 := n0_; have HB := n1_; clear n0_ n1_; clear hg hw hp_)); try go_wp2_with (first | ((with_reducible refine gate_store (t := 9) (p := 72) rfl ?_); (try (rw [drewN_self wc]; generalize hq_ : World.drewN wc _ = wc; have n0_ := Aside0.mk (Kd.R_at hq_ HO_3.out); have n1_ := Aside0.mk (below_at hq_ HB.out); clear hq_ HO_3 HB; have HO_3 := n0_; have HB := n1_; clear n0_ n1_; (try (have HP47 := Kd.R_putg HO_3.out (x7_2 : Int) ((rdOf ByteArray.empty x3_2 x7_2).extract (t162 : Int).toNat (rdOf ByteArray.empty x3_2 x7_2).size))))); refine store_event (t := 9) (p := 72) (v := ?vo_w48) (w1 := (wc.setCell ⟨go46, (x7_2 : Int).toNat, none⟩ (.string ((rdOf ByteArray.empty x3_2 x7_2).extract (t162 : Int).toNat (rdOf ByteArray.empty x3_2 x7_2).size)))) ?hg ?ho ?hn ?hr ?_; (case ho => rfl); (case hg => rfl); (case hn => rfl); (case hr => first | (go_simp; done) | (go_simp; rfl)); intro w48 hw; have hg : wc.grownBy w48 (some go46) := (by rw [hw]; exact HP47.2); have hp_ : Kd.R Kd.string 9 w48 w.heap.size (fun _ => True) (.slice (some ⟨go46, 0, none⟩) x3_2.length co14) y170 := (by rw [hw, Ny170.out]; exact HP47.1); clear HP47; have n0_ := Aside0.mk (hp_); have n1_ := Aside0.mk ((by rw [hw]; exact below_set (HB.out) GB46.out : Below w.heap.size w w48)); clear HO_3; clear HB; have HO_3 := n0_; have HB := n1_; clear n0_ n1_; clear hg hw hp_)))
                                (try simp only [← hl3_2])
                                go_roundg kj17
                                case measure => have := HK1.out; have := HK2.out; have := HJ17.out; omega
                                case rel => exact ⟨(y170), (wrap64 (x7_2 + 1)), (by first | rfl | (simp; done) | (simp [*]; done) | (simp [show ∀ l_ : List UInt8, (l_ != []) = !l_.isEmpty from fun l_ => by cases l_ <;> rfl, show ∀ l_ : List UInt8, (l_ == []) = l_.isEmpty from fun l_ => by cases l_ <;> rfl]; done)), H', ⟨by have := HK1.out; have := HK2.out; have := HJ17.out; omega⟩, ⟨by (try simp only [hl3_2]); (with_reducible repeat (first | apply Kd.R_alloc | apply Kd.R_drewN | apply Kd.R_drew)); exact HO_3.out⟩, ⟨by repeat (first | (with_reducible first | exact HB.out | apply below_alloc | apply pw_below_drewN | apply below_drew1) | exact HB.out)⟩⟩
                              · rw [if_neg c45] at H
                                exact absurd H (by simp)
                            · rw [if_neg c44] at H
                              exact absurd H (by simp)
                          · rw [if_neg c43] at H
                            exact absurd H (by simp)
                        · rw [if_neg c42] at H
                          exact absurd H (by simp)
              · rw [if_neg c16] at H
                exact absurd H (by simp)
            · rw [if_neg c15] at H
              have c15b0 : decide (x7_2 < (x3_2.length : Int)) = false := decide_eq_false c15
              clear c15
              have HC49 := Aside0.mk H
              clear H
              go_upto_block 4 with (fail)
              repeat (go_quiet (fail); go_upto_block 4 with (fail))
              go_cut [9] (fun v9 wc => ∃ (kq : Nat) (x9_48 : Int), v9 = .int .i64 x9_48 ∧ Aside0 (spec_BlockValue.j4 kq x3_2 x9_48 = some r) ∧ Aside0 (kq ≤ k2) ∧ Aside0 (Kd.R Kd.string 9 wc w.heap.size (fun _ => True) (.slice Ao14 x3_2.length co14) x3_2) ∧ Aside0 (Below w.heap.size w wc))
              case first =>
                have H := HC49.out
                clear HC49
                have H' := Aside0.mk H
                clear H
                go_wp2
                repeat (go_quiet (fail); try go_wp2)
                go_loopg [9] k2 (fun kq v9 w' => ∃ (x9_3 : Int), v9 = .int .i64 x9_3 ∧ Aside0 (spec_BlockValue.l2 kq x3_2 x9_3 = some r) ∧ Aside0 (kq ≤ k2) ∧ Aside0 (Kd.R Kd.string 9 w' w.heap.size (fun _ => True) (.slice Ao14 x3_2.length co14) x3_2) ∧ Aside0 (Below w.heap.size w w'))
                case atStart => exact ⟨(0), (by first | rfl | (simp; done) | (simp [*]; done) | (simp [show ∀ l_ : List UInt8, (l_ != []) = !l_.isEmpty from fun l_ => by cases l_ <;> rfl, show ∀ l_ : List UInt8, (l_ == []) = l_.isEmpty from fun l_ => by cases l_ <;> rfl]; done)), H', ⟨Nat.le_refl _⟩, ⟨by (try simp only [hl3_2]); (with_reducible repeat (first | apply Kd.R_alloc | apply Kd.R_drewN | apply Kd.R_drew)); exact HO_3.out⟩, ⟨by repeat (first | (with_reducible first | exact HB.out | apply below_alloc | apply pw_below_drewN | apply below_drew1) | exact HB.out)⟩⟩
                case round =>
                  clear H'
                  try clear c1
                  try clear p1
                  try clear q1
                  try clear hx1
                  try clear c2
                  try clear p2
                  try clear q2
                  try clear hx2
                  try clear hf2
                  try clear c3
                  try clear p3
                  try clear q3
                  try clear hx3
                  try clear hf3
                  try clear c4
                  try clear c4b0
                  try clear p4
                  try clear q4
                  try clear hx4
                  try clear hf4
                  try clear c5
                  try clear c5b0
                  try clear p6
                  try clear c7
                  try clear c7b0
                  try clear c8
                  try clear c8b0
                  try clear c10
                  try clear c10b0
                  try clear c15
                  try clear c15b0
                  try clear p15
                  try clear q15
                  try clear hx15
                  try clear c16
                  try clear c16b0
                  try clear p16
                  try clear q16
                  try clear hx16
                  try clear c19
                  try clear c19b0
                  try clear c20
                  try clear c21
                  try clear c21b0
                  try clear c22
                  try clear c22b0
                  try clear c23
                  try clear c23b0
                  try clear c24
                  try clear c24b0
                  try clear c24b1
                  try clear p25
                  try clear q25
                  try clear hx25
                  try clear hf25
                  try clear c28
                  try clear c28b0
                  try clear c29
                  try clear c29b0
                  try clear c30
                  try clear c30b0
                  try clear c30b1
                  try clear c31
                  try clear c31b0
                  try clear c31b1
                  try clear p32
                  try clear q32
                  try clear hx32
                  try clear hf32
                  try clear c35
                  try clear c35b0
                  try clear c36
                  try clear c36b0
                  try clear c37
                  try clear c37b0
                  try clear c38
                  try clear c38b0
                  try clear c38b1
                  try clear p39
                  try clear q39
                  try clear hx39
                  try clear hf39
                  try clear c42
                  try clear c42b0
                  try clear c43
                  try clear c43b0
                  try clear c44
                  try clear c44b0
                  try clear c44b1
                  try clear c45
                  try clear c45b0
                  try clear c45b1
                  try clear p46
                  try clear q46
                  try clear hx46
                  try clear hf46
                  try clear hx158_0
                  try clear hx160_0
                  try clear hx161_0
                  try clear hx163_0
                  try clear hx165_0
                  try clear hx167_0
                  try clear hx169_0
                  try clear hx25_0
                  try clear hx32_0
                  try clear hx39_0
                  try clear hx46_0
                  try clear p1
                  try clear p15
                  try clear p158
                  try clear p16
                  try clear p160
                  try clear p161
                  try clear p163
                  try clear p165
                  try clear p167
                  try clear p169
                  try clear p2
                  try clear p25
                  try clear p32
                  try clear p39
                  try clear p46
                  try clear p6
                  try clear q1
                  try clear q15
                  try clear q158
                  try clear q16
                  try clear q160
                  try clear q161
                  try clear q163
                  try clear q165
                  try clear q167
                  try clear q169
                  try clear q25
                  try clear q32
                  try clear q39
                  try clear q46
                  obtain ⟨x9_3, rfl, HA, HK3, HO_3, HB⟩ := hrel
                  cases gk with
                  | zero => exact absurd HA.out (by simp [spec_BlockValue.l2])
                  | succ k3 =>
                    have H := HA.out
                    clear HA
                    simp only [spec_BlockValue.l2] at H
                    by_cases c50 : x9_3 < (x3_2.length : Int)
                    · rw [if_pos c50] at H
                      have c50b0 : decide (x9_3 < (x3_2.length : Int)) = true := decide_eq_true c50
                      clear c50
                      (first | rw [c50b0] | (simp only [i64_w, i32_w]; rw [c50b0]) | skip)
                      by_cases c51 : 0 ≤ x9_3
                      · rw [if_pos c51] at H
                        have c51b0 : decide (0 ≤ x9_3) = true := decide_eq_true c51
                        clear c51
                        replace H := Option.bind_eq_some_iff.mp H
                        obtain ⟨t172, A520, H⟩ := H
                        replace H : (if t172 = ((rdOf ByteArray.empty x3_2 x9_3).size : Int) then (spec_BlockValue.l2 k3 x3_2 (wrap64 (x9_3 + 1))) else (spec_BlockValue.j4 k3 x3_2 x9_3)) = some r := H
                        have A52 := Aside0.mk A520
                        clear A520
                        by_cases c53 : t172 = ((rdOf ByteArray.empty x3_2 x9_3).size : Int)
                        · rw [if_pos c53] at H
                          have c53b0 : (t172 == ((rdOf ByteArray.empty x3_2 x9_3).size : Int)) = true := beq_iff_eq.mpr c53
                          have c53b1 : (t172 != ((rdOf ByteArray.empty x3_2 x9_3).size : Int)) = false := bne_eq_false_iff_eq.mpr c53
                          clear c53
                          have H' := Aside0.mk H
                          clear H
                          have p171 : 0 ≤ (x9_3 : Int) := of_decide_eq_true (by first | (with_reducible assumption) | assumption)
                          have q171 : x9_3 < (x3_2.length : Int) := of_decide_eq_true (by first | (with_reducible assumption) | assumption)
                          obtain ⟨ad171, e171, hx171_0⟩ := Kd.at_string (Kd.R_reads' HO_3.out).2.2 x9_3 p171 q171
                          cases e171
                          replace p171 := eq_true p171
                          replace q171 := eq_true q171
                          go_wp2_with (first | (go_at_call 22; (with_reducible refine (spec_Indent.calls k3 (rdOf ByteArray.empty x3_2 x9_3) t172 _ A52.out).mono ?_); rintro e w' ⟨rfl, ⟨nd, rfl⟩⟩; (try first | exact ⟨rfl, _, World.drewN_drewN _ _ _⟩ | exact ⟨rfl, _, Eq.trans (World.drewN_drewN _ _ _) (congrArg (World.drewN _) (Nat.add_assoc _ _ _))⟩); have p173 : 0 ≤ (x9_3 : Int) := of_decide_eq_true (by first | (with_reducible assumption) | assumption); have q173 : x9_3 < (x3_2.length : Int) := of_decide_eq_true (by first | (with_reducible assumption) | assumption); obtain ⟨ad173, e173, hx173_0⟩ := Kd.at_string (Kd.R_reads' HO_3.out).2.2 x9_3 p173 q173; obtain rfl : ad171 = ad173 := (by injection e173); replace p173 := eq_true p173; replace q173 := eq_true q173))
                          repeat (go_quiet (first | (go_at_call 22; (with_reducible refine (spec_Indent.calls k3 (rdOf ByteArray.empty x3_2 x9_3) t172 _ A52.out).mono ?_); rintro e w' ⟨rfl, ⟨nd, rfl⟩⟩; (try first | exact ⟨rfl, _, World.drewN_drewN _ _ _⟩ | exact ⟨rfl, _, Eq.trans (World.drewN_drewN _ _ _) (congrArg (World.drewN _) (Nat.add_assoc _ _ _))⟩); have p173 : 0 ≤ (x9_3 : Int) := of_decide_eq_true (by first | (with_reducible assumption) | assumption); have q173 : x9_3 < (x3_2.length : Int) := of_decide_eq_true (by first | (with_reducible assumption) | assumption); obtain ⟨ad173, e173, hx173_0⟩ := Kd.at_string (Kd.R_reads' HO_3.out).2.2 x9_3 p173 q173; obtain rfl : ad171 = ad173 := (by injection e173); replace p173 := eq_true p173; replace q173 := eq_true q173)); try go_wp2_with (first | (go_at_call 22; (with_reducible refine (spec_Indent.calls k3 (rdOf ByteArray.empty x3_2 x9_3) t172 _ A52.out).mono ?_); rintro e w' ⟨rfl, ⟨nd, rfl⟩⟩; (try first | exact ⟨rfl, _, World.drewN_drewN _ _ _⟩ | exact ⟨rfl, _, Eq.trans (World.drewN_drewN _ _ _) (congrArg (World.drewN _) (Nat.add_assoc _ _ _))⟩); have p173 : 0 ≤ (x9_3 : Int) := of_decide_eq_true (by first | (with_reducible assumption) | assumption); have q173 : x9_3 < (x3_2.length : Int) := of_decide_eq_true (by first | (with_reducible assumption) | assumption); obtain ⟨ad173, e173, hx173_0⟩ := Kd.at_string (Kd.R_reads' HO_3.out).2.2 x9_3 p173 q173; obtain rfl : ad171 = ad173 := (by injection e173); replace p173 := eq_true p173; replace q173 := eq_true q173)))
                          go_roundg k3
                          case measure => have := HK1.out; have := HK2.out; have := HK3.out; omega
                          case rel => exact ⟨(wrap64 (x9_3 + 1)), (by first | rfl | (simp; done) | (simp [*]; done) | (simp [show ∀ l_ : List UInt8, (l_ != []) = !l_.isEmpty from fun l_ => by cases l_ <;> rfl, show ∀ l_ : List UInt8, (l_ == []) = l_.isEmpty from fun l_ => by cases l_ <;> rfl]; done)), H', ⟨by have := HK1.out; have := HK2.out; have := HK3.out; omega⟩, ⟨by (try simp only [hl3_2]); (with_reducible repeat (first | apply Kd.R_alloc | apply Kd.R_drewN | apply Kd.R_drew)); exact HO_3.out⟩, ⟨by repeat (first | (with_reducible first | exact HB.out | apply below_alloc | apply pw_below_drewN | apply below_drew1) | exact HB.out)⟩⟩
                        · rw [if_neg c53] at H
                          have c53b0 : (t172 == ((rdOf ByteArray.empty x3_2 x9_3).size : Int)) = false := beq_eq_false_iff_ne.mpr c53
                          have c53b1 : (t172 != ((rdOf ByteArray.empty x3_2 x9_3).size : Int)) = true := bne_iff_ne.mpr c53
                          have H' := Aside0.mk H
                          clear H
                          have p171 : 0 ≤ (x9_3 : Int) := of_decide_eq_true (by first | (with_reducible assumption) | assumption)
                          have q171 : x9_3 < (x3_2.length : Int) := of_decide_eq_true (by first | (with_reducible assumption) | assumption)
                          obtain ⟨ad171, e171, hx171_0⟩ := Kd.at_string (Kd.R_reads' HO_3.out).2.2 x9_3 p171 q171
                          cases e171
                          replace p171 := eq_true p171
                          replace q171 := eq_true q171
                          go_wp2_with (first | (go_at_call 22; (with_reducible refine (spec_Indent.calls k3 (rdOf ByteArray.empty x3_2 x9_3) t172 _ A52.out).mono ?_); rintro e w' ⟨rfl, ⟨nd, rfl⟩⟩; (try first | exact ⟨rfl, _, World.drewN_drewN _ _ _⟩ | exact ⟨rfl, _, Eq.trans (World.drewN_drewN _ _ _) (congrArg (World.drewN _) (Nat.add_assoc _ _ _))⟩); have p173 : 0 ≤ (x9_3 : Int) := of_decide_eq_true (by first | (with_reducible assumption) | assumption); have q173 : x9_3 < (x3_2.length : Int) := of_decide_eq_true (by first | (with_reducible assumption) | assumption); obtain ⟨ad173, e173, hx173_0⟩ := Kd.at_string (Kd.R_reads' HO_3.out).2.2 x9_3 p173 q173; obtain rfl : ad171 = ad173 := (by injection e173); replace p173 := eq_true p173; replace q173 := eq_true q173))
                          repeat (go_quiet (first | (go_at_call 22; (with_reducible refine (spec_Indent.calls k3 (rdOf ByteArray.empty x3_2 x9_3) t172 _ A52.out).mono ?_); rintro e w' ⟨rfl, ⟨nd, rfl⟩⟩; (try first | exact ⟨rfl, _, World.drewN_drewN _ _ _⟩ | exact ⟨rfl, _, Eq.trans (World.drewN_drewN _ _ _) (congrArg (World.drewN _) (Nat.add_assoc _ _ _))⟩); have p173 : 0 ≤ (x9_3 : Int) := of_decide_eq_true (by first | (with_reducible assumption) | assumption); have q173 : x9_3 < (x3_2.length : Int) := of_decide_eq_true (by first | (with_reducible assumption) | assumption); obtain ⟨ad173, e173, hx173_0⟩ := Kd.at_string (Kd.R_reads' HO_3.out).2.2 x9_3 p173 q173; obtain rfl : ad171 = ad173 := (by injection e173); replace p173 := eq_true p173; replace q173 := eq_true q173)); try go_wp2_with (first | (go_at_call 22; (with_reducible refine (spec_Indent.calls k3 (rdOf ByteArray.empty x3_2 x9_3) t172 _ A52.out).mono ?_); rintro e w' ⟨rfl, ⟨nd, rfl⟩⟩; (try first | exact ⟨rfl, _, World.drewN_drewN _ _ _⟩ | exact ⟨rfl, _, Eq.trans (World.drewN_drewN _ _ _) (congrArg (World.drewN _) (Nat.add_assoc _ _ _))⟩); have p173 : 0 ≤ (x9_3 : Int) := of_decide_eq_true (by first | (with_reducible assumption) | assumption); have q173 : x9_3 < (x3_2.length : Int) := of_decide_eq_true (by first | (with_reducible assumption) | assumption); obtain ⟨ad173, e173, hx173_0⟩ := Kd.at_string (Kd.R_reads' HO_3.out).2.2 x9_3 p173 q173; obtain rfl : ad171 = ad173 := (by injection e173); replace p173 := eq_true p173; replace q173 := eq_true q173)))
                          go_meet
                          case rel => exact ⟨_, (x9_3), (by first | rfl | (simp; done) | (simp [*]; done) | (simp [show ∀ l_ : List UInt8, (l_ != []) = !l_.isEmpty from fun l_ => by cases l_ <;> rfl, show ∀ l_ : List UInt8, (l_ == []) = l_.isEmpty from fun l_ => by cases l_ <;> rfl]; done)), H', ⟨by have := HK1.out; have := HK2.out; have := HK3.out; first | omega | exact Nat.le_refl _⟩, ⟨by (try simp only [hl3_2]); (with_reducible repeat (first | apply Kd.R_alloc | apply Kd.R_drewN | apply Kd.R_drew)); exact HO_3.out⟩, ⟨by repeat (first | (with_reducible first | exact HB.out | apply below_alloc | apply pw_below_drewN | apply below_drew1) | exact HB.out)⟩⟩
                      · rw [if_neg c51] at H
                        exact absurd H (by simp)
                    · rw [if_neg c50] at H
                      have c50b0 : decide (x9_3 < (x3_2.length : Int)) = false := decide_eq_false c50
                      clear c50
                      (first | rw [c50b0] | (simp only [i64_w, i32_w]; rw [c50b0]) | skip)
                      have H' := Aside0.mk H
                      clear H
                      go_wp2
                      repeat (go_quiet (fail); try go_wp2)
                      go_meet
                      case rel => exact ⟨_, (x9_3), (by first | rfl | (simp; done) | (simp [*]; done) | (simp [show ∀ l_ : List UInt8, (l_ != []) = !l_.isEmpty from fun l_ => by cases l_ <;> rfl, show ∀ l_ : List UInt8, (l_ == []) = l_.isEmpty from fun l_ => by cases l_ <;> rfl]; done)), H', ⟨by have := HK1.out; have := HK2.out; have := HK3.out; first | omega | exact Nat.le_refl _⟩, ⟨by (try simp only [hl3_2]); (with_reducible repeat (first | apply Kd.R_alloc | apply Kd.R_drewN | apply Kd.R_drew)); exact HO_3.out⟩, ⟨by repeat (first | (with_reducible first | exact HB.out | apply below_alloc | apply pw_below_drewN | apply below_drew1) | exact HB.out)⟩⟩
              case rest =>
                clear HC49
                try clear c1
                try clear p1
                try clear q1
                try clear hx1
                try clear c2
                try clear p2
                try clear q2
                try clear hx2
                try clear hf2
                try clear c3
                try clear p3
                try clear q3
                try clear hx3
                try clear hf3
                try clear c4
                try clear c4b0
                try clear p4
                try clear q4
                try clear hx4
                try clear hf4
                try clear c5
                try clear c5b0
                try clear p6
                try clear c7
                try clear c7b0
                try clear c8
                try clear c8b0
                try clear c10
                try clear c10b0
                try clear c15
                try clear c15b0
                try clear p15
                try clear q15
                try clear hx15
                try clear c16
                try clear c16b0
                try clear p16
                try clear q16
                try clear hx16
                try clear p17
                try clear q17
                try clear hx17
                try clear c19
                try clear c19b0
                try clear c20
                try clear c21
                try clear c21b0
                try clear c22
                try clear c22b0
                try clear c23
                try clear c23b0
                try clear c24
                try clear c24b0
                try clear c24b1
                try clear p25
                try clear q25
                try clear hx25
                try clear hf25
                try clear c28
                try clear c28b0
                try clear c29
                try clear c29b0
                try clear c30
                try clear c30b0
                try clear c30b1
                try clear c31
                try clear c31b0
                try clear c31b1
                try clear p32
                try clear q32
                try clear hx32
                try clear hf32
                try clear c35
                try clear c35b0
                try clear c36
                try clear c36b0
                try clear c37
                try clear c37b0
                try clear c38
                try clear c38b0
                try clear c38b1
                try clear p39
                try clear q39
                try clear hx39
                try clear hf39
                try clear c42
                try clear c42b0
                try clear c43
                try clear c43b0
                try clear c44
                try clear c44b0
                try clear c44b1
                try clear c45
                try clear c45b0
                try clear c45b1
                try clear p46
                try clear q46
                try clear hx46
                try clear hf46
                try clear c50
                try clear c50b0
                try clear c51
                try clear c51b0
                try clear c53
                try clear c53b0
                try clear c53b1
                try clear hx158_0
                try clear hx160_0
                try clear hx161_0
                try clear hx163_0
                try clear hx165_0
                try clear hx167_0
                try clear hx169_0
                try clear hx171_0
                try clear hx173_0
                try clear hx25_0
                try clear hx32_0
                try clear hx39_0
                try clear hx46_0
                try clear p1
                try clear p15
                try clear p158
                try clear p16
                try clear p160
                try clear p161
                try clear p163
                try clear p165
                try clear p167
                try clear p169
                try clear p171
                try clear p173
                try clear p2
                try clear p25
                try clear p3
                try clear p32
                try clear p39
                try clear p4
                try clear p46
                try clear p6
                try clear q1
                try clear q15
                try clear q158
                try clear q16
                try clear q160
                try clear q161
                try clear q163
                try clear q165
                try clear q167
                try clear q169
                try clear q171
                try clear q173
                try clear q2
                try clear q25
                try clear q3
                try clear q32
                try clear q39
                try clear q4
                try clear q46
                obtain ⟨kq, x9_48, rfl, HA, HJ48, HO_3, HB⟩ := hcut
                cases kq with
                | zero => exact absurd HA.out (by simp [spec_BlockValue.j4])
                | succ kj48 =>
                  have H := HA.out
                  clear HA
                  simp only [spec_BlockValue.j4] at H
                  have HC54 := Aside0.mk H
                  clear H
                  go_upto_block 6 with (fail)
                  repeat (go_quiet (fail); go_upto_block 6 with (fail))
                  go_cut [10] (fun v10 wc => ∃ (kq : Nat) (x10_53 : Int), v10 = .int .i64 x10_53 ∧ Aside0 (spec_BlockValue.j6 kq x3_2 x9_48 x10_53 = some r) ∧ Aside0 (kq ≤ kj48) ∧ Aside0 (Kd.R Kd.string 9 wc w.heap.size (fun _ => True) (.slice Ao14 x3_2.length co14) x3_2) ∧ Aside0 (Below w.heap.size w wc))
                  case first =>
                    have H := HC54.out
                    clear HC54
                    have H' := Aside0.mk H
                    clear H
                    go_wp2
                    repeat (go_quiet (fail); try go_wp2)
                    go_loopg [10] kj48 (fun kq v10 w' => ∃ (x10_4 : Int), v10 = .int .i64 x10_4 ∧ Aside0 (spec_BlockValue.l3 kq x3_2 x9_48 x10_4 = some r) ∧ Aside0 (kq ≤ kj48) ∧ Aside0 (Kd.R Kd.string 9 w' w.heap.size (fun _ => True) (.slice Ao14 x3_2.length co14) x3_2) ∧ Aside0 (Below w.heap.size w w'))
                    case atStart => exact ⟨((x3_2.length : Int)), (by first | rfl | (simp; done) | (simp [*]; done) | (simp [show ∀ l_ : List UInt8, (l_ != []) = !l_.isEmpty from fun l_ => by cases l_ <;> rfl, show ∀ l_ : List UInt8, (l_ == []) = l_.isEmpty from fun l_ => by cases l_ <;> rfl]; done)), H', ⟨Nat.le_refl _⟩, ⟨by (try simp only [hl3_2]); (with_reducible repeat (first | apply Kd.R_alloc | apply Kd.R_drewN | apply Kd.R_drew)); exact HO_3.out⟩, ⟨by repeat (first | (with_reducible first | exact HB.out | apply below_alloc | apply pw_below_drewN | apply below_drew1) | exact HB.out)⟩⟩
                    case round =>
                      clear H'
                      try clear c1
                      try clear p1
                      try clear q1
                      try clear hx1
                      try clear c2
                      try clear p2
                      try clear q2
                      try clear hx2
                      try clear hf2
                      try clear c3
                      try clear p3
                      try clear q3
                      try clear hx3
                      try clear hf3
                      try clear c4
                      try clear c4b0
                      try clear p4
                      try clear q4
                      try clear hx4
                      try clear hf4
                      try clear c5
                      try clear c5b0
                      try clear p6
                      try clear c7
                      try clear c7b0
                      try clear c8
                      try clear c8b0
                      try clear c10
                      try clear c10b0
                      try clear c15
                      try clear c15b0
                      try clear p15
                      try clear q15
                      try clear hx15
                      try clear c16
                      try clear c16b0
                      try clear p16
                      try clear q16
                      try clear hx16
                      try clear p17
                      try clear q17
                      try clear hx17
                      try clear c19
                      try clear c19b0
                      try clear c20
                      try clear c21
                      try clear c21b0
                      try clear c22
                      try clear c22b0
                      try clear c23
                      try clear c23b0
                      try clear c24
                      try clear c24b0
                      try clear c24b1
                      try clear p25
                      try clear q25
                      try clear hx25
                      try clear hf25
                      try clear c28
                      try clear c28b0
                      try clear c29
                      try clear c29b0
                      try clear c30
                      try clear c30b0
                      try clear c30b1
                      try clear c31
                      try clear c31b0
                      try clear c31b1
                      try clear p32
                      try clear q32
                      try clear hx32
                      try clear hf32
                      try clear c35
                      try clear c35b0
                      try clear c36
                      try clear c36b0
                      try clear c37
                      try clear c37b0
                      try clear c38
                      try clear c38b0
                      try clear c38b1
                      try clear p39
                      try clear q39
                      try clear hx39
                      try clear hf39
                      try clear c42
                      try clear c42b0
                      try clear c43
                      try clear c43b0
                      try clear c44
                      try clear c44b0
                      try clear c44b1
                      try clear c45
                      try clear c45b0
                      try clear c45b1
                      try clear p46
                      try clear q46
                      try clear hx46
                      try clear hf46
                      try clear c50
                      try clear c50b0
                      try clear c51
                      try clear c51b0
                      try clear c53
                      try clear c53b0
                      try clear c53b1
                      try clear hx158_0
                      try clear hx160_0
                      try clear hx161_0
                      try clear hx163_0
                      try clear hx165_0
                      try clear hx167_0
                      try clear hx169_0
                      try clear hx171_0
                      try clear hx173_0
                      try clear hx25_0
                      try clear hx32_0
                      try clear hx39_0
                      try clear hx46_0
                      try clear p1
                      try clear p15
                      try clear p158
                      try clear p16
                      try clear p160
                      try clear p161
                      try clear p163
                      try clear p165
                      try clear p167
                      try clear p169
                      try clear p17
                      try clear p171
                      try clear p173
                      try clear p2
                      try clear p25
                      try clear p3
                      try clear p32
                      try clear p39
                      try clear p4
                      try clear p46
                      try clear p6
                      try clear q1
                      try clear q15
                      try clear q158
                      try clear q16
                      try clear q160
                      try clear q161
                      try clear q163
                      try clear q165
                      try clear q167
                      try clear q169
                      try clear q17
                      try clear q171
                      try clear q173
                      try clear q2
                      try clear q25
                      try clear q3
                      try clear q32
                      try clear q39
                      try clear q4
                      try clear q46
                      obtain ⟨x10_4, rfl, HA, HK4, HO_3, HB⟩ := hrel
                      cases gk with
                      | zero => exact absurd HA.out (by simp [spec_BlockValue.l3])
                      | succ k4 =>
                        have H := HA.out
                        clear HA
                        simp only [spec_BlockValue.l3] at H
                        by_cases c55 : x10_4 > x9_48
                        · rw [if_pos c55] at H
                          have c55b0 : decide (x9_48 < x10_4) = true := decide_eq_true c55
                          clear c55
                          (first | rw [c55b0] | (simp only [i64_w, i32_w]; rw [c55b0]) | skip)
                          obtain ⟨ji56, hji56⟩ : ∃ j_ : Int, (wrap64 (x10_4 - 1)) = j_ := ⟨_, rfl⟩
                          replace H : (if 0 ≤ (ji56) then (if (ji56) < (x3_2.length : Int) then ((spec_Indent.f k4 (rdOf ByteArray.empty x3_2 (ji56))).bind fun t175 => (if t175 = ((rdOf ByteArray.empty x3_2 (ji56)).size : Int) then (spec_BlockValue.l3 k4 x3_2 x9_48 ji56) else (spec_BlockValue.j6 k4 x3_2 x9_48 x10_4))) else (none)) else (none)) = some r := by first | (rw [hji56] at H; exact H) | (simp only [hji56] at H ⊢; exact H)
                          have hji56w : (IntKind.i64.wrap (x10_4 - 1)) = ji56 := (i64_w _).trans hji56
                          by_cases c57 : 0 ≤ (ji56)
                          · rw [if_pos c57] at H
                            have c57b0 : decide (0 ≤ (ji56)) = true := decide_eq_true c57
                            clear c57
                            by_cases c58 : (ji56) < (x3_2.length : Int)
                            · rw [if_pos c58] at H
                              have c58b0 : decide ((ji56) < (x3_2.length : Int)) = true := decide_eq_true c58
                              clear c58
                              replace H := Option.bind_eq_some_iff.mp H
                              obtain ⟨t175, A590, H⟩ := H
                              replace H : (if t175 = ((rdOf ByteArray.empty x3_2 (ji56)).size : Int) then (spec_BlockValue.l3 k4 x3_2 x9_48 ji56) else (spec_BlockValue.j6 k4 x3_2 x9_48 x10_4)) = some r := H
                              have A59 := Aside0.mk A590
                              clear A590
                              by_cases c60 : t175 = ((rdOf ByteArray.empty x3_2 (ji56)).size : Int)
                              · rw [if_pos c60] at H
                                have c60b0 : (t175 == ((rdOf ByteArray.empty x3_2 (ji56)).size : Int)) = true := beq_iff_eq.mpr c60
                                have c60b1 : (t175 != ((rdOf ByteArray.empty x3_2 (ji56)).size : Int)) = false := bne_eq_false_iff_eq.mpr c60
                                clear c60
                                have H' := Aside0.mk H
                                clear H
                                have p174 : 0 ≤ ((ji56) : Int) := of_decide_eq_true (by first | (with_reducible assumption) | assumption)
                                have q174 : (ji56) < (x3_2.length : Int) := of_decide_eq_true (by first | (with_reducible assumption) | assumption)
                                obtain ⟨ad174, e174, hx174_0⟩ := Kd.at_string (Kd.R_reads' HO_3.out).2.2 (ji56) p174 q174
                                cases e174
                                replace p174 := eq_true p174
                                replace q174 := eq_true q174
                                go_wp2_with (first | (go_at_call 22; (with_reducible refine (spec_Indent.calls k4 (rdOf ByteArray.empty x3_2 (ji56)) t175 _ A59.out).mono ?_); rintro e w' ⟨rfl, ⟨nd, rfl⟩⟩; (try first | exact ⟨rfl, _, World.drewN_drewN _ _ _⟩ | exact ⟨rfl, _, Eq.trans (World.drewN_drewN _ _ _) (congrArg (World.drewN _) (Nat.add_assoc _ _ _))⟩); have p176 : 0 ≤ ((ji56) : Int) := of_decide_eq_true (by first | (with_reducible assumption) | assumption); have q176 : (ji56) < (x3_2.length : Int) := of_decide_eq_true (by first | (with_reducible assumption) | assumption); obtain ⟨ad176, e176, hx176_0⟩ := Kd.at_string (Kd.R_reads' HO_3.out).2.2 (ji56) p176 q176; obtain rfl : ad174 = ad176 := (by injection e176); replace p176 := eq_true p176; replace q176 := eq_true q176))
                                repeat (go_quiet (first | (go_at_call 22; (with_reducible refine (spec_Indent.calls k4 (rdOf ByteArray.empty x3_2 (ji56)) t175 _ A59.out).mono ?_); rintro e w' ⟨rfl, ⟨nd, rfl⟩⟩; (try first | exact ⟨rfl, _, World.drewN_drewN _ _ _⟩ | exact ⟨rfl, _, Eq.trans (World.drewN_drewN _ _ _) (congrArg (World.drewN _) (Nat.add_assoc _ _ _))⟩); have p176 : 0 ≤ ((ji56) : Int) := of_decide_eq_true (by first | (with_reducible assumption) | assumption); have q176 : (ji56) < (x3_2.length : Int) := of_decide_eq_true (by first | (with_reducible assumption) | assumption); obtain ⟨ad176, e176, hx176_0⟩ := Kd.at_string (Kd.R_reads' HO_3.out).2.2 (ji56) p176 q176; obtain rfl : ad174 = ad176 := (by injection e176); replace p176 := eq_true p176; replace q176 := eq_true q176)); try go_wp2_with (first | (go_at_call 22; (with_reducible refine (spec_Indent.calls k4 (rdOf ByteArray.empty x3_2 (ji56)) t175 _ A59.out).mono ?_); rintro e w' ⟨rfl, ⟨nd, rfl⟩⟩; (try first | exact ⟨rfl, _, World.drewN_drewN _ _ _⟩ | exact ⟨rfl, _, Eq.trans (World.drewN_drewN _ _ _) (congrArg (World.drewN _) (Nat.add_assoc _ _ _))⟩); have p176 : 0 ≤ ((ji56) : Int) := of_decide_eq_true (by first | (with_reducible assumption) | assumption); have q176 : (ji56) < (x3_2.length : Int) := of_decide_eq_true (by first | (with_reducible assumption) | assumption); obtain ⟨ad176, e176, hx176_0⟩ := Kd.at_string (Kd.R_reads' HO_3.out).2.2 (ji56) p176 q176; obtain rfl : ad174 = ad176 := (by injection e176); replace p176 := eq_true p176; replace q176 := eq_true q176)))
                                go_roundg k4
                                case measure => have := HK1.out; have := HK2.out; have := HJ48.out; have := HK4.out; omega
                                case rel => exact ⟨(ji56), (by first | rfl | (simp; done) | (simp only [← hji56] <;> (first | rfl | (simp; done))) | (simp [*]; done)), (by first | exact H' | (subst hji56; exact H')), ⟨by have := HK1.out; have := HK2.out; have := HJ48.out; have := HK4.out; omega⟩, ⟨by (try simp only [hl3_2]); (with_reducible repeat (first | apply Kd.R_alloc | apply Kd.R_drewN | apply Kd.R_drew)); exact HO_3.out⟩, ⟨by repeat (first | (with_reducible first | exact HB.out | apply below_alloc | apply pw_below_drewN | apply below_drew1) | exact HB.out)⟩⟩
                              · rw [if_neg c60] at H
                                have c60b0 : (t175 == ((rdOf ByteArray.empty x3_2 (ji56)).size : Int)) = false := beq_eq_false_iff_ne.mpr c60
                                have c60b1 : (t175 != ((rdOf ByteArray.empty x3_2 (ji56)).size : Int)) = true := bne_iff_ne.mpr c60
                                have H' := Aside0.mk H
                                clear H
                                have p174 : 0 ≤ ((ji56) : Int) := of_decide_eq_true (by first | (with_reducible assumption) | assumption)
                                have q174 : (ji56) < (x3_2.length : Int) := of_decide_eq_true (by first | (with_reducible assumption) | assumption)
                                obtain ⟨ad174, e174, hx174_0⟩ := Kd.at_string (Kd.R_reads' HO_3.out).2.2 (ji56) p174 q174
                                cases e174
                                replace p174 := eq_true p174
                                replace q174 := eq_true q174
                                go_wp2_with (first | (go_at_call 22; (with_reducible refine (spec_Indent.calls k4 (rdOf ByteArray.empty x3_2 (ji56)) t175 _ A59.out).mono ?_); rintro e w' ⟨rfl, ⟨nd, rfl⟩⟩; (try first | exact ⟨rfl, _, World.drewN_drewN _ _ _⟩ | exact ⟨rfl, _, Eq.trans (World.drewN_drewN _ _ _) (congrArg (World.drewN _) (Nat.add_assoc _ _ _))⟩); have p176 : 0 ≤ ((ji56) : Int) := of_decide_eq_true (by first | (with_reducible assumption) | assumption); have q176 : (ji56) < (x3_2.length : Int) := of_decide_eq_true (by first | (with_reducible assumption) | assumption); obtain ⟨ad176, e176, hx176_0⟩ := Kd.at_string (Kd.R_reads' HO_3.out).2.2 (ji56) p176 q176; obtain rfl : ad174 = ad176 := (by injection e176); replace p176 := eq_true p176; replace q176 := eq_true q176))
                                repeat (go_quiet (first | (go_at_call 22; (with_reducible refine (spec_Indent.calls k4 (rdOf ByteArray.empty x3_2 (ji56)) t175 _ A59.out).mono ?_); rintro e w' ⟨rfl, ⟨nd, rfl⟩⟩; (try first | exact ⟨rfl, _, World.drewN_drewN _ _ _⟩ | exact ⟨rfl, _, Eq.trans (World.drewN_drewN _ _ _) (congrArg (World.drewN _) (Nat.add_assoc _ _ _))⟩); have p176 : 0 ≤ ((ji56) : Int) := of_decide_eq_true (by first | (with_reducible assumption) | assumption); have q176 : (ji56) < (x3_2.length : Int) := of_decide_eq_true (by first | (with_reducible assumption) | assumption); obtain ⟨ad176, e176, hx176_0⟩ := Kd.at_string (Kd.R_reads' HO_3.out).2.2 (ji56) p176 q176; obtain rfl : ad174 = ad176 := (by injection e176); replace p176 := eq_true p176; replace q176 := eq_true q176)); try go_wp2_with (first | (go_at_call 22; (with_reducible refine (spec_Indent.calls k4 (rdOf ByteArray.empty x3_2 (ji56)) t175 _ A59.out).mono ?_); rintro e w' ⟨rfl, ⟨nd, rfl⟩⟩; (try first | exact ⟨rfl, _, World.drewN_drewN _ _ _⟩ | exact ⟨rfl, _, Eq.trans (World.drewN_drewN _ _ _) (congrArg (World.drewN _) (Nat.add_assoc _ _ _))⟩); have p176 : 0 ≤ ((ji56) : Int) := of_decide_eq_true (by first | (with_reducible assumption) | assumption); have q176 : (ji56) < (x3_2.length : Int) := of_decide_eq_true (by first | (with_reducible assumption) | assumption); obtain ⟨ad176, e176, hx176_0⟩ := Kd.at_string (Kd.R_reads' HO_3.out).2.2 (ji56) p176 q176; obtain rfl : ad174 = ad176 := (by injection e176); replace p176 := eq_true p176; replace q176 := eq_true q176)))
                                go_meet
                                case rel => exact ⟨_, (x10_4), (by first | rfl | (simp; done) | (simp [*]; done) | (simp [show ∀ l_ : List UInt8, (l_ != []) = !l_.isEmpty from fun l_ => by cases l_ <;> rfl, show ∀ l_ : List UInt8, (l_ == []) = l_.isEmpty from fun l_ => by cases l_ <;> rfl]; done)), (by first | exact H' | (subst hji56; exact H')), ⟨by have := HK1.out; have := HK2.out; have := HJ48.out; have := HK4.out; first | omega | exact Nat.le_refl _⟩, ⟨by (try simp only [hl3_2]); (with_reducible repeat (first | apply Kd.R_alloc | apply Kd.R_drewN | apply Kd.R_drew)); exact HO_3.out⟩, ⟨by repeat (first | (with_reducible first | exact HB.out | apply below_alloc | apply pw_below_drewN | apply below_drew1) | exact HB.out)⟩⟩
                            · rw [if_neg c58] at H
                              exact absurd H (by simp)
                          · rw [if_neg c57] at H
                            exact absurd H (by simp)
                        · rw [if_neg c55] at H
                          have c55b0 : decide (x9_48 < x10_4) = false := decide_eq_false c55
                          clear c55
                          (first | rw [c55b0] | (simp only [i64_w, i32_w]; rw [c55b0]) | skip)
                          have H' := Aside0.mk H
                          clear H
                          go_wp2
                          repeat (go_quiet (fail); try go_wp2)
                          go_meet
                          case rel => exact ⟨_, (x10_4), (by first | rfl | (simp; done) | (simp [*]; done) | (simp [show ∀ l_ : List UInt8, (l_ != []) = !l_.isEmpty from fun l_ => by cases l_ <;> rfl, show ∀ l_ : List UInt8, (l_ == []) = l_.isEmpty from fun l_ => by cases l_ <;> rfl]; done)), H', ⟨by have := HK1.out; have := HK2.out; have := HJ48.out; have := HK4.out; first | omega | exact Nat.le_refl _⟩, ⟨by (try simp only [hl3_2]); (with_reducible repeat (first | apply Kd.R_alloc | apply Kd.R_drewN | apply Kd.R_drew)); exact HO_3.out⟩, ⟨by repeat (first | (with_reducible first | exact HB.out | apply below_alloc | apply pw_below_drewN | apply below_drew1) | exact HB.out)⟩⟩
                  case rest =>
                    clear HC54
                    try clear c1
                    try clear p1
                    try clear q1
                    try clear hx1
                    try clear c2
                    try clear p2
                    try clear q2
                    try clear hx2
                    try clear hf2
                    try clear c3
                    try clear p3
                    try clear q3
                    try clear hx3
                    try clear hf3
                    try clear c4
                    try clear c4b0
                    try clear p4
                    try clear q4
                    try clear hx4
                    try clear hf4
                    try clear c5
                    try clear c5b0
                    try clear c6
                    try clear p6
                    try clear c7
                    try clear c7b0
                    try clear c8
                    try clear c8b0
                    try clear c10
                    try clear c10b0
                    try clear c15
                    try clear c15b0
                    try clear p15
                    try clear q15
                    try clear hx15
                    try clear c16
                    try clear c16b0
                    try clear p16
                    try clear q16
                    try clear hx16
                    try clear p17
                    try clear q17
                    try clear hx17
                    try clear c19
                    try clear c19b0
                    try clear c20
                    try clear c21
                    try clear c21b0
                    try clear c22
                    try clear c22b0
                    try clear c23
                    try clear c23b0
                    try clear c24
                    try clear c24b0
                    try clear c24b1
                    try clear p25
                    try clear q25
                    try clear hx25
                    try clear hf25
                    try clear c28
                    try clear c28b0
                    try clear c29
                    try clear c29b0
                    try clear c30
                    try clear c30b0
                    try clear c30b1
                    try clear c31
                    try clear c31b0
                    try clear c31b1
                    try clear p32
                    try clear q32
                    try clear hx32
                    try clear hf32
                    try clear c35
                    try clear c35b0
                    try clear c36
                    try clear c36b0
                    try clear c37
                    try clear c37b0
                    try clear c38
                    try clear c38b0
                    try clear c38b1
                    try clear p39
                    try clear q39
                    try clear hx39
                    try clear hf39
                    try clear c42
                    try clear c42b0
                    try clear c43
                    try clear c43b0
                    try clear c44
                    try clear c44b0
                    try clear c44b1
                    try clear c45
                    try clear c45b0
                    try clear c45b1
                    try clear p46
                    try clear q46
                    try clear hx46
                    try clear hf46
                    try clear c50
                    try clear c50b0
                    try clear c51
                    try clear c51b0
                    try clear c53
                    try clear c53b0
                    try clear c53b1
                    try clear c55
                    try clear c55b0
                    try clear c57
                    try clear c57b0
                    try clear c58
                    try clear c58b0
                    try clear c60
                    try clear c60b0
                    try clear c60b1
                    try clear hx158_0
                    try clear hx160_0
                    try clear hx161_0
                    try clear hx163_0
                    try clear hx165_0
                    try clear hx167_0
                    try clear hx169_0
                    try clear hx171_0
                    try clear hx173_0
                    try clear hx174_0
                    try clear hx176_0
                    try clear hx25_0
                    try clear hx32_0
                    try clear hx39_0
                    try clear hx46_0
                    try clear p1
                    try clear p15
                    try clear p158
                    try clear p16
                    try clear p160
                    try clear p161
                    try clear p163
                    try clear p165
                    try clear p167
                    try clear p169
                    try clear p17
                    try clear p171
                    try clear p173
                    try clear p174
                    try clear p176
                    try clear p2
                    try clear p25
                    try clear p3
                    try clear p32
                    try clear p39
                    try clear p4
                    try clear p46
                    try clear p6
                    try clear q1
                    try clear q15
                    try clear q158
                    try clear q16
                    try clear q160
                    try clear q161
                    try clear q163
                    try clear q165
                    try clear q167
                    try clear q169
                    try clear q17
                    try clear q171
                    try clear q173
                    try clear q174
                    try clear q176
                    try clear q2
                    try clear q25
                    try clear q3
                    try clear q32
                    try clear q39
                    try clear q4
                    try clear q46
                    obtain ⟨kq, x10_53, rfl, HA, HJ53, HO_3, HB⟩ := hcut
                    cases kq with
                    | zero => exact absurd HA.out (by simp [spec_BlockValue.j6])
                    | succ kj53 =>
                      have H := HA.out
                      clear HA
                      simp only [spec_BlockValue.j6] at H
                      obtain ⟨y177, hy177⟩ : ∃ y_ : List Int, y_ = (([] : List Int)) := ⟨_, rfl⟩
                      replace H : (spec_BlockValue.l4 kj53 x3_2 x9_48 x10_53 y177 x9_48) = some r := by first | (rw [hy177]; with_reducible exact H) | (have H2_ := (Option.bind_some _ _).symm.trans H; rw [hy177]; with_reducible exact H2_) | (have H2_ := (Option.bind_some _ _).symm.trans H; with_reducible exact H2_) | with_reducible exact H | (rw [hy177]; exact H) | exact H
                      have Ny177 := Aside0.mk hy177
                      clear hy177
                      have H' := Aside0.mk H
                      clear H
                      go_wp2_with (first | ((with_reducible refine gate_dst (N := 114) rfl ?_); (try (refine gate_guard (by rfl) ?_; dsimp only)); refine Kd.R_lit (Kd.int .u8) _ 5 ?hg (N := 114) ?hd (xs := ([] : List Int)) (inner := []) (ok := fun _ => True) (okp := fun _ => True) ?hr ?hp (fun _ hk => hk) trivial (Below.refl _ _) (Nat.le_refl _) (by simp) ?_; (case hd => rfl); (case hg => rfl); (case hr => first | (go_simp; done) | (go_simp; rfl)); (case hp => exact (Reps.none _ _)); intro v178 w61 ho62 hb hg_ hnew_; clear hg_ hnew_; (first | rw [← Ny177.out] at ho62 | (simp only [Int.reduceToNat] at ho62; rw [← Ny177.out] at ho62)); have n0_ := Aside0.mk (Kd.R_below (by (with_reducible repeat (first | apply Kd.R_alloc | apply Kd.R_drewN | apply Kd.R_drew)); exact HO_3.out) hb); have n1_ := Aside0.mk (Kd.R_lower ho62 (below_size (by repeat (first | (with_reducible first | exact HB.out | apply below_alloc | apply pw_below_drewN | apply below_drew1) | exact HB.out)))); have n2_ := Aside0.mk (below_step (by repeat (first | (with_reducible first | exact HB.out | apply below_alloc | apply pw_below_drewN | apply below_drew1) | exact HB.out)) hb); clear HO_3; clear HB; have HO_3 := n0_; have HO179 := n1_; have HB := n2_; clear n0_ n1_ n2_; clear hb ho62))
                      repeat (go_quiet (first | ((with_reducible refine gate_dst (N := 114) rfl ?_); (try (refine gate_guard (by rfl) ?_; dsimp only)); refine Kd.R_lit (Kd.int .u8) _ 5 ?hg (N := 114) ?hd (xs := ([] : List Int)) (inner := []) (ok := fun _ => True) (okp := fun _ => True) ?hr ?hp (fun _ hk => hk) trivial (Below.refl _ _) (Nat.le_refl _) (by simp) ?_; (case hd => rfl); (case hg => rfl); (case hr => first | (go_simp; done) | (go_simp; rfl)); (case hp => exact (Reps.none _ _)); intro v178 w61 ho62 hb hg_ hnew_; clear hg_ hnew_; (first | rw [← Ny177.out] at ho62 | (simp only [Int.reduceToNat] at ho62; rw [← Ny177.out] at ho62)); have n0_ := Aside0.mk (Kd.R_below (by (with_reducible repeat (first | apply Kd.R_alloc | apply Kd.R_drewN | apply Kd.R_drew)); exact HO_3.out) hb); have n1_ := Aside0.mk (Kd.R_lower ho62 (below_size (by repeat (first | (with_reducible first | exact HB.out | apply below_alloc | apply pw_below_drewN | apply below_drew1) | exact HB.out)))); have n2_ := Aside0.mk (below_step (by repeat (first | (with_reducible first | exact HB.out | apply below_alloc | apply pw_below_drewN | apply below_drew1) | exact HB.out)) hb); clear HO_3; clear HB; have HO_3 := n0_; have HO179 := n1_; have HB := n2_; clear n0_ n1_ n2_; clear hb ho62)); try go_wp2_with (first | ((with_reducible refine gate_dst (N := 114) rfl ?_); (try (refine gate_guard (by rfl) ?_; dsimp only)); refine Kd.R_lit (Kd.int .u8) _ 5 ?hg (N := 114) ?hd (xs := ([] : List Int)) (inner := []) (ok := fun _ => True) (okp := fun _ => True) ?hr ?hp (fun _ hk => hk) trivial (Below.refl _ _) (Nat.le_refl _) (by simp) ?_; (case hd => rfl); (case hg => rfl); (case hr => first | (go_simp; done) | (go_simp; rfl)); (case hp => exact (Reps.none _ _)); intro v178 w61 ho62 hb hg_ hnew_; clear hg_ hnew_; (first | rw [← Ny177.out] at ho62 | (simp only [Int.reduceToNat] at ho62; rw [← Ny177.out] at ho62)); have n0_ := Aside0.mk (Kd.R_below (by (with_reducible repeat (first | apply Kd.R_alloc | apply Kd.R_drewN | apply Kd.R_drew)); exact HO_3.out) hb); have n1_ := Aside0.mk (Kd.R_lower ho62 (below_size (by repeat (first | (with_reducible first | exact HB.out | apply below_alloc | apply pw_below_drewN | apply below_drew1) | exact HB.out)))); have n2_ := Aside0.mk (below_step (by repeat (first | (with_reducible first | exact HB.out | apply below_alloc | apply pw_below_drewN | apply below_drew1) | exact HB.out)) hb); clear HO_3; clear HB; have HO_3 := n0_; have HO179 := n1_; have HB := n2_; clear n0_ n1_ n2_; clear hb ho62)))
                      go_loopg [11, 12] kj53 (fun kq v11 v12 w' => ∃ (x11_5 : List Int) (x12_5 : Int), v12 = .int .i64 x12_5 ∧ Aside0 (spec_BlockValue.l4 kq x3_2 x9_48 x10_53 x11_5 x12_5 = some r) ∧ Aside0 (kq ≤ kj53) ∧ Aside0 (Kd.R Kd.string 9 w' w.heap.size (fun _ => True) (.slice Ao14 x3_2.length co14) x3_2) ∧ Aside0 (Kd.R (Kd.int .u8) 5 w' w.heap.size (fun _ => True) v11 x11_5) ∧ Aside0 (Below w.heap.size w w'))
                      case atStart => exact ⟨(y177), (x9_48), (by first | rfl | (simp; done) | (simp [*]; done) | (simp [show ∀ l_ : List UInt8, (l_ != []) = !l_.isEmpty from fun l_ => by cases l_ <;> rfl, show ∀ l_ : List UInt8, (l_ == []) = l_.isEmpty from fun l_ => by cases l_ <;> rfl]; done)), H', ⟨Nat.le_refl _⟩, ⟨by (try simp only [hl3_2]); (with_reducible repeat (first | apply Kd.R_alloc | apply Kd.R_drewN | apply Kd.R_drew)); exact HO_3.out⟩, ⟨by (try simp only [hl3_2]); (with_reducible repeat (first | apply Kd.R_alloc | apply Kd.R_drewN | apply Kd.R_drew)); exact HO179.out⟩, ⟨by repeat (first | (with_reducible first | exact HB.out | apply below_alloc | apply pw_below_drewN | apply below_drew1) | exact HB.out)⟩⟩
                      case round =>
                        clear H'
                        try clear c1
                        try clear p1
                        try clear q1
                        try clear hx1
                        try clear c2
                        try clear p2
                        try clear q2
                        try clear hx2
                        try clear hf2
                        try clear c3
                        try clear p3
                        try clear q3
                        try clear hx3
                        try clear hf3
                        try clear c4
                        try clear c4b0
                        try clear p4
                        try clear q4
                        try clear hx4
                        try clear hf4
                        try clear c5
                        try clear c5b0
                        try clear c6
                        try clear p6
                        try clear c7
                        try clear c7b0
                        try clear c8
                        try clear c8b0
                        try clear c10
                        try clear c10b0
                        try clear c15
                        try clear c15b0
                        try clear p15
                        try clear q15
                        try clear hx15
                        try clear c16
                        try clear c16b0
                        try clear p16
                        try clear q16
                        try clear hx16
                        try clear p17
                        try clear q17
                        try clear hx17
                        try clear c19
                        try clear c19b0
                        try clear c20
                        try clear c21
                        try clear c21b0
                        try clear c22
                        try clear c22b0
                        try clear c23
                        try clear c23b0
                        try clear c24
                        try clear c24b0
                        try clear c24b1
                        try clear p25
                        try clear q25
                        try clear hx25
                        try clear hf25
                        try clear c28
                        try clear c28b0
                        try clear c29
                        try clear c29b0
                        try clear c30
                        try clear c30b0
                        try clear c30b1
                        try clear c31
                        try clear c31b0
                        try clear c31b1
                        try clear p32
                        try clear q32
                        try clear hx32
                        try clear hf32
                        try clear c35
                        try clear c35b0
                        try clear c36
                        try clear c36b0
                        try clear c37
                        try clear c37b0
                        try clear c38
                        try clear c38b0
                        try clear c38b1
                        try clear p39
                        try clear q39
                        try clear hx39
                        try clear hf39
                        try clear c42
                        try clear c42b0
                        try clear c43
                        try clear c43b0
                        try clear c44
                        try clear c44b0
                        try clear c44b1
                        try clear c45
                        try clear c45b0
                        try clear c45b1
                        try clear p46
                        try clear q46
                        try clear hx46
                        try clear hf46
                        try clear c50
                        try clear c50b0
                        try clear c51
                        try clear c51b0
                        try clear c53
                        try clear c53b0
                        try clear c53b1
                        try clear c55
                        try clear c55b0
                        try clear c57
                        try clear c57b0
                        try clear c58
                        try clear c58b0
                        try clear c60
                        try clear c60b0
                        try clear c60b1
                        try clear hx158_0
                        try clear hx160_0
                        try clear hx161_0
                        try clear hx163_0
                        try clear hx165_0
                        try clear hx167_0
                        try clear hx169_0
                        try clear hx171_0
                        try clear hx173_0
                        try clear hx174_0
                        try clear hx176_0
                        try clear hx25_0
                        try clear hx32_0
                        try clear hx39_0
                        try clear hx46_0
                        try clear p1
                        try clear p15
                        try clear p158
                        try clear p16
                        try clear p160
                        try clear p161
                        try clear p163
                        try clear p165
                        try clear p167
                        try clear p169
                        try clear p17
                        try clear p171
                        try clear p173
                        try clear p174
                        try clear p176
                        try clear p2
                        try clear p25
                        try clear p3
                        try clear p32
                        try clear p39
                        try clear p4
                        try clear p46
                        try clear p6
                        try clear q1
                        try clear q15
                        try clear q158
                        try clear q16
                        try clear q160
                        try clear q161
                        try clear q163
                        try clear q165
                        try clear q167
                        try clear q169
                        try clear q17
                        try clear q171
                        try clear q173
                        try clear q174
                        try clear q176
                        try clear q2
                        try clear q25
                        try clear q3
                        try clear q32
                        try clear q39
                        try clear q4
                        try clear q46
                        obtain ⟨x11_5, x12_5, rfl, HA, HK5, HO_3, HO_11, HB⟩ := hrel
                        cases gk with
                        | zero => exact absurd HA.out (by simp [spec_BlockValue.l4])
                        | succ k5 =>
                          have H := HA.out
                          clear HA
                          simp only [spec_BlockValue.l4] at H
                          by_cases c63 : x12_5 < x10_53
                          · rw [if_pos c63] at H
                            have c63b0 : decide (x12_5 < x10_53) = true := decide_eq_true c63
                            clear c63
                            by_cases c64 : x12_5 > x9_48
                            · rw [if_pos c64] at H
                              have c64b0 : decide (x9_48 < x12_5) = true := decide_eq_true c64
                              clear c64
                              by_cases c65 : x11_5.length < 140737488355328
                              · rw [if_pos c65] at H
                                have LMc65 := Aside0.mk c65
                                clear c65
                                obtain ⟨y180, hy180⟩ : ∃ y_ : List Int, y_ = (x11_5 ++ [10]) := ⟨_, rfl⟩
                                replace H : (if 0 ≤ x12_5 then (if x12_5 < (x3_2.length : Int) then (if y180.length + (rdOf ByteArray.empty x3_2 x12_5).size < 140737488355328 then (spec_BlockValue.l4 k5 x3_2 x9_48 x10_53 (y180 ++ bytesOf (rdOf ByteArray.empty x3_2 x12_5)) (wrap64 (x12_5 + 1))) else (none)) else (none)) else (none)) = some r := by first | (rw [hy180]; with_reducible exact H) | (have H2_ := (Option.bind_some _ _).symm.trans H; rw [hy180]; with_reducible exact H2_) | (have H2_ := (Option.bind_some _ _).symm.trans H; with_reducible exact H2_) | with_reducible exact H | (rw [hy180]; exact H) | exact H
                                have Ny180 := Aside0.mk hy180
                                clear hy180
                                by_cases c66 : 0 ≤ x12_5
                                · rw [if_pos c66] at H
                                  have c66b0 : decide (0 ≤ x12_5) = true := decide_eq_true c66
                                  clear c66
                                  by_cases c67 : x12_5 < (x3_2.length : Int)
                                  · rw [if_pos c67] at H
                                    have c67b0 : decide (x12_5 < (x3_2.length : Int)) = true := decide_eq_true c67
                                    clear c67
                                    by_cases c68 : y180.length + (rdOf ByteArray.empty x3_2 x12_5).size < 140737488355328
                                    · rw [if_pos c68] at H
                                      have LMc68 := Aside0.mk c68
                                      clear c68
                                      obtain ⟨y184, hy184⟩ : ∃ y_ : List Int, y_ = (y180 ++ bytesOf (rdOf ByteArray.empty x3_2 x12_5)) := ⟨_, rfl⟩
                                      replace H : (spec_BlockValue.l4 k5 x3_2 x9_48 x10_53 y184 (wrap64 (x12_5 + 1))) = some r := by first | (rw [hy184]; with_reducible exact H) | (have H2_ := (Option.bind_some _ _).symm.trans H; rw [hy184]; with_reducible exact H2_) | (have H2_ := (Option.bind_some _ _).symm.trans H; with_reducible exact H2_) | with_reducible exact H | (rw [hy184]; exact H) | exact H
                                      have Ny184 := Aside0.mk hy184
                                      clear hy184
                                      have H' := Aside0.mk H
                                      clear H
                                      go_wp2_with (first | ((with_reducible refine gate_builtin (b := .append) (xs := #[.tmp 124, .tmp 125]) rfl ?_); (try (refine gate_guard (by rfl) ?_; dsimp only)); at_builtin; refine Kd.R_append (Kd.int .u8) (w0 := w) w.heap.size rfl (.tmp 124) (.tmp 125) 22 5 (.int .u8 0) 1 rfl Tryd.underlying22 info5 rfl (by decide) (by omega) u11 x11_5 10 [.int .u8 10] (fun _ => True) (fun _ => False) rfl rfl ?aP (fun _ hk => hk.elim) ?aF ?aO ?aB ?aS ?aL ?_; (case aP => exact rfl); (case aB => exact (by repeat (first | (with_reducible first | exact HB.out | apply below_alloc | apply pw_below_drewN | apply below_drew1) | exact HB.out))); (case aF => exact (fun _ _ => trivial)); (case aO => exact (by (with_reducible repeat (first | apply Kd.R_alloc | apply Kd.R_drewN | apply Kd.R_drew)); exact HO_11.out)); (case aS => exact (below_size (by repeat (first | (with_reducible first | exact HB.out | apply below_alloc | apply pw_below_drewN | apply below_drew1) | exact HB.out)))); (case aL => have := LMc65.out; omega); intro v181 w69 ho hb hg hat; rw [← Ny180.out] at ho; have n0_ := Aside0.mk (Kd.R_over' (by (with_reducible repeat (first | apply Kd.R_alloc | apply Kd.R_drewN | apply Kd.R_drew)); exact HO_3.out) (Kd.R_typed (by (with_reducible repeat (first | apply Kd.R_alloc | apply Kd.R_drewN | apply Kd.R_drew)); exact HO_11.out)) (by decide) hg); have n1_ := Aside0.mk (hb); have n2_ := Aside0.mk (ho); clear HO_3; clear HB; clear HO_11; have HO_3 := n0_; have HB := n1_; have HO182 := n2_; clear n0_ n1_ n2_; clear ho hb hg hat; have p183 : 0 ≤ (x12_5 : Int) := of_decide_eq_true (by first | (with_reducible assumption) | assumption); have q183 : x12_5 < (x3_2.length : Int) := of_decide_eq_true (by first | (with_reducible assumption) | assumption); obtain ⟨ad183, e183, hx183_0⟩ := Kd.at_string (Kd.R_reads' HO_3.out).2.2 x12_5 p183 q183; cases e183; replace p183 := eq_true p183; replace q183 := eq_true q183) | (at_builtin; refine print_append_str (w0 := w) w.heap.size rfl (.tmp 127) _ 22 9 5 rfl Tryd.underlying22 Tryd.underlying9 info5 v181 y180 (rdOf ByteArray.empty x3_2 x12_5) rfl rfl ?aO ?aB ?aS ?aL ?_; (case aB => exact (by repeat (first | (with_reducible first | exact HB.out | apply below_alloc | apply pw_below_drewN | apply below_drew1) | exact HB.out))); (case aO => exact (Kd.own_of_R (by (with_reducible repeat (first | apply Kd.R_alloc | apply Kd.R_drewN | apply Kd.R_drew)); exact HO182.out))); (case aS => exact (below_size (by repeat (first | (with_reducible first | exact HB.out | apply below_alloc | apply pw_below_drewN | apply below_drew1) | exact HB.out)))); (case aL => have := LMc68.out; omega); intro v185 w70 ho0 hb hg; have ho := Kd.R_of_own (h1 := fun _ => rfl) (ok := fun _ => True) ho0 (fun _ _ => trivial); clear ho0; have hat := True.intro; rw [← Ny184.out] at ho; change Kd.R (Kd.int .u8) 5 w70 w.heap.size (fun _ => True) v185 y184 at ho; have n0_ := Aside0.mk (Kd.R_over' (by (with_reducible repeat (first | apply Kd.R_alloc | apply Kd.R_drewN | apply Kd.R_drew)); exact HO_3.out) (Kd.R_typed (by (with_reducible repeat (first | apply Kd.R_alloc | apply Kd.R_drewN | apply Kd.R_drew)); exact HO182.out)) (by decide) hg); have n1_ := Aside0.mk (hb); have n2_ := Aside0.mk (ho); clear HO_3; clear HB; clear HO182; have HO_3 := n0_; have HB := n1_; have HO186 := n2_; clear n0_ n1_ n2_; clear ho hb hg hat))
                                      repeat (go_quiet (first | ((with_reducible refine gate_builtin (b := .append) (xs := #[.tmp 124, .tmp 125]) rfl ?_); (try (refine gate_guard (by rfl) ?_; dsimp only)); at_builtin; refine Kd.R_append (Kd.int .u8) (w0 := w) w.heap.size rfl (.tmp 124) (.tmp 125) 22 5 (.int .u8 0) 1 rfl Tryd.underlying22 info5 rfl (by decide) (by omega) u11 x11_5 10 [.int .u8 10] (fun _ => True) (fun _ => False) rfl rfl ?aP (fun _ hk => hk.elim) ?aF ?aO ?aB ?aS ?aL ?_; (case aP => exact rfl); (case aB => exact (by repeat (first | (with_reducible first | exact HB.out | apply below_alloc | apply pw_below_drewN | apply below_drew1) | exact HB.out))); (case aF => exact (fun _ _ => trivial)); (case aO => exact (by (with_reducible repeat (first | apply Kd.R_alloc | apply Kd.R_drewN | apply Kd.R_drew)); exact HO_11.out)); (case aS => exact (below_size (by repeat (first | (with_reducible first | exact HB.out | apply below_alloc | apply pw_below_drewN | apply below_drew1) | exact HB.out)))); (case aL => have := LMc65.out; omega); intro v181 w69 ho hb hg hat; rw [← Ny180.out] at ho; have n0_ := Aside0.mk (Kd.R_over' (by (with_reducible repeat (first | apply Kd.R_alloc | apply Kd.R_drewN | apply Kd.R_drew)); exact HO_3.out) (Kd.R_typed (by (with_reducible repeat (first | apply Kd.R_alloc | apply Kd.R_drewN | apply Kd.R_drew)); exact HO_11.out)) (by decide) hg); have n1_ := Aside0.mk (hb); have n2_ := Aside0.mk (ho); clear HO_3; clear HB; clear HO_11; have HO_3 := n0_; have HB := n1_; have HO182 := n2_; clear n0_ n1_ n2_; clear ho hb hg hat; have p183 : 0 ≤ (x12_5 : Int) := of_decide_eq_true (by first | (with_reducible assumption) | assumption); have q183 : x12_5 < (x3_2.length : Int) := of_decide_eq_true (by first | (with_reducible assumption) | assumption); obtain ⟨ad183, e183, hx183_0⟩ := Kd.at_string (Kd.R_reads' HO_3.out).2.2 x12_5 p183 q183; cases e183; replace p183 := eq_true p183; replace q183 := eq_true q183) | (at_builtin; refine print_append_str (w0 := w) w.heap.size rfl (.tmp 127) _ 22 9 5 rfl Tryd.underlying22 Tryd.underlying9 info5 v181 y180 (rdOf ByteArray.empty x3_2 x12_5) rfl rfl ?aO ?aB ?aS ?aL ?_; (case aB => exact (by repeat (first | (with_reducible first | exact HB.out | apply below_alloc | apply pw_below_drewN | apply below_drew1) | exact HB.out))); (case aO => exact (Kd.own_of_R (by (with_reducible repeat (first | apply Kd.R_alloc | apply Kd.R_drewN | apply Kd.R_drew)); exact HO182.out))); (case aS => exact (below_size (by repeat (first | (with_reducible first | exact HB.out | apply below_alloc | apply pw_below_drewN | apply below_drew1) | exact HB.out)))); (case aL => have := LMc68.out; omega); intro v185 w70 ho0 hb hg; have ho := Kd.R_of_own (h1 := fun _ => rfl) (ok := fun _ => True) ho0 (fun _ _ => trivial); clear ho0; have hat := True.intro; rw [← Ny184.out] at ho; change Kd.R (Kd.int .u8) 5 w70 w.heap.size (fun _ => True) v185 y184 at ho; have n0_ := Aside0.mk (Kd.R_over' (by (with_reducible repeat (first | apply Kd.R_alloc | apply Kd.R_drewN | apply Kd.R_drew)); exact HO_3.out) (Kd.R_typed (by (with_reducible repeat (first | apply Kd.R_alloc | apply Kd.R_drewN | apply Kd.R_drew)); exact HO182.out)) (by decide) hg); have n1_ := Aside0.mk (hb); have n2_ := Aside0.mk (ho); clear HO_3; clear HB; clear HO182; have HO_3 := n0_; have HB := n1_; have HO186 := n2_; clear n0_ n1_ n2_; clear ho hb hg hat)); try go_wp2_with (first | ((with_reducible refine gate_builtin (b := .append) (xs := #[.tmp 124, .tmp 125]) rfl ?_); (try (refine gate_guard (by rfl) ?_; dsimp only)); at_builtin; refine Kd.R_append (Kd.int .u8) (w0 := w) w.heap.size rfl (.tmp 124) (.tmp 125) 22 5 (.int .u8 0) 1 rfl Tryd.underlying22 info5 rfl (by decide) (by omega) u11 x11_5 10 [.int .u8 10] (fun _ => True) (fun _ => False) rfl rfl ?aP (fun _ hk => hk.elim) ?aF ?aO ?aB ?aS ?aL ?_; (case aP => exact rfl); (case aB => exact (by repeat (first | (with_reducible first | exact HB.out | apply below_alloc | apply pw_below_drewN | apply below_drew1) | exact HB.out))); (case aF => exact (fun _ _ => trivial)); (case aO => exact (by (with_reducible repeat (first | apply Kd.R_alloc | apply Kd.R_drewN | apply Kd.R_drew)); exact HO_11.out)); (case aS => exact (below_size (by repeat (first | (with_reducible first | exact HB.out | apply below_alloc | apply pw_below_drewN | apply below_drew1) | exact HB.out)))); (case aL => have := LMc65.out; omega); intro v181 w69 ho hb hg hat; rw [← Ny180.out] at ho; have n0_ := Aside0.mk (Kd.R_over' (by (with_reducible repeat (first | apply Kd.R_alloc | apply Kd.R_drewN | apply Kd.R_drew)); exact HO_3.out) (Kd.R_typed (by (with_reducible repeat (first | apply Kd.R_alloc | apply Kd.R_drewN | apply Kd.R_drew)); exact HO_11.out)) (by decide) hg); have n1_ := Aside0.mk (hb); have n2_ := Aside0.mk (ho); clear HO_3; clear HB; clear HO_11; have HO_3 := n0_; have HB := n1_; have HO182 := n2_; clear n0_ n1_ n2_; clear ho hb hg hat; have p183 : 0 ≤ (x12_5 : Int) := of_decide_eq_true (by first | (with_reducible assumption) | assumption); have q183 : x12_5 < (x3_2.length : Int) := of_decide_eq_true (by first | (with_reducible assumption) | assumption); obtain ⟨ad183, e183, hx183_0⟩ := Kd.at_string (Kd.R_reads' HO_3.out).2.2 x12_5 p183 q183; cases e183; replace p183 := eq_true p183; replace q183 := eq_true q183) | (at_builtin; refine print_append_str (w0 := w) w.heap.size rfl (.tmp 127) _ 22 9 5 rfl Tryd.underlying22 Tryd.underlying9 info5 v181 y180 (rdOf ByteArray.empty x3_2 x12_5) rfl rfl ?aO ?aB ?aS ?aL ?_; (case aB => exact (by repeat (first | (with_reducible first | exact HB.out | apply below_alloc | apply pw_below_drewN | apply below_drew1) | exact HB.out))); (case aO => exact (Kd.own_of_R (by (with_reducible repeat (first | apply Kd.R_alloc | apply Kd.R_drewN | apply Kd.R_drew)); exact HO182.out))); (case aS => exact (below_size (by repeat (first | (with_reducible first | exact HB.out | apply below_alloc | apply pw_below_drewN | apply below_drew1) | exact HB.out)))); (case aL => have := LMc68.out; omega); intro v185 w70 ho0 hb hg; have ho := Kd.R_of_own (h1 := fun _ => rfl) (ok := fun _ => True) ho0 (fun _ _ => trivial); clear ho0; have hat := True.intro; rw [← Ny184.out] at ho; change Kd.R (Kd.int .u8) 5 w70 w.heap.size (fun _ => True) v185 y184 at ho; have n0_ := Aside0.mk (Kd.R_over' (by (with_reducible repeat (first | apply Kd.R_alloc | apply Kd.R_drewN | apply Kd.R_drew)); exact HO_3.out) (Kd.R_typed (by (with_reducible repeat (first | apply Kd.R_alloc | apply Kd.R_drewN | apply Kd.R_drew)); exact HO182.out)) (by decide) hg); have n1_ := Aside0.mk (hb); have n2_ := Aside0.mk (ho); clear HO_3; clear HB; clear HO182; have HO_3 := n0_; have HB := n1_; have HO186 := n2_; clear n0_ n1_ n2_; clear ho hb hg hat)))
                                      go_roundg k5
                                      case measure => have := HK1.out; have := HK2.out; have := HJ48.out; have := HJ53.out; have := HK5.out; omega
                                      case rel => exact ⟨(y184), (wrap64 (x12_5 + 1)), (by first | rfl | (simp; done) | (simp [*]; done) | (simp [show ∀ l_ : List UInt8, (l_ != []) = !l_.isEmpty from fun l_ => by cases l_ <;> rfl, show ∀ l_ : List UInt8, (l_ == []) = l_.isEmpty from fun l_ => by cases l_ <;> rfl]; done)), H', ⟨by have := HK1.out; have := HK2.out; have := HJ48.out; have := HJ53.out; have := HK5.out; omega⟩, ⟨by (try simp only [hl3_2]); (with_reducible repeat (first | apply Kd.R_alloc | apply Kd.R_drewN | apply Kd.R_drew)); exact HO_3.out⟩, ⟨by (try simp only [hl3_2]); (with_reducible repeat (first | apply Kd.R_alloc | apply Kd.R_drewN | apply Kd.R_drew)); exact HO186.out⟩, ⟨by repeat (first | (with_reducible first | exact HB.out | apply below_alloc | apply pw_below_drewN | apply below_drew1) | exact HB.out)⟩⟩
                                    · rw [if_neg c68] at H
                                      exact absurd H (by simp)
                                  · rw [if_neg c67] at H
                                    exact absurd H (by simp)
                                · rw [if_neg c66] at H
                                  exact absurd H (by simp)
                              · rw [if_neg c65] at H
                                exact absurd H (by simp)
                            · rw [if_neg c64] at H
                              have c64b0 : decide (x9_48 < x12_5) = false := decide_eq_false c64
                              clear c64
                              by_cases c71 : 0 ≤ x12_5
                              · rw [if_pos c71] at H
                                have c71b0 : decide (0 ≤ x12_5) = true := decide_eq_true c71
                                clear c71
                                by_cases c72 : x12_5 < (x3_2.length : Int)
                                · rw [if_pos c72] at H
                                  have c72b0 : decide (x12_5 < (x3_2.length : Int)) = true := decide_eq_true c72
                                  clear c72
                                  by_cases c73 : x11_5.length + (rdOf ByteArray.empty x3_2 x12_5).size < 140737488355328
                                  · rw [if_pos c73] at H
                                    have LMc73 := Aside0.mk c73
                                    clear c73
                                    obtain ⟨y188, hy188⟩ : ∃ y_ : List Int, y_ = (x11_5 ++ bytesOf (rdOf ByteArray.empty x3_2 x12_5)) := ⟨_, rfl⟩
                                    replace H : (spec_BlockValue.l4 k5 x3_2 x9_48 x10_53 y188 (wrap64 (x12_5 + 1))) = some r := by first | (rw [hy188]; with_reducible exact H) | (have H2_ := (Option.bind_some _ _).symm.trans H; rw [hy188]; with_reducible exact H2_) | (have H2_ := (Option.bind_some _ _).symm.trans H; with_reducible exact H2_) | with_reducible exact H | (rw [hy188]; exact H) | exact H
                                    have Ny188 := Aside0.mk hy188
                                    clear hy188
                                    have H' := Aside0.mk H
                                    clear H
                                    have p187 : 0 ≤ (x12_5 : Int) := of_decide_eq_true (by first | (with_reducible assumption) | assumption)
                                    have q187 : x12_5 < (x3_2.length : Int) := of_decide_eq_true (by first | (with_reducible assumption) | assumption)
                                    obtain ⟨ad187, e187, hx187_0⟩ := Kd.at_string (Kd.R_reads' HO_3.out).2.2 x12_5 p187 q187
                                    cases e187
                                    replace p187 := eq_true p187
                                    replace q187 := eq_true q187
                                    go_wp2_with (first | (at_builtin; refine print_append_str (w0 := w) w.heap.size rfl (.tmp 127) _ 22 9 5 rfl Tryd.underlying22 Tryd.underlying9 info5 u11 x11_5 (rdOf ByteArray.empty x3_2 x12_5) rfl rfl ?aO ?aB ?aS ?aL ?_; (case aB => exact (by repeat (first | (with_reducible first | exact HB.out | apply below_alloc | apply pw_below_drewN | apply below_drew1) | exact HB.out))); (case aO => exact (Kd.own_of_R (by (with_reducible repeat (first | apply Kd.R_alloc | apply Kd.R_drewN | apply Kd.R_drew)); exact HO_11.out))); (case aS => exact (below_size (by repeat (first | (with_reducible first | exact HB.out | apply below_alloc | apply pw_below_drewN | apply below_drew1) | exact HB.out)))); (case aL => have := LMc73.out; omega); intro v189 w74 ho0 hb hg; have ho := Kd.R_of_own (h1 := fun _ => rfl) (ok := fun _ => True) ho0 (fun _ _ => trivial); clear ho0; have hat := True.intro; rw [← Ny188.out] at ho; change Kd.R (Kd.int .u8) 5 w74 w.heap.size (fun _ => True) v189 y188 at ho; have n0_ := Aside0.mk (Kd.R_over' (by (with_reducible repeat (first | apply Kd.R_alloc | apply Kd.R_drewN | apply Kd.R_drew)); exact HO_3.out) (Kd.R_typed (by (with_reducible repeat (first | apply Kd.R_alloc | apply Kd.R_drewN | apply Kd.R_drew)); exact HO_11.out)) (by decide) hg); have n1_ := Aside0.mk (hb); have n2_ := Aside0.mk (ho); clear HO_3; clear HB; clear HO_11; have HO_3 := n0_; have HB := n1_; have HO190 := n2_; clear n0_ n1_ n2_; clear ho hb hg hat))
                                    repeat (go_quiet (first | (at_builtin; refine print_append_str (w0 := w) w.heap.size rfl (.tmp 127) _ 22 9 5 rfl Tryd.underlying22 Tryd.underlying9 info5 u11 x11_5 (rdOf ByteArray.empty x3_2 x12_5) rfl rfl ?aO ?aB ?aS ?aL ?_; (case aB => exact (by repeat (first | (with_reducible first | exact HB.out | apply below_alloc | apply pw_below_drewN | apply below_drew1) | exact HB.out))); (case aO => exact (Kd.own_of_R (by (with_reducible repeat (first | apply Kd.R_alloc | apply Kd.R_drewN | apply Kd.R_drew)); exact HO_11.out))); (case aS => exact (below_size (by repeat (first | (with_reducible first | exact HB.out | apply below_alloc | apply pw_below_drewN | apply below_drew1) | exact HB.out)))); (case aL => have := LMc73.out; omega); intro v189 w74 ho0 hb hg; have ho := Kd.R_of_own (h1 := fun _ => rfl) (ok := fun _ => True) ho0 (fun _ _ => trivial); clear ho0; have hat := True.intro; rw [← Ny188.out] at ho; change Kd.R (Kd.int .u8) 5 w74 w.heap.size (fun _ => True) v189 y188 at ho; have n0_ := Aside0.mk (Kd.R_over' (by (with_reducible repeat (first | apply Kd.R_alloc | apply Kd.R_drewN | apply Kd.R_drew)); exact HO_3.out) (Kd.R_typed (by (with_reducible repeat (first | apply Kd.R_alloc | apply Kd.R_drewN | apply Kd.R_drew)); exact HO_11.out)) (by decide) hg); have n1_ := Aside0.mk (hb); have n2_ := Aside0.mk (ho); clear HO_3; clear HB; clear HO_11; have HO_3 := n0_; have HB := n1_; have HO190 := n2_; clear n0_ n1_ n2_; clear ho hb hg hat)); try go_wp2_with (first | (at_builtin; refine print_append_str (w0 := w) w.heap.size rfl (.tmp 127) _ 22 9 5 rfl Tryd.underlying22 Tryd.underlying9 info5 u11 x11_5 (rdOf ByteArray.empty x3_2 x12_5) rfl rfl ?aO ?aB ?aS ?aL ?_; (case aB => exact (by repeat (first | (with_reducible first | exact HB.out | apply below_alloc | apply pw_below_drewN | apply below_drew1) | exact HB.out))); (case aO => exact (Kd.own_of_R (by (with_reducible repeat (first | apply Kd.R_alloc | apply Kd.R_drewN | apply Kd.R_drew)); exact HO_11.out))); (case aS => exact (below_size (by repeat (first | (with_reducible first | exact HB.out | apply below_alloc | apply pw_below_drewN | apply below_drew1) | exact HB.out)))); (case aL => have := LMc73.out; omega); intro v189 w74 ho0 hb hg; have ho := Kd.R_of_own (h1 := fun _ => rfl) (ok := fun _ => True) ho0 (fun _ _ => trivial); clear ho0; have hat := True.intro; rw [← Ny188.out] at ho; change Kd.R (Kd.int .u8) 5 w74 w.heap.size (fun _ => True) v189 y188 at ho; have n0_ := Aside0.mk (Kd.R_over' (by (with_reducible repeat (first | apply Kd.R_alloc | apply Kd.R_drewN | apply Kd.R_drew)); exact HO_3.out) (Kd.R_typed (by (with_reducible repeat (first | apply Kd.R_alloc | apply Kd.R_drewN | apply Kd.R_drew)); exact HO_11.out)) (by decide) hg); have n1_ := Aside0.mk (hb); have n2_ := Aside0.mk (ho); clear HO_3; clear HB; clear HO_11; have HO_3 := n0_; have HB := n1_; have HO190 := n2_; clear n0_ n1_ n2_; clear ho hb hg hat)))
                                    go_roundg k5
                                    case measure => have := HK1.out; have := HK2.out; have := HJ48.out; have := HJ53.out; have := HK5.out; omega
                                    case rel => exact ⟨(y188), (wrap64 (x12_5 + 1)), (by first | rfl | (simp; done) | (simp [*]; done) | (simp [show ∀ l_ : List UInt8, (l_ != []) = !l_.isEmpty from fun l_ => by cases l_ <;> rfl, show ∀ l_ : List UInt8, (l_ == []) = l_.isEmpty from fun l_ => by cases l_ <;> rfl]; done)), H', ⟨by have := HK1.out; have := HK2.out; have := HJ48.out; have := HJ53.out; have := HK5.out; omega⟩, ⟨by (try simp only [hl3_2]); (with_reducible repeat (first | apply Kd.R_alloc | apply Kd.R_drewN | apply Kd.R_drew)); exact HO_3.out⟩, ⟨by (try simp only [hl3_2]); (with_reducible repeat (first | apply Kd.R_alloc | apply Kd.R_drewN | apply Kd.R_drew)); exact HO190.out⟩, ⟨by repeat (first | (with_reducible first | exact HB.out | apply below_alloc | apply pw_below_drewN | apply below_drew1) | exact HB.out)⟩⟩
                                  · rw [if_neg c73] at H
                                    exact absurd H (by simp)
                                · rw [if_neg c72] at H
                                  exact absurd H (by simp)
                              · rw [if_neg c71] at H
                                exact absurd H (by simp)
                          · rw [if_neg c63] at H
                            have c63b0 : decide (x12_5 < x10_53) = false := decide_eq_false c63
                            clear c63
                            obtain rfl := Option.some.inj H
                            have hcv75 := own_string (P := Tryd.prog) Tryd.underlying22 Tryd.underlying5 Tryd.underlying9 (Kd.own_of_R HO_11.out)
                            go_wp2
                            repeat (go_quiet (fail); try go_wp2)
                            go_ret
                            exact ⟨by first | rfl | (simp [errW_none, errW_some] <;> rfl) | (simp [*, errW_none, errW_some] <;> rfl), by repeat (first | (with_reducible first | exact HB.out | apply below_alloc | apply pw_below_drewN | apply below_drew1) | exact HB.out)⟩

end Go.Proofs.YtmbninphokgbpaaDoor.OFnExactBlockText
