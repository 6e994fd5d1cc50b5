/- The machine side of one law, written by a program of this session out of Lean's print of the translation: for each Go function that is reached a plain Lean function and the proof that the call comes to just its answer; each under the condition that the plain function answers 'some'. -/
import Derived.Test.YtnlhpjapdklfgaaDoorOFnNumbersx0
import Derived.Test.YtnlhpjapdklfgaaDoorOFnNumbersx1
import Derived.Test.YtnlhpjapdklfgaaDoorOFnNumbersx2
import Derived.Test.YtnlhpjapdklfgaaDoorOFnNumbersx3
import Derived.Test.YtnlhpjapdklfgaaDoorOFnNumbersx4
namespace Go.Proofs.YtnlhpjapdklfgaaDoor.OFnNumbers
open Go.Proofs.YtnlhpjapdklfgaaDoor.GlE
open Go.RowKit Go.Proofs.YtnlhpjapdklfgaaDoorW.PrintWords Go.Proofs.YtnlhpjapdklfgaaDoorW.PrintLast Go.Proofs.YtnlhpjapdklfgaaDoorW.PrintMore
attribute [local go_sem] max2_int min2_int max_two min_two max_three min_three max_four min_four   -- for this text's walks alone
set_option linter.unusedVariables false
set_option linter.unusedSimpArgs false

set_option maxHeartbeats 8000000 in
set_option maxRecDepth 100000 in
theorem laws_FnNumbers.exit7 (k : Nat) (A0 : Option Addr) (c0 : Nat) (l0 : List Int) (r : Bool) (w : World) (hr0 : Kd.C (Kd.int .u8) w A0 l0.length l0) (hc0 : l0.length ≤ c0) (hG : Gl w) (t187 : _) (A20 : (laws_big.f l0) = some t187) (c3 : ¬ (t187 = true)) (t188 : _) (A40 : (spec_DrawPlaces.f k l0) = some t188) (c5 : 0 < (t188.length : Int)) (t192 : _) (A60 : (spec_Decimal.f k (wrap64 ((rd t188 0) - 5000))) = some t192) (t193 : _) (A70 : (spec_DrawName.f k l0) = some t193) (t194 : _) (A80 : (impl_IntOk.f k t192) = some t194) (c9 : t194 = true) (t195 : _) (A100 : (impl_FloatOk.f k t192) = some t195) (c11 : ¬ (t195 = true)) (t196 : _) (A170 : (impl_Fits32.f k t192) = some t196) (c18 : t196 = true) (c19 : t192.size + 2 ≤ 9223372036854775807) (t197 : _) (A200 : (impl_FloatOk.f k (t192 ++ (⟨#[46, 53]⟩ : ByteArray))) = some t197) (c21 : t197 = true) (c22 : t192.size + 1 ≤ 9223372036854775807) (c23 : 1 < (t188.length : Int)) (t199 : _) (A240 : (spec_Decimal.f k (rd t188 1)) = some t199) (c25 : (t192 ++ (⟨#[101]⟩ : ByteArray)).size + t199.size ≤ 9223372036854775807) (t200 : _) (A260 : (impl_FloatOk.f k ((t192 ++ (⟨#[101]⟩ : ByteArray)) ++ t199)) = some t200) (c27 : t200 = true) (c28 : t192.size + 4 ≤ 9223372036854775807) (c29 : 2 < (t188.length : Int)) (t202 : _) (A300 : (spec_Decimal.f k (rd t188 2)) = some t202) (c31 : (t192 ++ (⟨#[46, 48, 69, 45]⟩ : ByteArray)).size + t202.size ≤ 9223372036854775807) (t203 : _) (A320 : (impl_FloatOk.f k ((t192 ++ (⟨#[46, 48, 69, 45]⟩ : ByteArray)) ++ t202)) = some t203) (c33 : t203 = true) (t204 : _) (A340 : (impl_IntOk.f k (t192 ++ (⟨#[46]⟩ : ByteArray))) = some t204) (c35 : ¬ (t204 = true)) (t205 : _) (A470 : (impl_FloatOk.f k (t192 ++ (⟨#[46]⟩ : ByteArray))) = some t205) (c48 : ¬ (t205 = true)) (t206 : _) (A610 : (impl_FloatOk.f k (t192 ++ (⟨#[101]⟩ : ByteArray))) = some t206) (c62 : ¬ (t206 = true)) (t207 : _) (A760 : (impl_NameOk.f k t193) = some t207) (c77 : t207 = true) (t208 : _) (A780 : (impl_IntOk.f k t193) = some t208) (c79 : ¬ (t208 = true)) (c93 : 1 + t193.size ≤ 9223372036854775807) (t209 : _) (A940 : (impl_NameOk.f k ((⟨#[49]⟩ : ByteArray) ++ t193)) = some t209) (c95 : ¬ (t209 = true)) (c109 : t193.size + 1 ≤ 9223372036854775807) (t210 : _) (A1100 : (impl_NameOk.f k (t193 ++ (⟨#[45]⟩ : ByteArray))) = some t210) (c111 : t210 = true) (H : (some false) = some r) :
    Calls Tryd.prog 8 #[.slice A0 l0.length c0] w fun e w' => e = .returned (.bool r) ∧ Below w.heap.size w w' := by
  have HG := Aside0.mk hG
  clear hG
  have HR0 := Aside0.mk hr0
  have HC0 := Aside0.mk hc0
  clear hr0 hc0
  have HB := Aside0.mk (Below.refl w.heap.size w)
  have A2 := Aside0.mk A20
  clear A20
  replace c3 := Bool.eq_false_iff.mpr c3
  subst c3
  have A4 := Aside0.mk A40
  clear A40
  have c5b0 : decide (0 < (t188.length : Int)) = true := decide_eq_true c5
  have c5b1 : decide (0 < t188.length) = true := decide_eq_true (by omega)
  clear c5
  have A6 := Aside0.mk A60
  clear A60
  have A7 := Aside0.mk A70
  clear A70
  have A8 := Aside0.mk A80
  clear A80
  subst c9
  have A10 := Aside0.mk A100
  clear A100
  replace c11 := Bool.eq_false_iff.mpr c11
  subst c11
  have A17 := Aside0.mk A170
  clear A170
  subst c18
  have c19b0 := eq_true c19
  have c19b1 : decide (t192.size + 2 ≤ 9223372036854775807) = true := decide_eq_true c19
  try have c19b2 : (9223372036854775807 < t192.size + 2) = False := eq_false (Nat.not_lt.2 c19)
  have A20 := Aside0.mk A200
  clear A200
  subst c21
  have c22b0 := eq_true c22
  have c22b1 : decide (t192.size + 1 ≤ 9223372036854775807) = true := decide_eq_true c22
  try have c22b2 : (9223372036854775807 < t192.size + 1) = False := eq_false (Nat.not_lt.2 c22)
  have c23b0 : decide (1 < (t188.length : Int)) = true := decide_eq_true c23
  have c23b1 : decide (1 < t188.length) = true := decide_eq_true (by omega)
  clear c23
  have A24 := Aside0.mk A240
  clear A240
  have c25b0 := eq_true c25
  have c25b1 : decide ((t192 ++ (⟨#[101]⟩ : ByteArray)).size + t199.size ≤ 9223372036854775807) = true := decide_eq_true c25
  have c25n : t192.size + 1 + t199.size ≤ 9223372036854775807 := by have z_ := c25b1; simp only [decide_eq_true_eq, ByteArray.size_append] at z_; exact z_
  have c25n0 := eq_true c25n
  have c25n1 : decide (t192.size + 1 + t199.size ≤ 9223372036854775807) = true := decide_eq_true c25n
  have c25n2 : (9223372036854775807 < t192.size + 1 + t199.size) = False := eq_false (Nat.not_lt.2 c25n)
  try have c25b2 : (9223372036854775807 < (t192 ++ (⟨#[101]⟩ : ByteArray)).size + t199.size) = False := eq_false (Nat.not_lt.2 c25)
  have A26 := Aside0.mk A260
  clear A260
  subst c27
  have c28b0 := eq_true c28
  have c28b1 : decide (t192.size + 4 ≤ 9223372036854775807) = true := decide_eq_true c28
  try have c28b2 : (9223372036854775807 < t192.size + 4) = False := eq_false (Nat.not_lt.2 c28)
  have c29b0 : decide (2 < (t188.length : Int)) = true := decide_eq_true c29
  have c29b1 : decide (2 < t188.length) = true := decide_eq_true (by omega)
  clear c29
  have A30 := Aside0.mk A300
  clear A300
  have c31b0 := eq_true c31
  have c31b1 : decide ((t192 ++ (⟨#[46, 48, 69, 45]⟩ : ByteArray)).size + t202.size ≤ 9223372036854775807) = true := decide_eq_true c31
  have c31n : t192.size + 4 + t202.size ≤ 9223372036854775807 := by have z_ := c31b1; simp only [decide_eq_true_eq, ByteArray.size_append] at z_; exact z_
  have c31n0 := eq_true c31n
  have c31n1 : decide (t192.size + 4 + t202.size ≤ 9223372036854775807) = true := decide_eq_true c31n
  have c31n2 : (9223372036854775807 < t192.size + 4 + t202.size) = False := eq_false (Nat.not_lt.2 c31n)
  try have c31b2 : (9223372036854775807 < (t192 ++ (⟨#[46, 48, 69, 45]⟩ : ByteArray)).size + t202.size) = False := eq_false (Nat.not_lt.2 c31)
  have A32 := Aside0.mk A320
  clear A320
  subst c33
  have A34 := Aside0.mk A340
  clear A340
  replace c35 := Bool.eq_false_iff.mpr c35
  subst c35
  have A47 := Aside0.mk A470
  clear A470
  replace c48 := Bool.eq_false_iff.mpr c48
  subst c48
  have A61 := Aside0.mk A610
  clear A610
  replace c62 := Bool.eq_false_iff.mpr c62
  subst c62
  have A76 := Aside0.mk A760
  clear A760
  subst c77
  have A78 := Aside0.mk A780
  clear A780
  replace c79 := Bool.eq_false_iff.mpr c79
  subst c79
  have c93b0 := eq_true c93
  have c93b1 : decide (1 + t193.size ≤ 9223372036854775807) = true := decide_eq_true c93
  try have c93b2 : (9223372036854775807 < 1 + t193.size) = False := eq_false (Nat.not_lt.2 c93)
  have A94 := Aside0.mk A940
  clear A940
  replace c95 := Bool.eq_false_iff.mpr c95
  subst c95
  have c109b0 := eq_true c109
  have c109b1 : decide (t193.size + 1 ≤ 9223372036854775807) = true := decide_eq_true c109
  try have c109b2 : (9223372036854775807 < t193.size + 1) = False := eq_false (Nat.not_lt.2 c109)
  have A110 := Aside0.mk A1100
  clear A1100
  subst c111
  obtain rfl := Option.some.inj H
  go_enter Tryd.func8, Tryd.ntmps8
  go_wp2_with (first | ((with_reducible refine gate_callee (f := 22) rfl ?_); refine goesL_ (some 7) rfl rfl Tryd.func22 (by kernel_rfl) rfl #[.slice A0 l0.length c0] rfl (by (try simp only [List.map_toArray, List.map_cons, List.map_nil]); first | done | rfl | (simp only [List.length_drop, List.length_take]; rfl)) ?_; (with_reducible refine (laws_big.calls _ _ l0 false _ ?side1 ?side2 A2.out).mono ?_); (case side1 => repeat (first | exact HR0.out | (with_reducible refine Kd.C_alloc ?_ _) | (with_reducible refine Kd.C_drewN ?_ _) | (with_reducible refine Kd.C_drew ?_))); (case side2 => exact HC0.out); rintro e w' ⟨rfl, ⟨nd, rfl⟩⟩; refine ⟨_, rfl, ?_⟩) | ((with_reducible refine gate_callee (f := 23) rfl ?_); refine goesL_ (some 9) rfl rfl Tryd.func23 (by kernel_rfl) rfl #[.slice A0 l0.length c0] rfl (by (try simp only [List.map_toArray, List.map_cons, List.map_nil]); first | done | rfl | (simp only [List.length_drop, List.length_take]; rfl)) ?_; (with_reducible refine (spec_DrawPlaces.calls k _ _ l0 t188 _ ?side1 ?side2 A4.out).mono ?_); (case side1 => repeat (first | exact HR0.out | (with_reducible refine Kd.C_alloc ?_ _) | (with_reducible refine Kd.C_drewN ?_ _) | (with_reducible refine Kd.C_drew ?_))); (case side2 => exact HC0.out); rintro e w112 ⟨v189, rfl, ho0, hb⟩; refine ⟨_, rfl, ?_⟩; have n0_ := Aside0.mk (Kd.R_lower ho0 (below_size (by repeat (first | (with_reducible first | exact HB.out | apply below_alloc | apply pw_below_drewN | apply below_drew1) | exact HB.out)))); have n1_ := Aside0.mk (below_step (by repeat (first | (with_reducible first | exact HB.out | apply below_alloc | apply pw_below_drewN | apply below_drew1) | exact HB.out)) hb); clear HB; have HO190 := n0_; have HB := n1_; clear n0_ n1_; (try clear hb); (try clear hb2); (try clear hk); (try clear hi); (try clear ho0); obtain ⟨Ao113, co113, eo113⟩ := Kd.R_slice HO190.out; subst eo113; have p191 : 0 ≤ (0 : Int) := (by omega); have q191 : 0 < (t188.length : Int) := of_decide_eq_true (by first | (with_reducible assumption) | assumption); obtain ⟨ad191, e191, hx191_0⟩ := Kd.at_int (Kd.R_reads' HO190.out).2.2 0 p191 q191; cases e191; have qi191 : (0 < t188.length) = True := eq_true (by omega); (try rw [show ((0 : Int)).toNat = 0 from rfl] at hx191_0); (try rw [Addr.add_zero'] at hx191_0); replace p191 := eq_true p191; replace q191 := eq_true q191) | ((with_reducible refine gate_callee (f := 11) rfl ?_); refine goesL_ (some 14) rfl rfl Tryd.func11 (by kernel_rfl) rfl #[.int .i64 (wrap64 ((rd t188 0) - 5000))] rfl (by (try simp only [List.map_toArray, List.map_cons, List.map_nil]); first | done | rfl | (simp only [List.length_drop, List.length_take]; rfl)) ?_; (with_reducible refine (spec_Decimal.calls k (wrap64 ((rd t188 0) - 5000)) t192 _ A6.out).mono ?_); rintro e w114 ⟨rfl, hb⟩; refine ⟨_, rfl, ?_⟩; have n0_ := Aside0.mk (Kd.R_below (by (with_reducible repeat (first | apply Kd.R_alloc | apply Kd.R_drewN | apply Kd.R_drew)); exact HO190.out) hb); have n1_ := Aside0.mk (below_step (by repeat (first | (with_reducible first | exact HB.out | apply below_alloc | apply pw_below_drewN | apply below_drew1) | exact HB.out)) hb); clear HO190; clear HB; have HO190 := n0_; have HB := n1_; clear n0_ n1_; (try clear hb); (try clear hb2); (try clear hk); (try clear hi)) | ((with_reducible refine gate_callee (f := 27) rfl ?_); refine goesL_ (some 16) rfl rfl Tryd.func27 (by kernel_rfl) rfl #[.slice A0 l0.length c0] rfl (by (try simp only [List.map_toArray, List.map_cons, List.map_nil]); first | done | rfl | (simp only [List.length_drop, List.length_take]; rfl)) ?_; (with_reducible refine (spec_DrawName.calls k _ _ l0 t193 _ ?side1 ?side2 A7.out).mono ?_); (case side1 => repeat (first | exact (Kd.C_below HR0.out HB.out) | (with_reducible refine Kd.C_alloc ?_ _) | (with_reducible refine Kd.C_drewN ?_ _) | (with_reducible refine Kd.C_drew ?_))); (case side2 => exact HC0.out); rintro e w115 ⟨rfl, hb⟩; refine ⟨_, rfl, ?_⟩; have n0_ := Aside0.mk (Kd.R_below (by (with_reducible repeat (first | apply Kd.R_alloc | apply Kd.R_drewN | apply Kd.R_drew)); exact HO190.out) hb); have n1_ := Aside0.mk (below_step (by repeat (first | (with_reducible first | exact HB.out | apply below_alloc | apply pw_below_drewN | apply below_drew1) | exact HB.out)) hb); clear HO190; clear HB; have HO190 := n0_; have HB := n1_; clear n0_ n1_; (try clear hb); (try clear hb2); (try clear hk); (try clear hi)) | ((with_reducible refine gate_callee (f := 28) rfl ?_); refine goesL_ (some 18) rfl rfl Tryd.func28 (by kernel_rfl) rfl #[.string t192] rfl (by (try simp only [List.map_toArray, List.map_cons, List.map_nil]); first | done | rfl | (simp only [List.length_drop, List.length_take]; rfl)) ?_; (with_reducible refine (impl_IntOk.calls k t192 true _ A8.out).mono ?_); clear A8; rintro e w' ⟨rfl, ⟨nd, rfl⟩⟩; refine ⟨_, rfl, ?_⟩) | (go_at_call 28; (with_reducible refine (impl_IntOk.calls k t192 true _ A8.out).mono ?_); clear A8; rintro e w' ⟨rfl, ⟨nd, rfl⟩⟩) | (go_at_call 29; (with_reducible refine (impl_FloatOk.calls k t192 false _ A10.out).mono ?_); rintro e w116 ⟨rfl, hb⟩; have n0_ := Aside0.mk (Kd.R_below (by (with_reducible repeat (first | apply Kd.R_alloc | apply Kd.R_drewN | apply Kd.R_drew)); exact HO190.out) hb); have n1_ := Aside0.mk (below_step (by repeat (first | (with_reducible first | exact HB.out | apply below_alloc | apply pw_below_drewN | apply below_drew1) | exact HB.out)) hb); clear HO190; clear HB; have HO190 := n0_; have HB := n1_; clear n0_ n1_; (try clear hb); (try clear hb2); (try clear hk); (try clear hi)) | (go_at_call 19; (with_reducible refine (impl_Fits32.calls k t192 true _ (Gl.below HG.out (by repeat (first | (with_reducible first | exact HB.out | apply below_alloc | apply pw_below_drewN | apply below_drew1) | exact HB.out))) A17.out).mono ?_); rintro e w117 ⟨rfl, hb⟩; have n0_ := Aside0.mk (Kd.R_below (by (with_reducible repeat (first | apply Kd.R_alloc | apply Kd.R_drewN | apply Kd.R_drew)); exact HO190.out) hb); have n1_ := Aside0.mk (below_step (by repeat (first | (with_reducible first | exact HB.out | apply below_alloc | apply pw_below_drewN | apply below_drew1) | exact HB.out)) hb); clear HO190; clear HB; have HO190 := n0_; have HB := n1_; clear n0_ n1_; (try clear hb); (try clear hb2); (try clear hk); (try clear hi)) | (go_at_call 29; (with_reducible refine (impl_FloatOk.calls k (t192 ++ (⟨#[46, 53]⟩ : ByteArray)) true _ A20.out).mono ?_); rintro e w118 ⟨rfl, hb⟩; have n0_ := Aside0.mk (Kd.R_below (by (with_reducible repeat (first | apply Kd.R_alloc | apply Kd.R_drewN | apply Kd.R_drew)); exact HO190.out) hb); have n1_ := Aside0.mk (below_step (by repeat (first | (with_reducible first | exact HB.out | apply below_alloc | apply pw_below_drewN | apply below_drew1) | exact HB.out)) hb); clear HO190; clear HB; have HO190 := n0_; have HB := n1_; clear n0_ n1_; (try clear hb); (try clear hb2); (try clear hk); (try clear hi); have p198 : 0 ≤ (1 : Int) := (by omega); have q198 : 1 < (t188.length : Int) := of_decide_eq_true (by first | (with_reducible assumption) | assumption); obtain ⟨ad198, e198, hx198_0⟩ := Kd.at_int (Kd.R_reads' HO190.out).2.2 1 p198 q198; obtain rfl : ad191 = ad198 := (by injection e198); (try simp only [show (1 : Int).toNat = 1 from rfl, Nat.reduceMul, Nat.reduceEqDiff, Go.Addr.add, ↓reduceIte] at hx198_0); have qi198 : (1 < t188.length) = True := eq_true (by omega); (try rw [show ((1 : Int)).toNat = 1 from rfl] at hx198_0); replace p198 := eq_true p198; replace q198 := eq_true q198) | (go_at_call 11; (with_reducible refine (spec_Decimal.calls k (rd t188 1) t199 _ A24.out).mono ?_); rintro e w119 ⟨rfl, hb⟩; have n0_ := Aside0.mk (Kd.R_below (by (with_reducible repeat (first | apply Kd.R_alloc | apply Kd.R_drewN | apply Kd.R_drew)); exact HO190.out) hb); have n1_ := Aside0.mk (below_step (by repeat (first | (with_reducible first | exact HB.out | apply below_alloc | apply pw_below_drewN | apply below_drew1) | exact HB.out)) hb); clear HO190; clear HB; have HO190 := n0_; have HB := n1_; clear n0_ n1_; (try clear hb); (try clear hb2); (try clear hk); (try clear hi)) | (go_at_call 29; (with_reducible refine (impl_FloatOk.calls k ((t192 ++ (⟨#[101]⟩ : ByteArray)) ++ t199) true _ A26.out).mono ?_); rintro e w120 ⟨rfl, hb⟩; have n0_ := Aside0.mk (Kd.R_below (by (with_reducible repeat (first | apply Kd.R_alloc | apply Kd.R_drewN | apply Kd.R_drew)); exact HO190.out) hb); have n1_ := Aside0.mk (below_step (by repeat (first | (with_reducible first | exact HB.out | apply below_alloc | apply pw_below_drewN | apply below_drew1) | exact HB.out)) hb); clear HO190; clear HB; have HO190 := n0_; have HB := n1_; clear n0_ n1_; (try clear hb); (try clear hb2); (try clear hk); (try clear hi); have p201 : 0 ≤ (2 : Int) := (by omega); have q201 : 2 < (t188.length : Int) := of_decide_eq_true (by first | (with_reducible assumption) | assumption); obtain ⟨ad201, e201, hx201_0⟩ := Kd.at_int (Kd.R_reads' HO190.out).2.2 2 p201 q201; obtain rfl : ad191 = ad201 := (by injection e201); (try simp only [show (2 : Int).toNat = 2 from rfl, Nat.reduceMul, Nat.reduceEqDiff, Go.Addr.add, ↓reduceIte] at hx201_0); have qi201 : (2 < t188.length) = True := eq_true (by omega); (try rw [show ((2 : Int)).toNat = 2 from rfl] at hx201_0); replace p201 := eq_true p201; replace q201 := eq_true q201) | (go_at_call 11; (with_reducible refine (spec_Decimal.calls k (rd t188 2) t202 _ A30.out).mono ?_); rintro e w121 ⟨rfl, hb⟩; have n0_ := Aside0.mk (Kd.R_below (by (with_reducible repeat (first | apply Kd.R_alloc | apply Kd.R_drewN | apply Kd.R_drew)); exact HO190.out) hb); have n1_ := Aside0.mk (below_step (by repeat (first | (with_reducible first | exact HB.out | apply below_alloc | apply pw_below_drewN | apply below_drew1) | exact HB.out)) hb); clear HO190; clear HB; have HO190 := n0_; have HB := n1_; clear n0_ n1_; (try clear hb); (try clear hb2); (try clear hk); (try clear hi)) | (go_at_call 29; (with_reducible refine (impl_FloatOk.calls k ((t192 ++ (⟨#[46, 48, 69, 45]⟩ : ByteArray)) ++ t202) true _ A32.out).mono ?_); rintro e w122 ⟨rfl, hb⟩; have n0_ := Aside0.mk (Kd.R_below (by (with_reducible repeat (first | apply Kd.R_alloc | apply Kd.R_drewN | apply Kd.R_drew)); exact HO190.out) hb); have n1_ := Aside0.mk (below_step (by repeat (first | (with_reducible first | exact HB.out | apply below_alloc | apply pw_below_drewN | apply below_drew1) | exact HB.out)) hb); clear HO190; clear HB; have HO190 := n0_; have HB := n1_; clear n0_ n1_; (try clear hb); (try clear hb2); (try clear hk); (try clear hi)) | (go_at_call 28; (with_reducible refine (impl_IntOk.calls k (t192 ++ (⟨#[46]⟩ : ByteArray)) false _ A34.out).mono ?_); rintro e w' ⟨rfl, ⟨nd, rfl⟩⟩) | (go_at_call 29; (with_reducible refine (impl_FloatOk.calls k (t192 ++ (⟨#[46]⟩ : ByteArray)) false _ A47.out).mono ?_); rintro e w123 ⟨rfl, hb⟩; have n0_ := Aside0.mk (Kd.R_below (by (with_reducible repeat (first | apply Kd.R_alloc | apply Kd.R_drewN | apply Kd.R_drew)); exact HO190.out) hb); have n1_ := Aside0.mk (below_step (by repeat (first | (with_reducible first | exact HB.out | apply below_alloc | apply pw_below_drewN | apply below_drew1) | exact HB.out)) hb); clear HO190; clear HB; have HO190 := n0_; have HB := n1_; clear n0_ n1_; (try clear hb); (try clear hb2); (try clear hk); (try clear hi)) | (go_at_call 29; (with_reducible refine (impl_FloatOk.calls k (t192 ++ (⟨#[101]⟩ : ByteArray)) false _ A61.out).mono ?_); rintro e w124 ⟨rfl, hb⟩; have n0_ := Aside0.mk (Kd.R_below (by (with_reducible repeat (first | apply Kd.R_alloc | apply Kd.R_drewN | apply Kd.R_drew)); exact HO190.out) hb); have n1_ := Aside0.mk (below_step (by repeat (first | (with_reducible first | exact HB.out | apply below_alloc | apply pw_below_drewN | apply below_drew1) | exact HB.out)) hb); clear HO190; clear HB; have HO190 := n0_; have HB := n1_; clear n0_ n1_; (try clear hb); (try clear hb2); (try clear hk); (try clear hi)) | (go_at_call 30; (with_reducible refine (impl_NameOk.calls k t193 true _ A76.out).mono ?_); rintro e w' ⟨rfl, ⟨nd, rfl⟩⟩) | (go_at_call 28; (with_reducible refine (impl_IntOk.calls k t193 false _ A78.out).mono ?_); clear A78; rintro e w' ⟨rfl, ⟨nd, rfl⟩⟩) | (go_at_call 30; (with_reducible refine (impl_NameOk.calls k ((⟨#[49]⟩ : ByteArray) ++ t193) false _ A94.out).mono ?_); rintro e w' ⟨rfl, ⟨nd, rfl⟩⟩) | (go_at_call 30; (with_reducible refine (impl_NameOk.calls k (t193 ++ (⟨#[45]⟩ : ByteArray)) true _ A110.out).mono ?_); rintro e w' ⟨rfl, ⟨nd, rfl⟩⟩))
  go_ret
  exact ⟨by first | rfl | (simp [errW_none, errW_some] <;> rfl) | (simp [*, errW_none, errW_some] <;> rfl), by repeat (first | (with_reducible first | exact HB.out | apply below_alloc | apply pw_below_drewN | apply below_drew1) | exact HB.out)⟩
end Go.Proofs.YtnlhpjapdklfgaaDoor.OFnNumbers
