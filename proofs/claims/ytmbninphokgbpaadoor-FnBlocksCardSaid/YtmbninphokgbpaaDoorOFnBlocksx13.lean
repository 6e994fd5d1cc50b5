/- The machine side of one law, written by a program of this session out of Lean's print of the translation: for each Go function that is reached a plain Lean function and the proof that the call comes to just its answer; each under the condition that the plain function answers 'some'. -/
import Derived.Test.YtmbninphokgbpaaDoorOFnBlocksx0
import Derived.Test.YtmbninphokgbpaaDoorOFnBlocksx1
import Derived.Test.YtmbninphokgbpaaDoorOFnBlocksx2
import Derived.Test.YtmbninphokgbpaaDoorOFnBlocksx3
import Derived.Test.YtmbninphokgbpaaDoorOFnBlocksx4
namespace Go.Proofs.YtmbninphokgbpaaDoor.OFnBlocks
open Go.Proofs.YtmbninphokgbpaaDoor.GlB
open Go.RowKit Go.Proofs.YtmbninphokgbpaaDoorW.PrintWords Go.Proofs.YtmbninphokgbpaaDoorW.PrintLast Go.Proofs.YtmbninphokgbpaaDoorW.PrintMore
attribute [local go_sem] max2_int min2_int max_two min_two max_three min_three max_four min_four   -- for this text's walks alone
set_option linter.unusedVariables false
set_option linter.unusedSimpArgs false

set_option maxHeartbeats 8000000 in
set_option maxRecDepth 100000 in
theorem laws_FnBlocks.exit8 (k : Nat) (A0 : Option Addr) (c0 : Nat) (l0 : List Int) (r : Bool) (w : World) (hr0 : Kd.C (Kd.int .u8) w A0 l0.length l0) (hc0 : l0.length ≤ c0) (hG : Gl w) (t198 : _) (A20 : (laws_big.f l0) = some t198) (c3 : ¬ (t198 = true)) (t199 : _) (A40 : (spec_DrawName.f k l0) = some t199) (t200 : _) (A50 : (spec_DrawPlaces.f k l0) = some t200) (y203 : List ByteArray) (hy203 : y203 = (([(⟨#[32]⟩ : ByteArray), (⟨#[32, 32]⟩ : ByteArray), (⟨#[9]⟩ : ByteArray), (⟨#[32, 32, 32, 32, 32, 32]⟩ : ByteArray)] : List ByteArray))) (c6 : 0 < (t200.length : Int)) (ji7 : Int) (hji7 : (Int.tmod (rd t200 0) 4) = ji7) (c8 : 0 ≤ (ji7)) (c9 : (ji7) < (y203.length : Int)) (c10 : 1 + (rdOf ByteArray.empty y203 (ji7)).size ≤ 9223372036854775807) (xj0 : ByteArray) (hxj0 : ((⟨#[10]⟩ : ByteArray) ++ (rdOf ByteArray.empty y203 (ji7))) = xj0) (c11 : xj0.size + t199.size ≤ 9223372036854775807) (xj1 : ByteArray) (hxj1 : (xj0 ++ t199) = xj1) (c12 : xj1.size + 2 ≤ 9223372036854775807) (xj2 : ByteArray) (hxj2 : (xj1 ++ (⟨#[10, 10]⟩ : ByteArray)) = xj2) (c13 : xj2.size + (rdOf ByteArray.empty y203 (ji7)).size ≤ 9223372036854775807) (xj3 : ByteArray) (hxj3 : (xj2 ++ (rdOf ByteArray.empty y203 (ji7))) = xj3) (c14 : xj3.size + 2 ≤ 9223372036854775807) (xj4 : ByteArray) (hxj4 : (xj3 ++ (⟨#[32, 32]⟩ : ByteArray)) = xj4) (c15 : xj4.size + t199.size ≤ 9223372036854775807) (xj5 : ByteArray) (hxj5 : (xj4 ++ t199) = xj5) (c16 : xj5.size + 3 ≤ 9223372036854775807) (xj6 : ByteArray) (hxj6 : (xj5 ++ (⟨#[120, 13, 10]⟩ : ByteArray)) = xj6) (c17 : xj6.size + (rdOf ByteArray.empty y203 (ji7)).size ≤ 9223372036854775807) (xj7 : ByteArray) (hxj7 : (xj6 ++ (rdOf ByteArray.empty y203 (ji7))) = xj7) (c18 : xj7.size + 2 ≤ 9223372036854775807) (xj8 : ByteArray) (hxj8 : (xj7 ++ (⟨#[121, 13]⟩ : ByteArray)) = xj8) (c19 : xj8.size + (rdOf ByteArray.empty y203 (ji7)).size ≤ 9223372036854775807) (xj9 : ByteArray) (hxj9 : (xj8 ++ (rdOf ByteArray.empty y203 (ji7))) = xj9) (c20 : xj9.size + 3 ≤ 9223372036854775807) (c21 : t199.size + 4 ≤ 9223372036854775807) (xj10 : ByteArray) (hxj10 : (t199 ++ (⟨#[10, 10, 32, 32]⟩ : ByteArray)) = xj10) (c22 : xj10.size + t199.size ≤ 9223372036854775807) (xj11 : ByteArray) (hxj11 : (xj10 ++ t199) = xj11) (c23 : xj11.size + 3 ≤ 9223372036854775807) (xj12 : ByteArray) (hxj12 : (xj9 ++ (⟨#[10, 32, 32]⟩ : ByteArray)) = xj12) (c24 : 3 + xj12.size ≤ 9223372036854775807) (xj13 : ByteArray) (hxj13 : ((⟨#[34, 34, 34]⟩ : ByteArray) ++ xj12) = xj13) (c25 : xj13.size + 3 ≤ 9223372036854775807) (t208 : _) (t209 : _) (xj14 : ByteArray) (hxj14 : (xj13 ++ (⟨#[34, 34, 34]⟩ : ByteArray)) = xj14) (A260 : (impl_BlockText.f k xj14) = some (t208, t209)) (c27 : 3 + t199.size ≤ 9223372036854775807) (xj15 : ByteArray) (hxj15 : ((⟨#[34, 34, 34]⟩ : ByteArray) ++ t199) = xj15) (c28 : xj15.size + 11 ≤ 9223372036854775807) (t210 : _) (t211 : _) (xj16 : ByteArray) (hxj16 : (xj15 ++ (⟨#[32, 92, 34, 34, 34, 32, 34, 122, 34, 34, 34]⟩ : ByteArray)) = xj16) (A290 : (impl_BlockText.f k xj16) = some (t210, t211)) (t212 : _) (A300 : (impl_BlockValue.f k xj12) = some t212) (xj17 : ByteArray) (hxj17 : (xj11 ++ (⟨#[120, 10, 121]⟩ : ByteArray)) = xj17) (c31 : ¬ (t212.toList = xj17.toList)) (H : ((some false)) = some r) :
    Calls Tryd.prog 3 #[.slice A0 l0.length c0] w fun e w' => e = .returned (.bool r) ∧ Below w.heap.size w w' := by
  have HG := Aside0.mk hG
  clear hG
  have HR0 := Aside0.mk hr0
  have HC0 := Aside0.mk hc0
  clear hr0 hc0
  have HB := Aside0.mk (Below.refl w.heap.size w)
  have A2 := Aside0.mk A20
  clear A20
  replace c3 := Bool.eq_false_iff.mpr c3
  subst c3
  have A4 := Aside0.mk A40
  clear A40
  have A5 := Aside0.mk A50
  clear A50
  have Ny203 := Aside0.mk hy203
  clear hy203
  have c6b0 : decide (0 < (t200.length : Int)) = true := decide_eq_true c6
  have c6b1 : decide (0 < t200.length) = true := decide_eq_true (by omega)
  clear c6
  (try rw [hji7] at A2)
  (try rw [hji7] at A4)
  (try rw [hji7] at A5)
  have c8b0 : decide (0 ≤ (ji7)) = true := decide_eq_true c8
  clear c8
  have c9b0 : decide ((ji7) < (y203.length : Int)) = true := decide_eq_true c9
  clear c9
  have c10b0 := eq_true c10
  have c10b1 : decide (1 + (rdOf ByteArray.empty y203 (ji7)).size ≤ 9223372036854775807) = true := decide_eq_true c10
  try have c10b2 : (9223372036854775807 < 1 + (rdOf ByteArray.empty y203 (ji7)).size) = False := eq_false (Nat.not_lt.2 c10)
  have c11b0 := eq_true c11
  have c11b1 : decide (xj0.size + t199.size ≤ 9223372036854775807) = true := decide_eq_true c11
  try have c11b2 : (9223372036854775807 < xj0.size + t199.size) = False := eq_false (Nat.not_lt.2 c11)
  have c12b0 := eq_true c12
  have c12b1 : decide (xj1.size + 2 ≤ 9223372036854775807) = true := decide_eq_true c12
  try have c12b2 : (9223372036854775807 < xj1.size + 2) = False := eq_false (Nat.not_lt.2 c12)
  have c13b0 := eq_true c13
  have c13b1 : decide (xj2.size + (rdOf ByteArray.empty y203 (ji7)).size ≤ 9223372036854775807) = true := decide_eq_true c13
  try have c13b2 : (9223372036854775807 < xj2.size + (rdOf ByteArray.empty y203 (ji7)).size) = False := eq_false (Nat.not_lt.2 c13)
  have c14b0 := eq_true c14
  have c14b1 : decide (xj3.size + 2 ≤ 9223372036854775807) = true := decide_eq_true c14
  try have c14b2 : (9223372036854775807 < xj3.size + 2) = False := eq_false (Nat.not_lt.2 c14)
  have c15b0 := eq_true c15
  have c15b1 : decide (xj4.size + t199.size ≤ 9223372036854775807) = true := decide_eq_true c15
  try have c15b2 : (9223372036854775807 < xj4.size + t199.size) = False := eq_false (Nat.not_lt.2 c15)
  have c16b0 := eq_true c16
  have c16b1 : decide (xj5.size + 3 ≤ 9223372036854775807) = true := decide_eq_true c16
  try have c16b2 : (9223372036854775807 < xj5.size + 3) = False := eq_false (Nat.not_lt.2 c16)
  have c17b0 := eq_true c17
  have c17b1 : decide (xj6.size + (rdOf ByteArray.empty y203 (ji7)).size ≤ 9223372036854775807) = true := decide_eq_true c17
  try have c17b2 : (9223372036854775807 < xj6.size + (rdOf ByteArray.empty y203 (ji7)).size) = False := eq_false (Nat.not_lt.2 c17)
  have c18b0 := eq_true c18
  have c18b1 : decide (xj7.size + 2 ≤ 9223372036854775807) = true := decide_eq_true c18
  try have c18b2 : (9223372036854775807 < xj7.size + 2) = False := eq_false (Nat.not_lt.2 c18)
  have c19b0 := eq_true c19
  have c19b1 : decide (xj8.size + (rdOf ByteArray.empty y203 (ji7)).size ≤ 9223372036854775807) = true := decide_eq_true c19
  try have c19b2 : (9223372036854775807 < xj8.size + (rdOf ByteArray.empty y203 (ji7)).size) = False := eq_false (Nat.not_lt.2 c19)
  have c20b0 := eq_true c20
  have c20b1 : decide (xj9.size + 3 ≤ 9223372036854775807) = true := decide_eq_true c20
  try have c20b2 : (9223372036854775807 < xj9.size + 3) = False := eq_false (Nat.not_lt.2 c20)
  have c21b0 := eq_true c21
  have c21b1 : decide (t199.size + 4 ≤ 9223372036854775807) = true := decide_eq_true c21
  try have c21b2 : (9223372036854775807 < t199.size + 4) = False := eq_false (Nat.not_lt.2 c21)
  have c22b0 := eq_true c22
  have c22b1 : decide (xj10.size + t199.size ≤ 9223372036854775807) = true := decide_eq_true c22
  try have c22b2 : (9223372036854775807 < xj10.size + t199.size) = False := eq_false (Nat.not_lt.2 c22)
  have c23b0 := eq_true c23
  have c23b1 : decide (xj11.size + 3 ≤ 9223372036854775807) = true := decide_eq_true c23
  try have c23b2 : (9223372036854775807 < xj11.size + 3) = False := eq_false (Nat.not_lt.2 c23)
  have c24b0 := eq_true c24
  have c24b1 : decide (3 + xj12.size ≤ 9223372036854775807) = true := decide_eq_true c24
  try have c24b2 : (9223372036854775807 < 3 + xj12.size) = False := eq_false (Nat.not_lt.2 c24)
  have c25b0 := eq_true c25
  have c25b1 : decide (xj13.size + 3 ≤ 9223372036854775807) = true := decide_eq_true c25
  try have c25b2 : (9223372036854775807 < xj13.size + 3) = False := eq_false (Nat.not_lt.2 c25)
  have A26 := Aside0.mk A260
  clear A260
  have c27b0 := eq_true c27
  have c27b1 : decide (3 + t199.size ≤ 9223372036854775807) = true := decide_eq_true c27
  try have c27b2 : (9223372036854775807 < 3 + t199.size) = False := eq_false (Nat.not_lt.2 c27)
  have c28b0 := eq_true c28
  have c28b1 : decide (xj15.size + 11 ≤ 9223372036854775807) = true := decide_eq_true c28
  try have c28b2 : (9223372036854775807 < xj15.size + 11) = False := eq_false (Nat.not_lt.2 c28)
  have A29 := Aside0.mk A290
  clear A290
  have A30 := Aside0.mk A300
  clear A300
  have c31b0 : (t212.toList == xj17.toList) = false := beq_eq_false_iff_ne.mpr c31
  have c31b1 : (t212.toList != xj17.toList) = true := bne_iff_ne.mpr c31
  obtain rfl := Option.some.inj H
  go_enter Tryd.func3, Tryd.ntmps3
  go_wp2_with (first | ((with_reducible refine gate_callee (f := 8) rfl ?_); refine goesL_ (some 13) rfl rfl Tryd.func8 (by kernel_rfl) rfl #[.slice A0 l0.length c0] rfl (by (try simp only [List.map_toArray, List.map_cons, List.map_nil]); first | done | rfl | (simp only [List.length_drop, List.length_take]; rfl)) ?_; (with_reducible refine (laws_big.calls _ _ l0 false _ ?side1 ?side2 A2.out).mono ?_); (case side1 => repeat (first | exact HR0.out | (with_reducible refine Kd.C_alloc ?_ _) | (with_reducible refine Kd.C_drewN ?_ _) | (with_reducible refine Kd.C_drew ?_))); (case side2 => exact HC0.out); rintro e w' ⟨rfl, ⟨nd, rfl⟩⟩; refine ⟨_, rfl, ?_⟩) | ((with_reducible refine gate_callee (f := 9) rfl ?_); refine goesL_ (some 15) rfl rfl Tryd.func9 (by kernel_rfl) rfl #[.slice A0 l0.length c0] rfl (by (try simp only [List.map_toArray, List.map_cons, List.map_nil]); first | done | rfl | (simp only [List.length_drop, List.length_take]; rfl)) ?_; (with_reducible refine (spec_DrawName.calls k _ _ l0 t199 _ ?side1 ?side2 A4.out).mono ?_); (case side1 => repeat (first | exact HR0.out | (with_reducible refine Kd.C_alloc ?_ _) | (with_reducible refine Kd.C_drewN ?_ _) | (with_reducible refine Kd.C_drew ?_))); (case side2 => exact HC0.out); rintro e w115 ⟨rfl, hb⟩; refine ⟨_, rfl, ?_⟩; have n0_ := Aside0.mk (below_step (by repeat (first | (with_reducible first | exact HB.out | apply below_alloc | apply pw_below_drewN | apply below_drew1) | exact HB.out)) hb); clear HB; have HB := n0_; clear n0_; (try clear hb); (try clear hb2); (try clear hk); (try clear hi)) | ((with_reducible refine gate_callee (f := 10) rfl ?_); refine goesL_ (some 17) rfl rfl Tryd.func10 (by kernel_rfl) rfl #[.slice A0 l0.length c0] rfl (by (try simp only [List.map_toArray, List.map_cons, List.map_nil]); first | done | rfl | (simp only [List.length_drop, List.length_take]; rfl)) ?_; (with_reducible refine (spec_DrawPlaces.calls k _ _ l0 t200 _ ?side1 ?side2 A5.out).mono ?_); (case side1 => repeat (first | exact (Kd.C_below HR0.out HB.out) | (with_reducible refine Kd.C_alloc ?_ _) | (with_reducible refine Kd.C_drewN ?_ _) | (with_reducible refine Kd.C_drew ?_))); (case side2 => exact HC0.out); rintro e w116 ⟨v201, rfl, ho0, hb⟩; refine ⟨_, rfl, ?_⟩; have n0_ := Aside0.mk (Kd.R_lower ho0 (below_size (by repeat (first | (with_reducible first | exact HB.out | apply below_alloc | apply pw_below_drewN | apply below_drew1) | exact HB.out)))); have n1_ := Aside0.mk (below_step (by repeat (first | (with_reducible first | exact HB.out | apply below_alloc | apply pw_below_drewN | apply below_drew1) | exact HB.out)) hb); clear HB; have HO202 := n0_; have HB := n1_; clear n0_ n1_; (try clear hb); (try clear hb2); (try clear hk); (try clear hi); (try clear ho0)) | ((with_reducible refine gate_dst (N := 18) rfl ?_); (try (refine gate_guard (by rfl) ?_; dsimp only)); refine Kd.R_lit Kd.string _ 9 ?hg (N := 18) ?hd (xs := ([(⟨#[32]⟩ : ByteArray), (⟨#[32, 32]⟩ : ByteArray), (⟨#[9]⟩ : ByteArray), (⟨#[32, 32, 32, 32, 32, 32]⟩ : ByteArray)] : List ByteArray)) (inner := [.string (⟨#[32]⟩ : ByteArray), .string (⟨#[32, 32]⟩ : ByteArray), .string (⟨#[9]⟩ : ByteArray), .string (⟨#[32, 32, 32, 32, 32, 32]⟩ : ByteArray)]) (ok := fun _ => True) (okp := fun _ => True) ?hr ?hp (fun _ hk => hk) trivial (Below.refl _ _) (Nat.le_refl _) (by simp) ?_; (case hd => rfl); (case hg => rfl); (case hr => first | (go_simp; done) | (go_simp; rfl)); (case hp => exact (Reps.one (show Kd.M Kd.string _ _ _ (⟨#[32]⟩ : ByteArray) [.string (⟨#[32]⟩ : ByteArray)] from rfl) (Reps.one (show Kd.M Kd.string _ _ _ (⟨#[32, 32]⟩ : ByteArray) [.string (⟨#[32, 32]⟩ : ByteArray)] from rfl) (Reps.one (show Kd.M Kd.string _ _ _ (⟨#[9]⟩ : ByteArray) [.string (⟨#[9]⟩ : ByteArray)] from rfl) (Reps.one (show Kd.M Kd.string _ _ _ (⟨#[32, 32, 32, 32, 32, 32]⟩ : ByteArray) [.string (⟨#[32, 32, 32, 32, 32, 32]⟩ : ByteArray)] from rfl) (Reps.none _ _)))))); intro v204 w117 ho118 hb hg_ hnew_; clear hg_ hnew_; (first | rw [← Ny203.out] at ho118 | (simp only [Int.reduceToNat] at ho118; rw [← Ny203.out] at ho118)); have n0_ := Aside0.mk (Kd.R_below (by (with_reducible repeat (first | apply Kd.R_alloc | apply Kd.R_drewN | apply Kd.R_drew)); exact HO202.out) hb); have n1_ := Aside0.mk (Kd.R_lower ho118 (below_size (by repeat (first | (with_reducible first | exact HB.out | apply below_alloc | apply pw_below_drewN | apply below_drew1) | exact HB.out)))); have n2_ := Aside0.mk (below_step (by repeat (first | (with_reducible first | exact HB.out | apply below_alloc | apply pw_below_drewN | apply below_drew1) | exact HB.out)) hb); clear HO202; clear HB; have HO202 := n0_; have HO205 := n1_; have HB := n2_; clear n0_ n1_ n2_; clear hb ho118; obtain ⟨Ao119, co119, eo119⟩ := Kd.R_slice HO202.out; subst eo119; have p206 : 0 ≤ (0 : Int) := (by omega); have q206 : 0 < (t200.length : Int) := of_decide_eq_true (by first | (with_reducible assumption) | assumption); obtain ⟨ad206, e206, hx206_0⟩ := Kd.at_int (Kd.R_reads' HO202.out).2.2 0 p206 q206; cases e206; have qi206 : (0 < t200.length) = True := eq_true (by omega); (try rw [show ((0 : Int)).toNat = 0 from rfl] at hx206_0); (try rw [Addr.add_zero'] at hx206_0); replace p206 := eq_true p206; replace q206 := eq_true q206; obtain ⟨Ao120, co120, eo120⟩ := Kd.R_slice HO205.out; subst eo120; have p207 : 0 ≤ ((ji7) : Int) := of_decide_eq_true (by first | (with_reducible assumption) | assumption); have q207 : (ji7) < (y203.length : Int) := of_decide_eq_true (by first | (with_reducible assumption) | assumption); obtain ⟨ad207, e207, hx207_0⟩ := Kd.at_string (Kd.R_reads' HO205.out).2.2 (ji7) p207 q207; cases e207; replace p207 := eq_true p207; replace q207 := eq_true q207) | ((with_reducible refine gate_callee (f := 11) rfl ?_); refine goesL_ (some 51) rfl rfl Tryd.func11 (by kernel_rfl) rfl #[.string xj14] rfl (by (try simp only [List.map_toArray, List.map_cons, List.map_nil]); first | done | (simp only [hji7]; rfl) | rfl | (simp only [List.length_drop, List.length_take]; rfl)) ?_; (with_reducible refine (impl_BlockText.calls k xj14 t208 t209 _ (Gl.below HG.out (by repeat (first | (with_reducible first | exact HB.out | apply below_alloc | apply pw_below_drewN | apply below_drew1) | exact HB.out))) A26.out).mono ?_); rintro e w121 ⟨rfl, hb⟩; refine ⟨_, rfl, ?_⟩; have n0_ := Aside0.mk (Kd.R_below (by (with_reducible repeat (first | apply Kd.R_alloc | apply Kd.R_drewN | apply Kd.R_drew)); exact HO202.out) hb); have n1_ := Aside0.mk (Kd.R_below (by (with_reducible repeat (first | apply Kd.R_alloc | apply Kd.R_drewN | apply Kd.R_drew)); exact HO205.out) hb); have n2_ := Aside0.mk (below_step (by repeat (first | (with_reducible first | exact HB.out | apply below_alloc | apply pw_below_drewN | apply below_drew1) | exact HB.out)) hb); clear HO202; clear HO205; clear HB; have HO202 := n0_; have HO205 := n1_; have HB := n2_; clear n0_ n1_ n2_; (try clear hb); (try clear hb2); (try clear hk); (try clear hi)) | ((with_reducible refine gate_callee (f := 11) rfl ?_); refine goesL_ (some 58) rfl rfl Tryd.func11 (by kernel_rfl) rfl #[.string xj16] rfl (by (try simp only [List.map_toArray, List.map_cons, List.map_nil]); first | done | rfl | (simp only [List.length_drop, List.length_take]; rfl)) ?_; (with_reducible refine (impl_BlockText.calls k xj16 t210 t211 _ (Gl.below HG.out (by repeat (first | (with_reducible first | exact HB.out | apply below_alloc | apply pw_below_drewN | apply below_drew1) | exact HB.out))) A29.out).mono ?_); rintro e w122 ⟨rfl, hb⟩; refine ⟨_, rfl, ?_⟩; have n0_ := Aside0.mk (Kd.R_below (by (with_reducible repeat (first | apply Kd.R_alloc | apply Kd.R_drewN | apply Kd.R_drew)); exact HO202.out) hb); have n1_ := Aside0.mk (Kd.R_below (by (with_reducible repeat (first | apply Kd.R_alloc | apply Kd.R_drewN | apply Kd.R_drew)); exact HO205.out) hb); have n2_ := Aside0.mk (below_step (by repeat (first | (with_reducible first | exact HB.out | apply below_alloc | apply pw_below_drewN | apply below_drew1) | exact HB.out)) hb); clear HO202; clear HO205; clear HB; have HO202 := n0_; have HO205 := n1_; have HB := n2_; clear n0_ n1_ n2_; (try clear hb); (try clear hb2); (try clear hk); (try clear hi)) | ((with_reducible refine gate_callee (f := 12) rfl ?_); refine goesL_ (some 62) rfl rfl Tryd.func12 (by kernel_rfl) rfl #[.string xj12] rfl (by (try simp only [List.map_toArray, List.map_cons, List.map_nil]); first | done | (simp only [hji7]; rfl) | rfl | (simp only [List.length_drop, List.length_take]; rfl)) ?_; (with_reducible refine (impl_BlockValue.calls k xj12 t212 _ (Gl.below HG.out (by repeat (first | (with_reducible first | exact HB.out | apply below_alloc | apply pw_below_drewN | apply below_drew1) | exact HB.out))) A30.out).mono ?_); rintro e w123 ⟨rfl, hb⟩; refine ⟨_, rfl, ?_⟩; have n0_ := Aside0.mk (Kd.R_below (by (with_reducible repeat (first | apply Kd.R_alloc | apply Kd.R_drewN | apply Kd.R_drew)); exact HO202.out) hb); have n1_ := Aside0.mk (Kd.R_below (by (with_reducible repeat (first | apply Kd.R_alloc | apply Kd.R_drewN | apply Kd.R_drew)); exact HO205.out) hb); have n2_ := Aside0.mk (below_step (by repeat (first | (with_reducible first | exact HB.out | apply below_alloc | apply pw_below_drewN | apply below_drew1) | exact HB.out)) hb); clear HO202; clear HO205; clear HB; have HO202 := n0_; have HO205 := n1_; have HB := n2_; clear n0_ n1_ n2_; (try clear hb); (try clear hb2); (try clear hk); (try clear hi)))
  go_ret
  exact ⟨by first | rfl | (simp [errW_none, errW_some] <;> rfl) | (simp only [← hji7]; first | rfl | (simp [errW_none, errW_some] <;> rfl)) | (simp [*, errW_none, errW_some] <;> rfl), by repeat (first | (with_reducible first | exact HB.out | apply below_alloc | apply pw_below_drewN | apply below_drew1) | exact HB.out)⟩
end Go.Proofs.YtmbninphokgbpaaDoor.OFnBlocks
