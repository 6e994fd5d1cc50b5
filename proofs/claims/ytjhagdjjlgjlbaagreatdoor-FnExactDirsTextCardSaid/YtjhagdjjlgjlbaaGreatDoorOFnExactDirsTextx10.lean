/- The machine side of one law, written by a program. -/
import Derived.Test.YtjhagdjjlgjlbaaGreatDoorOFnExactDirsTextx0
import Derived.Test.YtjhagdjjlgjlbaaGreatDoorOFnExactDirsTextx8
import Derived.Test.YtjhagdjjlgjlbaaGreatDoorOFnExactDirsTextx9
namespace Go.Proofs.YtjhagdjjlgjlbaaGreatDoor.OFnExactDirsText
open Go.Proofs.YtjhagdjjlgjlbaaGreatDoor.GlU Go.Proofs.YtjhagdjjlgjlbaaGreatDoor.Ix
open Go.RowKit Go.Proofs.YtjhagdjjlgjlbaaGreatDoorW.PrintWords Go.Proofs.YtjhagdjjlgjlbaaGreatDoorW.PrintLast Go.Proofs.YtjhagdjjlgjlbaaGreatDoorW.PrintMore
attribute [local go_sem] max2_int min2_int max_two min_two max_three min_three max_four min_four
set_option linter.unusedVariables false
set_option linter.unusedSimpArgs false

def spec_l10Say.l0 : Nat → List Int → List (S54) → Int → Option (List Int)
 | 0, _, _, _ => none
 | k + 1, x0, x1, x5 => if x5 < (x1.length : Int) then (if x5 = 0 then (if x0.length < 140737488355328 then ((some (x0 ++ [40] : List Int)).bind fun y238 => (if 0 ≤ x5 then (if y238.length + ((rd_T54 x1 x5).f0).size < 140737488355328 then ((some (y238 ++ bytesOf ((rd_T54 x1 x5).f0) : List Int)).bind fun y242 => ((some (([58, 32] : List Int) : List Int)).bind fun y245 => (if y242.length + y245.length < 140737488355328 then ((spec_l07Say.f k (y242 ++ y245) ((rd_T54 x1 x5).f1.f0) ((rd_T54 x1 x5).f1.f1) ((rd_T54 x1 x5).f1.f2) ((rd_T54 x1 x5).f1.f3)).bind fun t252 => (spec_l10Say.l0 k t252 x1 (wrap64 (x5 + 1)))) else (none)))) else (none)) else (none))) else (none)) else ((some (([44, 32] : List Int) : List Int)).bind fun y255 => (if x0.length + y255.length < 140737488355328 then ((some (x0 ++ y255 : List Int)).bind fun y258 => (if 0 ≤ x5 then (if y258.length + ((rd_T54 x1 x5).f0).size < 140737488355328 then ((some (y258 ++ bytesOf ((rd_T54 x1 x5).f0) : List Int)).bind fun y262 => ((some (([58, 32] : List Int) : List Int)).bind fun y265 => (if y262.length + y265.length < 140737488355328 then ((spec_l07Say.f k (y262 ++ y265) ((rd_T54 x1 x5).f1.f0) ((rd_T54 x1 x5).f1.f1) ((rd_T54 x1 x5).f1.f2) ((rd_T54 x1 x5).f1.f3)).bind fun t272 => (spec_l10Say.l0 k t272 x1 (wrap64 (x5 + 1)))) else (none)))) else (none)) else (none))) else (none)))) else (if (x1.length : Int) > 0 then (if x0.length < 140737488355328 then (some (x0 ++ [41])) else (none)) else (some x0))
def spec_l10Say.f (k : Nat) (l0 : List Int) (l1 : List (S54)) : Option (List Int) := spec_l10Say.l0 k l0 l1 0
theorem spec_l10Say.mono_l : ∀ k, (∀ y0 y1 y2, LeO (spec_l10Say.l0 k y0 y1 y2) (spec_l10Say.l0 (k + 1) y0 y1 y2))
 | 0 => fun _ _ _ r h => by simp [spec_l10Say.l0] at h
 | k + 1 => by
  have ih0 := spec_l10Say.mono_l k
  ·intro y0 y1 y2; unfold spec_l10Say.l0
   repeat' first
   | (with_reducible first | exact ih0 _ _ _ | exact spec_l07Say.mono _ _ _ _ _ _ | exact LeO.refl _ | exact LeO.none _ | refine LeO.ite ?_ ?_ | refine LeO.bind ?_ (fun _ => ?_))
   | exact ih0 _ _ _ | exact spec_l07Say.mono _ _ _ _ _ _ | exact LeO.none _ | refine LeO.ite ?_ ?_ | refine LeO.bind ?_ (fun _ => ?_)
theorem spec_l10Say.mono : ∀ a0 a1 k, LeO (spec_l10Say.f k a0 a1) (spec_l10Say.f (k + 1) a0 a1) := by
 intro a0 a1 k; have ih0 := spec_l10Say.mono_l k; unfold spec_l10Say.f
 repeat' first
   | (with_reducible first | exact ih0 _ _ _ | exact spec_l07Say.mono _ _ _ _ _ _ | exact LeO.refl _ | exact LeO.none _ | refine LeO.ite ?_ ?_ | refine LeO.bind ?_ (fun _ => ?_))
   | exact ih0 _ _ _ | exact spec_l07Say.mono _ _ _ _ _ _ | exact LeO.none _ | refine LeO.ite ?_ ?_ | refine LeO.bind ?_ (fun _ => ?_)
set_option maxHeartbeats 8000000 in
set_option maxRecDepth 100000 in
theorem spec_l10Say.calls (k : Nat) (P0_ : Nat → Prop) (u9000_ : Value) (l0 : List Int) (A1 : Option Addr) (c1 : Nat) (l1 : List (S54)) (r : List Int) (w0 w : World) (hB : Below w0.heap.size w0 w) (ho0 : Kd.R (Kd.int .u8) 5 w w0.heap.size P0_ u9000_ l0) (hr1 : ∀ W_, Kept w W_ (fun k_ => P0_ k_) → Kd.C k54 W_ A1 l1.length l1) (hc1 : l1.length ≤ c1) (h : spec_l10Say.f k l0 l1 = some r) :
  Calls Tryz.prog 19 #[u9000_, .slice A1 l1.length c1] w fun e w' => ∃ v0_ : Value, e = .returned (v0_) ∧ Kd.R (Kd.int .u8) 5 w' w0.heap.size (fun k_ => (P0_ k_ ∨ w.heap.size ≤ k_)) v0_ r ∧ Below w0.heap.size w0 w' ∧ Kept w w' (fun k_ => P0_ k_) := by
 have hu52 := Tryz.underlying52; have HO0 := Aside0.mk (show Kd.R (Kd.int .u8) 5 w w0.heap.size (fun k_ => (P0_ k_ ∨ w.heap.size ≤ k_)) u9000_ l0 from Kd.R_mono ho0 (fun k_ hk => (.inl hk))); have HR1 := Aside0.mk hr1; have HC1 := Aside0.mk hc1; clear hr1 hc1; have HK := Aside0.mk (Kept.refl w (fun k_ => P0_ k_)); have HW0 := Aside0.mk hB.size; have HB := Aside0.mk hB; clear hB; have H : (spec_l10Say.l0 k l0 l1 0) = some r := h; clear h
 have H' := Aside0.mk H
 clear H
 go_enter Tryz.func19, Tryz.ntmps19
 go_wp2
 go_loopg [0, 5] k (fun kq v0 v5 w' => ∃ (x0_1 : List Int) (x5_1 : Int), v5 = .int .i64 x5_1 ∧ Aside0 (spec_l10Say.l0 kq x0_1 l1 x5_1 = some r) ∧ Aside0 (kq ≤ k) ∧ Aside0 (Kd.R (Kd.int .u8) 5 w' w0.heap.size (fun k_ => (P0_ k_ ∨ w.heap.size ≤ k_)) v0 x0_1) ∧ Aside0 (Kept w w' (fun k_ => P0_ k_)) ∧ Aside0 (Below w0.heap.size w0 w'))
 case atStart => exact ⟨(l0), (0), enA, H', ⟨Nat.le_refl _⟩, ⟨kdB HO0⟩, ⟨kepA HK⟩, ⟨belB HB⟩⟩
 case round =>
  clear H'
  try clear c1
  try clear p2
  obtain ⟨x0_1, x5_1, rfl, HA, HK1, HO_0, HK, HB⟩ := hrel
  cases gk with
  | zero => exact absurd HA.out (by simp [spec_l10Say.l0])
  | succ k1 =>
   have H := HA.out; clear HA
   simp only [spec_l10Say.l0] at H
   by_cases c3 : x5_1 < (l1.length : Int)
   ·rw [if_pos c3] at H; have c3b0 := decide_eq_true c3; clear c3
    by_cases c4 : x5_1 = 0
    ·rw [if_pos c4] at H; have c4b0 := beq_iff_eq.mpr c4; have c4b1 := bne_eq_false_iff_eq.mpr c4; clear c4
     by_cases c5 : x0_1.length < 140737488355328
     ·rw [if_pos c5] at H; have LMc5 := Aside0.mk c5; clear c5
      obtain ⟨y238, hy238⟩ : ∃ y_ : List Int, y_ = (x0_1 ++ [40]) := ⟨_, rfl⟩
      replace H : (if 0 ≤ x5_1 then (if y238.length + ((rd_T54 l1 x5_1).f0).size < 140737488355328 then ((some (y238 ++ bytesOf ((rd_T54 l1 x5_1).f0) : List Int)).bind fun y242 => ((some (([58, 32] : List Int) : List Int)).bind fun y245 => (if y242.length + y245.length < 140737488355328 then ((spec_l07Say.f k1 (y242 ++ y245) ((rd_T54 l1 x5_1).f1.f0) ((rd_T54 l1 x5_1).f1.f1) ((rd_T54 l1 x5_1).f1.f2) ((rd_T54 l1 x5_1).f1.f3)).bind fun t252 => (spec_l10Say.l0 k1 t252 l1 (wrap64 (x5_1 + 1)))) else (none)))) else (none)) else (none)) = some r := reA H hy238; have Ny238 := Aside0.mk hy238; clear hy238
      by_cases c6 : 0 ≤ x5_1
      ·rw [if_pos c6] at H; have c6b0 := decide_eq_true c6; clear c6
       by_cases c7 : y238.length + ((rd_T54 l1 x5_1).f0).size < 140737488355328
       ·rw [if_pos c7] at H; have LMc7 := Aside0.mk c7; clear c7
        obtain ⟨y242, hy242⟩ : ∃ y_ : List Int, y_ = (y238 ++ bytesOf ((rd_T54 l1 x5_1).f0)) := ⟨_, rfl⟩
        replace H : ((some (([58, 32] : List Int) : List Int)).bind fun y245 => (if y242.length + y245.length < 140737488355328 then ((spec_l07Say.f k1 (y242 ++ y245) ((rd_T54 l1 x5_1).f1.f0) ((rd_T54 l1 x5_1).f1.f1) ((rd_T54 l1 x5_1).f1.f2) ((rd_T54 l1 x5_1).f1.f3)).bind fun t252 => (spec_l10Say.l0 k1 t252 l1 (wrap64 (x5_1 + 1)))) else (none))) = some r := reA H hy242; have Ny242 := Aside0.mk hy242; clear hy242
        obtain ⟨y245, hy245⟩ : ∃ y_ : List Int, y_ = (([58, 32] : List Int)) := ⟨_, rfl⟩
        replace H : (if y242.length + y245.length < 140737488355328 then ((spec_l07Say.f k1 (y242 ++ y245) ((rd_T54 l1 x5_1).f1.f0) ((rd_T54 l1 x5_1).f1.f1) ((rd_T54 l1 x5_1).f1.f2) ((rd_T54 l1 x5_1).f1.f3)).bind fun t252 => (spec_l10Say.l0 k1 t252 l1 (wrap64 (x5_1 + 1)))) else (none)) = some r := reA H hy245; have Ny245 := Aside0.mk hy245; clear hy245
        by_cases c8 : y242.length + y245.length < 140737488355328
        ·rw [if_pos c8] at H; have LMc8 := Aside0.mk c8; clear c8
         obtain ⟨y248, hy248⟩ : ∃ y_ : List Int, y_ = (y242 ++ y245) := ⟨_, rfl⟩
         replace H : ((spec_l07Say.f k1 y248 ((rd_T54 l1 x5_1).f1.f0) ((rd_T54 l1 x5_1).f1.f1) ((rd_T54 l1 x5_1).f1.f2) ((rd_T54 l1 x5_1).f1.f3)).bind fun t252 => (spec_l10Say.l0 k1 t252 l1 (wrap64 (x5_1 + 1)))) = some r := reA H hy248; have Ny248 := Aside0.mk hy248; clear hy248; replace H := Option.bind_eq_some_iff.mp H; obtain ⟨t252, A90, H⟩ := H; replace H : (spec_l10Say.l0 k1 t252 l1 (wrap64 (x5_1 + 1))) = some r := H; have A9 := Aside0.mk A90; clear A90
         have H' := Aside0.mk H
         clear H
         go_wp2_with (first | ((with_reducible refine gate_builtin (b := .append) (xs := #[.tmp 14, .tmp 15]) rfl ?_); at_builtin; refine Kd.R_append (Kd.int .u8) (w0 := w0) w0.heap.size rfl (.tmp 14) (.tmp 15) 34 5 (.int .u8 0) 1 rfl Tryz.underlying34 info5 rfl (by decide) (by omega) u0 x0_1 40 [.int .u8 40] (fun k_ => (P0_ k_ ∨ w.heap.size ≤ k_)) (fun _ => False) rfl rfl ?aP (fun _ hk => hk.elim) ?aF ?aO ?aB ?aS ?aL ?_; (case aP => exact rfl); (case aB => exact (belB HB)); (case aF => exact (fun k_ hk => (.inr (Nat.le_trans (by first | exact HK.out.1 | exact (show Kept w _ (fun k_ => P0_ k_) from kepA HK).1) hk)))); (case aO => exact (kdB HO_0)); (case aS => exact (below_size (belB HB))); (case aL => have := LMc5.out; omega); intro v239 w10 ho hb hg hat; rw [← Ny238.out] at ho; have HO240 := Aside0.mk (ho); replace HB := Aside0.mk (hb); replace HK := Aside0.mk (Kept.of_grown (S := (fun k_ => P0_ k_)) hg (kepA HK) (fun k_ e_ => (HO_0.out.1 k_ e_))); clear HO_0; clear ho hb hg hat; have p241 : 0 ≤ (x5_1 : Int) := odA; have q241 : x5_1 < (l1.length : Int) := odA; obtain ⟨ad241, A241_3, c241_3, A241_4, c241_4, e241, hx241_0, hx241_1, hx241_2, hx241_3, hx241_4, hl241_3, hi241_3, hl241_4, hi241_4⟩ := at_T54 (Kd.C_kept_now HR1.out HK.out) x5_1 p241 q241; have HF241_3 := Aside0.mk (k54_in3 HR1.out HK.out x5_1 p241 q241 e241 hx241_3); have HF241_4 := Aside0.mk (k54_in4 HR1.out HK.out x5_1 p241 q241 e241 hx241_4); cases e241; have HR241_3 := Aside0.mk hi241_3; have HC241_3 := Aside0.mk hl241_3; clear hi241_3 hl241_3; have HR241_4 := Aside0.mk hi241_4; have HC241_4 := Aside0.mk hl241_4; clear hi241_4 hl241_4; replace p241 := eq_true p241; replace q241 := eq_true q241) | (at_builtin; refine print_append_strH (w0 := w0) w0.heap.size rfl (.tmp 20) _ 34 9 5 rfl Tryz.underlying34 Tryz.underlying9 info5 v239 y238 ((rd_T54 l1 x5_1).f0) rfl rfl ?aO ?aB ?aS ?aL ?_; (case aB => exact (belB HB)); (case aO => exact (Kd.own_of_R (kdB HO240))); (case aS => exact (below_size (belB HB))); (case aL => have := LMc7.out; omega); intro v243 w11 ho0 hb hg hat; have ho := R_str_at (h1 := fun _ => rfl) (ok := (fun k_ => (P0_ k_ ∨ w.heap.size ≤ k_))) ho0 hat (fun k_ hk => (.inr (Nat.le_trans (by first | exact HK.out.1 | exact (show Kept w _ (fun k_ => P0_ k_) from kepA HK).1) hk))) (kdB HO240); clear ho0; rw [← Ny242.out] at ho; change Kd.R (Kd.int .u8) 5 w11 w0.heap.size (fun k_ => (P0_ k_ ∨ w.heap.size ≤ k_)) v243 y242 at ho; have HO244 := Aside0.mk (ho); replace HB := Aside0.mk (hb); replace HK := Aside0.mk (Kept.of_grown (S := (fun k_ => P0_ k_)) hg (kepA HK) (fun k_ e_ => (HO240.out.1 k_ e_))); clear HO240; clear ho hb hg hat) | ((with_reducible refine gate_dst (N := 27) rfl ?_); refine Kd.R_lit (Kd.int .u8) _ 5 ?hg (N := 27) ?hd (xs := ([58, 32] : List Int)) (inner := [.int .u8 58, .int .u8 32]) (ok := fun _ => True) (okp := fun _ => True) ?hr ?hp (fun _ hk => hk) trivial (Below.refl _ _) (Nat.le_refl _) (by simp) ?_; (case hd => rfl); (case hg => rfl); (case hr => first | (go_simp; done) | (go_simp; rfl)); (case hp => exact (Reps.one (show Kd.M (Kd.int .u8) _ _ _ 58 [.int .u8 58] from rfl) (Reps.one (show Kd.M (Kd.int .u8) _ _ _ 32 [.int .u8 32] from rfl) (Reps.none _ _)))); intro v246 w12 ho13 hb hg_ hnew_; clear hg_ hnew_; (first | rw [← Ny245.out] at ho13 | (simp only [Int.reduceToNat] at ho13; rw [← Ny245.out] at ho13)); have HO247 := Aside0.mk (Kd.R_lower (Kd.R_new' (Kd.R_newM (M := fun k_ => (P0_ k_ ∨ w.heap.size ≤ k_)) ho13 (by first | exact HK.out.1 | exact (show Kept w _ (fun k_ => P0_ k_) from kepA HK).1) (fun k_ h_ => .inr h_)) (Kd.R_lt (kdB HO244))) (below_size (belB HB))); replace HO244 := Aside0.mk (Kd.R_elder' (kdB HO244) (Kd.R_base ho13) hb); replace HK := Aside0.mk (Kept.below (S := (fun k_ => P0_ k_)) (kepA HK) hb); replace HB := Aside0.mk (below_step (belB HB) hb); clear hb ho13; obtain ⟨Ao15, co15, eo15⟩ := Kd.R_slice HO247.out; subst eo15) | ((with_reducible refine gate_builtin (b := .append) (xs := #[.tmp 26, .tmp 27]) rfl ?_); at_builtin; refine Kd.R_append_rows (Kd.int .u8) (w0 := w0) w0.heap.size rfl (.tmp 26) (.tmp 27) 34 5 (.int .u8 0) 1 rfl Tryz.underlying34 info5 rfl (by decide) (by omega) v243 y242 y245 _ _ _ (fun k_ => (P0_ k_ ∨ w.heap.size ≤ k_) ∧ some k_ ≠ (.slice Ao15 y245.length co15 : Value).ownBlock) (fun _ => False) rfl rfl ?aO ?aR (fun _ _ h => h) (fun _ h => h.elim) ?aF ?aB ?aS ?aL ?_; (case aR => repeat (first | exact (Kd.R_reads' HO247.out).2.2 | (with_reducible refine Kd.C_alloc ?_ _) | (with_reducible refine Kd.C_drewN ?_ _) | (with_reducible refine Kd.C_drew ?_))); (case aB => exact (belB HB)); (case aF => exact (fun k_ hk => ⟨(.inr (Nat.le_trans (by first | exact HK.out.1 | exact (show Kept w _ (fun k_ => P0_ k_) from kepA HK).1) hk)), Kd.fresh' (Kd.R_lt (kdB HO247)) k_ hk⟩)); (case aO => exact (kdB HO244)); (case aS => exact (below_size (belB HB))); (case aL => have := LMc8.out; omega); intro v249 w14 ho hb hg hat; rw [← Ny248.out] at ho; have HO250 := Aside0.mk (ho); replace HO247 := Aside0.mk (Kd.R_after (ok := (fun k_ => (P0_ k_ ∨ w.heap.size ≤ k_))) (by (with_reducible repeat (first | apply Kd.R_alloc | apply Kd.R_drewN | apply Kd.R_drew)); exact Kd.R_mono HO247.out (fun _ hk => ⟨hk.1.1, hk.2⟩)) hg hat); replace HB := Aside0.mk (hb); replace HK := Aside0.mk (Kept.of_grown (S := (fun k_ => P0_ k_)) hg (kepA HK) (fun k_ e_ => (HO244.out.1 k_ e_).1)); clear HO244; clear ho hb hg hat; have p251 : 0 ≤ (x5_1 : Int) := odA; have q251 : x5_1 < (l1.length : Int) := odA; obtain ⟨ad251, A251_3, c251_3, A251_4, c251_4, e251, hx251_0, hx251_1, hx251_2, hx251_3, hx251_4, hl251_3, hi251_3, hl251_4, hi251_4⟩ := at_T54 (Kd.C_kept_now HR1.out HK.out) x5_1 p251 q251; have HF251_3 := Aside0.mk (k54_in3 HR1.out HK.out x5_1 p251 q251 e251 hx251_3); have HF251_4 := Aside0.mk (k54_in4 HR1.out HK.out x5_1 p251 q251 e251 hx251_4); obtain rfl : ad241 = ad251 := (by injection e251); have HR251_3 := Aside0.mk hi251_3; have HC251_3 := Aside0.mk hl251_3; clear hi251_3 hl251_3; have HR251_4 := Aside0.mk hi251_4; have HC251_4 := Aside0.mk hl251_4; clear hi251_4 hl251_4; replace p251 := eq_true p251; replace q251 := eq_true q251; obtain ⟨Ao16, co16, eo16⟩ := Kd.R_slice HO250.out; subst eo16) | ((with_reducible refine gate_callee (f := 32) rfl ?_); refine goesL_ (some 35) rfl rfl Tryz.func32 (by kernel_rfl) rfl #[.slice Ao16 y248.length co16, .agg #[.int .i64 ((rd_T54 l1 x5_1).f1.f0), .string ((rd_T54 l1 x5_1).f1.f1), .slice A251_3 ((rd_T54 l1 x5_1).f1.f2).length c251_3, .slice A251_4 ((rd_T54 l1 x5_1).f1.f3).length c251_4]] rfl mapA ?_; (with_reducible refine (spec_l07Say.calls k1 (fun k_ => some k_ = (.slice Ao16 y248.length co16 : Value).ownBlock) (.slice Ao16 y248.length co16) y248 ((rd_T54 l1 x5_1).f1.f0) ((rd_T54 l1 x5_1).f1.f1) _ _ ((rd_T54 l1 x5_1).f1.f2) _ _ ((rd_T54 l1 x5_1).f1.f3) t252 w0 _ ?side1 ?side2 ?side3 ?side4 ?side5 ?side6 A9.out).mono ?_); (case side1 => repeat (first | (with_reducible first | exact HB.out | apply below_alloc | apply pw_below_drewN | apply below_drew1) | exact HB.out)); (case side2 => exact Kd.R_tight rfl HO250.out); (case side3 => exact Kd.C_kept_call HF251_3.out (kepA HK) (fun k_ hs_ => (fun e_ => (HO250.out.1 k_ e_.symm).1) hs_)); (case side4 => exact HC251_3.out); (case side5 => exact Kd.C_kept_call HF251_4.out (kepA HK) (fun k_ hs_ => (fun e_ => (HO250.out.1 k_ e_.symm).1) hs_)); (case side6 => exact HC251_4.out); rintro e w17 ⟨v253, rfl, ho0, hb, hkp⟩; refine ⟨_, rfl, ?_⟩; have HO254 := Aside0.mk (Kd.R_mono (ok' := fun k_ => (P0_ k_ ∨ w.heap.size ≤ k_) ∧ some k_ ≠ (.slice Ao15 y245.length co15 : Value).ownBlock) ho0 (fun k_ hk_ => ⟨Or.elim hk_ (fun hs_ => (HO250.out.1 k_ (hs_).symm).1) (fun hn_ => (.inr (Nat.le_trans (by first | exact HK.out.1 | exact (show Kept w _ (fun k_ => P0_ k_) from kepA HK).1) hn_))), Or.elim hk_ (fun hs_ => fun e_ => (((HO247.out).1 k_ e_.symm).2) hs_) (fun hn_ => (Kd.fresh' (Kd.R_lt (kdB HO247)) k_ hn_))⟩)); replace HO247 := Aside0.mk (Kd.R_mono (ok' := fun k_ => (P0_ k_ ∨ w.heap.size ≤ k_) ∧ some k_ ≠ (v253 : Value).ownBlock) (Kd.R_keptB (HO247.out) hkp (fun k_ hk_ hs_ => (hk_.2) hs_)) (fun k_ hk_ => ⟨hk_.1.1, fun e_ => Or.elim (ho0.1 k_ e_.symm) (fun hs_ => hk_.2.1 hs_) (fun hn_ => Nat.not_le.2 hk_.2.2 hn_)⟩)); replace HK := Aside0.mk (Kept.then_ (S := (fun k_ => P0_ k_)) (kepA HK) hkp (fun k_ hs_ => (fun e_ => (HO250.out.1 k_ e_.symm).1) hs_)); replace HB := Aside0.mk (hb); clear HO250; (try clear hb); (try clear hkp); (try clear ho0)))
         go_roundg k1
         case measure => have := HK1.out; omega
         case rel => exact ⟨(t252), (wrap64 (x5_1 + 1)), enA, H', ⟨by have := HK1.out; omega⟩, ⟨by (with_reducible repeat (first | apply Kd.R_alloc | apply Kd.R_drewN | apply Kd.R_drew)); exact Kd.R_mono HO254.out (fun _ hk => hk.1)⟩, ⟨kepA HK⟩, ⟨belB HB⟩⟩
        ·rw [if_neg c8] at H
         exact absurd H (by simp)
       ·rw [if_neg c7] at H
        exact absurd H (by simp)
      ·rw [if_neg c6] at H
       exact absurd H (by simp)
     ·rw [if_neg c5] at H
      exact absurd H (by simp)
    ·rw [if_neg c4] at H; have c4b0 := beq_eq_false_iff_ne.mpr c4; have c4b1 := bne_iff_ne.mpr c4
     obtain ⟨y255, hy255⟩ : ∃ y_ : List Int, y_ = (([44, 32] : List Int)) := ⟨_, rfl⟩
     replace H : (if x0_1.length + y255.length < 140737488355328 then ((some (x0_1 ++ y255 : List Int)).bind fun y258 => (if 0 ≤ x5_1 then (if y258.length + ((rd_T54 l1 x5_1).f0).size < 140737488355328 then ((some (y258 ++ bytesOf ((rd_T54 l1 x5_1).f0) : List Int)).bind fun y262 => ((some (([58, 32] : List Int) : List Int)).bind fun y265 => (if y262.length + y265.length < 140737488355328 then ((spec_l07Say.f k1 (y262 ++ y265) ((rd_T54 l1 x5_1).f1.f0) ((rd_T54 l1 x5_1).f1.f1) ((rd_T54 l1 x5_1).f1.f2) ((rd_T54 l1 x5_1).f1.f3)).bind fun t272 => (spec_l10Say.l0 k1 t272 l1 (wrap64 (x5_1 + 1)))) else (none)))) else (none)) else (none))) else (none)) = some r := reA H hy255; have Ny255 := Aside0.mk hy255; clear hy255
     by_cases c18 : x0_1.length + y255.length < 140737488355328
     ·rw [if_pos c18] at H; have LMc18 := Aside0.mk c18; clear c18
      obtain ⟨y258, hy258⟩ : ∃ y_ : List Int, y_ = (x0_1 ++ y255) := ⟨_, rfl⟩
      replace H : (if 0 ≤ x5_1 then (if y258.length + ((rd_T54 l1 x5_1).f0).size < 140737488355328 then ((some (y258 ++ bytesOf ((rd_T54 l1 x5_1).f0) : List Int)).bind fun y262 => ((some (([58, 32] : List Int) : List Int)).bind fun y265 => (if y262.length + y265.length < 140737488355328 then ((spec_l07Say.f k1 (y262 ++ y265) ((rd_T54 l1 x5_1).f1.f0) ((rd_T54 l1 x5_1).f1.f1) ((rd_T54 l1 x5_1).f1.f2) ((rd_T54 l1 x5_1).f1.f3)).bind fun t272 => (spec_l10Say.l0 k1 t272 l1 (wrap64 (x5_1 + 1)))) else (none)))) else (none)) else (none)) = some r := reA H hy258; have Ny258 := Aside0.mk hy258; clear hy258
      by_cases c19 : 0 ≤ x5_1
      ·rw [if_pos c19] at H; have c19b0 := decide_eq_true c19; clear c19
       by_cases c20 : y258.length + ((rd_T54 l1 x5_1).f0).size < 140737488355328
       ·rw [if_pos c20] at H; have LMc20 := Aside0.mk c20; clear c20
        obtain ⟨y262, hy262⟩ : ∃ y_ : List Int, y_ = (y258 ++ bytesOf ((rd_T54 l1 x5_1).f0)) := ⟨_, rfl⟩
        replace H : ((some (([58, 32] : List Int) : List Int)).bind fun y265 => (if y262.length + y265.length < 140737488355328 then ((spec_l07Say.f k1 (y262 ++ y265) ((rd_T54 l1 x5_1).f1.f0) ((rd_T54 l1 x5_1).f1.f1) ((rd_T54 l1 x5_1).f1.f2) ((rd_T54 l1 x5_1).f1.f3)).bind fun t272 => (spec_l10Say.l0 k1 t272 l1 (wrap64 (x5_1 + 1)))) else (none))) = some r := reA H hy262; have Ny262 := Aside0.mk hy262; clear hy262
        obtain ⟨y265, hy265⟩ : ∃ y_ : List Int, y_ = (([58, 32] : List Int)) := ⟨_, rfl⟩
        replace H : (if y262.length + y265.length < 140737488355328 then ((spec_l07Say.f k1 (y262 ++ y265) ((rd_T54 l1 x5_1).f1.f0) ((rd_T54 l1 x5_1).f1.f1) ((rd_T54 l1 x5_1).f1.f2) ((rd_T54 l1 x5_1).f1.f3)).bind fun t272 => (spec_l10Say.l0 k1 t272 l1 (wrap64 (x5_1 + 1)))) else (none)) = some r := reA H hy265; have Ny265 := Aside0.mk hy265; clear hy265
        by_cases c21 : y262.length + y265.length < 140737488355328
        ·rw [if_pos c21] at H; have LMc21 := Aside0.mk c21; clear c21
         obtain ⟨y268, hy268⟩ : ∃ y_ : List Int, y_ = (y262 ++ y265) := ⟨_, rfl⟩
         replace H : ((spec_l07Say.f k1 y268 ((rd_T54 l1 x5_1).f1.f0) ((rd_T54 l1 x5_1).f1.f1) ((rd_T54 l1 x5_1).f1.f2) ((rd_T54 l1 x5_1).f1.f3)).bind fun t272 => (spec_l10Say.l0 k1 t272 l1 (wrap64 (x5_1 + 1)))) = some r := reA H hy268; have Ny268 := Aside0.mk hy268; clear hy268; replace H := Option.bind_eq_some_iff.mp H; obtain ⟨t272, A220, H⟩ := H; replace H : (spec_l10Say.l0 k1 t272 l1 (wrap64 (x5_1 + 1))) = some r := H; have A22 := Aside0.mk A220; clear A220
         have H' := Aside0.mk H
         clear H
         go_wp2_with (first | ((with_reducible refine gate_dst (N := 18) rfl ?_); refine Kd.R_lit (Kd.int .u8) _ 5 ?hg (N := 18) ?hd (xs := ([44, 32] : List Int)) (inner := [.int .u8 44, .int .u8 32]) (ok := fun _ => True) (okp := fun _ => True) ?hr ?hp (fun _ hk => hk) trivial (Below.refl _ _) (Nat.le_refl _) (by simp) ?_; (case hd => rfl); (case hg => rfl); (case hr => first | (go_simp; done) | (go_simp; rfl)); (case hp => exact (Reps.one (show Kd.M (Kd.int .u8) _ _ _ 44 [.int .u8 44] from rfl) (Reps.one (show Kd.M (Kd.int .u8) _ _ _ 32 [.int .u8 32] from rfl) (Reps.none _ _)))); intro v256 w23 ho24 hb hg_ hnew_; clear hg_ hnew_; (first | rw [← Ny255.out] at ho24 | (simp only [Int.reduceToNat] at ho24; rw [← Ny255.out] at ho24)); have HO257 := Aside0.mk (Kd.R_lower (Kd.R_new' (Kd.R_newM (M := fun k_ => (P0_ k_ ∨ w.heap.size ≤ k_)) ho24 (by first | exact HK.out.1 | exact (show Kept w _ (fun k_ => P0_ k_) from kepA HK).1) (fun k_ h_ => .inr h_)) (Kd.R_lt (kdB HO_0))) (below_size (belB HB))); replace HO_0 := Aside0.mk (Kd.R_elder' (kdB HO_0) (Kd.R_base ho24) hb); replace HK := Aside0.mk (Kept.below (S := (fun k_ => P0_ k_)) (kepA HK) hb); replace HB := Aside0.mk (below_step (belB HB) hb); clear hb ho24; obtain ⟨Ao26, co26, eo26⟩ := Kd.R_slice HO257.out; subst eo26) | ((with_reducible refine gate_builtin (b := .append) (xs := #[.tmp 17, .tmp 18]) rfl ?_); at_builtin; refine Kd.R_append_rows (Kd.int .u8) (w0 := w0) w0.heap.size rfl (.tmp 17) (.tmp 18) 34 5 (.int .u8 0) 1 rfl Tryz.underlying34 info5 rfl (by decide) (by omega) u0 x0_1 y255 _ _ _ (fun k_ => (P0_ k_ ∨ w.heap.size ≤ k_) ∧ some k_ ≠ (.slice Ao26 y255.length co26 : Value).ownBlock) (fun _ => False) rfl rfl ?aO ?aR (fun _ _ h => h) (fun _ h => h.elim) ?aF ?aB ?aS ?aL ?_; (case aR => repeat (first | exact (Kd.R_reads' HO257.out).2.2 | (with_reducible refine Kd.C_alloc ?_ _) | (with_reducible refine Kd.C_drewN ?_ _) | (with_reducible refine Kd.C_drew ?_))); (case aB => exact (belB HB)); (case aF => exact (fun k_ hk => ⟨(.inr (Nat.le_trans (by first | exact HK.out.1 | exact (show Kept w _ (fun k_ => P0_ k_) from kepA HK).1) hk)), Kd.fresh' (Kd.R_lt (kdB HO257)) k_ hk⟩)); (case aO => exact (kdB HO_0)); (case aS => exact (below_size (belB HB))); (case aL => have := LMc18.out; omega); intro v259 w25 ho hb hg hat; rw [← Ny258.out] at ho; have HO260 := Aside0.mk (ho); replace HO257 := Aside0.mk (Kd.R_after (ok := (fun k_ => (P0_ k_ ∨ w.heap.size ≤ k_))) (by (with_reducible repeat (first | apply Kd.R_alloc | apply Kd.R_drewN | apply Kd.R_drew)); exact Kd.R_mono HO257.out (fun _ hk => ⟨hk.1.1, hk.2⟩)) hg hat); replace HB := Aside0.mk (hb); replace HK := Aside0.mk (Kept.of_grown (S := (fun k_ => P0_ k_)) hg (kepA HK) (fun k_ e_ => (HO_0.out.1 k_ e_).1)); clear HO_0; clear ho hb hg hat; have p261 : 0 ≤ (x5_1 : Int) := odA; have q261 : x5_1 < (l1.length : Int) := odA; obtain ⟨ad261, A261_3, c261_3, A261_4, c261_4, e261, hx261_0, hx261_1, hx261_2, hx261_3, hx261_4, hl261_3, hi261_3, hl261_4, hi261_4⟩ := at_T54 (Kd.C_kept_now HR1.out HK.out) x5_1 p261 q261; have HF261_3 := Aside0.mk (k54_in3 HR1.out HK.out x5_1 p261 q261 e261 hx261_3); have HF261_4 := Aside0.mk (k54_in4 HR1.out HK.out x5_1 p261 q261 e261 hx261_4); cases e261; have HR261_3 := Aside0.mk hi261_3; have HC261_3 := Aside0.mk hl261_3; clear hi261_3 hl261_3; have HR261_4 := Aside0.mk hi261_4; have HC261_4 := Aside0.mk hl261_4; clear hi261_4 hl261_4; replace p261 := eq_true p261; replace q261 := eq_true q261) | (at_builtin; refine print_append_strH (w0 := w0) w0.heap.size rfl (.tmp 20) _ 34 9 5 rfl Tryz.underlying34 Tryz.underlying9 info5 v259 y258 ((rd_T54 l1 x5_1).f0) rfl rfl ?aO ?aB ?aS ?aL ?_; (case aB => exact (belB HB)); (case aO => exact (Kd.own_of_R (by (with_reducible repeat (first | apply Kd.R_alloc | apply Kd.R_drewN | apply Kd.R_drew)); exact Kd.R_mono HO260.out (fun _ hk => hk.1)))); (case aS => exact (below_size (belB HB))); (case aL => have := LMc20.out; omega); intro v263 w27 ho0 hb hg hat; have ho := R_str_at (h1 := fun _ => rfl) (ok := (fun k_ => (P0_ k_ ∨ w.heap.size ≤ k_))) ho0 hat (fun k_ hk => (.inr (Nat.le_trans (by first | exact HK.out.1 | exact (show Kept w _ (fun k_ => P0_ k_) from kepA HK).1) hk))) (by (with_reducible repeat (first | apply Kd.R_alloc | apply Kd.R_drewN | apply Kd.R_drew)); exact Kd.R_mono HO260.out (fun _ hk => hk.1)); clear ho0; rw [← Ny262.out] at ho; change Kd.R (Kd.int .u8) 5 w27 w0.heap.size (fun k_ => (P0_ k_ ∨ w.heap.size ≤ k_)) v263 y262 at ho; have HO264 := Aside0.mk (ho); replace HB := Aside0.mk (hb); replace HK := Aside0.mk (Kept.of_grown (S := (fun k_ => P0_ k_)) hg (kepA HK) (fun k_ e_ => (HO260.out.1 k_ e_).1)); clear HO260; clear ho hb hg hat) | ((with_reducible refine gate_dst (N := 27) rfl ?_); refine Kd.R_lit (Kd.int .u8) _ 5 ?hg (N := 27) ?hd (xs := ([58, 32] : List Int)) (inner := [.int .u8 58, .int .u8 32]) (ok := fun _ => True) (okp := fun _ => True) ?hr ?hp (fun _ hk => hk) trivial (Below.refl _ _) (Nat.le_refl _) (by simp) ?_; (case hd => rfl); (case hg => rfl); (case hr => first | (go_simp; done) | (go_simp; rfl)); (case hp => exact (Reps.one (show Kd.M (Kd.int .u8) _ _ _ 58 [.int .u8 58] from rfl) (Reps.one (show Kd.M (Kd.int .u8) _ _ _ 32 [.int .u8 32] from rfl) (Reps.none _ _)))); intro v266 w28 ho29 hb hg_ hnew_; clear hg_ hnew_; (first | rw [← Ny265.out] at ho29 | (simp only [Int.reduceToNat] at ho29; rw [← Ny265.out] at ho29)); have HO267 := Aside0.mk (Kd.R_lower (Kd.R_new' (Kd.R_newM (M := fun k_ => (P0_ k_ ∨ w.heap.size ≤ k_)) ho29 (by first | exact HK.out.1 | exact (show Kept w _ (fun k_ => P0_ k_) from kepA HK).1) (fun k_ h_ => .inr h_)) (Kd.R_lt (kdB HO264))) (below_size (belB HB))); replace HO264 := Aside0.mk (Kd.R_elder' (kdB HO264) (Kd.R_base ho29) hb); replace HK := Aside0.mk (Kept.below (S := (fun k_ => P0_ k_)) (kepA HK) hb); replace HB := Aside0.mk (below_step (belB HB) hb); clear hb ho29; obtain ⟨Ao31, co31, eo31⟩ := Kd.R_slice HO267.out; subst eo31) | ((with_reducible refine gate_builtin (b := .append) (xs := #[.tmp 26, .tmp 27]) rfl ?_); at_builtin; refine Kd.R_append_rows (Kd.int .u8) (w0 := w0) w0.heap.size rfl (.tmp 26) (.tmp 27) 34 5 (.int .u8 0) 1 rfl Tryz.underlying34 info5 rfl (by decide) (by omega) v263 y262 y265 _ _ _ (fun k_ => (P0_ k_ ∨ w.heap.size ≤ k_) ∧ some k_ ≠ (.slice Ao31 y265.length co31 : Value).ownBlock) (fun _ => False) rfl rfl ?aO ?aR (fun _ _ h => h) (fun _ h => h.elim) ?aF ?aB ?aS ?aL ?_; (case aR => repeat (first | exact (Kd.R_reads' HO267.out).2.2 | (with_reducible refine Kd.C_alloc ?_ _) | (with_reducible refine Kd.C_drewN ?_ _) | (with_reducible refine Kd.C_drew ?_))); (case aB => exact (belB HB)); (case aF => exact (fun k_ hk => ⟨(.inr (Nat.le_trans (by first | exact HK.out.1 | exact (show Kept w _ (fun k_ => P0_ k_) from kepA HK).1) hk)), Kd.fresh' (Kd.R_lt (kdB HO267)) k_ hk⟩)); (case aO => exact (kdB HO264)); (case aS => exact (below_size (belB HB))); (case aL => have := LMc21.out; omega); intro v269 w30 ho hb hg hat; rw [← Ny268.out] at ho; have HO270 := Aside0.mk (ho); replace HO267 := Aside0.mk (Kd.R_after (ok := (fun k_ => (P0_ k_ ∨ w.heap.size ≤ k_))) (by (with_reducible repeat (first | apply Kd.R_alloc | apply Kd.R_drewN | apply Kd.R_drew)); exact Kd.R_mono HO267.out (fun _ hk => ⟨hk.1.1, hk.2⟩)) hg hat); replace HB := Aside0.mk (hb); replace HK := Aside0.mk (Kept.of_grown (S := (fun k_ => P0_ k_)) hg (kepA HK) (fun k_ e_ => (HO264.out.1 k_ e_).1)); clear HO264; clear ho hb hg hat; have p271 : 0 ≤ (x5_1 : Int) := odA; have q271 : x5_1 < (l1.length : Int) := odA; obtain ⟨ad271, A271_3, c271_3, A271_4, c271_4, e271, hx271_0, hx271_1, hx271_2, hx271_3, hx271_4, hl271_3, hi271_3, hl271_4, hi271_4⟩ := at_T54 (Kd.C_kept_now HR1.out HK.out) x5_1 p271 q271; have HF271_3 := Aside0.mk (k54_in3 HR1.out HK.out x5_1 p271 q271 e271 hx271_3); have HF271_4 := Aside0.mk (k54_in4 HR1.out HK.out x5_1 p271 q271 e271 hx271_4); obtain rfl : ad261 = ad271 := (by injection e271); have HR271_3 := Aside0.mk hi271_3; have HC271_3 := Aside0.mk hl271_3; clear hi271_3 hl271_3; have HR271_4 := Aside0.mk hi271_4; have HC271_4 := Aside0.mk hl271_4; clear hi271_4 hl271_4; replace p271 := eq_true p271; replace q271 := eq_true q271; obtain ⟨Ao32, co32, eo32⟩ := Kd.R_slice HO270.out; subst eo32) | ((with_reducible refine gate_callee (f := 32) rfl ?_); refine goesL_ (some 35) rfl rfl Tryz.func32 (by kernel_rfl) rfl #[.slice Ao32 y268.length co32, .agg #[.int .i64 ((rd_T54 l1 x5_1).f1.f0), .string ((rd_T54 l1 x5_1).f1.f1), .slice A271_3 ((rd_T54 l1 x5_1).f1.f2).length c271_3, .slice A271_4 ((rd_T54 l1 x5_1).f1.f3).length c271_4]] rfl mapA ?_; (with_reducible refine (spec_l07Say.calls k1 (fun k_ => some k_ = (.slice Ao32 y268.length co32 : Value).ownBlock) (.slice Ao32 y268.length co32) y268 ((rd_T54 l1 x5_1).f1.f0) ((rd_T54 l1 x5_1).f1.f1) _ _ ((rd_T54 l1 x5_1).f1.f2) _ _ ((rd_T54 l1 x5_1).f1.f3) t272 w0 _ ?side1 ?side2 ?side3 ?side4 ?side5 ?side6 A22.out).mono ?_); (case side1 => repeat (first | (with_reducible first | exact HB.out | apply below_alloc | apply pw_below_drewN | apply below_drew1) | exact HB.out)); (case side2 => exact Kd.R_tight rfl HO270.out); (case side3 => exact Kd.C_kept_call HF271_3.out (kepA HK) (fun k_ hs_ => (fun e_ => (HO270.out.1 k_ e_.symm).1) hs_)); (case side4 => exact HC271_3.out); (case side5 => exact Kd.C_kept_call HF271_4.out (kepA HK) (fun k_ hs_ => (fun e_ => (HO270.out.1 k_ e_.symm).1) hs_)); (case side6 => exact HC271_4.out); rintro e w33 ⟨v273, rfl, ho0, hb, hkp⟩; refine ⟨_, rfl, ?_⟩; have HO274 := Aside0.mk (Kd.R_mono (ok' := fun k_ => (P0_ k_ ∨ w.heap.size ≤ k_) ∧ some k_ ≠ (.slice Ao31 y265.length co31 : Value).ownBlock) ho0 (fun k_ hk_ => ⟨Or.elim hk_ (fun hs_ => (HO270.out.1 k_ (hs_).symm).1) (fun hn_ => (.inr (Nat.le_trans (by first | exact HK.out.1 | exact (show Kept w _ (fun k_ => P0_ k_) from kepA HK).1) hn_))), Or.elim hk_ (fun hs_ => fun e_ => (((HO267.out).1 k_ e_.symm).2) hs_) (fun hn_ => (Kd.fresh' (Kd.R_lt (kdB HO267)) k_ hn_))⟩)); replace HO267 := Aside0.mk (Kd.R_mono (ok' := fun k_ => (P0_ k_ ∨ w.heap.size ≤ k_) ∧ some k_ ≠ (v273 : Value).ownBlock) (Kd.R_keptB (HO267.out) hkp (fun k_ hk_ hs_ => (hk_.2) hs_)) (fun k_ hk_ => ⟨hk_.1.1, fun e_ => Or.elim (ho0.1 k_ e_.symm) (fun hs_ => hk_.2.1 hs_) (fun hn_ => Nat.not_le.2 hk_.2.2 hn_)⟩)); replace HK := Aside0.mk (Kept.then_ (S := (fun k_ => P0_ k_)) (kepA HK) hkp (fun k_ hs_ => (fun e_ => (HO270.out.1 k_ e_.symm).1) hs_)); replace HB := Aside0.mk (hb); clear HO270; (try clear hb); (try clear hkp); (try clear ho0)))
         go_roundg k1
         case measure => have := HK1.out; omega
         case rel => exact ⟨(t272), (wrap64 (x5_1 + 1)), enA, H', ⟨by have := HK1.out; omega⟩, ⟨by (with_reducible repeat (first | apply Kd.R_alloc | apply Kd.R_drewN | apply Kd.R_drew)); exact Kd.R_mono HO274.out (fun _ hk => hk.1)⟩, ⟨kepA HK⟩, ⟨belB HB⟩⟩
        ·rw [if_neg c21] at H
         exact absurd H (by simp)
       ·rw [if_neg c20] at H
        exact absurd H (by simp)
      ·rw [if_neg c19] at H
       exact absurd H (by simp)
     ·rw [if_neg c18] at H
      exact absurd H (by simp)
   ·rw [if_neg c3] at H; have c3b0 := decide_eq_false c3; clear c3
    by_cases c34 : (l1.length : Int) > 0
    ·rw [if_pos c34] at H; have c34b0 := decide_eq_true c34
     have c34b1 : decide (0 < l1.length) = true := decide_eq_true (by omega)
     clear c34
     by_cases c35 : x0_1.length < 140737488355328
     ·rw [if_pos c35] at H; have LMc35 := Aside0.mk c35; clear c35
      obtain ⟨y275, hy275⟩ : ∃ y_ : List Int, y_ = (x0_1 ++ [41]) := ⟨_, rfl⟩
      replace H : (some y275) = some r := reA H hy275; have Ny275 := Aside0.mk hy275; clear hy275; obtain rfl := Option.some.inj H
      go_wp2_with (first | ((with_reducible refine gate_builtin (b := .append) (xs := #[.tmp 39, .tmp 40]) rfl ?_); at_builtin; refine Kd.R_append (Kd.int .u8) (w0 := w0) w0.heap.size rfl (.tmp 39) (.tmp 40) 34 5 (.int .u8 0) 1 rfl Tryz.underlying34 info5 rfl (by decide) (by omega) u0 x0_1 41 [.int .u8 41] (fun k_ => (P0_ k_ ∨ w.heap.size ≤ k_)) (fun _ => False) rfl rfl ?aP (fun _ hk => hk.elim) ?aF ?aO ?aB ?aS ?aL ?_; (case aP => exact rfl); (case aB => exact (belB HB)); (case aF => exact (fun k_ hk => (.inr (Nat.le_trans (by first | exact HK.out.1 | exact (show Kept w _ (fun k_ => P0_ k_) from kepA HK).1) hk)))); (case aO => exact (kdB HO_0)); (case aS => exact (below_size (belB HB))); (case aL => have := LMc35.out; omega); intro v276 w36 ho hb hg hat; rw [← Ny275.out] at ho; have HO277 := Aside0.mk (ho); replace HB := Aside0.mk (hb); replace HK := Aside0.mk (Kept.of_grown (S := (fun k_ => P0_ k_)) hg (kepA HK) (fun k_ e_ => (HO_0.out.1 k_ e_))); clear HO_0; clear ho hb hg hat))
      go_ret
      exact ⟨_, erA, kdB HO277, belB HB, kepA HK⟩
     ·rw [if_neg c35] at H
      exact absurd H (by simp)
    ·rw [if_neg c34] at H; have c34b0 := decide_eq_false c34
     have c34b1 : decide (0 < l1.length) = false := decide_eq_false (by omega)
     clear c34; obtain rfl := Option.some.inj H
     go_wp2
     go_ret
     exact ⟨_, erA, kdB HO_0, belB HB, kepA HK⟩

def spec_l10SayDirs.l0 : Nat → List Int → List (S38) → Int → Option (List Int)
 | 0, _, _, _ => none
 | k + 1, x0, x1, x5 => if x5 < (x1.length : Int) then ((some (([32, 64] : List Int) : List Int)).bind fun y278 => (if x0.length + y278.length < 140737488355328 then ((some (x0 ++ y278 : List Int)).bind fun y281 => (if 0 ≤ x5 then (if y281.length + ((rd_T38 x1 x5).f0).size < 140737488355328 then ((spec_l10Say.f k (y281 ++ bytesOf ((rd_T38 x1 x5).f0)) ((rd_T38 x1 x5).f1)).bind fun t289 => (spec_l10SayDirs.l0 k t289 x1 (wrap64 (x5 + 1)))) else (none)) else (none))) else (none))) else (some x0)
def spec_l10SayDirs.f (k : Nat) (l0 : List Int) (l1 : List (S38)) : Option (List Int) := spec_l10SayDirs.l0 k l0 l1 0
theorem spec_l10SayDirs.mono_l : ∀ k, (∀ y0 y1 y2, LeO (spec_l10SayDirs.l0 k y0 y1 y2) (spec_l10SayDirs.l0 (k + 1) y0 y1 y2))
 | 0 => fun _ _ _ r h => by simp [spec_l10SayDirs.l0] at h
 | k + 1 => by
  have ih0 := spec_l10SayDirs.mono_l k
  ·intro y0 y1 y2; unfold spec_l10SayDirs.l0
   repeat' first
   | (with_reducible first | exact ih0 _ _ _ | exact spec_l10Say.mono _ _ _ | exact LeO.refl _ | exact LeO.none _ | refine LeO.ite ?_ ?_ | refine LeO.bind ?_ (fun _ => ?_))
   | exact ih0 _ _ _ | exact spec_l10Say.mono _ _ _ | exact LeO.none _ | refine LeO.ite ?_ ?_ | refine LeO.bind ?_ (fun _ => ?_)
theorem spec_l10SayDirs.mono : ∀ a0 a1 k, LeO (spec_l10SayDirs.f k a0 a1) (spec_l10SayDirs.f (k + 1) a0 a1) := by
 intro a0 a1 k; have ih0 := spec_l10SayDirs.mono_l k; unfold spec_l10SayDirs.f
 repeat' first
   | (with_reducible first | exact ih0 _ _ _ | exact spec_l10Say.mono _ _ _ | exact LeO.refl _ | exact LeO.none _ | refine LeO.ite ?_ ?_ | refine LeO.bind ?_ (fun _ => ?_))
   | exact ih0 _ _ _ | exact spec_l10Say.mono _ _ _ | exact LeO.none _ | refine LeO.ite ?_ ?_ | refine LeO.bind ?_ (fun _ => ?_)
def spec_l10SayDirs.T4 : Bool × List (List Nat × List Nat) := (true, [([], []), ([], []), ([0, 1], [0, 1]), ([], []), ([], []), ([3, 4], [3, 4]), ([5], [5]), ([6], [6]), ([2, 7, 2], [2, 7]), ([8, 8, 0, 1, 2, 3, 4, 5, 6, 7, 8], [0, 8])])
def spec_l10SayDirs.B4 : List Nat := [0, 0, 3, 0, 0, 24, 56, 120, 255, 511]
theorem spec_l10SayDirs.tab4 : rtab .any (opsOf Tryz.f11 4) = spec_l10SayDirs.T4 := by kernel_rfl
theorem spec_l10SayDirs.bits4 : waitsOk spec_l10SayDirs.T4.2 spec_l10SayDirs.B4 = true := by kernel_rfl
set_option maxHeartbeats 8000000 in
set_option maxRecDepth 100000 in
theorem spec_l10SayDirs.calls (k : Nat) (P0_ : Nat → Prop) (u9000_ : Value) (l0 : List Int) (A1 : Option Addr) (c1 : Nat) (l1 : List (S38)) (r : List Int) (w0 w : World) (hB : Below w0.heap.size w0 w) (ho0 : Kd.R (Kd.int .u8) 5 w w0.heap.size P0_ u9000_ l0) (hr1 : ∀ W_, Kept w W_ (fun k_ => P0_ k_) → Kd.C k38 W_ A1 l1.length l1) (hc1 : l1.length ≤ c1) (h : spec_l10SayDirs.f k l0 l1 = some r) :
  Calls Tryz.prog 11 #[u9000_, .slice A1 l1.length c1] w fun e w' => ∃ v0_ : Value, e = .returned (v0_) ∧ Kd.R (Kd.int .u8) 5 w' w0.heap.size (fun k_ => (P0_ k_ ∨ w.heap.size ≤ k_)) v0_ r ∧ Below w0.heap.size w0 w' ∧ Kept w w' (fun k_ => P0_ k_) := by
 have HO0 := Aside0.mk (show Kd.R (Kd.int .u8) 5 w w0.heap.size (fun k_ => (P0_ k_ ∨ w.heap.size ≤ k_)) u9000_ l0 from Kd.R_mono ho0 (fun k_ hk => (.inl hk))); have HR1 := Aside0.mk hr1; have HC1 := Aside0.mk hc1; clear hr1 hc1; have HK := Aside0.mk (Kept.refl w (fun k_ => P0_ k_)); have HW0 := Aside0.mk hB.size; have HB := Aside0.mk hB; clear hB; have H : (spec_l10SayDirs.l0 k l0 l1 0) = some r := h; clear h
 have H' := Aside0.mk H
 clear H
 go_enter Tryz.func11, Tryz.ntmps11
 go_wp2
 go_loopg [0, 5] k (fun kq v0 v5 w' => ∃ (x0_1 : List Int) (x5_1 : Int), v5 = .int .i64 x5_1 ∧ Aside0 (spec_l10SayDirs.l0 kq x0_1 l1 x5_1 = some r) ∧ Aside0 (kq ≤ k) ∧ Aside0 (Kd.R (Kd.int .u8) 5 w' w0.heap.size (fun k_ => (P0_ k_ ∨ w.heap.size ≤ k_)) v0 x0_1) ∧ Aside0 (Kept w w' (fun k_ => P0_ k_)) ∧ Aside0 (Below w0.heap.size w0 w'))
 case atStart => exact ⟨(l0), (0), enA, H', ⟨Nat.le_refl _⟩, ⟨kdB HO0⟩, ⟨kepA HK⟩, ⟨belB HB⟩⟩
 case round =>
  clear H'
  try clear c1
  try clear p2
  obtain ⟨x0_1, x5_1, rfl, HA, HK1, HO_0, HK, HB⟩ := hrel
  cases gk with
  | zero => exact absurd HA.out (by simp [spec_l10SayDirs.l0])
  | succ k1 =>
   have H := HA.out; clear HA
   simp only [spec_l10SayDirs.l0] at H
   by_cases c3 : x5_1 < (l1.length : Int)
   ·rw [if_pos c3] at H; have c3b0 := decide_eq_true c3; clear c3
    obtain ⟨y278, hy278⟩ : ∃ y_ : List Int, y_ = (([32, 64] : List Int)) := ⟨_, rfl⟩
    replace H : (if x0_1.length + y278.length < 140737488355328 then ((some (x0_1 ++ y278 : List Int)).bind fun y281 => (if 0 ≤ x5_1 then (if y281.length + ((rd_T38 l1 x5_1).f0).size < 140737488355328 then ((spec_l10Say.f k1 (y281 ++ bytesOf ((rd_T38 l1 x5_1).f0)) ((rd_T38 l1 x5_1).f1)).bind fun t289 => (spec_l10SayDirs.l0 k1 t289 l1 (wrap64 (x5_1 + 1)))) else (none)) else (none))) else (none)) = some r := reA H hy278; have Ny278 := Aside0.mk hy278; clear hy278
    by_cases c4 : x0_1.length + y278.length < 140737488355328
    ·rw [if_pos c4] at H; have LMc4 := Aside0.mk c4; clear c4
     obtain ⟨y281, hy281⟩ : ∃ y_ : List Int, y_ = (x0_1 ++ y278) := ⟨_, rfl⟩
     replace H : (if 0 ≤ x5_1 then (if y281.length + ((rd_T38 l1 x5_1).f0).size < 140737488355328 then ((spec_l10Say.f k1 (y281 ++ bytesOf ((rd_T38 l1 x5_1).f0)) ((rd_T38 l1 x5_1).f1)).bind fun t289 => (spec_l10SayDirs.l0 k1 t289 l1 (wrap64 (x5_1 + 1)))) else (none)) else (none)) = some r := reA H hy281; have Ny281 := Aside0.mk hy281; clear hy281
     by_cases c5 : 0 ≤ x5_1
     ·rw [if_pos c5] at H; have c5b0 := decide_eq_true c5; clear c5
      by_cases c6 : y281.length + ((rd_T38 l1 x5_1).f0).size < 140737488355328
      ·rw [if_pos c6] at H; have LMc6 := Aside0.mk c6; clear c6
       obtain ⟨y285, hy285⟩ : ∃ y_ : List Int, y_ = (y281 ++ bytesOf ((rd_T38 l1 x5_1).f0)) := ⟨_, rfl⟩
       replace H : ((spec_l10Say.f k1 y285 ((rd_T38 l1 x5_1).f1)).bind fun t289 => (spec_l10SayDirs.l0 k1 t289 l1 (wrap64 (x5_1 + 1)))) = some r := reA H hy285; have Ny285 := Aside0.mk hy285; clear hy285; replace H := Option.bind_eq_some_iff.mp H; obtain ⟨t289, A70, H⟩ := H; replace H : (spec_l10SayDirs.l0 k1 t289 l1 (wrap64 (x5_1 + 1))) = some r := H; have A7 := Aside0.mk A70; clear A70
       have H' := Aside0.mk H
       clear H
       try go_wp2
       replace HO_0 := Aside0.mk (Kd.R_drew HO_0.out); replace HK := Aside0.mk (Kept.drew HK.out); replace HB := Aside0.mk (below_drew1 HB.out); have p284 : 0 ≤ (x5_1 : Int) := odA; have q284 : x5_1 < (l1.length : Int) := odA; obtain ⟨ad284, A284_1, c284_1, e284, hx284_0, hx284_1, hl284_1, hi284_1⟩ := at_T38 (Kd.C_kept_now HR1.out HK.out) x5_1 p284 q284; have hw284_1 := hx284_1; have hw284_0 := hx284_0; have HF284_1 := Aside0.mk (k38_in1 HR1.out HK.out x5_1 p284 q284 e284 hx284_1)
       cases e284
       have HR284_1 := Aside0.mk hi284_1; have HC284_1 := Aside0.mk hl284_1; clear hi284_1 hl284_1; replace p284 := eq_true p284; replace q284 := eq_true q284
       refine start_ (n := 10) (S := fun w' => w'.cell? (ad284.add ((x5_1).toNat * 2)) = some (.string ((rd_T38 l1 x5_1).f0))) (ds := []) #[false, false, false, false, false, false, false, false, false, false] (by kernel_rfl) rfl rfl ((by obtain ⟨ad284_z, A284_1_z, c284_1_z, e284_z, hx284_0_z, hx284_1_z, hl284_1_z, hi284_1_z⟩ := at_T38 (HR1.out _ (by repeat (first | exact HK.out | apply Kept.alloc | apply Kept.drewN | apply Kept.drew))) x5_1 (of_eq_true p284) (of_eq_true q284); cases e284_z; exact hx284_0_z)) (fun hHeld => ?_); refine with_tabW spec_l10SayDirs.tab4 spec_l10SayDirs.bits4 (fun HT_ HW_ => ?_)
       generalize wr.drew = w8 at HO_0 HK HB HR284_1 hx284_0 hx284_1 hHeld ⊢
       refine pure_ (i := 0) (N := some 12) (v := ?_) (a' := ?_) #[true, false, false, false, false, false, false, false, false, false] rfl rfl (any_of HT_.out (by kernel_rfl)) (fun _ _ _ h => h) (Or.inl ⟨by rfl, ?_⟩) ?_ ?_
       rotate_left
       ·intro w'; go_simp
        with_reducible rfl
       rotate_left
       ·exact putA
       refine pure_ (i := 3) (N := some 15) (v := ?_) (a' := ?_) #[true, false, false, true, false, false, false, false, false, false] rfl rfl (any_of HT_.out (by kernel_rfl)) (fun _ _ _ h => h) (Or.inl ⟨by rfl, ?_⟩) ?_ ?_
       rotate_left
       ·intro w'; go_simp
        with_reducible rfl
       rotate_left
       ·exact putA
       refine pure_ (i := 4) (N := some 16) (v := ?_) (a' := ?_) #[true, false, false, true, true, false, false, false, false, false] rfl rfl (any_of HT_.out (by kernel_rfl)) (fun _ _ _ h => h) (Or.inl ⟨by rfl, ?_⟩) ?_ ?_
       rotate_left
       ·intro w'; go_simp
        with_reducible rfl
       rotate_left
       ·exact putA
       refine pure_ (i := 5) (N := some 17) (v := ?_) (a' := ?_) #[true, false, false, true, true, true, false, false, false, false] rfl rfl (any_of HT_.out (by kernel_rfl)) (fun _ _ _ h => h) (Or.inl ⟨by rfl, ?_⟩) ?_ ?_
       rotate_left
       ·intro w'; go_simp
        with_reducible rfl
       rotate_left
       ·exact putA
       refine pure_ (i := 6) (N := some 18) (v := ?_) (a' := ?_) #[true, false, false, true, true, true, true, false, false, false] rfl rfl (any_of HT_.out (by kernel_rfl)) (fun _ _ _ h => h) (Or.inl ⟨by rfl, ?_⟩) ?_ ?_
       rotate_left
       ·intro w'; go_simp
        with_reducible rfl
       rotate_left
       ·exact putA
       refine take_ (i := 7) (N := some 19) (v := ?_) (a' := ?_) #[true, false, false, true, true, true, true, true, false, false] rfl rfl (take_ofW HT_.out HW_.out (by kernel_rfl)) (fun _ _ _ h => h) (Or.inl ⟨by rfl, ?_⟩) hHeld ?_ ?_
       rotate_left
       ·intro w' s0; go_simp
        with_reducible rfl
       rotate_left
       ·exact putA
       refine one_ (i := 1) (N := some 13) #[true, true, false, true, true, true, true, true, false, false] rfl rfl (one_of HT_.out (by kernel_rfl)) (by decide) (fun K hK => ?_)
       refine Kd.R_lit_step (Kd.int .u8) _ 5 ?hg (N := 13) ?hd (xs := ([32, 64] : List Int)) (inner := [.int .u8 32, .int .u8 64]) (ok := fun _ => True) (okp := fun _ => True) ?hr ?hp (fun _ hk => hk) trivial (Below.refl _ _) (Nat.le_refl _) (by simp) ?_; (case hd => rfl); (case hg => rfl); (case hr => first | (go_simp; done) | (go_simp; rfl)); (case hp => exact (Reps.one (show Kd.M (Kd.int .u8) _ _ _ 32 [.int .u8 32] from rfl) (Reps.one (show Kd.M (Kd.int .u8) _ _ _ 64 [.int .u8 64] from rfl) (Reps.none _ _))))
       intro v279 w9 ho10 hb hg_ hnew_; clear hg_ hnew_
       (first | rw [← Ny278.out] at ho10 | (simp only [Int.reduceToNat] at ho10; rw [← Ny278.out] at ho10))
       have HO280 := Aside0.mk (Kd.R_lower (Kd.R_new' (Kd.R_newM (M := fun k_ => (P0_ k_ ∨ w.heap.size ≤ k_)) ho10 (by first | exact HK.out.1 | exact (show Kept w _ (fun k_ => P0_ k_) from kepA HK).1) (fun k_ h_ => .inr h_)) (Kd.R_lt (kdB HO_0))) (below_size (belB HB))); replace HO_0 := Aside0.mk (Kd.R_elder' (kdB HO_0) (Kd.R_base ho10) hb); replace HR284_1 := Aside0.mk (Kd.C_below (by repeat (first | (with_reducible exact HR284_1.out) | (with_reducible refine Kd.C_alloc ?_ _) | (with_reducible refine Kd.C_drewN ?_ _) | (with_reducible refine Kd.C_drew ?_) | exact HR284_1.out)) hb); replace HK := Aside0.mk (Kept.below (S := (fun k_ => P0_ k_)) (kepA HK) hb); replace HB := Aside0.mk (below_step (belB HB) hb)
       clear hb ho10; obtain ⟨Ao12, co12, eo12⟩ := Kd.R_slice HO280.out
       (first | subst eo12 | (injection eo12 with f1_ f2_ f3_; have f4_ := f1_.symm; have f5_ := f3_.symm; clear f1_ f2_ f3_; subst f4_; subst f5_))
       refine hK.out _ _ ((by obtain ⟨ad284_z, A284_1_z, c284_1_z, e284_z, hx284_0_z, hx284_1_z, hl284_1_z, hi284_1_z⟩ := at_T38 (HR1.out _ (by repeat (first | exact HK.out | apply Kept.alloc | apply Kept.drewN | apply Kept.drew))) x5_1 (of_eq_true p284) (of_eq_true q284); cases e284_z; exact hx284_0_z)) (fun hHeld => ?_)
       clear hK K; refine norm_ (a' := ?_) ?_ ?_; rotate_left
       ·show Act.put _ (some 13) _ = _
        simp only [Act.put, List.setIfInBounds_toArray, List.set_cons_zero, List.set_cons_succ, i64_w, i32_w]
        rfl
       refine one_ (i := 2) (N := some 14) #[true, true, true, true, true, true, true, true, false, false] rfl rfl (one_of HT_.out (by kernel_rfl)) (by decide) (fun K hK => ?_)
       refine Kd.R_append_rows_step (Kd.int .u8) (w0 := w0) w0.heap.size (by rfl) (.tmp 12) (.tmp 13) 34 5 (.int .u8 0) 1 rfl Tryz.underlying34 info5 rfl (by decide) (by omega) u0 x0_1 y278 _ _ _ (fun k_ => (P0_ k_ ∨ w.heap.size ≤ k_) ∧ some k_ ≠ (.slice Ao12 y278.length co12 : Value).ownBlock) (fun _ => False) rfl rfl ?aO ?aR (fun _ _ h => h) (fun _ h => h.elim) ?aF ?aB ?aS ?aL ?_
       (case aR => repeat (first | exact (Kd.R_reads' HO280.out).2.2 | (with_reducible refine Kd.C_alloc ?_ _) | (with_reducible refine Kd.C_drewN ?_ _) | (with_reducible refine Kd.C_drew ?_)))
       (case aB => exact (belB HB))
       (case aF => exact (fun k_ hk => ⟨(.inr (Nat.le_trans (by first | exact HK.out.1 | exact (show Kept w _ (fun k_ => P0_ k_) from kepA HK).1) hk)), Kd.fresh' (Kd.R_lt (kdB HO280)) k_ hk⟩))
       (case aO => exact (kdB HO_0))
       (case aS => exact (below_size (belB HB)))
       (case aL => have := LMc4.out; omega)
       intro v282 w11 ho hb hg hat; rw [← Ny281.out] at ho
       have HO283 := Aside0.mk (ho); replace HO280 := Aside0.mk (Kd.R_after (ok := (fun k_ => (P0_ k_ ∨ w.heap.size ≤ k_))) (by (with_reducible repeat (first | apply Kd.R_alloc | apply Kd.R_drewN | apply Kd.R_drew)); exact Kd.R_mono HO280.out (fun _ hk => ⟨hk.1.1, hk.2⟩)) hg hat); replace HB := Aside0.mk (hb); replace HK := Aside0.mk (Kept.of_grown (S := (fun k_ => P0_ k_)) hg (kepA HK) (fun k_ e_ => (HO_0.out.1 k_ e_).1)); clear HO_0
       clear ho hb hg hat
       refine hK.out _ _ ((by obtain ⟨ad284_z, A284_1_z, c284_1_z, e284_z, hx284_0_z, hx284_1_z, hl284_1_z, hi284_1_z⟩ := at_T38 (HR1.out _ (by repeat (first | exact HK.out | apply Kept.alloc | apply Kept.drewN | apply Kept.drew))) x5_1 (of_eq_true p284) (of_eq_true q284); cases e284_z; exact hx284_0_z)) (fun hHeld => ?_)
       clear hK K; refine norm_ (a' := ?_) ?_ ?_; rotate_left
       ·show Act.put _ (some 14) _ = _
        simp only [Act.put, List.setIfInBounds_toArray, List.set_cons_zero, List.set_cons_succ, i64_w, i32_w]
        rfl
       refine one_ (i := 8) (N := some 20) #[true, true, true, true, true, true, true, true, true, false] rfl rfl (one_of HT_.out (by kernel_rfl)) (by decide) (fun K hK => ?_)
       refine print_append_strH_step (w0 := w0) w0.heap.size (by rfl) (.tmp 14) _ 34 9 5 rfl Tryz.underlying34 Tryz.underlying9 info5 v282 y281 ((rd_T38 l1 x5_1).f0) rfl rfl ?aO ?aB ?aS ?aL ?_
       (case aB => exact (belB HB))
       (case aO => exact (Kd.own_of_R (by (with_reducible repeat (first | apply Kd.R_alloc | apply Kd.R_drewN | apply Kd.R_drew)); exact Kd.R_mono HO283.out (fun _ hk => hk.1))))
       (case aS => exact (below_size (belB HB)))
       (case aL => have := LMc6.out; omega)
       intro v286 w13 ho0 hb hg hat
       have ho := R_str_at (h1 := fun _ => rfl) (ok := (fun k_ => (P0_ k_ ∨ w.heap.size ≤ k_))) ho0 hat (fun k_ hk => (.inr (Nat.le_trans (by first | exact HK.out.1 | exact (show Kept w _ (fun k_ => P0_ k_) from kepA HK).1) hk))) (by (with_reducible repeat (first | apply Kd.R_alloc | apply Kd.R_drewN | apply Kd.R_drew)); exact Kd.R_mono HO283.out (fun _ hk => hk.1))
       clear ho0; rw [← Ny285.out] at ho
       change Kd.R (Kd.int .u8) 5 w13 w0.heap.size (fun k_ => (P0_ k_ ∨ w.heap.size ≤ k_)) v286 y285 at ho
       have HO287 := Aside0.mk (ho); replace HB := Aside0.mk (hb); replace HK := Aside0.mk (Kept.of_grown (S := (fun k_ => P0_ k_)) hg (kepA HK) (fun k_ e_ => (HO283.out.1 k_ e_).1)); clear HO283; clear ho hb hg hat
       refine hK.out _ _ ((by obtain ⟨ad284_z, A284_1_z, c284_1_z, e284_z, hx284_0_z, hx284_1_z, hl284_1_z, hi284_1_z⟩ := at_T38 (HR1.out _ (by repeat (first | exact HK.out | apply Kept.alloc | apply Kept.drewN | apply Kept.drew))) x5_1 (of_eq_true p284) (of_eq_true q284); cases e284_z; exact hx284_0_z)) (fun hHeld => ?_)
       clear hK K; refine norm_ (a' := ?_) ?_ ?_; rotate_left
       ·show Act.put _ (some 20) _ = _
        simp only [Act.put, List.setIfInBounds_toArray, List.set_cons_zero, List.set_cons_succ, i64_w, i32_w]
        rfl
       refine pure_ (i := 9) (N := some 0) (v := ?_) (a' := ?_) #[true, true, true, true, true, true, true, true, true, true] rfl rfl (any_of HT_.out (by kernel_rfl)) (fun _ _ _ h => h) (Or.inl ⟨by rfl, ?_⟩) ?_ ?_
       rotate_left
       ·intro w'; go_simp
        with_reducible rfl
       rotate_left
       ·exact putA
       refine done_ (done_of HT_.out (by kernel_rfl)) ?_
       have p288 : 0 ≤ (x5_1 : Int) := odA; have q288 : x5_1 < (l1.length : Int) := odA; obtain ⟨ad288, A288_1, c288_1, e288, hx288_0, hx288_1, hl288_1, hi288_1⟩ := at_T38 (Kd.C_kept_now HR1.out HK.out) x5_1 p288 q288; have HF288_1 := Aside0.mk (k38_in1 HR1.out HK.out x5_1 p288 q288 e288 hx288_1)
       obtain rfl : ad284 = ad288 := (by injection e288)
       have HR288_1 := Aside0.mk hi288_1; have HC288_1 := Aside0.mk hl288_1; clear hi288_1 hl288_1; replace p288 := eq_true p288; replace q288 := eq_true q288; obtain ⟨Ao14, co14, eo14⟩ := Kd.R_slice HO287.out; subst eo14
       try go_wp2_with (first | ((with_reducible refine gate_callee (f := 19) rfl ?_); refine goesL_ (some 27) rfl rfl Tryz.func19 (by kernel_rfl) rfl #[.slice Ao14 y285.length co14, .slice A288_1 ((rd_T38 l1 x5_1).f1).length c288_1] rfl mapA ?_; (with_reducible refine (spec_l10Say.calls k1 (fun k_ => some k_ = (.slice Ao14 y285.length co14 : Value).ownBlock) (.slice Ao14 y285.length co14) y285 _ _ ((rd_T38 l1 x5_1).f1) t289 w0 _ ?side1 ?side2 ?side3 ?side4 A7.out).mono ?_); (case side1 => repeat (first | (with_reducible first | exact HB.out | apply below_alloc | apply pw_below_drewN | apply below_drew1) | exact HB.out)); (case side2 => exact Kd.R_tight rfl HO287.out); (case side3 => exact Kd.C_kept_call HF288_1.out (kepA HK) (fun k_ hs_ => (fun e_ => (HO287.out.1 k_ e_.symm)) hs_)); (case side4 => exact HC288_1.out); rintro e w15 ⟨v290, rfl, ho0, hb, hkp⟩; refine ⟨_, rfl, ?_⟩; have HO291 := Aside0.mk (Kd.R_mono (ok' := fun k_ => (P0_ k_ ∨ w.heap.size ≤ k_)) ho0 (fun k_ hk_ => Or.elim hk_ (fun hs_ => (HO287.out.1 k_ (hs_).symm)) (fun hn_ => (.inr (Nat.le_trans (by first | exact HK.out.1 | exact (show Kept w _ (fun k_ => P0_ k_) from kepA HK).1) hn_))))); replace HK := Aside0.mk (Kept.then_ (S := (fun k_ => P0_ k_)) (kepA HK) hkp (fun k_ hs_ => (fun e_ => (HO287.out.1 k_ e_.symm)) hs_)); replace HB := Aside0.mk (hb); clear HO287; (try clear hb); (try clear hkp); (try clear ho0)))
       go_roundg k1
       case measure => have := HK1.out; omega
       case rel => exact ⟨(t289), (wrap64 (x5_1 + 1)), enA, H', ⟨by have := HK1.out; omega⟩, ⟨kdB HO291⟩, ⟨kepA HK⟩, ⟨belB HB⟩⟩
      ·rw [if_neg c6] at H
       exact absurd H (by simp)
     ·rw [if_neg c5] at H
      exact absurd H (by simp)
    ·rw [if_neg c4] at H
     exact absurd H (by simp)
   ·rw [if_neg c3] at H; have c3b0 := decide_eq_false c3; clear c3; obtain rfl := Option.some.inj H
    go_wp2
    go_ret
    exact ⟨_, erA, kdB HO_0, belB HB, kepA HK⟩

def spec_DirsText.f (k : Nat) (l0 : List (S38)) : Option (ByteArray) := (spec_DirsOk.f k l0).bind fun t292 => (if t292 = true then ((spec_l10SayDirs.f k (([] : List Int)) l0).bind fun t296 => (some (strOfNums t296))) else (some (⟨#[]⟩ : ByteArray)))
theorem spec_DirsText.mono : ∀ a0 k, LeO (spec_DirsText.f k a0) (spec_DirsText.f (k + 1) a0) := by
 intro a0 k; unfold spec_DirsText.f
 repeat' first
   | (with_reducible first | exact spec_DirsOk.mono _ _ | exact spec_l10SayDirs.mono _ _ _ | exact LeO.refl _ | exact LeO.none _ | refine LeO.ite ?_ ?_ | refine LeO.bind ?_ (fun _ => ?_))
   | exact spec_DirsOk.mono _ _ | exact spec_l10SayDirs.mono _ _ _ | exact LeO.none _ | refine LeO.ite ?_ ?_ | refine LeO.bind ?_ (fun _ => ?_)
set_option maxHeartbeats 8000000 in
set_option maxRecDepth 100000 in
theorem spec_DirsText.calls (k : Nat) (A0 : Option Addr) (c0 : Nat) (l0 : List (S38)) (r : ByteArray) (w : World) (hr0 : Kd.C k38 w A0 l0.length l0) (hc0 : l0.length ≤ c0) (h : spec_DirsText.f k l0 = some r) :
  Calls Tryz.prog 5 #[.slice A0 l0.length c0] w fun e w' => e = .returned (.string r) ∧ Below w.heap.size w w' := by
 have HR0 := Aside0.mk hr0; have HC0 := Aside0.mk hc0; clear hr0 hc0; have HB := Aside0.mk (Below.refl w.heap.size w); have H : ((spec_DirsOk.f k l0).bind fun t292 => (if t292 = true then ((spec_l10SayDirs.f k (([] : List Int)) l0).bind fun t296 => (some (strOfNums t296))) else (some (⟨#[]⟩ : ByteArray)))) = some r := h; clear h; replace H := Option.bind_eq_some_iff.mp H; obtain ⟨t292, A20, H⟩ := H; replace H : (if t292 = true then ((spec_l10SayDirs.f k (([] : List Int)) l0).bind fun t296 => (some (strOfNums t296))) else (some (⟨#[]⟩ : ByteArray))) = some r := H; have A2 := Aside0.mk A20; clear A20
 by_cases c3 : t292 = true
 ·subst c3
  have H1 : ((spec_l10SayDirs.f k (([] : List Int)) l0).bind fun t296 => (some (strOfNums t296))) = some r := by rw [if_pos rfl] at H; exact H
  clear H; have H := H1; clear H1
  obtain ⟨y293, hy293⟩ : ∃ y_ : List Int, y_ = (([] : List Int)) := ⟨_, rfl⟩
  replace H : ((spec_l10SayDirs.f k y293 l0).bind fun t296 => (some (strOfNums t296))) = some r := reA H hy293; have Ny293 := Aside0.mk hy293; clear hy293; replace H := Option.bind_eq_some_iff.mp H; obtain ⟨t296, A40, H⟩ := H; replace H : (some (strOfNums t296)) = some r := H; have A4 := Aside0.mk A40; clear A40; obtain rfl := Option.some.inj H
  go_enter Tryz.func5, Tryz.ntmps5
  go_wp2_with (first | ((with_reducible refine gate_callee (f := 10) rfl ?_); refine goesL_ (some 4) rfl rfl Tryz.func10 (by kernel_rfl) rfl #[.slice A0 l0.length c0] rfl mapA ?_; (with_reducible refine (spec_DirsOk.calls k _ _ l0 true _ ?side1 ?side2 A2.out).mono ?_); (case side1 => repeat (first | exact HR0.out | (with_reducible refine Kd.C_alloc ?_ _) | (with_reducible refine Kd.C_drewN ?_ _) | (with_reducible refine Kd.C_drew ?_))); (case side2 => exact HC0.out); rintro e w5 ⟨rfl, hb⟩; refine ⟨_, rfl, ?_⟩; replace HB := Aside0.mk (below_step (belB HB) hb); (try clear hb)) | ((with_reducible refine gate_dst (N := 6) rfl ?_); refine Kd.R_lit (Kd.int .u8) _ 5 ?hg (N := 6) ?hd (xs := ([] : List Int)) (inner := []) (ok := fun _ => True) (okp := fun _ => True) ?hr ?hp (fun _ hk => hk) trivial (Below.refl _ _) (Nat.le_refl _) (by simp) ?_; (case hd => rfl); (case hg => rfl); (case hr => first | (go_simp; done) | (go_simp; rfl)); (case hp => exact (Reps.none _ _)); intro v294 w6 ho7 hb hg_ hnew_; clear hg_ hnew_; (first | rw [← Ny293.out] at ho7 | (simp only [Int.reduceToNat] at ho7; rw [← Ny293.out] at ho7)); have HO295 := Aside0.mk (Kd.R_lower ho7 (below_size (belB HB))); replace HB := Aside0.mk (below_step (belB HB) hb); clear hb ho7; obtain ⟨Ao8, co8, eo8⟩ := Kd.R_slice HO295.out; subst eo8) | ((with_reducible refine gate_callee (f := 11) rfl ?_); refine goesL_ (some 8) rfl rfl Tryz.func11 (by kernel_rfl) rfl #[.slice Ao8 y293.length co8, .slice A0 l0.length c0] rfl mapA ?_; (with_reducible refine (spec_l10SayDirs.calls k (fun k_ => some k_ = (.slice Ao8 y293.length co8 : Value).ownBlock) (.slice Ao8 y293.length co8) y293 _ _ l0 t296 w _ ?side1 ?side2 ?side3 ?side4 A4.out).mono ?_); (case side1 => repeat (first | (with_reducible first | exact HB.out | apply below_alloc | apply pw_below_drewN | apply below_drew1) | exact HB.out)); (case side2 => exact Kd.R_tight rfl HO295.out); (case side3 => exact Kd.C_kept_came k38_heap HR0.out (belB HB) (fun k_ hs_ => (fun e_ => Kd.R_base HO295.out k_ e_.symm) hs_)); (case side4 => exact HC0.out); rintro e w9 ⟨v297, rfl, ho0, hb, hkp⟩; refine ⟨_, rfl, ?_⟩; have HO298 := Aside0.mk (Kd.R_mono (ok' := fun k_ => True) ho0 (fun k_ hk_ => trivial)); replace HB := Aside0.mk (hb); clear HO295; (try clear hb); (try clear hkp); (try clear ho0); have hcv10 := own_string (P := Tryz.prog) Tryz.underlying34 Tryz.underlying5 Tryz.underlying9 (Kd.own_of_R HO298.out)))
  go_ret
  exact ⟨erA, belB HB⟩
 ·replace c3 := Bool.eq_false_iff.mpr c3; subst c3
  have H1 : (some (⟨#[]⟩ : ByteArray)) = some r := by rw [if_neg (show ¬ (false = true) by decide)] at H; exact H
  clear H; have H := H1; clear H1; obtain rfl := Option.some.inj H
  go_enter Tryz.func5, Tryz.ntmps5
  go_wp2_with (first | ((with_reducible refine gate_callee (f := 10) rfl ?_); refine goesL_ (some 4) rfl rfl Tryz.func10 (by kernel_rfl) rfl #[.slice A0 l0.length c0] rfl mapA ?_; (with_reducible refine (spec_DirsOk.calls k _ _ l0 false _ ?side1 ?side2 A2.out).mono ?_); (case side1 => repeat (first | exact HR0.out | (with_reducible refine Kd.C_alloc ?_ _) | (with_reducible refine Kd.C_drewN ?_ _) | (with_reducible refine Kd.C_drew ?_))); (case side2 => exact HC0.out); rintro e w11 ⟨rfl, hb⟩; refine ⟨_, rfl, ?_⟩; replace HB := Aside0.mk (below_step (belB HB) hb); (try clear hb)))
  go_ret
  exact ⟨erA, belB HB⟩


def laws_toStringS.l0 : Nat → List ByteArray → List ByteArray → Int → Option (List ByteArray)
 | 0, _, _, _ => none
 | k + 1, x0, x3, x4 => if x4 < (x0.length : Int) then (if 0 ≤ x4 then (if x4 < (x3.length : Int) then (laws_toStringS.l0 k x0 (x3.set (x4 : Int).toNat (rdOf ByteArray.empty x0 x4)) (wrap64 (x4 + 1))) else (none)) else (none)) else (some x3)
def laws_toStringS.f (k : Nat) (l0 : List ByteArray) : Option (List ByteArray) := if 0 ≤ (l0.length : Int) then (if ((l0.length : Int) : Int).toNat ≤ 17592186044416 then (laws_toStringS.l0 k l0 (List.replicate ((l0.length : Int) : Int).toNat (⟨#[]⟩ : ByteArray)) 0) else (none)) else (none)
theorem laws_toStringS.mono_l : ∀ k, (∀ y0 y1 y2, LeO (laws_toStringS.l0 k y0 y1 y2) (laws_toStringS.l0 (k + 1) y0 y1 y2))
 | 0 => fun _ _ _ r h => by simp [laws_toStringS.l0] at h
 | k + 1 => by
  have ih0 := laws_toStringS.mono_l k
  ·intro y0 y1 y2; unfold laws_toStringS.l0
   repeat' first
   | (with_reducible first | exact ih0 _ _ _ | exact LeO.refl _ | exact LeO.none _ | refine LeO.ite ?_ ?_ | refine LeO.bind ?_ (fun _ => ?_))
   | exact ih0 _ _ _ | exact LeO.none _ | refine LeO.ite ?_ ?_ | refine LeO.bind ?_ (fun _ => ?_)
theorem laws_toStringS.mono : ∀ a0 k, LeO (laws_toStringS.f k a0) (laws_toStringS.f (k + 1) a0) := by
 intro a0 k; have ih0 := laws_toStringS.mono_l k; unfold laws_toStringS.f
 repeat' first
   | (with_reducible first | exact ih0 _ _ _ | exact LeO.refl _ | exact LeO.none _ | refine LeO.ite ?_ ?_ | refine LeO.bind ?_ (fun _ => ?_))
   | exact ih0 _ _ _ | exact LeO.none _ | refine LeO.ite ?_ ?_ | refine LeO.bind ?_ (fun _ => ?_)
set_option maxHeartbeats 8000000 in
set_option maxRecDepth 100000 in
theorem laws_toStringS.calls (k : Nat) (A0 : Option Addr) (c0 : Nat) (l0 : List ByteArray) (r : List ByteArray) (w : World) (hr0 : Kd.C Kd.string w A0 l0.length l0) (hc0 : l0.length ≤ c0) (h : laws_toStringS.f k l0 = some r) :
  Calls Tryz.prog 64 #[.slice A0 l0.length c0] w fun e w' => ∃ v0_ : Value, e = .returned (v0_) ∧ Kd.R Kd.string 9 w' w.heap.size (fun _ => True) v0_ r ∧ Below w.heap.size w w' := by
 have HR0 := Aside0.mk hr0; have HC0 := Aside0.mk hc0; clear hr0 hc0; have HB := Aside0.mk (Below.refl w.heap.size w); have H : (if 0 ≤ (l0.length : Int) then (if ((l0.length : Int) : Int).toNat ≤ 17592186044416 then (laws_toStringS.l0 k l0 (List.replicate ((l0.length : Int) : Int).toNat (⟨#[]⟩ : ByteArray)) 0) else (none)) else (none)) = some r := h; clear h
 by_cases c2 : 0 ≤ (l0.length : Int)
 ·rw [if_pos c2] at H; have c2b0 := eq_true c2; have c2b1 := decide_eq_true c2; clear c2
  by_cases c3 : ((l0.length : Int) : Int).toNat ≤ 17592186044416
  ·rw [if_pos c3] at H; have c3b0 := eq_true c3; have c3b1 := decide_eq_true c3; clear c3
   obtain ⟨y312, hy312⟩ : ∃ y_ : List ByteArray, y_ = (List.replicate ((l0.length : Int) : Int).toNat (⟨#[]⟩ : ByteArray)) := ⟨_, rfl⟩
   replace H : (laws_toStringS.l0 k l0 y312 0) = some r := reA H hy312; have Ny312 := Aside0.mk hy312; clear hy312
   have H' := Aside0.mk H
   clear H
   go_enter Tryz.func64, Tryz.ntmps64
   go_wp2_with (first | ((with_reducible refine gate_dst (N := 7) rfl ?_); refine Kd.R_make Kd.string _ 9 rfl (N := 7) rfl 49 _ _ rfl (l0.length : Int) rfl rfl Tryz.underlying49 (.string ⟨#[]⟩) 16 info9 rfl (by decide) (by omega) (⟨#[]⟩ : ByteArray) (ok := fun _ => True) (okp := fun _ => True) rfl (fun _ hk => hk) trivial odA (Nat.le_trans (Nat.mul_le_mul_right _ (odA : (l0.length : Int).toNat ≤ 17592186044416)) (by omega)) (Below.refl _ _) (Nat.le_refl _) ?_; intro v313 w4 ho5 hb hg_ hnew_; clear hg_ hnew_; (first | rw [← Ny312.out] at ho5 | (simp only [Int.reduceToNat] at ho5; rw [← Ny312.out] at ho5)); have HO314 := Aside0.mk (Kd.R_lower ho5 (below_size (belB HB))); replace HB := Aside0.mk (below_step (belB HB) hb); clear hb ho5))
   go_loopg [4] k (fun kq v4 w' => ∃ (x3_1 : List ByteArray) (x4_1 : Int), v4 = .int .i64 x4_1 ∧ Aside0 (laws_toStringS.l0 kq l0 x3_1 x4_1 = some r) ∧ Aside0 (kq ≤ k) ∧ Aside0 (Kd.R Kd.string 9 w' w.heap.size (fun _ => True) v313 x3_1) ∧ Aside0 (Below w.heap.size w w'))
   case atStart => exact ⟨(y312), (0), enA, H', ⟨Nat.le_refl _⟩, ⟨kdB HO314⟩, ⟨belB HB⟩⟩
   case round =>
    clear H'
    try clear c2
    try clear c2b0
    try clear c2b1
    try clear p2
    try clear c3
    try clear c3b0
    try clear c3b1
    obtain ⟨x3_1, x4_1, rfl, HA, HK1, HO_3, HB⟩ := hrel
    cases gk with
    | zero => exact absurd HA.out (by simp [laws_toStringS.l0])
    | succ k1 =>
     have H := HA.out; clear HA
     simp only [laws_toStringS.l0] at H
     by_cases c6 : x4_1 < (l0.length : Int)
     ·rw [if_pos c6] at H; have c6b0 := decide_eq_true c6; clear c6
      by_cases c7 : 0 ≤ x4_1
      ·rw [if_pos c7] at H; have c7b0 := decide_eq_true c7; clear c7
       by_cases c8 : x4_1 < (x3_1.length : Int)
       ·rw [if_pos c8] at H; have c8b0 := decide_eq_true c8; clear c8
        obtain ⟨y316, hy316⟩ : ∃ y_ : List ByteArray, y_ = (x3_1.set (x4_1 : Int).toNat (rdOf ByteArray.empty l0 x4_1)) := ⟨_, rfl⟩
        replace H : (laws_toStringS.l0 k1 l0 y316 (wrap64 (x4_1 + 1))) = some r := reA H hy316; have Ny316 := Aside0.mk hy316; clear hy316
        have H' := Aside0.mk H
        clear H; have p315 : 0 ≤ (x4_1 : Int) := odA; have q315 : x4_1 < (l0.length : Int) := odA; obtain ⟨ad315, e315, hx315_0⟩ := Kd.at_string HR0.out x4_1 p315 q315
        cases e315
        (try replace hx315_0 := celB HB hx315_0)
        replace p315 := eq_true p315; replace q315 := eq_true q315; have p9 : 0 ≤ (x4_1 : Int) := odA; have q9 : (x4_1 : Int) < ((x3_1.length : Int) : Int) := odA
        obtain ⟨go9, co9, eo9, gb9, gl9, cl9, HG9⟩ := Kd.R_form HO_3.out (by omega)
        (first | cases eo9 | (injection eo9 with ea_ en_ ec_; (first | subst ea_ | (injection ea_ with ea_; subst ea_)); subst ec_; clear en_))
        have GB9 := Aside0.mk gb9; have GG9 := Aside0.mk HG9; clear gb9 gl9 HG9; obtain ⟨hx9_0, hf9_0⟩ := Kd.R_celln (⟨#[]⟩ : ByteArray) HO_3.out (x4_1 : Int) p9 q9; replace p9 := eq_true p9; replace q9 := eq_true q9; have HP10 := Kd.R_putg HO_3.out (x4_1 : Int) (rdOf ByteArray.empty l0 x4_1)
        go_wp2_with (first | ((with_reducible refine gate_store (t := 9) (p := 20) rfl ?_); refine store_event (t := 9) (p := 20) (v := ?vo_w11) (w1 := (wr.setCell ⟨go9, (x4_1 : Int).toNat, none⟩ (.string (rdOf ByteArray.empty l0 x4_1)))) ?hg ?ho ?hn ?hr ?_; (case ho => rfl); (case hg => rfl); (case hn => rfl); (case hr => first | (go_simp; done) | (go_simp; rfl)); intro w11 hw; have hg : wr.grownBy w11 (some go9) := (by rw [hw]; exact HP10.2); have hp_ : Kd.R Kd.string 9 w11 w.heap.size (fun _ => True) (.slice (some ⟨go9, 0, none⟩) x3_1.length co9) y316 := (by rw [hw, Ny316.out]; exact HP10.1); clear HP10; replace HO_3 := Aside0.mk (hp_); replace HB := Aside0.mk ((by rw [hw]; exact below_set (HB.out) GB9.out : Below w.heap.size w w11)); clear hg hw hp_))
        go_roundg k1
        case measure => have := HK1.out; omega
        case rel => exact ⟨(y316), (wrap64 (x4_1 + 1)), enA, H', ⟨by have := HK1.out; omega⟩, ⟨kdB HO_3⟩, ⟨belB HB⟩⟩
       ·rw [if_neg c8] at H
        exact absurd H (by simp)
      ·rw [if_neg c7] at H
       exact absurd H (by simp)
     ·rw [if_neg c6] at H; have c6b0 := decide_eq_false c6; clear c6; obtain rfl := Option.some.inj H
      go_wp2
      go_ret
      exact ⟨_, erA, kdB HO_3, belB HB⟩
  ·rw [if_neg c3] at H
   exact absurd H (by simp)
 ·rw [if_neg c2] at H
  exact absurd H (by simp)

end Go.Proofs.YtjhagdjjlgjlbaaGreatDoor.OFnExactDirsText
-- narrow
