/- The machine side of one law, written by a program. -/
import Derived.Test.YtjhagdjjlgjlbaaDoorOFnExactArgsTextx0
import Derived.Test.YtjhagdjjlgjlbaaDoorOFnExactArgsTextx11
import Derived.Test.YtjhagdjjlgjlbaaDoorOFnExactArgsTextx12
namespace Go.Proofs.YtjhagdjjlgjlbaaDoor.OFnExactArgsText
open Go.Proofs.YtjhagdjjlgjlbaaDoor.GlU Go.Proofs.YtjhagdjjlgjlbaaDoor.Ix
open Go.RowKit Go.Proofs.YtjhagdjjlgjlbaaDoorW.PrintWords Go.Proofs.YtjhagdjjlgjlbaaDoorW.PrintLast Go.Proofs.YtjhagdjjlgjlbaaDoorW.PrintMore
attribute [local go_sem] max2_int min2_int max_two min_two max_three min_three max_four min_four
set_option linter.unusedVariables false
set_option linter.unusedSimpArgs false

def spec_l10Say.l0 : Nat → List Int → List (S70) → Int → Option (List Int)
 | 0, _, _, _ => none
 | k + 1, x0, x1, x5 => if x5 < (x1.length : Int) then (if x5 = 0 then (if x0.length < 140737488355328 then ((some (x0 ++ [40] : List Int)).bind fun y297 => (if 0 ≤ x5 then (if y297.length + ((rd_T70 x1 x5).f0).size < 140737488355328 then ((some (y297 ++ bytesOf ((rd_T70 x1 x5).f0) : List Int)).bind fun y301 => ((some (([58, 32] : List Int) : List Int)).bind fun y304 => (if y301.length + y304.length < 140737488355328 then ((spec_l07Say.f k (y301 ++ y304) ((rd_T70 x1 x5).f1.f0) ((rd_T70 x1 x5).f1.f1) ((rd_T70 x1 x5).f1.f2) ((rd_T70 x1 x5).f1.f3)).bind fun t311 => (spec_l10Say.l0 k t311 x1 (wrap64 (x5 + 1)))) else (none)))) else (none)) else (none))) else (none)) else ((some (([44, 32] : List Int) : List Int)).bind fun y314 => (if x0.length + y314.length < 140737488355328 then ((some (x0 ++ y314 : List Int)).bind fun y317 => (if 0 ≤ x5 then (if y317.length + ((rd_T70 x1 x5).f0).size < 140737488355328 then ((some (y317 ++ bytesOf ((rd_T70 x1 x5).f0) : List Int)).bind fun y321 => ((some (([58, 32] : List Int) : List Int)).bind fun y324 => (if y321.length + y324.length < 140737488355328 then ((spec_l07Say.f k (y321 ++ y324) ((rd_T70 x1 x5).f1.f0) ((rd_T70 x1 x5).f1.f1) ((rd_T70 x1 x5).f1.f2) ((rd_T70 x1 x5).f1.f3)).bind fun t331 => (spec_l10Say.l0 k t331 x1 (wrap64 (x5 + 1)))) else (none)))) else (none)) else (none))) else (none)))) else (if (x1.length : Int) > 0 then (if x0.length < 140737488355328 then (some (x0 ++ [41])) else (none)) else (some x0))
def spec_l10Say.f (k : Nat) (l0 : List Int) (l1 : List (S70)) : Option (List Int) := spec_l10Say.l0 k l0 l1 0
theorem spec_l10Say.mono_l : ∀ k, (∀ y0 y1 y2, LeO (spec_l10Say.l0 k y0 y1 y2) (spec_l10Say.l0 (k + 1) y0 y1 y2))
 | 0 => fun _ _ _ r h => by simp [spec_l10Say.l0] at h
 | k + 1 => by
  have ih0 := spec_l10Say.mono_l k
  ·intro y0 y1 y2; unfold spec_l10Say.l0
   repeat' first
   | (with_reducible first | exact ih0 _ _ _ | exact spec_l07Say.mono _ _ _ _ _ _ | exact LeO.refl _ | exact LeO.none _ | refine LeO.ite ?_ ?_ | refine LeO.bind ?_ (fun _ => ?_))
   | exact ih0 _ _ _ | exact spec_l07Say.mono _ _ _ _ _ _ | exact LeO.none _ | refine LeO.ite ?_ ?_ | refine LeO.bind ?_ (fun _ => ?_)
theorem spec_l10Say.mono : ∀ a0 a1 k, LeO (spec_l10Say.f k a0 a1) (spec_l10Say.f (k + 1) a0 a1) := by
 intro a0 a1 k; have ih0 := spec_l10Say.mono_l k; unfold spec_l10Say.f
 repeat' first
   | (with_reducible first | exact ih0 _ _ _ | exact spec_l07Say.mono _ _ _ _ _ _ | exact LeO.refl _ | exact LeO.none _ | refine LeO.ite ?_ ?_ | refine LeO.bind ?_ (fun _ => ?_))
   | exact ih0 _ _ _ | exact spec_l07Say.mono _ _ _ _ _ _ | exact LeO.none _ | refine LeO.ite ?_ ?_ | refine LeO.bind ?_ (fun _ => ?_)
set_option maxHeartbeats 8000000 in
set_option maxRecDepth 100000 in
theorem spec_l10Say.calls (k : Nat) (P0_ : Nat → Prop) (u9000_ : Value) (l0 : List Int) (A1 : Option Addr) (c1 : Nat) (l1 : List (S70)) (r : List Int) (w0 w : World) (hB : Below w0.heap.size w0 w) (ho0 : Kd.R (Kd.int .u8) 5 w w0.heap.size P0_ u9000_ l0) (hr1 : ∀ W_, Kept w W_ (fun k_ => P0_ k_) → Kd.C k70 W_ A1 l1.length l1) (hc1 : l1.length ≤ c1) (h : spec_l10Say.f k l0 l1 = some r) :
  Calls Tryd.prog 62 #[u9000_, .slice A1 l1.length c1] w fun e w' => ∃ v0_ : Value, e = .returned (v0_) ∧ Kd.R (Kd.int .u8) 5 w' w0.heap.size (fun k_ => (P0_ k_ ∨ w.heap.size ≤ k_)) v0_ r ∧ Below w0.heap.size w0 w' ∧ Kept w w' (fun k_ => P0_ k_) := by
 have hu37 := Tryd.underlying37; have HO0 := Aside0.mk (show Kd.R (Kd.int .u8) 5 w w0.heap.size (fun k_ => (P0_ k_ ∨ w.heap.size ≤ k_)) u9000_ l0 from Kd.R_mono ho0 (fun k_ hk => (.inl hk))); have HR1 := Aside0.mk hr1; have HC1 := Aside0.mk hc1; clear hr1 hc1; have HK := Aside0.mk (Kept.refl w (fun k_ => P0_ k_)); have HW0 := Aside0.mk hB.size; have HB := Aside0.mk hB; clear hB; have H : (spec_l10Say.l0 k l0 l1 0) = some r := h; clear h
 have H' := Aside0.mk H
 clear H
 go_enter Tryd.func62, Tryd.ntmps62
 go_wp2
 go_loopg [0, 5] k (fun kq v0 v5 w' => ∃ (x0_1 : List Int) (x5_1 : Int), v5 = .int .i64 x5_1 ∧ Aside0 (spec_l10Say.l0 kq x0_1 l1 x5_1 = some r) ∧ Aside0 (kq ≤ k) ∧ Aside0 (Kd.R (Kd.int .u8) 5 w' w0.heap.size (fun k_ => (P0_ k_ ∨ w.heap.size ≤ k_)) v0 x0_1) ∧ Aside0 (Kept w w' (fun k_ => P0_ k_)) ∧ Aside0 (Below w0.heap.size w0 w'))
 case atStart => exact ⟨(l0), (0), enA, H', ⟨Nat.le_refl _⟩, ⟨kdB HO0⟩, ⟨kepA HK⟩, ⟨belB HB⟩⟩
 case round =>
  clear H'
  try clear c1
  try clear p2
  obtain ⟨x0_1, x5_1, rfl, HA, HK1, HO_0, HK, HB⟩ := hrel
  cases gk with
  | zero => exact absurd HA.out (by simp [spec_l10Say.l0])
  | succ k1 =>
   have H := HA.out; clear HA
   simp only [spec_l10Say.l0] at H
   by_cases c3 : x5_1 < (l1.length : Int)
   ·rw [if_pos c3] at H; have c3b0 := decide_eq_true c3; clear c3
    by_cases c4 : x5_1 = 0
    ·rw [if_pos c4] at H; have c4b0 := beq_iff_eq.mpr c4; have c4b1 := bne_eq_false_iff_eq.mpr c4; clear c4
     by_cases c5 : x0_1.length < 140737488355328
     ·rw [if_pos c5] at H; have LMc5 := Aside0.mk c5; clear c5
      obtain ⟨y297, hy297⟩ : ∃ y_ : List Int, y_ = (x0_1 ++ [40]) := ⟨_, rfl⟩
      replace H : (if 0 ≤ x5_1 then (if y297.length + ((rd_T70 l1 x5_1).f0).size < 140737488355328 then ((some (y297 ++ bytesOf ((rd_T70 l1 x5_1).f0) : List Int)).bind fun y301 => ((some (([58, 32] : List Int) : List Int)).bind fun y304 => (if y301.length + y304.length < 140737488355328 then ((spec_l07Say.f k1 (y301 ++ y304) ((rd_T70 l1 x5_1).f1.f0) ((rd_T70 l1 x5_1).f1.f1) ((rd_T70 l1 x5_1).f1.f2) ((rd_T70 l1 x5_1).f1.f3)).bind fun t311 => (spec_l10Say.l0 k1 t311 l1 (wrap64 (x5_1 + 1)))) else (none)))) else (none)) else (none)) = some r := reA H hy297; have Ny297 := Aside0.mk hy297; clear hy297
      by_cases c6 : 0 ≤ x5_1
      ·rw [if_pos c6] at H; have c6b0 := decide_eq_true c6; clear c6
       by_cases c7 : y297.length + ((rd_T70 l1 x5_1).f0).size < 140737488355328
       ·rw [if_pos c7] at H; have LMc7 := Aside0.mk c7; clear c7
        obtain ⟨y301, hy301⟩ : ∃ y_ : List Int, y_ = (y297 ++ bytesOf ((rd_T70 l1 x5_1).f0)) := ⟨_, rfl⟩
        replace H : ((some (([58, 32] : List Int) : List Int)).bind fun y304 => (if y301.length + y304.length < 140737488355328 then ((spec_l07Say.f k1 (y301 ++ y304) ((rd_T70 l1 x5_1).f1.f0) ((rd_T70 l1 x5_1).f1.f1) ((rd_T70 l1 x5_1).f1.f2) ((rd_T70 l1 x5_1).f1.f3)).bind fun t311 => (spec_l10Say.l0 k1 t311 l1 (wrap64 (x5_1 + 1)))) else (none))) = some r := reA H hy301; have Ny301 := Aside0.mk hy301; clear hy301
        obtain ⟨y304, hy304⟩ : ∃ y_ : List Int, y_ = (([58, 32] : List Int)) := ⟨_, rfl⟩
        replace H : (if y301.length + y304.length < 140737488355328 then ((spec_l07Say.f k1 (y301 ++ y304) ((rd_T70 l1 x5_1).f1.f0) ((rd_T70 l1 x5_1).f1.f1) ((rd_T70 l1 x5_1).f1.f2) ((rd_T70 l1 x5_1).f1.f3)).bind fun t311 => (spec_l10Say.l0 k1 t311 l1 (wrap64 (x5_1 + 1)))) else (none)) = some r := reA H hy304; have Ny304 := Aside0.mk hy304; clear hy304
        by_cases c8 : y301.length + y304.length < 140737488355328
        ·rw [if_pos c8] at H; have LMc8 := Aside0.mk c8; clear c8
         obtain ⟨y307, hy307⟩ : ∃ y_ : List Int, y_ = (y301 ++ y304) := ⟨_, rfl⟩
         replace H : ((spec_l07Say.f k1 y307 ((rd_T70 l1 x5_1).f1.f0) ((rd_T70 l1 x5_1).f1.f1) ((rd_T70 l1 x5_1).f1.f2) ((rd_T70 l1 x5_1).f1.f3)).bind fun t311 => (spec_l10Say.l0 k1 t311 l1 (wrap64 (x5_1 + 1)))) = some r := reA H hy307; have Ny307 := Aside0.mk hy307; clear hy307; replace H := Option.bind_eq_some_iff.mp H; obtain ⟨t311, A90, H⟩ := H; replace H : (spec_l10Say.l0 k1 t311 l1 (wrap64 (x5_1 + 1))) = some r := H; have A9 := Aside0.mk A90; clear A90
         have H' := Aside0.mk H
         clear H
         go_wp2_with (first | ((with_reducible refine gate_builtin (b := .append) (xs := #[.tmp 14, .tmp 15]) rfl ?_); at_builtin; refine Kd.R_append (Kd.int .u8) (w0 := w0) w0.heap.size rfl (.tmp 14) (.tmp 15) 75 5 (.int .u8 0) 1 rfl Tryd.underlying75 info5 rfl (by decide) (by omega) u0 x0_1 40 [.int .u8 40] (fun k_ => (P0_ k_ ∨ w.heap.size ≤ k_)) (fun _ => False) rfl rfl ?aP (fun _ hk => hk.elim) ?aF ?aO ?aB ?aS ?aL ?_; (case aP => exact rfl); (case aB => exact (belB HB)); (case aF => exact (fun k_ hk => (.inr (Nat.le_trans (by first | exact HK.out.1 | exact (show Kept w _ (fun k_ => P0_ k_) from kepA HK).1) hk)))); (case aO => exact (kdB HO_0)); (case aS => exact (below_size (belB HB))); (case aL => have := LMc5.out; omega); intro v298 w10 ho hb hg hat; rw [← Ny297.out] at ho; have HO299 := Aside0.mk (ho); replace HB := Aside0.mk (hb); replace HK := Aside0.mk (Kept.of_grown (S := (fun k_ => P0_ k_)) hg (kepA HK) (fun k_ e_ => (HO_0.out.1 k_ e_))); clear HO_0; clear ho hb hg hat; have p300 : 0 ≤ (x5_1 : Int) := odA; have q300 : x5_1 < (l1.length : Int) := odA; obtain ⟨ad300, A300_3, c300_3, A300_4, c300_4, e300, hx300_0, hx300_1, hx300_2, hx300_3, hx300_4, hl300_3, hi300_3, hl300_4, hi300_4⟩ := at_T70 (Kd.C_kept_now HR1.out HK.out) x5_1 p300 q300; have HF300_3 := Aside0.mk (k70_in3 HR1.out HK.out x5_1 p300 q300 e300 hx300_3); have HF300_4 := Aside0.mk (k70_in4 HR1.out HK.out x5_1 p300 q300 e300 hx300_4); cases e300; have HR300_3 := Aside0.mk hi300_3; have HC300_3 := Aside0.mk hl300_3; clear hi300_3 hl300_3; have HR300_4 := Aside0.mk hi300_4; have HC300_4 := Aside0.mk hl300_4; clear hi300_4 hl300_4; replace p300 := eq_true p300; replace q300 := eq_true q300) | (at_builtin; refine print_append_strH (w0 := w0) w0.heap.size rfl (.tmp 20) _ 75 9 5 rfl Tryd.underlying75 Tryd.underlying9 info5 v298 y297 ((rd_T70 l1 x5_1).f0) rfl rfl ?aO ?aB ?aS ?aL ?_; (case aB => exact (belB HB)); (case aO => exact (Kd.own_of_R (kdB HO299))); (case aS => exact (below_size (belB HB))); (case aL => have := LMc7.out; omega); intro v302 w11 ho0 hb hg hat; have ho := R_str_at (h1 := fun _ => rfl) (ok := (fun k_ => (P0_ k_ ∨ w.heap.size ≤ k_))) ho0 hat (fun k_ hk => (.inr (Nat.le_trans (by first | exact HK.out.1 | exact (show Kept w _ (fun k_ => P0_ k_) from kepA HK).1) hk))) (kdB HO299); clear ho0; rw [← Ny301.out] at ho; change Kd.R (Kd.int .u8) 5 w11 w0.heap.size (fun k_ => (P0_ k_ ∨ w.heap.size ≤ k_)) v302 y301 at ho; have HO303 := Aside0.mk (ho); replace HB := Aside0.mk (hb); replace HK := Aside0.mk (Kept.of_grown (S := (fun k_ => P0_ k_)) hg (kepA HK) (fun k_ e_ => (HO299.out.1 k_ e_))); clear HO299; clear ho hb hg hat) | ((with_reducible refine gate_dst (N := 27) rfl ?_); refine Kd.R_lit (Kd.int .u8) _ 5 ?hg (N := 27) ?hd (xs := ([58, 32] : List Int)) (inner := [.int .u8 58, .int .u8 32]) (ok := fun _ => True) (okp := fun _ => True) ?hr ?hp (fun _ hk => hk) trivial (Below.refl _ _) (Nat.le_refl _) (by simp) ?_; (case hd => rfl); (case hg => rfl); (case hr => first | (go_simp; done) | (go_simp; rfl)); (case hp => exact (Reps.one (show Kd.M (Kd.int .u8) _ _ _ 58 [.int .u8 58] from rfl) (Reps.one (show Kd.M (Kd.int .u8) _ _ _ 32 [.int .u8 32] from rfl) (Reps.none _ _)))); intro v305 w12 ho13 hb hg_ hnew_; clear hg_ hnew_; (first | rw [← Ny304.out] at ho13 | (simp only [Int.reduceToNat] at ho13; rw [← Ny304.out] at ho13)); have HO306 := Aside0.mk (Kd.R_lower (Kd.R_new' (Kd.R_newM (M := fun k_ => (P0_ k_ ∨ w.heap.size ≤ k_)) ho13 (by first | exact HK.out.1 | exact (show Kept w _ (fun k_ => P0_ k_) from kepA HK).1) (fun k_ h_ => .inr h_)) (Kd.R_lt (kdB HO303))) (below_size (belB HB))); replace HO303 := Aside0.mk (Kd.R_elder' (kdB HO303) (Kd.R_base ho13) hb); replace HK := Aside0.mk (Kept.below (S := (fun k_ => P0_ k_)) (kepA HK) hb); replace HB := Aside0.mk (below_step (belB HB) hb); clear hb ho13; obtain ⟨Ao15, co15, eo15⟩ := Kd.R_slice HO306.out; subst eo15) | ((with_reducible refine gate_builtin (b := .append) (xs := #[.tmp 26, .tmp 27]) rfl ?_); at_builtin; refine Kd.R_append_rows (Kd.int .u8) (w0 := w0) w0.heap.size rfl (.tmp 26) (.tmp 27) 75 5 (.int .u8 0) 1 rfl Tryd.underlying75 info5 rfl (by decide) (by omega) v302 y301 y304 _ _ _ (fun k_ => (P0_ k_ ∨ w.heap.size ≤ k_) ∧ some k_ ≠ (.slice Ao15 y304.length co15 : Value).ownBlock) (fun _ => False) rfl rfl ?aO ?aR (fun _ _ h => h) (fun _ h => h.elim) ?aF ?aB ?aS ?aL ?_; (case aR => repeat (first | exact (Kd.R_reads' HO306.out).2.2 | (with_reducible refine Kd.C_alloc ?_ _) | (with_reducible refine Kd.C_drewN ?_ _) | (with_reducible refine Kd.C_drew ?_))); (case aB => exact (belB HB)); (case aF => exact (fun k_ hk => ⟨(.inr (Nat.le_trans (by first | exact HK.out.1 | exact (show Kept w _ (fun k_ => P0_ k_) from kepA HK).1) hk)), Kd.fresh' (Kd.R_lt (kdB HO306)) k_ hk⟩)); (case aO => exact (kdB HO303)); (case aS => exact (below_size (belB HB))); (case aL => have := LMc8.out; omega); intro v308 w14 ho hb hg hat; rw [← Ny307.out] at ho; have HO309 := Aside0.mk (ho); replace HO306 := Aside0.mk (Kd.R_after (ok := (fun k_ => (P0_ k_ ∨ w.heap.size ≤ k_))) (by (with_reducible repeat (first | apply Kd.R_alloc | apply Kd.R_drewN | apply Kd.R_drew)); exact Kd.R_mono HO306.out (fun _ hk => ⟨hk.1.1, hk.2⟩)) hg hat); replace HB := Aside0.mk (hb); replace HK := Aside0.mk (Kept.of_grown (S := (fun k_ => P0_ k_)) hg (kepA HK) (fun k_ e_ => (HO303.out.1 k_ e_).1)); clear HO303; clear ho hb hg hat; have p310 : 0 ≤ (x5_1 : Int) := odA; have q310 : x5_1 < (l1.length : Int) := odA; obtain ⟨ad310, A310_3, c310_3, A310_4, c310_4, e310, hx310_0, hx310_1, hx310_2, hx310_3, hx310_4, hl310_3, hi310_3, hl310_4, hi310_4⟩ := at_T70 (Kd.C_kept_now HR1.out HK.out) x5_1 p310 q310; have HF310_3 := Aside0.mk (k70_in3 HR1.out HK.out x5_1 p310 q310 e310 hx310_3); have HF310_4 := Aside0.mk (k70_in4 HR1.out HK.out x5_1 p310 q310 e310 hx310_4); obtain rfl : ad300 = ad310 := (by injection e310); have HR310_3 := Aside0.mk hi310_3; have HC310_3 := Aside0.mk hl310_3; clear hi310_3 hl310_3; have HR310_4 := Aside0.mk hi310_4; have HC310_4 := Aside0.mk hl310_4; clear hi310_4 hl310_4; replace p310 := eq_true p310; replace q310 := eq_true q310; obtain ⟨Ao16, co16, eo16⟩ := Kd.R_slice HO309.out; subst eo16) | ((with_reducible refine gate_callee (f := 55) rfl ?_); refine goesL_ (some 35) rfl rfl Tryd.func55 (by kernel_rfl) rfl #[.slice Ao16 y307.length co16, .agg #[.int .i64 ((rd_T70 l1 x5_1).f1.f0), .string ((rd_T70 l1 x5_1).f1.f1), .slice A310_3 ((rd_T70 l1 x5_1).f1.f2).length c310_3, .slice A310_4 ((rd_T70 l1 x5_1).f1.f3).length c310_4]] rfl mapA ?_; (with_reducible refine (spec_l07Say.calls k1 (fun k_ => some k_ = (.slice Ao16 y307.length co16 : Value).ownBlock) (.slice Ao16 y307.length co16) y307 ((rd_T70 l1 x5_1).f1.f0) ((rd_T70 l1 x5_1).f1.f1) _ _ ((rd_T70 l1 x5_1).f1.f2) _ _ ((rd_T70 l1 x5_1).f1.f3) t311 w0 _ ?side1 ?side2 ?side3 ?side4 ?side5 ?side6 A9.out).mono ?_); (case side1 => repeat (first | (with_reducible first | exact HB.out | apply below_alloc | apply pw_below_drewN | apply below_drew1) | exact HB.out)); (case side2 => exact Kd.R_tight rfl HO309.out); (case side3 => exact Kd.C_kept_call HF310_3.out (kepA HK) (fun k_ hs_ => (fun e_ => (HO309.out.1 k_ e_.symm).1) hs_)); (case side4 => exact HC310_3.out); (case side5 => exact Kd.C_kept_call HF310_4.out (kepA HK) (fun k_ hs_ => (fun e_ => (HO309.out.1 k_ e_.symm).1) hs_)); (case side6 => exact HC310_4.out); rintro e w17 ⟨v312, rfl, ho0, hb, hkp⟩; refine ⟨_, rfl, ?_⟩; have HO313 := Aside0.mk (Kd.R_mono (ok' := fun k_ => (P0_ k_ ∨ w.heap.size ≤ k_) ∧ some k_ ≠ (.slice Ao15 y304.length co15 : Value).ownBlock) ho0 (fun k_ hk_ => ⟨Or.elim hk_ (fun hs_ => (HO309.out.1 k_ (hs_).symm).1) (fun hn_ => (.inr (Nat.le_trans (by first | exact HK.out.1 | exact (show Kept w _ (fun k_ => P0_ k_) from kepA HK).1) hn_))), Or.elim hk_ (fun hs_ => fun e_ => (((HO306.out).1 k_ e_.symm).2) hs_) (fun hn_ => (Kd.fresh' (Kd.R_lt (kdB HO306)) k_ hn_))⟩)); replace HO306 := Aside0.mk (Kd.R_mono (ok' := fun k_ => (P0_ k_ ∨ w.heap.size ≤ k_) ∧ some k_ ≠ (v312 : Value).ownBlock) (Kd.R_keptB (HO306.out) hkp (fun k_ hk_ hs_ => (hk_.2) hs_)) (fun k_ hk_ => ⟨hk_.1.1, fun e_ => Or.elim (ho0.1 k_ e_.symm) (fun hs_ => hk_.2.1 hs_) (fun hn_ => Nat.not_le.2 hk_.2.2 hn_)⟩)); replace HK := Aside0.mk (Kept.then_ (S := (fun k_ => P0_ k_)) (kepA HK) hkp (fun k_ hs_ => (fun e_ => (HO309.out.1 k_ e_.symm).1) hs_)); replace HB := Aside0.mk (hb); clear HO309; (try clear hb); (try clear hkp); (try clear ho0)))
         go_roundg k1
         case measure => have := HK1.out; omega
         case rel => exact ⟨(t311), (wrap64 (x5_1 + 1)), enA, H', ⟨by have := HK1.out; omega⟩, ⟨by (with_reducible repeat (first | apply Kd.R_alloc | apply Kd.R_drewN | apply Kd.R_drew)); exact Kd.R_mono HO313.out (fun _ hk => hk.1)⟩, ⟨kepA HK⟩, ⟨belB HB⟩⟩
        ·rw [if_neg c8] at H
         exact absurd H (by simp)
       ·rw [if_neg c7] at H
        exact absurd H (by simp)
      ·rw [if_neg c6] at H
       exact absurd H (by simp)
     ·rw [if_neg c5] at H
      exact absurd H (by simp)
    ·rw [if_neg c4] at H; have c4b0 := beq_eq_false_iff_ne.mpr c4; have c4b1 := bne_iff_ne.mpr c4
     obtain ⟨y314, hy314⟩ : ∃ y_ : List Int, y_ = (([44, 32] : List Int)) := ⟨_, rfl⟩
     replace H : (if x0_1.length + y314.length < 140737488355328 then ((some (x0_1 ++ y314 : List Int)).bind fun y317 => (if 0 ≤ x5_1 then (if y317.length + ((rd_T70 l1 x5_1).f0).size < 140737488355328 then ((some (y317 ++ bytesOf ((rd_T70 l1 x5_1).f0) : List Int)).bind fun y321 => ((some (([58, 32] : List Int) : List Int)).bind fun y324 => (if y321.length + y324.length < 140737488355328 then ((spec_l07Say.f k1 (y321 ++ y324) ((rd_T70 l1 x5_1).f1.f0) ((rd_T70 l1 x5_1).f1.f1) ((rd_T70 l1 x5_1).f1.f2) ((rd_T70 l1 x5_1).f1.f3)).bind fun t331 => (spec_l10Say.l0 k1 t331 l1 (wrap64 (x5_1 + 1)))) else (none)))) else (none)) else (none))) else (none)) = some r := reA H hy314; have Ny314 := Aside0.mk hy314; clear hy314
     by_cases c18 : x0_1.length + y314.length < 140737488355328
     ·rw [if_pos c18] at H; have LMc18 := Aside0.mk c18; clear c18
      obtain ⟨y317, hy317⟩ : ∃ y_ : List Int, y_ = (x0_1 ++ y314) := ⟨_, rfl⟩
      replace H : (if 0 ≤ x5_1 then (if y317.length + ((rd_T70 l1 x5_1).f0).size < 140737488355328 then ((some (y317 ++ bytesOf ((rd_T70 l1 x5_1).f0) : List Int)).bind fun y321 => ((some (([58, 32] : List Int) : List Int)).bind fun y324 => (if y321.length + y324.length < 140737488355328 then ((spec_l07Say.f k1 (y321 ++ y324) ((rd_T70 l1 x5_1).f1.f0) ((rd_T70 l1 x5_1).f1.f1) ((rd_T70 l1 x5_1).f1.f2) ((rd_T70 l1 x5_1).f1.f3)).bind fun t331 => (spec_l10Say.l0 k1 t331 l1 (wrap64 (x5_1 + 1)))) else (none)))) else (none)) else (none)) = some r := reA H hy317; have Ny317 := Aside0.mk hy317; clear hy317
      by_cases c19 : 0 ≤ x5_1
      ·rw [if_pos c19] at H; have c19b0 := decide_eq_true c19; clear c19
       by_cases c20 : y317.length + ((rd_T70 l1 x5_1).f0).size < 140737488355328
       ·rw [if_pos c20] at H; have LMc20 := Aside0.mk c20; clear c20
        obtain ⟨y321, hy321⟩ : ∃ y_ : List Int, y_ = (y317 ++ bytesOf ((rd_T70 l1 x5_1).f0)) := ⟨_, rfl⟩
        replace H : ((some (([58, 32] : List Int) : List Int)).bind fun y324 => (if y321.length + y324.length < 140737488355328 then ((spec_l07Say.f k1 (y321 ++ y324) ((rd_T70 l1 x5_1).f1.f0) ((rd_T70 l1 x5_1).f1.f1) ((rd_T70 l1 x5_1).f1.f2) ((rd_T70 l1 x5_1).f1.f3)).bind fun t331 => (spec_l10Say.l0 k1 t331 l1 (wrap64 (x5_1 + 1)))) else (none))) = some r := reA H hy321; have Ny321 := Aside0.mk hy321; clear hy321
        obtain ⟨y324, hy324⟩ : ∃ y_ : List Int, y_ = (([58, 32] : List Int)) := ⟨_, rfl⟩
        replace H : (if y321.length + y324.length < 140737488355328 then ((spec_l07Say.f k1 (y321 ++ y324) ((rd_T70 l1 x5_1).f1.f0) ((rd_T70 l1 x5_1).f1.f1) ((rd_T70 l1 x5_1).f1.f2) ((rd_T70 l1 x5_1).f1.f3)).bind fun t331 => (spec_l10Say.l0 k1 t331 l1 (wrap64 (x5_1 + 1)))) else (none)) = some r := reA H hy324; have Ny324 := Aside0.mk hy324; clear hy324
        by_cases c21 : y321.length + y324.length < 140737488355328
        ·rw [if_pos c21] at H; have LMc21 := Aside0.mk c21; clear c21
         obtain ⟨y327, hy327⟩ : ∃ y_ : List Int, y_ = (y321 ++ y324) := ⟨_, rfl⟩
         replace H : ((spec_l07Say.f k1 y327 ((rd_T70 l1 x5_1).f1.f0) ((rd_T70 l1 x5_1).f1.f1) ((rd_T70 l1 x5_1).f1.f2) ((rd_T70 l1 x5_1).f1.f3)).bind fun t331 => (spec_l10Say.l0 k1 t331 l1 (wrap64 (x5_1 + 1)))) = some r := reA H hy327; have Ny327 := Aside0.mk hy327; clear hy327; replace H := Option.bind_eq_some_iff.mp H; obtain ⟨t331, A220, H⟩ := H; replace H : (spec_l10Say.l0 k1 t331 l1 (wrap64 (x5_1 + 1))) = some r := H; have A22 := Aside0.mk A220; clear A220
         have H' := Aside0.mk H
         clear H
         go_wp2_with (first | ((with_reducible refine gate_dst (N := 18) rfl ?_); refine Kd.R_lit (Kd.int .u8) _ 5 ?hg (N := 18) ?hd (xs := ([44, 32] : List Int)) (inner := [.int .u8 44, .int .u8 32]) (ok := fun _ => True) (okp := fun _ => True) ?hr ?hp (fun _ hk => hk) trivial (Below.refl _ _) (Nat.le_refl _) (by simp) ?_; (case hd => rfl); (case hg => rfl); (case hr => first | (go_simp; done) | (go_simp; rfl)); (case hp => exact (Reps.one (show Kd.M (Kd.int .u8) _ _ _ 44 [.int .u8 44] from rfl) (Reps.one (show Kd.M (Kd.int .u8) _ _ _ 32 [.int .u8 32] from rfl) (Reps.none _ _)))); intro v315 w23 ho24 hb hg_ hnew_; clear hg_ hnew_; (first | rw [← Ny314.out] at ho24 | (simp only [Int.reduceToNat] at ho24; rw [← Ny314.out] at ho24)); have HO316 := Aside0.mk (Kd.R_lower (Kd.R_new' (Kd.R_newM (M := fun k_ => (P0_ k_ ∨ w.heap.size ≤ k_)) ho24 (by first | exact HK.out.1 | exact (show Kept w _ (fun k_ => P0_ k_) from kepA HK).1) (fun k_ h_ => .inr h_)) (Kd.R_lt (kdB HO_0))) (below_size (belB HB))); replace HO_0 := Aside0.mk (Kd.R_elder' (kdB HO_0) (Kd.R_base ho24) hb); replace HK := Aside0.mk (Kept.below (S := (fun k_ => P0_ k_)) (kepA HK) hb); replace HB := Aside0.mk (below_step (belB HB) hb); clear hb ho24; obtain ⟨Ao26, co26, eo26⟩ := Kd.R_slice HO316.out; subst eo26) | ((with_reducible refine gate_builtin (b := .append) (xs := #[.tmp 17, .tmp 18]) rfl ?_); at_builtin; refine Kd.R_append_rows (Kd.int .u8) (w0 := w0) w0.heap.size rfl (.tmp 17) (.tmp 18) 75 5 (.int .u8 0) 1 rfl Tryd.underlying75 info5 rfl (by decide) (by omega) u0 x0_1 y314 _ _ _ (fun k_ => (P0_ k_ ∨ w.heap.size ≤ k_) ∧ some k_ ≠ (.slice Ao26 y314.length co26 : Value).ownBlock) (fun _ => False) rfl rfl ?aO ?aR (fun _ _ h => h) (fun _ h => h.elim) ?aF ?aB ?aS ?aL ?_; (case aR => repeat (first | exact (Kd.R_reads' HO316.out).2.2 | (with_reducible refine Kd.C_alloc ?_ _) | (with_reducible refine Kd.C_drewN ?_ _) | (with_reducible refine Kd.C_drew ?_))); (case aB => exact (belB HB)); (case aF => exact (fun k_ hk => ⟨(.inr (Nat.le_trans (by first | exact HK.out.1 | exact (show Kept w _ (fun k_ => P0_ k_) from kepA HK).1) hk)), Kd.fresh' (Kd.R_lt (kdB HO316)) k_ hk⟩)); (case aO => exact (kdB HO_0)); (case aS => exact (below_size (belB HB))); (case aL => have := LMc18.out; omega); intro v318 w25 ho hb hg hat; rw [← Ny317.out] at ho; have HO319 := Aside0.mk (ho); replace HO316 := Aside0.mk (Kd.R_after (ok := (fun k_ => (P0_ k_ ∨ w.heap.size ≤ k_))) (by (with_reducible repeat (first | apply Kd.R_alloc | apply Kd.R_drewN | apply Kd.R_drew)); exact Kd.R_mono HO316.out (fun _ hk => ⟨hk.1.1, hk.2⟩)) hg hat); replace HB := Aside0.mk (hb); replace HK := Aside0.mk (Kept.of_grown (S := (fun k_ => P0_ k_)) hg (kepA HK) (fun k_ e_ => (HO_0.out.1 k_ e_).1)); clear HO_0; clear ho hb hg hat; have p320 : 0 ≤ (x5_1 : Int) := odA; have q320 : x5_1 < (l1.length : Int) := odA; obtain ⟨ad320, A320_3, c320_3, A320_4, c320_4, e320, hx320_0, hx320_1, hx320_2, hx320_3, hx320_4, hl320_3, hi320_3, hl320_4, hi320_4⟩ := at_T70 (Kd.C_kept_now HR1.out HK.out) x5_1 p320 q320; have HF320_3 := Aside0.mk (k70_in3 HR1.out HK.out x5_1 p320 q320 e320 hx320_3); have HF320_4 := Aside0.mk (k70_in4 HR1.out HK.out x5_1 p320 q320 e320 hx320_4); cases e320; have HR320_3 := Aside0.mk hi320_3; have HC320_3 := Aside0.mk hl320_3; clear hi320_3 hl320_3; have HR320_4 := Aside0.mk hi320_4; have HC320_4 := Aside0.mk hl320_4; clear hi320_4 hl320_4; replace p320 := eq_true p320; replace q320 := eq_true q320) | (at_builtin; refine print_append_strH (w0 := w0) w0.heap.size rfl (.tmp 20) _ 75 9 5 rfl Tryd.underlying75 Tryd.underlying9 info5 v318 y317 ((rd_T70 l1 x5_1).f0) rfl rfl ?aO ?aB ?aS ?aL ?_; (case aB => exact (belB HB)); (case aO => exact (Kd.own_of_R (by (with_reducible repeat (first | apply Kd.R_alloc | apply Kd.R_drewN | apply Kd.R_drew)); exact Kd.R_mono HO319.out (fun _ hk => hk.1)))); (case aS => exact (below_size (belB HB))); (case aL => have := LMc20.out; omega); intro v322 w27 ho0 hb hg hat; have ho := R_str_at (h1 := fun _ => rfl) (ok := (fun k_ => (P0_ k_ ∨ w.heap.size ≤ k_))) ho0 hat (fun k_ hk => (.inr (Nat.le_trans (by first | exact HK.out.1 | exact (show Kept w _ (fun k_ => P0_ k_) from kepA HK).1) hk))) (by (with_reducible repeat (first | apply Kd.R_alloc | apply Kd.R_drewN | apply Kd.R_drew)); exact Kd.R_mono HO319.out (fun _ hk => hk.1)); clear ho0; rw [← Ny321.out] at ho; change Kd.R (Kd.int .u8) 5 w27 w0.heap.size (fun k_ => (P0_ k_ ∨ w.heap.size ≤ k_)) v322 y321 at ho; have HO323 := Aside0.mk (ho); replace HB := Aside0.mk (hb); replace HK := Aside0.mk (Kept.of_grown (S := (fun k_ => P0_ k_)) hg (kepA HK) (fun k_ e_ => (HO319.out.1 k_ e_).1)); clear HO319; clear ho hb hg hat) | ((with_reducible refine gate_dst (N := 27) rfl ?_); refine Kd.R_lit (Kd.int .u8) _ 5 ?hg (N := 27) ?hd (xs := ([58, 32] : List Int)) (inner := [.int .u8 58, .int .u8 32]) (ok := fun _ => True) (okp := fun _ => True) ?hr ?hp (fun _ hk => hk) trivial (Below.refl _ _) (Nat.le_refl _) (by simp) ?_; (case hd => rfl); (case hg => rfl); (case hr => first | (go_simp; done) | (go_simp; rfl)); (case hp => exact (Reps.one (show Kd.M (Kd.int .u8) _ _ _ 58 [.int .u8 58] from rfl) (Reps.one (show Kd.M (Kd.int .u8) _ _ _ 32 [.int .u8 32] from rfl) (Reps.none _ _)))); intro v325 w28 ho29 hb hg_ hnew_; clear hg_ hnew_; (first | rw [← Ny324.out] at ho29 | (simp only [Int.reduceToNat] at ho29; rw [← Ny324.out] at ho29)); have HO326 := Aside0.mk (Kd.R_lower (Kd.R_new' (Kd.R_newM (M := fun k_ => (P0_ k_ ∨ w.heap.size ≤ k_)) ho29 (by first | exact HK.out.1 | exact (show Kept w _ (fun k_ => P0_ k_) from kepA HK).1) (fun k_ h_ => .inr h_)) (Kd.R_lt (kdB HO323))) (below_size (belB HB))); replace HO323 := Aside0.mk (Kd.R_elder' (kdB HO323) (Kd.R_base ho29) hb); replace HK := Aside0.mk (Kept.below (S := (fun k_ => P0_ k_)) (kepA HK) hb); replace HB := Aside0.mk (below_step (belB HB) hb); clear hb ho29; obtain ⟨Ao31, co31, eo31⟩ := Kd.R_slice HO326.out; subst eo31) | ((with_reducible refine gate_builtin (b := .append) (xs := #[.tmp 26, .tmp 27]) rfl ?_); at_builtin; refine Kd.R_append_rows (Kd.int .u8) (w0 := w0) w0.heap.size rfl (.tmp 26) (.tmp 27) 75 5 (.int .u8 0) 1 rfl Tryd.underlying75 info5 rfl (by decide) (by omega) v322 y321 y324 _ _ _ (fun k_ => (P0_ k_ ∨ w.heap.size ≤ k_) ∧ some k_ ≠ (.slice Ao31 y324.length co31 : Value).ownBlock) (fun _ => False) rfl rfl ?aO ?aR (fun _ _ h => h) (fun _ h => h.elim) ?aF ?aB ?aS ?aL ?_; (case aR => repeat (first | exact (Kd.R_reads' HO326.out).2.2 | (with_reducible refine Kd.C_alloc ?_ _) | (with_reducible refine Kd.C_drewN ?_ _) | (with_reducible refine Kd.C_drew ?_))); (case aB => exact (belB HB)); (case aF => exact (fun k_ hk => ⟨(.inr (Nat.le_trans (by first | exact HK.out.1 | exact (show Kept w _ (fun k_ => P0_ k_) from kepA HK).1) hk)), Kd.fresh' (Kd.R_lt (kdB HO326)) k_ hk⟩)); (case aO => exact (kdB HO323)); (case aS => exact (below_size (belB HB))); (case aL => have := LMc21.out; omega); intro v328 w30 ho hb hg hat; rw [← Ny327.out] at ho; have HO329 := Aside0.mk (ho); replace HO326 := Aside0.mk (Kd.R_after (ok := (fun k_ => (P0_ k_ ∨ w.heap.size ≤ k_))) (by (with_reducible repeat (first | apply Kd.R_alloc | apply Kd.R_drewN | apply Kd.R_drew)); exact Kd.R_mono HO326.out (fun _ hk => ⟨hk.1.1, hk.2⟩)) hg hat); replace HB := Aside0.mk (hb); replace HK := Aside0.mk (Kept.of_grown (S := (fun k_ => P0_ k_)) hg (kepA HK) (fun k_ e_ => (HO323.out.1 k_ e_).1)); clear HO323; clear ho hb hg hat; have p330 : 0 ≤ (x5_1 : Int) := odA; have q330 : x5_1 < (l1.length : Int) := odA; obtain ⟨ad330, A330_3, c330_3, A330_4, c330_4, e330, hx330_0, hx330_1, hx330_2, hx330_3, hx330_4, hl330_3, hi330_3, hl330_4, hi330_4⟩ := at_T70 (Kd.C_kept_now HR1.out HK.out) x5_1 p330 q330; have HF330_3 := Aside0.mk (k70_in3 HR1.out HK.out x5_1 p330 q330 e330 hx330_3); have HF330_4 := Aside0.mk (k70_in4 HR1.out HK.out x5_1 p330 q330 e330 hx330_4); obtain rfl : ad320 = ad330 := (by injection e330); have HR330_3 := Aside0.mk hi330_3; have HC330_3 := Aside0.mk hl330_3; clear hi330_3 hl330_3; have HR330_4 := Aside0.mk hi330_4; have HC330_4 := Aside0.mk hl330_4; clear hi330_4 hl330_4; replace p330 := eq_true p330; replace q330 := eq_true q330; obtain ⟨Ao32, co32, eo32⟩ := Kd.R_slice HO329.out; subst eo32) | ((with_reducible refine gate_callee (f := 55) rfl ?_); refine goesL_ (some 35) rfl rfl Tryd.func55 (by kernel_rfl) rfl #[.slice Ao32 y327.length co32, .agg #[.int .i64 ((rd_T70 l1 x5_1).f1.f0), .string ((rd_T70 l1 x5_1).f1.f1), .slice A330_3 ((rd_T70 l1 x5_1).f1.f2).length c330_3, .slice A330_4 ((rd_T70 l1 x5_1).f1.f3).length c330_4]] rfl mapA ?_; (with_reducible refine (spec_l07Say.calls k1 (fun k_ => some k_ = (.slice Ao32 y327.length co32 : Value).ownBlock) (.slice Ao32 y327.length co32) y327 ((rd_T70 l1 x5_1).f1.f0) ((rd_T70 l1 x5_1).f1.f1) _ _ ((rd_T70 l1 x5_1).f1.f2) _ _ ((rd_T70 l1 x5_1).f1.f3) t331 w0 _ ?side1 ?side2 ?side3 ?side4 ?side5 ?side6 A22.out).mono ?_); (case side1 => repeat (first | (with_reducible first | exact HB.out | apply below_alloc | apply pw_below_drewN | apply below_drew1) | exact HB.out)); (case side2 => exact Kd.R_tight rfl HO329.out); (case side3 => exact Kd.C_kept_call HF330_3.out (kepA HK) (fun k_ hs_ => (fun e_ => (HO329.out.1 k_ e_.symm).1) hs_)); (case side4 => exact HC330_3.out); (case side5 => exact Kd.C_kept_call HF330_4.out (kepA HK) (fun k_ hs_ => (fun e_ => (HO329.out.1 k_ e_.symm).1) hs_)); (case side6 => exact HC330_4.out); rintro e w33 ⟨v332, rfl, ho0, hb, hkp⟩; refine ⟨_, rfl, ?_⟩; have HO333 := Aside0.mk (Kd.R_mono (ok' := fun k_ => (P0_ k_ ∨ w.heap.size ≤ k_) ∧ some k_ ≠ (.slice Ao31 y324.length co31 : Value).ownBlock) ho0 (fun k_ hk_ => ⟨Or.elim hk_ (fun hs_ => (HO329.out.1 k_ (hs_).symm).1) (fun hn_ => (.inr (Nat.le_trans (by first | exact HK.out.1 | exact (show Kept w _ (fun k_ => P0_ k_) from kepA HK).1) hn_))), Or.elim hk_ (fun hs_ => fun e_ => (((HO326.out).1 k_ e_.symm).2) hs_) (fun hn_ => (Kd.fresh' (Kd.R_lt (kdB HO326)) k_ hn_))⟩)); replace HO326 := Aside0.mk (Kd.R_mono (ok' := fun k_ => (P0_ k_ ∨ w.heap.size ≤ k_) ∧ some k_ ≠ (v332 : Value).ownBlock) (Kd.R_keptB (HO326.out) hkp (fun k_ hk_ hs_ => (hk_.2) hs_)) (fun k_ hk_ => ⟨hk_.1.1, fun e_ => Or.elim (ho0.1 k_ e_.symm) (fun hs_ => hk_.2.1 hs_) (fun hn_ => Nat.not_le.2 hk_.2.2 hn_)⟩)); replace HK := Aside0.mk (Kept.then_ (S := (fun k_ => P0_ k_)) (kepA HK) hkp (fun k_ hs_ => (fun e_ => (HO329.out.1 k_ e_.symm).1) hs_)); replace HB := Aside0.mk (hb); clear HO329; (try clear hb); (try clear hkp); (try clear ho0)))
         go_roundg k1
         case measure => have := HK1.out; omega
         case rel => exact ⟨(t331), (wrap64 (x5_1 + 1)), enA, H', ⟨by have := HK1.out; omega⟩, ⟨by (with_reducible repeat (first | apply Kd.R_alloc | apply Kd.R_drewN | apply Kd.R_drew)); exact Kd.R_mono HO333.out (fun _ hk => hk.1)⟩, ⟨kepA HK⟩, ⟨belB HB⟩⟩
        ·rw [if_neg c21] at H
         exact absurd H (by simp)
       ·rw [if_neg c20] at H
        exact absurd H (by simp)
      ·rw [if_neg c19] at H
       exact absurd H (by simp)
     ·rw [if_neg c18] at H
      exact absurd H (by simp)
   ·rw [if_neg c3] at H; have c3b0 := decide_eq_false c3; clear c3
    by_cases c34 : (l1.length : Int) > 0
    ·rw [if_pos c34] at H; have c34b0 := decide_eq_true c34
     have c34b1 : decide (0 < l1.length) = true := decide_eq_true (by omega)
     clear c34
     by_cases c35 : x0_1.length < 140737488355328
     ·rw [if_pos c35] at H; have LMc35 := Aside0.mk c35; clear c35
      obtain ⟨y334, hy334⟩ : ∃ y_ : List Int, y_ = (x0_1 ++ [41]) := ⟨_, rfl⟩
      replace H : (some y334) = some r := reA H hy334; have Ny334 := Aside0.mk hy334; clear hy334; obtain rfl := Option.some.inj H
      go_wp2_with (first | ((with_reducible refine gate_builtin (b := .append) (xs := #[.tmp 39, .tmp 40]) rfl ?_); at_builtin; refine Kd.R_append (Kd.int .u8) (w0 := w0) w0.heap.size rfl (.tmp 39) (.tmp 40) 75 5 (.int .u8 0) 1 rfl Tryd.underlying75 info5 rfl (by decide) (by omega) u0 x0_1 41 [.int .u8 41] (fun k_ => (P0_ k_ ∨ w.heap.size ≤ k_)) (fun _ => False) rfl rfl ?aP (fun _ hk => hk.elim) ?aF ?aO ?aB ?aS ?aL ?_; (case aP => exact rfl); (case aB => exact (belB HB)); (case aF => exact (fun k_ hk => (.inr (Nat.le_trans (by first | exact HK.out.1 | exact (show Kept w _ (fun k_ => P0_ k_) from kepA HK).1) hk)))); (case aO => exact (kdB HO_0)); (case aS => exact (below_size (belB HB))); (case aL => have := LMc35.out; omega); intro v335 w36 ho hb hg hat; rw [← Ny334.out] at ho; have HO336 := Aside0.mk (ho); replace HB := Aside0.mk (hb); replace HK := Aside0.mk (Kept.of_grown (S := (fun k_ => P0_ k_)) hg (kepA HK) (fun k_ e_ => (HO_0.out.1 k_ e_))); clear HO_0; clear ho hb hg hat))
      go_ret
      exact ⟨_, erA, kdB HO336, belB HB, kepA HK⟩
     ·rw [if_neg c35] at H
      exact absurd H (by simp)
    ·rw [if_neg c34] at H; have c34b0 := decide_eq_false c34
     have c34b1 : decide (0 < l1.length) = false := decide_eq_false (by omega)
     clear c34; obtain rfl := Option.some.inj H
     go_wp2
     go_ret
     exact ⟨_, erA, kdB HO_0, belB HB, kepA HK⟩

def spec_ArgsText.f (k : Nat) (l0 : List (S70)) : Option (ByteArray) := (spec_ArgsOk.f k l0).bind fun t337 => (if t337 = true then ((spec_l10Say.f k (([] : List Int)) l0).bind fun t341 => (some (strOfNums t341))) else (some (⟨#[]⟩ : ByteArray)))
theorem spec_ArgsText.mono : ∀ a0 k, LeO (spec_ArgsText.f k a0) (spec_ArgsText.f (k + 1) a0) := by
 intro a0 k; unfold spec_ArgsText.f
 repeat' first
   | (with_reducible first | exact spec_ArgsOk.mono _ _ | exact spec_l10Say.mono _ _ _ | exact LeO.refl _ | exact LeO.none _ | refine LeO.ite ?_ ?_ | refine LeO.bind ?_ (fun _ => ?_))
   | exact spec_ArgsOk.mono _ _ | exact spec_l10Say.mono _ _ _ | exact LeO.none _ | refine LeO.ite ?_ ?_ | refine LeO.bind ?_ (fun _ => ?_)
set_option maxHeartbeats 8000000 in
set_option maxRecDepth 100000 in
theorem spec_ArgsText.calls (k : Nat) (A0 : Option Addr) (c0 : Nat) (l0 : List (S70)) (r : ByteArray) (w : World) (hr0 : Kd.C k70 w A0 l0.length l0) (hc0 : l0.length ≤ c0) (h : spec_ArgsText.f k l0 = some r) :
  Calls Tryd.prog 30 #[.slice A0 l0.length c0] w fun e w' => e = .returned (.string r) ∧ Below w.heap.size w w' := by
 have HR0 := Aside0.mk hr0; have HC0 := Aside0.mk hc0; clear hr0 hc0; have HB := Aside0.mk (Below.refl w.heap.size w); have H : ((spec_ArgsOk.f k l0).bind fun t337 => (if t337 = true then ((spec_l10Say.f k (([] : List Int)) l0).bind fun t341 => (some (strOfNums t341))) else (some (⟨#[]⟩ : ByteArray)))) = some r := h; clear h; replace H := Option.bind_eq_some_iff.mp H; obtain ⟨t337, A20, H⟩ := H; replace H : (if t337 = true then ((spec_l10Say.f k (([] : List Int)) l0).bind fun t341 => (some (strOfNums t341))) else (some (⟨#[]⟩ : ByteArray))) = some r := H; have A2 := Aside0.mk A20; clear A20
 by_cases c3 : t337 = true
 ·subst c3
  have H1 : ((spec_l10Say.f k (([] : List Int)) l0).bind fun t341 => (some (strOfNums t341))) = some r := by rw [if_pos rfl] at H; exact H
  clear H; have H := H1; clear H1
  obtain ⟨y338, hy338⟩ : ∃ y_ : List Int, y_ = (([] : List Int)) := ⟨_, rfl⟩
  replace H : ((spec_l10Say.f k y338 l0).bind fun t341 => (some (strOfNums t341))) = some r := reA H hy338; have Ny338 := Aside0.mk hy338; clear hy338; replace H := Option.bind_eq_some_iff.mp H; obtain ⟨t341, A40, H⟩ := H; replace H : (some (strOfNums t341)) = some r := H; have A4 := Aside0.mk A40; clear A40; obtain rfl := Option.some.inj H
  go_enter Tryd.func30, Tryd.ntmps30
  go_wp2_with (first | ((with_reducible refine gate_callee (f := 19) rfl ?_); refine goesL_ (some 4) rfl rfl Tryd.func19 (by kernel_rfl) rfl #[.slice A0 l0.length c0] rfl mapA ?_; (with_reducible refine (spec_ArgsOk.calls k _ _ l0 true _ ?side1 ?side2 A2.out).mono ?_); (case side1 => repeat (first | exact HR0.out | (with_reducible refine Kd.C_alloc ?_ _) | (with_reducible refine Kd.C_drewN ?_ _) | (with_reducible refine Kd.C_drew ?_))); (case side2 => exact HC0.out); rintro e w5 ⟨rfl, hb⟩; refine ⟨_, rfl, ?_⟩; replace HB := Aside0.mk (below_step (belB HB) hb); (try clear hb)) | ((with_reducible refine gate_dst (N := 6) rfl ?_); refine Kd.R_lit (Kd.int .u8) _ 5 ?hg (N := 6) ?hd (xs := ([] : List Int)) (inner := []) (ok := fun _ => True) (okp := fun _ => True) ?hr ?hp (fun _ hk => hk) trivial (Below.refl _ _) (Nat.le_refl _) (by simp) ?_; (case hd => rfl); (case hg => rfl); (case hr => first | (go_simp; done) | (go_simp; rfl)); (case hp => exact (Reps.none _ _)); intro v339 w6 ho7 hb hg_ hnew_; clear hg_ hnew_; (first | rw [← Ny338.out] at ho7 | (simp only [Int.reduceToNat] at ho7; rw [← Ny338.out] at ho7)); have HO340 := Aside0.mk (Kd.R_lower ho7 (below_size (belB HB))); replace HB := Aside0.mk (below_step (belB HB) hb); clear hb ho7; obtain ⟨Ao8, co8, eo8⟩ := Kd.R_slice HO340.out; subst eo8) | ((with_reducible refine gate_callee (f := 62) rfl ?_); refine goesL_ (some 8) rfl rfl Tryd.func62 (by kernel_rfl) rfl #[.slice Ao8 y338.length co8, .slice A0 l0.length c0] rfl mapA ?_; (with_reducible refine (spec_l10Say.calls k (fun k_ => some k_ = (.slice Ao8 y338.length co8 : Value).ownBlock) (.slice Ao8 y338.length co8) y338 _ _ l0 t341 w _ ?side1 ?side2 ?side3 ?side4 A4.out).mono ?_); (case side1 => repeat (first | (with_reducible first | exact HB.out | apply below_alloc | apply pw_below_drewN | apply below_drew1) | exact HB.out)); (case side2 => exact Kd.R_tight rfl HO340.out); (case side3 => exact Kd.C_kept_came k70_heap HR0.out (belB HB) (fun k_ hs_ => (fun e_ => Kd.R_base HO340.out k_ e_.symm) hs_)); (case side4 => exact HC0.out); rintro e w9 ⟨v342, rfl, ho0, hb, hkp⟩; refine ⟨_, rfl, ?_⟩; have HO343 := Aside0.mk (Kd.R_mono (ok' := fun k_ => True) ho0 (fun k_ hk_ => trivial)); replace HB := Aside0.mk (hb); clear HO340; (try clear hb); (try clear hkp); (try clear ho0); have hcv10 := own_string (P := Tryd.prog) Tryd.underlying75 Tryd.underlying5 Tryd.underlying9 (Kd.own_of_R HO343.out)))
  go_ret
  exact ⟨erA, belB HB⟩
 ·replace c3 := Bool.eq_false_iff.mpr c3; subst c3
  have H1 : (some (⟨#[]⟩ : ByteArray)) = some r := by rw [if_neg (show ¬ (false = true) by decide)] at H; exact H
  clear H; have H := H1; clear H1; obtain rfl := Option.some.inj H
  go_enter Tryd.func30, Tryd.ntmps30
  go_wp2_with (first | ((with_reducible refine gate_callee (f := 19) rfl ?_); refine goesL_ (some 4) rfl rfl Tryd.func19 (by kernel_rfl) rfl #[.slice A0 l0.length c0] rfl mapA ?_; (with_reducible refine (spec_ArgsOk.calls k _ _ l0 false _ ?side1 ?side2 A2.out).mono ?_); (case side1 => repeat (first | exact HR0.out | (with_reducible refine Kd.C_alloc ?_ _) | (with_reducible refine Kd.C_drewN ?_ _) | (with_reducible refine Kd.C_drew ?_))); (case side2 => exact HC0.out); rintro e w11 ⟨rfl, hb⟩; refine ⟨_, rfl, ?_⟩; replace HB := Aside0.mk (below_step (belB HB) hb); (try clear hb)))
  go_ret
  exact ⟨erA, belB HB⟩

def impl_in.f (a0 : Int) (a1 : Int) (a2 : Int) : Option (Bool) := if a0 ≥ a1 then (some (decide (a0 ≤ a2))) else (some false)
set_option maxHeartbeats 8000000 in
set_option maxRecDepth 100000 in
theorem impl_in.calls (a0 : Int) (a1 : Int) (a2 : Int) (r : Bool) (w : World) (h : impl_in.f a0 a1 a2 = some r) :
  Calls Tryd.prog 71 #[.int .i64 a0, .int .i64 a1, .int .i64 a2] w fun e w' => e = .returned (.bool r) ∧ Drawn0 w w' := by
 have H : (if a0 ≥ a1 then (some (decide (a0 ≤ a2))) else (some false)) = some r := h; clear h
 by_cases c4 : a0 ≥ a1
 ·rw [if_pos c4] at H; have c4b0 := decide_eq_true c4; clear c4; obtain rfl := Option.some.inj H
  go_enter Tryd.func71, Tryd.ntmps71
  go_wp2
  go_ret
  exact ⟨enA, drA⟩
 ·rw [if_neg c4] at H; have c4b0 := decide_eq_false c4; clear c4; obtain rfl := Option.some.inj H
  go_enter Tryd.func71, Tryd.ntmps71
  go_wp2
  go_ret
  exact ⟨enA, drA⟩

def impl_isFigure.f (a0 : Int) : Option (Bool) := if a0 ≥ 48 then (some (decide (a0 ≤ 57))) else (some false)
set_option maxHeartbeats 8000000 in
set_option maxRecDepth 100000 in
theorem impl_isFigure.calls (a0 : Int) (r : Bool) (w : World) (h : impl_isFigure.f a0 = some r) :
  Calls Tryd.prog 72 #[.int .u8 a0] w fun e w' => e = .returned (.bool r) ∧ Drawn0 w w' := by
 have H : (if a0 ≥ 48 then (some (decide (a0 ≤ 57))) else (some false)) = some r := h; clear h
 by_cases c2 : a0 ≥ 48
 ·rw [if_pos c2] at H; have c2b0 := decide_eq_true c2; clear c2; obtain rfl := Option.some.inj H
  go_enter Tryd.func72, Tryd.ntmps72
  go_wp2
  go_ret
  exact ⟨enA, drA⟩
 ·rw [if_neg c2] at H; have c2b0 := decide_eq_false c2; clear c2; obtain rfl := Option.some.inj H
  go_enter Tryd.func72, Tryd.ntmps72
  go_wp2
  go_ret
  exact ⟨enA, drA⟩

def impl_isLetter.f (a0 : Int) : Option (Bool) := if a0 ≥ 97 then (if a0 ≤ 122 then (some true) else (if a0 ≥ 65 then (some (decide (a0 ≤ 90))) else (some false))) else (if a0 ≥ 65 then (some (decide (a0 ≤ 90))) else (some false))
set_option maxHeartbeats 8000000 in
set_option maxRecDepth 100000 in
theorem impl_isLetter.calls (a0 : Int) (r : Bool) (w : World) (h : impl_isLetter.f a0 = some r) :
  Calls Tryd.prog 94 #[.int .u8 a0] w fun e w' => e = .returned (.bool r) ∧ Drawn0 w w' := by
 have H : (if a0 ≥ 97 then (if a0 ≤ 122 then (some true) else (if a0 ≥ 65 then (some (decide (a0 ≤ 90))) else (some false))) else (if a0 ≥ 65 then (some (decide (a0 ≤ 90))) else (some false))) = some r := h; clear h
 by_cases c2 : a0 ≥ 97
 ·rw [if_pos c2] at H; have c2b0 := decide_eq_true c2; clear c2
  by_cases c3 : a0 ≤ 122
  ·rw [if_pos c3] at H; have c3b0 := decide_eq_true c3; clear c3; obtain rfl := Option.some.inj H
   go_enter Tryd.func94, Tryd.ntmps94
   go_wp2
   go_ret
   exact ⟨enA, drA⟩
  ·rw [if_neg c3] at H; have c3b0 := decide_eq_false c3; clear c3
   by_cases c4 : a0 ≥ 65
   ·rw [if_pos c4] at H; have c4b0 := decide_eq_true c4; clear c4; obtain rfl := Option.some.inj H
    go_enter Tryd.func94, Tryd.ntmps94
    go_wp2
    go_ret
    exact ⟨enA, drA⟩
   ·rw [if_neg c4] at H; have c4b0 := decide_eq_false c4; clear c4; obtain rfl := Option.some.inj H
    go_enter Tryd.func94, Tryd.ntmps94
    go_wp2
    go_ret
    exact ⟨enA, drA⟩
 ·rw [if_neg c2] at H; have c2b0 := decide_eq_false c2; clear c2
  by_cases c5 : a0 ≥ 65
  ·rw [if_pos c5] at H; have c5b0 := decide_eq_true c5; clear c5; obtain rfl := Option.some.inj H
   go_enter Tryd.func94, Tryd.ntmps94
   go_wp2
   go_ret
   exact ⟨enA, drA⟩
  ·rw [if_neg c5] at H; have c5b0 := decide_eq_false c5; clear c5; obtain rfl := Option.some.inj H
   go_enter Tryd.func94, Tryd.ntmps94
   go_wp2
   go_ret
   exact ⟨enA, drA⟩

def impl_inName.f (a0 : Int) : Option (Bool) := (impl_isLetter.f a0).bind fun t344 => (if t344 = true then (some true) else ((impl_isFigure.f a0).bind fun t345 => (if t345 = true then (some true) else (some (a0 == 95)))))
set_option maxHeartbeats 8000000 in
set_option maxRecDepth 100000 in
theorem impl_inName.calls (a0 : Int) (r : Bool) (w : World) (h : impl_inName.f a0 = some r) :
  Calls Tryd.prog 73 #[.int .u8 a0] w fun e w' => e = .returned (.bool r) ∧ Drawn0 w w' := by
 have H : ((impl_isLetter.f a0).bind fun t344 => (if t344 = true then (some true) else ((impl_isFigure.f a0).bind fun t345 => (if t345 = true then (some true) else (some (a0 == 95)))))) = some r := h; clear h; replace H := Option.bind_eq_some_iff.mp H; obtain ⟨t344, A20, H⟩ := H; replace H : (if t344 = true then (some true) else ((impl_isFigure.f a0).bind fun t345 => (if t345 = true then (some true) else (some (a0 == 95))))) = some r := H; have A2 := Aside0.mk A20; clear A20
 by_cases c3 : t344 = true
 ·subst c3
  have H1 : (some true) = some r := by rw [if_pos rfl] at H; exact H
  clear H; have H := H1; clear H1; obtain rfl := Option.some.inj H
  go_enter Tryd.func73, Tryd.ntmps73
  go_wp2_with (first | ((with_reducible refine gate_callee (f := 94) rfl ?_); refine goesL_ (some 4) rfl rfl Tryd.func94 (by kernel_rfl) rfl #[.int .u8 a0] rfl mapA ?_; (with_reducible refine (impl_isLetter.calls a0 true _ A2.out).mono ?_); rintro e w' ⟨rfl, ⟨nd, rfl⟩⟩; refine ⟨_, rfl, ?_⟩))
  go_ret
  exact ⟨enA, drA⟩
 ·replace c3 := Bool.eq_false_iff.mpr c3; subst c3
  have H1 : ((impl_isFigure.f a0).bind fun t345 => (if t345 = true then (some true) else (some (a0 == 95)))) = some r := by rw [if_neg (show ¬ (false = true) by decide)] at H; exact H
  clear H; have H := H1; clear H1; replace H := Option.bind_eq_some_iff.mp H; obtain ⟨t345, A40, H⟩ := H; replace H : (if t345 = true then (some true) else (some (a0 == 95))) = some r := H; have A4 := Aside0.mk A40; clear A40
  by_cases c5 : t345 = true
  ·subst c5
   have H1 : (some true) = some r := by rw [if_pos rfl] at H; exact H
   clear H; have H := H1; clear H1; obtain rfl := Option.some.inj H
   go_enter Tryd.func73, Tryd.ntmps73
   go_wp2_with (first | ((with_reducible refine gate_callee (f := 94) rfl ?_); refine goesL_ (some 4) rfl rfl Tryd.func94 (by kernel_rfl) rfl #[.int .u8 a0] rfl mapA ?_; (with_reducible refine (impl_isLetter.calls a0 false _ A2.out).mono ?_); rintro e w' ⟨rfl, ⟨nd, rfl⟩⟩; refine ⟨_, rfl, ?_⟩) | (go_at_call 72; (with_reducible refine (impl_isFigure.calls a0 true _ A4.out).mono ?_); rintro e w' ⟨rfl, ⟨nd, rfl⟩⟩))
   go_ret
   exact ⟨enA, drA⟩
  ·replace c5 := Bool.eq_false_iff.mpr c5; subst c5
   have H1 : (some (a0 == 95)) = some r := by rw [if_neg (show ¬ (false = true) by decide)] at H; exact H
   clear H; have H := H1; clear H1; obtain rfl := Option.some.inj H
   go_enter Tryd.func73, Tryd.ntmps73
   go_wp2_with (first | ((with_reducible refine gate_callee (f := 94) rfl ?_); refine goesL_ (some 4) rfl rfl Tryd.func94 (by kernel_rfl) rfl #[.int .u8 a0] rfl mapA ?_; (with_reducible refine (impl_isLetter.calls a0 false _ A2.out).mono ?_); rintro e w' ⟨rfl, ⟨nd, rfl⟩⟩; refine ⟨_, rfl, ?_⟩) | (go_at_call 72; (with_reducible refine (impl_isFigure.calls a0 false _ A4.out).mono ?_); rintro e w' ⟨rfl, ⟨nd, rfl⟩⟩))
   go_ret
   exact ⟨enA, drA⟩

mutual
def impl_NameOk.j0 : Nat → ByteArray → Bool → Option (Bool)
 | 0, _, _ => none
 | k + 1, x0, x12 => if x12 = true then (some false) else (impl_NameOk.l0 k x0 (x0.size : Int) 0)
def impl_NameOk.l0 : Nat → ByteArray → Int → Int → Option (Bool)
 | 0, _, _, _ => none
 | k + 1, x0, x14, x15 => if x15 < x14 then (if 0 ≤ x15 then (if x15 < (x0.size : Int) then ((impl_inName.f (bt x0 x15)).bind fun t348 => (if t348 = true then (impl_NameOk.l0 k x0 x14 (wrap64 (x15 + 1))) else (some false))) else (none)) else (none)) else (some true)
end
def impl_NameOk.f (k : Nat) (a0 : ByteArray) : Option (Bool) := (impl_in.f (a0.size : Int) 1 30).bind fun t346 => (if t346 = true then (if 0 < (a0.size : Int) then ((impl_isFigure.f (bt a0 0)).bind fun t347 => (impl_NameOk.j0 k a0 t347)) else (none)) else (impl_NameOk.j0 k a0 true))
theorem impl_NameOk.mono_l : ∀ k, (∀ y0 y1, LeO (impl_NameOk.j0 k y0 y1) (impl_NameOk.j0 (k + 1) y0 y1)) ∧ (∀ y0 y1 y2, LeO (impl_NameOk.l0 k y0 y1 y2) (impl_NameOk.l0 (k + 1) y0 y1 y2))
 | 0 => ⟨fun _ _ r h => by simp [impl_NameOk.j0] at h, fun _ _ _ r h => by simp [impl_NameOk.l0] at h⟩
 | k + 1 => by
  obtain ⟨ih0, ih1⟩ := impl_NameOk.mono_l k; refine ⟨?_, ?_⟩
  ·intro y0 y1; unfold impl_NameOk.j0
   repeat' first
   | (with_reducible first | exact ih0 _ _ | exact ih1 _ _ _ | exact LeO.refl _ | exact LeO.none _ | refine LeO.ite ?_ ?_ | refine LeO.bind ?_ (fun _ => ?_))
   | exact ih0 _ _ | exact ih1 _ _ _ | exact LeO.none _ | refine LeO.ite ?_ ?_ | refine LeO.bind ?_ (fun _ => ?_)
  ·intro y0 y1 y2; unfold impl_NameOk.l0
   repeat' first
   | (with_reducible first | exact ih0 _ _ | exact ih1 _ _ _ | exact LeO.refl _ | exact LeO.none _ | refine LeO.ite ?_ ?_ | refine LeO.bind ?_ (fun _ => ?_))
   | exact ih0 _ _ | exact ih1 _ _ _ | exact LeO.none _ | refine LeO.ite ?_ ?_ | refine LeO.bind ?_ (fun _ => ?_)
theorem impl_NameOk.mono : ∀ a0 k, LeO (impl_NameOk.f k a0) (impl_NameOk.f (k + 1) a0) := by
 intro a0 k; obtain ⟨ih0, ih1⟩ := impl_NameOk.mono_l k; unfold impl_NameOk.f
 repeat' first
   | (with_reducible first | exact ih0 _ _ | exact ih1 _ _ _ | exact LeO.refl _ | exact LeO.none _ | refine LeO.ite ?_ ?_ | refine LeO.bind ?_ (fun _ => ?_))
   | exact ih0 _ _ | exact ih1 _ _ _ | exact LeO.none _ | refine LeO.ite ?_ ?_ | refine LeO.bind ?_ (fun _ => ?_)
set_option maxHeartbeats 8000000 in
set_option maxRecDepth 100000 in
theorem impl_NameOk.calls (k : Nat) (a0 : ByteArray) (r : Bool) (w : World) (h : impl_NameOk.f k a0 = some r) :
  Calls Tryd.prog 38 #[.string a0] w fun e w' => e = .returned (.bool r) ∧ Drawn0 w w' := by
 have H : ((impl_in.f (a0.size : Int) 1 30).bind fun t346 => (if t346 = true then (if 0 < (a0.size : Int) then ((impl_isFigure.f (bt a0 0)).bind fun t347 => (impl_NameOk.j0 k a0 t347)) else (none)) else (impl_NameOk.j0 k a0 true))) = some r := h; clear h; have HC2 := Aside0.mk H; clear H
 go_enter Tryd.func38, Tryd.ntmps38
 go_upto_region 1 with (fail)
 go_cut [12] (fun v12 wc => ∃ (kq : Nat) (x12_1 : Bool), v12 = .bool x12_1 ∧ Aside0 (impl_NameOk.j0 kq a0 x12_1 = some r) ∧ Aside0 (kq ≤ k) ∧ Drawn0 w wc)
 case first =>
  have H := HC2.out; clear HC2; replace H := Option.bind_eq_some_iff.mp H; obtain ⟨t346, A30, H⟩ := H; replace H : (if t346 = true then (if 0 < (a0.size : Int) then ((impl_isFigure.f (bt a0 0)).bind fun t347 => (impl_NameOk.j0 k a0 t347)) else (none)) else (impl_NameOk.j0 k a0 true)) = some r := H; have A3 := Aside0.mk A30; clear A30
  by_cases c4 : t346 = true
  ·subst c4
   have H1 : (if 0 < (a0.size : Int) then ((impl_isFigure.f (bt a0 0)).bind fun t347 => (impl_NameOk.j0 k a0 t347)) else (none)) = some r := by rw [if_pos rfl] at H; exact H
   clear H; have H := H1; clear H1
   by_cases c5 : 0 < (a0.size : Int)
   ·rw [if_pos c5] at H; have c5b0 := decide_eq_true c5
    have c5b1 : decide (0 < a0.size) = true := decide_eq_true (by omega)
    clear c5
    (first | rw [c5b0] | (simp only [i64_w, i32_w]; rw [c5b0]) | skip)
    replace H := Option.bind_eq_some_iff.mp H; obtain ⟨t347, A70, H⟩ := H; replace H : (impl_NameOk.j0 k a0 t347) = some r := H; have A7 := Aside0.mk A70; clear A70
    have H' := Aside0.mk H
    clear H
    go_wp2_with (first | ((with_reducible refine gate_callee (f := 71) rfl ?_); refine goesL_ (some 6) rfl rfl Tryd.func71 (by kernel_rfl) rfl #[.int .i64 (a0.size : Int), .int .i64 1, .int .i64 30] rfl mapA ?_; (with_reducible refine (impl_in.calls (a0.size : Int) 1 30 true _ A3.out).mono ?_); rintro e w' ⟨rfl, ⟨nd, rfl⟩⟩; refine ⟨_, rfl, ?_⟩; have p6 : 0 ≤ (0 : Int) := (by omega); have q6 : 0 < a0.size := (by have : (0 : Int) < (a0.size : Int) := odA; omega); have hx6 : ∀ h : 0 < a0.size, ((a0[0]'h).toNat : Int) = bt a0 0 := bt_at a0 0; clear p6; have qi6 : (0 < (a0.size : Int)) = True := eq_true odA; replace q6 := eq_true q6) | (go_at_call 72; (with_reducible refine (impl_isFigure.calls (bt a0 0) t347 _ A7.out).mono ?_); rintro e w' ⟨rfl, ⟨nd, rfl⟩⟩))
    go_meet
    case rel => exact ⟨_, (t347), enA, H', ⟨by first | omega | exact Nat.le_refl _⟩, drA⟩
   ·rw [if_neg c5] at H
    exact absurd H (by simp)
  ·replace c4 := Bool.eq_false_iff.mpr c4; subst c4
   have H1 : (impl_NameOk.j0 k a0 true) = some r := by rw [if_neg (show ¬ (false = true) by decide)] at H; exact H
   clear H; have H := H1; clear H1
   have H' := Aside0.mk H
   clear H
   go_wp2_with (first | ((with_reducible refine gate_callee (f := 71) rfl ?_); refine goesL_ (some 6) rfl rfl Tryd.func71 (by kernel_rfl) rfl #[.int .i64 (a0.size : Int), .int .i64 1, .int .i64 30] rfl mapA ?_; (with_reducible refine (impl_in.calls (a0.size : Int) 1 30 false _ A3.out).mono ?_); rintro e w' ⟨rfl, ⟨nd, rfl⟩⟩; refine ⟨_, rfl, ?_⟩))
   go_meet
   case rel => exact ⟨_, (true), enA, H', ⟨by first | omega | exact Nat.le_refl _⟩, drA⟩
 case rest =>
  clear HC2
  try clear p2
  try clear c3
  try clear c4
  try clear c5
  try clear c5b0
  try clear c5b1
  try clear p6
  try clear q6
  try clear hx6
  try clear qi6
  try clear c7
  try clear p6
  try clear q6
  obtain ⟨kq, x12_1, rfl, HA, HJ1, ⟨mc1, rfl⟩⟩ := hcut
  cases kq with
  | zero => exact absurd HA.out (by simp [impl_NameOk.j0])
  | succ kj1 =>
   have H := HA.out; clear HA
   simp only [impl_NameOk.j0] at H
   by_cases c8 : x12_1 = true
   ·subst c8
    have H1 : (some false) = some r := by rw [if_pos rfl] at H; exact H
    clear H; have H := H1; clear H1; obtain rfl := Option.some.inj H
    go_wp2
    go_ret
    exact ⟨enA, drA⟩
   ·replace c8 := Bool.eq_false_iff.mpr c8; subst c8
    have H1 : (impl_NameOk.l0 kj1 a0 (a0.size : Int) 0) = some r := by rw [if_neg (show ¬ (false = true) by decide)] at H; exact H
    clear H; have H := H1; clear H1
    have H' := Aside0.mk H
    clear H
    go_wp2
    go_loopg [15] kj1 (fun kq v15 w' => ∃ (x15_2 : Int), v15 = .int .i64 x15_2 ∧ Aside0 (impl_NameOk.l0 kq a0 (a0.size : Int) x15_2 = some r) ∧ Aside0 (kq ≤ kj1) ∧ Drawn0 w w')
    case atStart => exact ⟨(0), enA, H', ⟨Nat.le_refl _⟩, drA⟩
    case round =>
     clear H'
     try clear c1
     try clear p2
     try clear c3
     try clear c4
     try clear c5
     try clear c5b0
     try clear c5b1
     try clear p6
     try clear q6
     try clear hx6
     try clear qi6
     try clear c7
     try clear c8
     try clear p2
     try clear p6
     try clear q6
     obtain ⟨x15_2, rfl, HA, HK2, ⟨m2, rfl⟩⟩ := hrel
     cases gk with
     | zero => exact absurd HA.out (by simp [impl_NameOk.l0])
     | succ k2 =>
      have H := HA.out; clear HA
      simp only [impl_NameOk.l0] at H
      by_cases c9 : x15_2 < (a0.size : Int)
      ·rw [if_pos c9] at H; have c9b0 := decide_eq_true c9; clear c9
       by_cases c10 : 0 ≤ x15_2
       ·rw [if_pos c10] at H; have c10b0 := decide_eq_true c10; clear c10
        by_cases c11 : x15_2 < (a0.size : Int)
        ·rw [if_pos c11] at H; have c11b0 := decide_eq_true c11; clear c11; replace H := Option.bind_eq_some_iff.mp H; obtain ⟨t348, A130, H⟩ := H; replace H : (if t348 = true then (impl_NameOk.l0 k2 a0 (a0.size : Int) (wrap64 (x15_2 + 1))) else (some false)) = some r := H; have A13 := Aside0.mk A130; clear A130
         by_cases c14 : t348 = true
         ·subst c14
          have H1 : (impl_NameOk.l0 k2 a0 (a0.size : Int) (wrap64 (x15_2 + 1))) = some r := by rw [if_pos rfl] at H; exact H
          clear H; have H := H1; clear H1
          have H' := Aside0.mk H
          clear H; have p12 : 0 ≤ (x15_2 : Int) := odA; have q12 : x15_2 < (a0.size : Int) := odA; have hx12 := bt_at a0 x15_2; replace p12 := eq_true p12; replace q12 := eq_true q12
          go_wp2_with (first | ((with_reducible refine gate_callee (f := 73) rfl ?_); refine goesL_ (some 21) rfl rfl Tryd.func73 (by kernel_rfl) rfl #[.int .u8 (bt a0 x15_2)] rfl mapA ?_; (with_reducible refine (impl_inName.calls (bt a0 x15_2) true _ A13.out).mono ?_); rintro e w' ⟨rfl, ⟨nd, rfl⟩⟩; refine ⟨_, rfl, ?_⟩))
          go_roundg k2
          case measure => have := HJ1.out; have := HK2.out; omega
          case rel => exact ⟨(wrap64 (x15_2 + 1)), enA, H', ⟨by have := HJ1.out; have := HK2.out; omega⟩, drA⟩
         ·replace c14 := Bool.eq_false_iff.mpr c14; subst c14
          have H1 : (some false) = some r := by rw [if_neg (show ¬ (false = true) by decide)] at H; exact H
          clear H; have H := H1; clear H1; obtain rfl := Option.some.inj H; have p12 : 0 ≤ (x15_2 : Int) := odA; have q12 : x15_2 < (a0.size : Int) := odA; have hx12 := bt_at a0 x15_2; replace p12 := eq_true p12; replace q12 := eq_true q12
          go_wp2_with (first | ((with_reducible refine gate_callee (f := 73) rfl ?_); refine goesL_ (some 21) rfl rfl Tryd.func73 (by kernel_rfl) rfl #[.int .u8 (bt a0 x15_2)] rfl mapA ?_; (with_reducible refine (impl_inName.calls (bt a0 x15_2) false _ A13.out).mono ?_); rintro e w' ⟨rfl, ⟨nd, rfl⟩⟩; refine ⟨_, rfl, ?_⟩))
          go_ret
          exact ⟨enA, drA⟩
        ·rw [if_neg c11] at H
         exact absurd H (by simp)
       ·rw [if_neg c10] at H
        exact absurd H (by simp)
      ·rw [if_neg c9] at H; have c9b0 := decide_eq_false c9; clear c9; obtain rfl := Option.some.inj H
       go_wp2
       go_ret
       exact ⟨enA, drA⟩

def impl_plain.f (a0_0 : Int) (a0_1 : ByteArray) (l0_2 : List (S37)) (l0_3 : List ByteArray) : Option (Bool) := if (l0_2.length : Int) = 0 then (some ((l0_3.length : Int) == 0)) else (some false)
set_option maxHeartbeats 8000000 in
set_option maxRecDepth 100000 in
theorem impl_plain.calls (a0_0 : Int) (a0_1 : ByteArray) (A0_2 : Option Addr) (c0_2 : Nat) (l0_2 : List (S37)) (A0_3 : Option Addr) (c0_3 : Nat) (l0_3 : List ByteArray) (r : Bool) (w : World) (hr0_2 : Kd.C k37 w A0_2 l0_2.length l0_2) (hc0_2 : l0_2.length ≤ c0_2) (hr0_3 : Kd.C Kd.string w A0_3 l0_3.length l0_3) (hc0_3 : l0_3.length ≤ c0_3) (h : impl_plain.f a0_0 a0_1 l0_2 l0_3 = some r) :
  Calls Tryd.prog 81 #[.agg #[.int .i64 a0_0, .string a0_1, .slice A0_2 l0_2.length c0_2, .slice A0_3 l0_3.length c0_3]] w fun e w' => e = .returned (.bool r) ∧ Below w.heap.size w w' := by
 have hu37 := Tryd.underlying37; have HR0_2 := Aside0.mk hr0_2; have HC0_2 := Aside0.mk hc0_2; clear hr0_2 hc0_2; have HR0_3 := Aside0.mk hr0_3; have HC0_3 := Aside0.mk hc0_3; clear hr0_3 hc0_3; have HB := Aside0.mk (Below.refl w.heap.size w); have H : (if (l0_2.length : Int) = 0 then (some ((l0_3.length : Int) == 0)) else (some false)) = some r := h; clear h
 by_cases c2 : (l0_2.length : Int) = 0
 ·rw [if_pos c2] at H; have c2b0 := beq_iff_eq.mpr c2; have c2b1 := bne_eq_false_iff_eq.mpr c2; clear c2; obtain rfl := Option.some.inj H
  go_enter Tryd.func81, Tryd.ntmps81
  go_wp2_with (first | ((with_reducible refine gate_dst (N := 1) rfl ?_); (try (refine gate_guard (by rfl) ?_; dsimp only)); refine boxE (N := 1) (cs := #[.int .i64 a0_0, .string a0_1, .slice A0_2 l0_2.length c0_2, .slice A0_3 l0_3.length c0_3]) (t := 37) ?_; intro gb349 hg w3 hbox hb; have BK349 := Aside0.mk (hbox); have GW349 := Aside0.mk ((gbA (w := w) HB hg)); have GE349 := Aside0.mk ((gbA (w := w) HB hg)); replace HB := Aside0.mk (below_step (belB HB) hb); clear hb hbox hg; obtain ⟨hcz4_0, hcz4_1, hcz4_2, hcz4_3, hfz4_0, hfz4_1, hfz4_2, hfz4_3⟩ := cef4 BK349.out))
  go_ret
  exact ⟨erA, belS HB GE349⟩
 ·rw [if_neg c2] at H; have c2b0 := beq_eq_false_iff_ne.mpr c2; have c2b1 := bne_iff_ne.mpr c2
  have c2b2 : ¬ (l0_2 = []) := fun h_ => c2 (by rw [h_]; rfl)
  obtain rfl := Option.some.inj H
  go_enter Tryd.func81, Tryd.ntmps81
  go_wp2_with (first | ((with_reducible refine gate_dst (N := 1) rfl ?_); (try (refine gate_guard (by rfl) ?_; dsimp only)); refine boxE (N := 1) (cs := #[.int .i64 a0_0, .string a0_1, .slice A0_2 l0_2.length c0_2, .slice A0_3 l0_3.length c0_3]) (t := 37) ?_; intro gb349 hg w5 hbox hb; have BK349 := Aside0.mk (hbox); have GW349 := Aside0.mk ((gbA (w := w) HB hg)); have GE349 := Aside0.mk ((gbA (w := w) HB hg)); replace HB := Aside0.mk (below_step (belB HB) hb); clear hb hbox hg; obtain ⟨hcz6_0, hcz6_1, hcz6_2, hcz6_3, hfz6_0, hfz6_1, hfz6_2, hfz6_3⟩ := cef4 BK349.out))
  go_ret
  exact ⟨erA, belS HB GE349⟩

def stringslite_HasPrefix.f (a0 : ByteArray) (a1 : ByteArray) : Option (Bool) := if (a0.size : Int) ≥ (a1.size : Int) then (if 0 ≤ (a1.size : Int) then (if (a1.size : Int) ≤ (a0.size : Int) then (some ((a0.extract 0 ((a1.size : Int) : Int).toNat).toList == a1.toList)) else (none)) else (none)) else (some false)
set_option maxHeartbeats 8000000 in
set_option maxRecDepth 100000 in
theorem stringslite_HasPrefix.calls (a0 : ByteArray) (a1 : ByteArray) (r : Bool) (w : World) (h : stringslite_HasPrefix.f a0 a1 = some r) :
  Calls Tryd.prog 110 #[.string a0, .string a1] w fun e w' => e = .returned (.bool r) ∧ Drawn0 w w' := by
 have H : (if (a0.size : Int) ≥ (a1.size : Int) then (if 0 ≤ (a1.size : Int) then (if (a1.size : Int) ≤ (a0.size : Int) then (some ((a0.extract 0 ((a1.size : Int) : Int).toNat).toList == a1.toList)) else (none)) else (none)) else (some false)) = some r := h; clear h
 by_cases c3 : (a0.size : Int) ≥ (a1.size : Int)
 ·rw [if_pos c3] at H; have c3b0 := decide_eq_true c3; have c3b1 : decide (a1.size ≤ a0.size) = true := decide_eq_true (Int.ofNat_le.mp c3); clear c3
  by_cases c4 : 0 ≤ (a1.size : Int)
  ·rw [if_pos c4] at H; have c4b0 := eq_true c4; have c4b1 := decide_eq_true c4; clear c4
   by_cases c5 : (a1.size : Int) ≤ (a0.size : Int)
   ·rw [if_pos c5] at H; have c5b0 := eq_true c5; have c5b1 := decide_eq_true c5; clear c5; obtain rfl := Option.some.inj H
    go_enter Tryd.func110, Tryd.ntmps110
    go_wp2
    go_ret
    exact ⟨enA, drA⟩
   ·rw [if_neg c5] at H
    exact absurd H (by simp)
  ·rw [if_neg c4] at H
   exact absurd H (by simp)
 ·rw [if_neg c3] at H; have c3b0 := decide_eq_false c3; have c3b1 : decide (a1.size ≤ a0.size) = false := decide_eq_false (fun h => c3 (Int.ofNat_le.mpr h)); clear c3; obtain rfl := Option.some.inj H
  go_enter Tryd.func110, Tryd.ntmps110
  go_wp2
  go_ret
  exact ⟨enA, drA⟩

def stringslite_TrimPrefix.f (a0 : ByteArray) (a1 : ByteArray) : Option (ByteArray) := (stringslite_HasPrefix.f a0 a1).bind fun t350 => (if t350 = true then (if 0 ≤ (a1.size : Int) then (if (a1.size : Int) ≤ (a0.size : Int) then (some (a0.extract ((a1.size : Int) : Int).toNat a0.size)) else (none)) else (none)) else (some a0))
set_option maxHeartbeats 8000000 in
set_option maxRecDepth 100000 in
theorem stringslite_TrimPrefix.calls (a0 : ByteArray) (a1 : ByteArray) (r : ByteArray) (w : World) (h : stringslite_TrimPrefix.f a0 a1 = some r) :
  Calls Tryd.prog 95 #[.string a0, .string a1] w fun e w' => e = .returned (.string r) ∧ Drawn0 w w' := by
 have H : ((stringslite_HasPrefix.f a0 a1).bind fun t350 => (if t350 = true then (if 0 ≤ (a1.size : Int) then (if (a1.size : Int) ≤ (a0.size : Int) then (some (a0.extract ((a1.size : Int) : Int).toNat a0.size)) else (none)) else (none)) else (some a0))) = some r := h; clear h; replace H := Option.bind_eq_some_iff.mp H; obtain ⟨t350, A30, H⟩ := H; replace H : (if t350 = true then (if 0 ≤ (a1.size : Int) then (if (a1.size : Int) ≤ (a0.size : Int) then (some (a0.extract ((a1.size : Int) : Int).toNat a0.size)) else (none)) else (none)) else (some a0)) = some r := H; have A3 := Aside0.mk A30; clear A30
 by_cases c4 : t350 = true
 ·subst c4
  have H1 : (if 0 ≤ (a1.size : Int) then (if (a1.size : Int) ≤ (a0.size : Int) then (some (a0.extract ((a1.size : Int) : Int).toNat a0.size)) else (none)) else (none)) = some r := by rw [if_pos rfl] at H; exact H
  clear H; have H := H1; clear H1
  by_cases c5 : 0 ≤ (a1.size : Int)
  ·rw [if_pos c5] at H; have c5b0 := eq_true c5; have c5b1 := decide_eq_true c5; clear c5
   by_cases c6 : (a1.size : Int) ≤ (a0.size : Int)
   ·rw [if_pos c6] at H; have c6b0 := eq_true c6; have c6b1 := decide_eq_true c6; clear c6; obtain rfl := Option.some.inj H
    go_enter Tryd.func95, Tryd.ntmps95
    go_wp2_with (first | ((with_reducible refine gate_callee (f := 110) rfl ?_); refine goesL_ (some 7) rfl rfl Tryd.func110 (by kernel_rfl) rfl #[.string a0, .string a1] rfl mapA ?_; (with_reducible refine (stringslite_HasPrefix.calls a0 a1 true _ A3.out).mono ?_); rintro e w' ⟨rfl, ⟨nd, rfl⟩⟩; refine ⟨_, rfl, ?_⟩))
    go_ret
    exact ⟨enA, drA⟩
   ·rw [if_neg c6] at H
    exact absurd H (by simp)
  ·rw [if_neg c5] at H
   exact absurd H (by simp)
 ·replace c4 := Bool.eq_false_iff.mpr c4; subst c4
  have H1 : (some a0) = some r := by rw [if_neg (show ¬ (false = true) by decide)] at H; exact H
  clear H; have H := H1; clear H1; obtain rfl := Option.some.inj H
  go_enter Tryd.func95, Tryd.ntmps95
  go_wp2_with (first | ((with_reducible refine gate_callee (f := 110) rfl ?_); refine goesL_ (some 7) rfl rfl Tryd.func110 (by kernel_rfl) rfl #[.string a0, .string a1] rfl mapA ?_; (with_reducible refine (stringslite_HasPrefix.calls a0 a1 false _ A3.out).mono ?_); rintro e w' ⟨rfl, ⟨nd, rfl⟩⟩; refine ⟨_, rfl, ?_⟩))
  go_ret
  exact ⟨enA, drA⟩

def strings_TrimPrefix.f (a0 : ByteArray) (a1 : ByteArray) : Option (ByteArray) := (stringslite_TrimPrefix.f a0 a1).bind fun t351 => (some t351)
set_option maxHeartbeats 8000000 in
set_option maxRecDepth 100000 in
theorem strings_TrimPrefix.calls (a0 : ByteArray) (a1 : ByteArray) (r : ByteArray) (w : World) (h : strings_TrimPrefix.f a0 a1 = some r) :
  Calls Tryd.prog 74 #[.string a0, .string a1] w fun e w' => e = .returned (.string r) ∧ Drawn0 w w' := by
 have H : ((stringslite_TrimPrefix.f a0 a1).bind fun t351 => (some t351)) = some r := h; clear h; replace H := Option.bind_eq_some_iff.mp H; obtain ⟨t351, A30, H⟩ := H; replace H : (some t351) = some r := H; have A3 := Aside0.mk A30; clear A30; obtain rfl := Option.some.inj H
 go_enter Tryd.func74, Tryd.ntmps74
 go_wp2_with (first | ((with_reducible refine gate_callee (f := 95) rfl ?_); refine goesL_ (some 7) rfl rfl Tryd.func95 (by kernel_rfl) rfl #[.string a0, .string a1] rfl mapA ?_; (with_reducible refine (stringslite_TrimPrefix.calls a0 a1 t351 _ A3.out).mono ?_); rintro e w' ⟨rfl, ⟨nd, rfl⟩⟩; refine ⟨_, rfl, ?_⟩))
 go_ret
 exact ⟨enA, drA⟩

end Go.Proofs.YtjhagdjjlgjlbaaDoor.OFnExactArgsText
-- narrow
