/- The machine side of one law, written by a program. -/
import Derived.Test.YtjhagdjjlgjlbaaGreatDoorOFnExactDirsTextx0
import Derived.Test.YtjhagdjjlgjlbaaGreatDoorOFnExactDirsTextx15
import Derived.Test.YtjhagdjjlgjlbaaGreatDoorOFnExactDirsTextx16
namespace Go.Proofs.YtjhagdjjlgjlbaaGreatDoor.OFnExactDirsText
open Go.Proofs.YtjhagdjjlgjlbaaGreatDoor.GlU Go.Proofs.YtjhagdjjlgjlbaaGreatDoor.Ix
open Go.RowKit Go.Proofs.YtjhagdjjlgjlbaaGreatDoorW.PrintWords Go.Proofs.YtjhagdjjlgjlbaaGreatDoorW.PrintLast Go.Proofs.YtjhagdjjlgjlbaaGreatDoorW.PrintMore
attribute [local go_sem] max2_int min2_int max_two min_two max_three min_three max_four min_four
set_option linter.unusedVariables false
set_option linter.unusedSimpArgs false

mutual
def impl_ArgsText.j0 : Nat → List (S54) → Bool → Option (ByteArray)
 | 0, _, _ => none
 | k + 1, x0, x13 => if x13 = true then (some (⟨#[]⟩ : ByteArray)) else (impl_ArgsText.l0 k (([] : List ByteArray)) x0 (x0.length : Int) 0)
def impl_ArgsText.l0 : Nat → List ByteArray → List (S54) → Int → Int → Option (ByteArray)
 | 0, _, _, _, _ => none
 | k + 1, x3, x15, x16, x17 => if x17 < x16 then (if 0 ≤ x17 then (if x17 < (x15.length : Int) then (if ((rd_T54 x15 x17).f0).size + 2 ≤ 9223372036854775807 then ((impl_printValue.f k ((rd_T54 x15 x17).f1.f0) ((rd_T54 x15 x17).f1.f1) ((rd_T54 x15 x17).f1.f2) ((rd_T54 x15 x17).f1.f3)).bind fun t447 => (if (((rd_T54 x15 x17).f0) ++ (⟨#[58, 32]⟩ : ByteArray)).size + t447.size ≤ 9223372036854775807 then (if x3.length < 8796093022208 then (impl_ArgsText.l0 k (x3 ++ [(((rd_T54 x15 x17).f0) ++ (⟨#[58, 32]⟩ : ByteArray)) ++ t447]) x15 x16 (wrap64 (x17 + 1))) else (none)) else (none))) else (none)) else (none)) else (none)) else ((strings_Join.f x3 (⟨#[44, 32]⟩ : ByteArray)).bind fun t451 => (if 1 + t451.size ≤ 9223372036854775807 then (if ((⟨#[40]⟩ : ByteArray) ++ t451).size + 1 ≤ 9223372036854775807 then (some (((⟨#[40]⟩ : ByteArray) ++ t451) ++ (⟨#[41]⟩ : ByteArray))) else (none)) else (none)))
end
def impl_ArgsText.f (k : Nat) (l0 : List (S54)) : Option (ByteArray) := if (l0.length : Int) = 0 then (impl_ArgsText.j0 k l0 true) else ((impl_ArgsOk.f k l0).bind fun t441 => (impl_ArgsText.j0 k l0 (!t441)))
theorem impl_ArgsText.mono_l : ∀ k, (∀ y0 y1, LeO (impl_ArgsText.j0 k y0 y1) (impl_ArgsText.j0 (k + 1) y0 y1)) ∧ (∀ y0 y1 y2 y3, LeO (impl_ArgsText.l0 k y0 y1 y2 y3) (impl_ArgsText.l0 (k + 1) y0 y1 y2 y3))
 | 0 => ⟨fun _ _ r h => by simp [impl_ArgsText.j0] at h, fun _ _ _ _ r h => by simp [impl_ArgsText.l0] at h⟩
 | k + 1 => by
  obtain ⟨ih0, ih1⟩ := impl_ArgsText.mono_l k; refine ⟨?_, ?_⟩
  ·intro y0 y1; unfold impl_ArgsText.j0
   repeat' first
   | (with_reducible first | exact ih0 _ _ | exact ih1 _ _ _ _ | exact impl_ArgsOk.mono _ _ | exact impl_printValue.mono _ _ _ _ _ | exact LeO.refl _ | exact LeO.none _ | refine LeO.ite ?_ ?_ | refine LeO.bind ?_ (fun _ => ?_))
   | exact ih0 _ _ | exact ih1 _ _ _ _ | exact impl_ArgsOk.mono _ _ | exact impl_printValue.mono _ _ _ _ _ | exact LeO.none _ | refine LeO.ite ?_ ?_ | refine LeO.bind ?_ (fun _ => ?_)
  ·intro y0 y1 y2 y3; unfold impl_ArgsText.l0
   repeat' first
   | (with_reducible first | exact ih0 _ _ | exact ih1 _ _ _ _ | exact impl_ArgsOk.mono _ _ | exact impl_printValue.mono _ _ _ _ _ | exact LeO.refl _ | exact LeO.none _ | refine LeO.ite ?_ ?_ | refine LeO.bind ?_ (fun _ => ?_))
   | exact ih0 _ _ | exact ih1 _ _ _ _ | exact impl_ArgsOk.mono _ _ | exact impl_printValue.mono _ _ _ _ _ | exact LeO.none _ | refine LeO.ite ?_ ?_ | refine LeO.bind ?_ (fun _ => ?_)
theorem impl_ArgsText.mono : ∀ a0 k, LeO (impl_ArgsText.f k a0) (impl_ArgsText.f (k + 1) a0) := by
 intro a0 k; obtain ⟨ih0, ih1⟩ := impl_ArgsText.mono_l k; unfold impl_ArgsText.f
 repeat' first
   | (with_reducible first | exact ih0 _ _ | exact ih1 _ _ _ _ | exact impl_ArgsOk.mono _ _ | exact impl_printValue.mono _ _ _ _ _ | exact LeO.refl _ | exact LeO.none _ | refine LeO.ite ?_ ?_ | refine LeO.bind ?_ (fun _ => ?_))
   | exact ih0 _ _ | exact ih1 _ _ _ _ | exact impl_ArgsOk.mono _ _ | exact impl_printValue.mono _ _ _ _ _ | exact LeO.none _ | refine LeO.ite ?_ ?_ | refine LeO.bind ?_ (fun _ => ?_)
def impl_ArgsText.T7 : Bool × List (List Nat × List Nat) := (true, [([], []), ([], []), ([1], [1]), ([2], [2]), ([], []), ([4], [4]), ([5], [5]), ([3, 6], [3, 6]), ([7], [7]), ([0, 8, 6], [0, 8]), ([9, 9, 0, 1, 2, 3, 4, 5, 6, 7, 8, 9], [0, 9])])
def impl_ArgsText.B7 : List Nat := [0, 0, 2, 6, 0, 16, 48, 126, 254, 511, 1023]
theorem impl_ArgsText.tab7 : rtab .any (opsOf Tryz.f14 7) = impl_ArgsText.T7 := by kernel_rfl
theorem impl_ArgsText.bits7 : waitsOk impl_ArgsText.T7.2 impl_ArgsText.B7 = true := by kernel_rfl
set_option maxHeartbeats 8000000 in
set_option maxRecDepth 100000 in
theorem impl_ArgsText.calls (k : Nat) (A0 : Option Addr) (c0 : Nat) (l0 : List (S54)) (r : ByteArray) (w : World) (hr0 : Kd.C k54 w A0 l0.length l0) (hc0 : l0.length ≤ c0) (hG : Gl w) (h : impl_ArgsText.f k l0 = some r) :
  Calls Tryz.prog 14 #[.slice A0 l0.length c0] w fun e w' => e = .returned (.string r) ∧ Below w.heap.size w w' := by
 have hu54 := Tryz.underlying54; have hu52 := Tryz.underlying52; have HG := Aside0.mk hG; clear hG; have HR0 := Aside0.mk hr0; have HC0 := Aside0.mk hc0; clear hr0 hc0; have HB := Aside0.mk (Below.refl w.heap.size w); have H : (if (l0.length : Int) = 0 then (impl_ArgsText.j0 k l0 true) else ((impl_ArgsOk.f k l0).bind fun t441 => (impl_ArgsText.j0 k l0 (!t441)))) = some r := h; clear h; have HC2 := Aside0.mk H; clear H
 go_enter Tryz.func14, Tryz.ntmps14
 go_upto_region 1 with (fail)
 go_cut [13] (fun v13 wc => ∃ (kq : Nat) (x13_1 : Bool), v13 = .bool x13_1 ∧ Aside0 (impl_ArgsText.j0 kq l0 x13_1 = some r) ∧ Aside0 (kq ≤ k) ∧ Aside0 (Below w.heap.size w wc))
 case first =>
  have H := HC2.out; clear HC2
  by_cases c3 : (l0.length : Int) = 0
  ·rw [if_pos c3] at H; have c3b0 := beq_iff_eq.mpr c3; have c3b1 := bne_eq_false_iff_eq.mpr c3; clear c3
   (first | rw [c3b0] | (simp only [i64_w, i32_w]; rw [c3b0]) | skip)
   have H' := Aside0.mk H
   clear H
   go_wp2
   go_meet
   case rel => exact ⟨_, (true), enA, H', ⟨by first | omega | exact Nat.le_refl _⟩, ⟨belB HB⟩⟩
  ·rw [if_neg c3] at H; have c3b0 := beq_eq_false_iff_ne.mpr c3; have c3b1 := bne_iff_ne.mpr c3
   have c3b2 : ¬ (l0 = []) := fun h_ => c3 (by rw [h_]; rfl)
   (first | rw [c3b0] | (simp only [i64_w, i32_w]; rw [c3b0]) | skip)
   replace H := Option.bind_eq_some_iff.mp H; obtain ⟨t441, A40, H⟩ := H; replace H : (impl_ArgsText.j0 k l0 (!t441)) = some r := H; have A4 := Aside0.mk A40; clear A40
   have H' := Aside0.mk H
   clear H
   go_wp2_with (first | (go_at_call 24; (with_reducible refine (impl_ArgsOk.calls k _ _ l0 t441 _ ?side1 ?side2 (Gl.below HG.out (belB HB)) A4.out).mono ?_); (case side1 => exact cbA HR0 HB); (case side2 => exact HC0.out); rintro e w5 ⟨rfl, hb⟩; replace HB := Aside0.mk (below_step (belB HB) hb); (try clear hb)))
   go_meet
   case rel => exact ⟨_, (!t441), enA, H', ⟨by first | omega | exact Nat.le_refl _⟩, ⟨belB HB⟩⟩
 case rest =>
  clear HC2
  try clear c1
  try clear p2
  try clear c3
  try clear c3b0
  try clear c3b1
  try clear c3b2
  obtain ⟨kq, x13_1, rfl, HA, HJ1, HB⟩ := hcut
  cases kq with
  | zero => exact absurd HA.out (by simp [impl_ArgsText.j0])
  | succ kj1 =>
   have H := HA.out; clear HA
   simp only [impl_ArgsText.j0] at H
   by_cases c6 : x13_1 = true
   ·subst c6
    have H1 : (some (⟨#[]⟩ : ByteArray)) = some r := by rw [if_pos rfl] at H; exact H
    clear H; have H := H1; clear H1; obtain rfl := Option.some.inj H
    go_wp2
    go_ret
    exact ⟨erA, belB HB⟩
   ·replace c6 := Bool.eq_false_iff.mpr c6; subst c6
    have H1 : (impl_ArgsText.l0 kj1 (([] : List ByteArray)) l0 (l0.length : Int) 0) = some r := by rw [if_neg (show ¬ (false = true) by decide)] at H; exact H
    clear H; have H := H1; clear H1
    obtain ⟨y442, hy442⟩ : ∃ y_ : List ByteArray, y_ = (([] : List ByteArray)) := ⟨_, rfl⟩
    replace H : (impl_ArgsText.l0 kj1 y442 l0 (l0.length : Int) 0) = some r := reA H hy442; have Ny442 := Aside0.mk hy442; clear hy442
    have H' := Aside0.mk H
    clear H
    go_wp2_with (first | ((with_reducible refine gate_dst (N := 14) rfl ?_); refine Kd.R_lit Kd.string _ 9 ?hg (N := 14) ?hd (xs := ([] : List ByteArray)) (inner := []) (ok := fun _ => True) (okp := fun _ => True) ?hr ?hp (fun _ hk => hk) trivial (Below.refl _ _) (Nat.le_refl _) (by simp) ?_; (case hd => rfl); (case hg => rfl); (case hr => first | (go_simp; done) | (go_simp; rfl)); (case hp => exact (Reps.none _ _)); intro v443 w7 ho8 hb hg_ hnew_; clear hg_ hnew_; (first | rw [← Ny442.out] at ho8 | (simp only [Int.reduceToNat] at ho8; rw [← Ny442.out] at ho8)); have HO444 := Aside0.mk (Kd.R_lower ho8 (below_size (belB HB))); replace HB := Aside0.mk (below_step (belB HB) hb); clear hb ho8))
    go_loopg [3, 17] kj1 (fun kq v3 v17 w' => ∃ (x3_2 : List ByteArray) (x17_2 : Int), v17 = .int .i64 x17_2 ∧ Aside0 (impl_ArgsText.l0 kq x3_2 l0 (l0.length : Int) x17_2 = some r) ∧ Aside0 (kq ≤ kj1) ∧ Aside0 (Kd.R Kd.string 9 w' w.heap.size (fun _ => True) v3 x3_2) ∧ Aside0 (Below w.heap.size w w'))
    case atStart => exact ⟨(y442), (0), enA, H', ⟨Nat.le_refl _⟩, ⟨kdB HO444⟩, ⟨belB HB⟩⟩
    case round =>
     clear H'
     try clear c1
     try clear p2
     try clear c3
     try clear c3b0
     try clear c3b1
     try clear c3b2
     try clear c6
     try clear p2
     obtain ⟨x3_2, x17_2, rfl, HA, HK2, HO_3, HB⟩ := hrel
     cases gk with
     | zero => exact absurd HA.out (by simp [impl_ArgsText.l0])
     | succ k2 =>
      have H := HA.out; clear HA
      simp only [impl_ArgsText.l0] at H
      by_cases c9 : x17_2 < (l0.length : Int)
      ·rw [if_pos c9] at H; have c9b0 := decide_eq_true c9; clear c9
       by_cases c10 : 0 ≤ x17_2
       ·rw [if_pos c10] at H; have c10b0 := decide_eq_true c10; clear c10
        by_cases c11 : x17_2 < (l0.length : Int)
        ·rw [if_pos c11] at H; have c11b0 := decide_eq_true c11; clear c11
         by_cases c12 : ((rd_T54 l0 x17_2).f0).size + 2 ≤ 9223372036854775807
         ·rw [if_pos c12] at H; have c12b0 := eq_true c12; have c12b1 := decide_eq_true c12
          try have c12b2 : (9223372036854775807 < ((rd_T54 l0 x17_2).f0).size + 2) = False := eq_false (Nat.not_lt.2 c12)
          replace H := Option.bind_eq_some_iff.mp H; obtain ⟨t447, A130, H⟩ := H; replace H : (if (((rd_T54 l0 x17_2).f0) ++ (⟨#[58, 32]⟩ : ByteArray)).size + t447.size ≤ 9223372036854775807 then (if x3_2.length < 8796093022208 then (impl_ArgsText.l0 k2 (x3_2 ++ [(((rd_T54 l0 x17_2).f0) ++ (⟨#[58, 32]⟩ : ByteArray)) ++ t447]) l0 (l0.length : Int) (wrap64 (x17_2 + 1))) else (none)) else (none)) = some r := H; have A13 := Aside0.mk A130; clear A130
          by_cases c14 : (((rd_T54 l0 x17_2).f0) ++ (⟨#[58, 32]⟩ : ByteArray)).size + t447.size ≤ 9223372036854775807
          ·rw [if_pos c14] at H; have c14b0 := eq_true c14; have c14b1 := decide_eq_true c14
           try have c14b2 : (9223372036854775807 < (((rd_T54 l0 x17_2).f0) ++ (⟨#[58, 32]⟩ : ByteArray)).size + t447.size) = False := eq_false (Nat.not_lt.2 c14)
           try have c14b3 : (9223372036854775807 < ((rd_T54 l0 x17_2).f0).size + 2 + t447.size) = False := eq_false (by have z_ := Nat.not_lt.2 c14; simp only [ByteArray.size_append] at z_; exact z_)
           by_cases c15 : x3_2.length < 8796093022208
           ·rw [if_pos c15] at H; have LMc15 := Aside0.mk c15; clear c15
            obtain ⟨y448, hy448⟩ : ∃ y_ : List ByteArray, y_ = (x3_2 ++ [(((rd_T54 l0 x17_2).f0) ++ (⟨#[58, 32]⟩ : ByteArray)) ++ t447]) := ⟨_, rfl⟩
            replace H : (impl_ArgsText.l0 k2 y448 l0 (l0.length : Int) (wrap64 (x17_2 + 1))) = some r := reA H hy448; have Ny448 := Aside0.mk hy448; clear hy448
            have H' := Aside0.mk H
            clear H; have p445 : 0 ≤ (x17_2 : Int) := odA; have q445 : x17_2 < (l0.length : Int) := odA; obtain ⟨ad445, A445_3, c445_3, A445_4, c445_4, e445, hx445_0, hx445_1, hx445_2, hx445_3, hx445_4, hl445_3, hi445_3, hl445_4, hi445_4⟩ := at_T54 HR0.out x17_2 p445 q445
            cases e445
            (try replace hx445_0 := celB HB hx445_0)
            (try replace hx445_1 := celB HB hx445_1)
            (try replace hx445_2 := celB HB hx445_2)
            (try replace hx445_3 := celB HB hx445_3)
            (try replace hx445_4 := celB HB hx445_4)
            have HR445_3 := Aside0.mk hi445_3; have HC445_3 := Aside0.mk hl445_3; clear hi445_3 hl445_3; have HR445_4 := Aside0.mk hi445_4; have HC445_4 := Aside0.mk hl445_4; clear hi445_4 hl445_4; replace p445 := eq_true p445; replace q445 := eq_true q445
            try go_wp2_with (first | ((with_reducible refine gate_dst (N := 5) rfl ?_); refine boxE (N := 5) (cs := #[.string (⟨#[]⟩ : ByteArray), .int .i64 0, .string (⟨#[]⟩ : ByteArray), .slice none 0 0, .slice none 0 0]) (t := 54) ?_; intro gb446 hg w16 hbox hb; have BK446 := Aside0.mk (hbox); have GW446 := Aside0.mk ((gbA (w := w) HB hg)); have GE446 := Aside0.mk ((gbA (w := w) HB hg)); replace HO_3 := Aside0.mk (Kd.R_below (kdB HO_3) hb); replace HB := Aside0.mk (below_step (belB HB) hb); clear hb hbox hg; have hcz17_0 : w16.cell? ⟨gb446, 0, none⟩ = some (.string (⟨#[]⟩ : ByteArray)) := (blk_cell BK446.out 0).trans rfl; have hcz17_1 : w16.cell? ⟨gb446, 1, none⟩ = some (.int .i64 0) := (blk_cell BK446.out 1).trans rfl; have hcz17_2 : w16.cell? ⟨gb446, 2, none⟩ = some (.string (⟨#[]⟩ : ByteArray)) := (blk_cell BK446.out 2).trans rfl; have hcz17_3 : w16.cell? ⟨gb446, 3, none⟩ = some (.slice none 0 0) := (blk_cell BK446.out 3).trans rfl; have hcz17_4 : w16.cell? ⟨gb446, 4, none⟩ = some (.slice none 0 0) := (blk_cell BK446.out 4).trans rfl; have hfz17_0 := blk_frozen BK446.out 0; have hfz17_1 := blk_frozen BK446.out 1; have hfz17_2 := blk_frozen BK446.out 2; have hfz17_3 := blk_frozen BK446.out 3; have hfz17_4 := blk_frozen BK446.out 4))
            have n0_ : Aside0 (Kd.R Kd.string 9 (((((w16.setCell ⟨gb446, 0, none⟩ (.string ((rd_T54 l0 x17_2).f0))).setCell ⟨gb446, 1, none⟩ (.int .i64 ((rd_T54 l0 x17_2).f1.f0))).setCell ⟨gb446, 2, none⟩ (.string ((rd_T54 l0 x17_2).f1.f1))).setCell ⟨gb446, 3, none⟩ (.slice A445_3 ((rd_T54 l0 x17_2).f1.f2).length c445_3)).setCell ⟨gb446, 4, none⟩ (.slice A445_4 ((rd_T54 l0 x17_2).f1.f3).length c445_4)) w.heap.size (fun _ => True) u3 x3_2) := ⟨by (with_reducible repeat (first | apply Kd.R_alloc | apply Kd.R_drewN | apply Kd.R_drew)); exact Kd.R_mono (Kd.R_far (p := ⟨gb446, 4, none⟩) (Kd.R_far (p := ⟨gb446, 3, none⟩) (Kd.R_far (p := ⟨gb446, 2, none⟩) (Kd.R_far (p := ⟨gb446, 1, none⟩) (Kd.R_far (p := ⟨gb446, 0, none⟩) (Kd.R_types HO_3.out BK446.out (by decide)) (fun _ hk => hk.2) (.string ((rd_T54 l0 x17_2).f0))) (fun _ hk => hk.2) (.int .i64 ((rd_T54 l0 x17_2).f1.f0))) (fun _ hk => hk.2) (.string ((rd_T54 l0 x17_2).f1.f1))) (fun _ hk => hk.2) (.slice A445_3 ((rd_T54 l0 x17_2).f1.f2).length c445_3)) (fun _ hk => hk.2) (.slice A445_4 ((rd_T54 l0 x17_2).f1.f3).length c445_4)) (fun _ hk => trivial)⟩
            have n1_ : Aside0 ((((((w16.setCell ⟨gb446, 0, none⟩ (.string ((rd_T54 l0 x17_2).f0))).setCell ⟨gb446, 1, none⟩ (.int .i64 ((rd_T54 l0 x17_2).f1.f0))).setCell ⟨gb446, 2, none⟩ (.string ((rd_T54 l0 x17_2).f1.f1))).setCell ⟨gb446, 3, none⟩ (.slice A445_3 ((rd_T54 l0 x17_2).f1.f2).length c445_3)).setCell ⟨gb446, 4, none⟩ (.slice A445_4 ((rd_T54 l0 x17_2).f1.f3).length c445_4)).heap[gb446]? = some (.cells #[.string ((rd_T54 l0 x17_2).f0), .int .i64 ((rd_T54 l0 x17_2).f1.f0), .string ((rd_T54 l0 x17_2).f1.f1), .slice A445_3 ((rd_T54 l0 x17_2).f1.f2).length c445_3, .slice A445_4 ((rd_T54 l0 x17_2).f1.f3).length c445_4] 54 (0, 0))) := ⟨by (with_reducible repeat (first | refine blk_drewN ?_ _ | refine blk_drew ?_ | refine blk_alloc ?_ _)); refine blk_put (cs := #[.string ((rd_T54 l0 x17_2).f0), .int .i64 ((rd_T54 l0 x17_2).f1.f0), .string ((rd_T54 l0 x17_2).f1.f1), .slice A445_3 ((rd_T54 l0 x17_2).f1.f2).length c445_3, .slice none 0 0]) ?_ 4 _ rfl; (with_reducible repeat (first | refine blk_drewN ?_ _ | refine blk_drew ?_ | refine blk_alloc ?_ _)); refine blk_put (cs := #[.string ((rd_T54 l0 x17_2).f0), .int .i64 ((rd_T54 l0 x17_2).f1.f0), .string ((rd_T54 l0 x17_2).f1.f1), .slice none 0 0, .slice none 0 0]) ?_ 3 _ rfl; (with_reducible repeat (first | refine blk_drewN ?_ _ | refine blk_drew ?_ | refine blk_alloc ?_ _)); refine blk_put (cs := #[.string ((rd_T54 l0 x17_2).f0), .int .i64 ((rd_T54 l0 x17_2).f1.f0), .string (⟨#[]⟩ : ByteArray), .slice none 0 0, .slice none 0 0]) ?_ 2 _ rfl; (with_reducible repeat (first | refine blk_drewN ?_ _ | refine blk_drew ?_ | refine blk_alloc ?_ _)); refine blk_put (cs := #[.string ((rd_T54 l0 x17_2).f0), .int .i64 0, .string (⟨#[]⟩ : ByteArray), .slice none 0 0, .slice none 0 0]) ?_ 1 _ rfl; (with_reducible repeat (first | refine blk_drewN ?_ _ | refine blk_drew ?_ | refine blk_alloc ?_ _)); refine blk_put (cs := #[.string (⟨#[]⟩ : ByteArray), .int .i64 0, .string (⟨#[]⟩ : ByteArray), .slice none 0 0, .slice none 0 0]) ?_ 0 _ rfl; (with_reducible repeat (first | refine blk_drewN ?_ _ | refine blk_drew ?_ | refine blk_alloc ?_ _)); exact BK446.out⟩
            have n2_ : Aside0 (Below w.heap.size w (((((w16.setCell ⟨gb446, 0, none⟩ (.string ((rd_T54 l0 x17_2).f0))).setCell ⟨gb446, 1, none⟩ (.int .i64 ((rd_T54 l0 x17_2).f1.f0))).setCell ⟨gb446, 2, none⟩ (.string ((rd_T54 l0 x17_2).f1.f1))).setCell ⟨gb446, 3, none⟩ (.slice A445_3 ((rd_T54 l0 x17_2).f1.f2).length c445_3)).setCell ⟨gb446, 4, none⟩ (.slice A445_4 ((rd_T54 l0 x17_2).f1.f3).length c445_4))) := ⟨belS HB GE446⟩
            (try clear HO_3)
            (try clear BK446)
            (try clear HB)
            generalize (((((w16.setCell ⟨gb446, 0, none⟩ (.string ((rd_T54 l0 x17_2).f0))).setCell ⟨gb446, 1, none⟩ (.int .i64 ((rd_T54 l0 x17_2).f1.f0))).setCell ⟨gb446, 2, none⟩ (.string ((rd_T54 l0 x17_2).f1.f1))).setCell ⟨gb446, 3, none⟩ (.slice A445_3 ((rd_T54 l0 x17_2).f1.f2).length c445_3)).setCell ⟨gb446, 4, none⟩ (.slice A445_4 ((rd_T54 l0 x17_2).f1.f3).length c445_4)) = w18 at n0_ n1_ n2_ ⊢
            have HO_3 := n0_; have BK446 := n1_; have HB := n2_; clear n0_ n1_ n2_; replace HO_3 := Aside0.mk (Kd.R_drew HO_3.out); replace BK446 := Aside0.mk (blk_drew BK446.out); replace HB := Aside0.mk (below_drew1 HB.out)
            refine start_ (n := 11) (S := fun w' => w'.cell? ⟨gb446, 0, none⟩ = some (.string ((rd_T54 l0 x17_2).f0)) ∧ w'.cell? ⟨gb446, 1, none⟩ = some (.int .i64 ((rd_T54 l0 x17_2).f1.f0)) ∧ w'.cell? ⟨gb446, 2, none⟩ = some (.string ((rd_T54 l0 x17_2).f1.f1)) ∧ w'.cell? ⟨gb446, 3, none⟩ = some (.slice A445_3 ((rd_T54 l0 x17_2).f1.f2).length c445_3) ∧ w'.cell? ⟨gb446, 4, none⟩ = some (.slice A445_4 ((rd_T54 l0 x17_2).f1.f3).length c445_4)) (ds := []) #[false, false, false, false, false, false, false, false, false, false, false] (by kernel_rfl) rfl rfl ⟨(blk_cell BK446.out 0).trans rfl, (blk_cell BK446.out 1).trans rfl, (blk_cell BK446.out 2).trans rfl, (blk_cell BK446.out 3).trans rfl, (blk_cell BK446.out 4).trans rfl⟩ (fun hHeld => ?_); refine with_tabW impl_ArgsText.tab7 impl_ArgsText.bits7 (fun HT_ HW_ => ?_)
            generalize w18.drew = w19 at HO_3 BK446 HB hHeld ⊢
            refine pure_ (i := 0) (N := some 21) (v := ?_) (a' := ?_) #[true, false, false, false, false, false, false, false, false, false, false] rfl rfl (any_of HT_.out (by kernel_rfl)) (fun _ _ _ h => h) (Or.inl ⟨by rfl, ?_⟩) ?_ ?_
            rotate_left
            ·intro w'; go_simp
             with_reducible rfl
            rotate_left
            ·exact putA
            refine pure_ (i := 1) (N := some 22) (v := ?_) (a' := ?_) #[true, true, false, false, false, false, false, false, false, false, false] rfl rfl (any_of HT_.out (by kernel_rfl)) (fun _ _ _ h => h) (Or.inl ⟨by rfl, ?_⟩) ?_ ?_
            rotate_left
            ·intro w'; go_simp
             with_reducible rfl
            rotate_left
            ·exact putA
            refine pure_ (i := 4) (N := some 25) (v := ?_) (a' := ?_) #[true, true, false, false, true, false, false, false, false, false, false] rfl rfl (any_of HT_.out (by kernel_rfl)) (fun _ _ _ h => h) (Or.inl ⟨by rfl, ?_⟩) ?_ ?_
            rotate_left
            ·intro w'; go_simp
             with_reducible rfl
            rotate_left
            ·exact putA
            refine take_ (i := 2) (N := some 23) (v := ?_) (a' := ?_) #[true, true, true, false, true, false, false, false, false, false, false] rfl rfl (take_ofW HT_.out HW_.out (by kernel_rfl)) (fun _ _ _ h => h) (Or.inl ⟨by rfl, ?_⟩) hHeld ?_ ?_
            rotate_left
            ·rintro w' ⟨s0, s1, s2, s3, s4⟩
             go_simp
             with_reducible rfl
            rotate_left
            ·exact putA
            refine pure_ (i := 3) (N := some 24) (v := ?_) (a' := ?_) #[true, true, true, true, true, false, false, false, false, false, false] rfl rfl (any_of HT_.out (by kernel_rfl)) (fun _ _ _ h => h) (Or.inl ⟨by rfl, ?_⟩) ?_ ?_
            rotate_left
            ·intro w'; go_simp
             with_reducible rfl
            rotate_left
            ·exact putA
            refine take_ (i := 5) (N := some 26) (v := ?_) (a' := ?_) #[true, true, true, true, true, true, false, false, false, false, false] rfl rfl (take_ofW HT_.out HW_.out (by kernel_rfl)) (fun _ _ _ h => h) (Or.inl ⟨by rfl, ?_⟩) hHeld ?_ ?_
            rotate_left
            ·rintro w' ⟨s0, s1, s2, s3, s4⟩
             go_simp
             with_reducible rfl
            rotate_left
            ·exact putA
            refine one_ (i := 6) (N := some 27) #[true, true, true, true, true, true, true, false, false, false, false] rfl rfl (one_of HT_.out (by kernel_rfl)) (by decide) (fun K hK => ?_)
            refine goes_ Tryz.func25 (by kernel_rfl) rfl #[.agg #[.int .i64 ((rd_T54 l0 x17_2).f1.f0), .string ((rd_T54 l0 x17_2).f1.f1), .slice A445_3 ((rd_T54 l0 x17_2).f1.f2).length c445_3, .slice A445_4 ((rd_T54 l0 x17_2).f1.f3).length c445_4]] (by rfl) rfl rfl mapA ?_
            with_reducible refine (impl_printValue.calls k2 ((rd_T54 l0 x17_2).f1.f0) ((rd_T54 l0 x17_2).f1.f1) _ _ ((rd_T54 l0 x17_2).f1.f2) _ _ ((rd_T54 l0 x17_2).f1.f3) t447 _ ?side1 ?side2 ?side3 ?side4 (Gl.below HG.out (belS HB GE446)) A13.out).mono ?_
            (case side1 => exact cbA HR445_3 HB)
            (case side2 => exact HC445_3.out)
            (case side3 => exact cbA HR445_4 HB)
            (case side4 => exact HC445_4.out)
            rintro e w20 ⟨rfl, hb⟩
            refine ⟨_, rfl, ?_⟩; replace HO_3 := Aside0.mk (Kd.R_below (kdB HO_3) hb); replace BK446 := Aside0.mk (bBA BK446 hb); replace HB := Aside0.mk (below_step (belS HB GE446) hb)
            (try clear hb)
            (try clear hb2)
            (try clear hk)
            (try clear hi)
            refine hK.out _ _ ⟨(blk_cell BK446.out 0).trans rfl, (blk_cell BK446.out 1).trans rfl, (blk_cell BK446.out 2).trans rfl, (blk_cell BK446.out 3).trans rfl, (blk_cell BK446.out 4).trans rfl⟩ (fun hHeld => ?_); clear hK K; refine norm_ (a' := ?_) ?_ ?_; rotate_left
            ·show Act.put _ (some 27) _ = _
             simp only [Act.put, List.setIfInBounds_toArray, List.set_cons_zero, List.set_cons_succ, i64_w, i32_w]
             rfl
            refine pure_ (i := 7) (N := some 28) (v := ?_) (a' := ?_) #[true, true, true, true, true, true, true, true, false, false, false] rfl rfl (any_of HT_.out (by kernel_rfl)) (fun _ _ _ h => h) (Or.inl ⟨by rfl, ?_⟩) ?_ ?_
            rotate_left
            ·intro w'; go_simp
             with_reducible rfl
            rotate_left
            ·exact putA
            refine one_ (i := 8) (N := some 29) #[true, true, true, true, true, true, true, true, true, false, false] rfl rfl (one_of HT_.out (by kernel_rfl)) (by decide) (fun K hK => ?_)
            refine value_ (w1 := ?_) (v := ?_) (by rfl) rfl ?_ ?_
            rotate_left 2
            ·go_simp
             constructor
             ·rfl
             ·rfl
            refine hK.out _ _ ⟨(blk_cell (blk_alloc BK446.out _) 0).trans rfl, (blk_cell (blk_alloc BK446.out _) 1).trans rfl, (blk_cell (blk_alloc BK446.out _) 2).trans rfl, (blk_cell (blk_alloc BK446.out _) 3).trans rfl, (blk_cell (blk_alloc BK446.out _) 4).trans rfl⟩ (fun hHeld => ?_); clear hK K; refine norm_ (a' := ?_) ?_ ?_; rotate_left
            ·show Act.put _ (some 29) _ = _
             simp only [Act.put, List.setIfInBounds_toArray, List.set_cons_zero, List.set_cons_succ, i64_w, i32_w]
             rfl
            refine one_ (i := 9) (N := some 30) #[true, true, true, true, true, true, true, true, true, true, false] rfl rfl (one_of HT_.out (by kernel_rfl)) (by decide) (fun K hK => ?_)
            refine Kd.R_append_step Kd.string (w0 := w) w.heap.size (by rfl) (.tmp 21) (.tmp 29) 49 9 (.string ⟨#[]⟩) 16 rfl Tryz.underlying49 info9 rfl (by decide) (by omega) u3 x3_2 ((((rd_T54 l0 x17_2).f0) ++ (⟨#[58, 32]⟩ : ByteArray)) ++ t447) [.string ((((rd_T54 l0 x17_2).f0) ++ (⟨#[58, 32]⟩ : ByteArray)) ++ t447)] (fun _ => True) (fun _ => False) rfl rfl ?aP (fun _ hk => hk.elim) ?aF ?aO ?aB ?aS ?aL ?_
            (case aP => exact rfl)
            (case aB => exact (belS HB GE446))
            (case aF => exact (fun _ _ => trivial))
            (case aO => exact (kdB HO_3))
            (case aS => exact (below_size (belS HB GE446)))
            (case aL => have := LMc15.out; omega)
            intro v449 w21 ho hb hg hat; rw [← Ny448.out] at ho
            have HO450 := Aside0.mk (ho); replace BK446 := Aside0.mk (blk_grown (g := gb446) (o := .cells #[.string ((rd_T54 l0 x17_2).f0), .int .i64 ((rd_T54 l0 x17_2).f1.f0), .string ((rd_T54 l0 x17_2).f1.f1), .slice A445_3 ((rd_T54 l0 x17_2).f1.f2).length c445_3, .slice A445_4 ((rd_T54 l0 x17_2).f1.f3).length c445_4] 54 (0, 0)) (blkA BK446) hg (Kd.R_ne HO_3.out BK446.out (by decide))); replace HB := Aside0.mk (hb); clear HO_3
            clear ho hb hg hat; refine hK.out _ _ ⟨(blk_cell BK446.out 0).trans rfl, (blk_cell BK446.out 1).trans rfl, (blk_cell BK446.out 2).trans rfl, (blk_cell BK446.out 3).trans rfl, (blk_cell BK446.out 4).trans rfl⟩ (fun hHeld => ?_); clear hK K; refine norm_ (a' := ?_) ?_ ?_; rotate_left
            ·show Act.put _ (some 30) _ = _
             simp only [Act.put, List.setIfInBounds_toArray, List.set_cons_zero, List.set_cons_succ, i64_w, i32_w]
             rfl
            refine pure_ (i := 10) (N := some 3) (v := ?_) (a' := ?_) #[true, true, true, true, true, true, true, true, true, true, true] rfl rfl (any_of HT_.out (by kernel_rfl)) (fun _ _ _ h => h) (Or.inl ⟨by rfl, ?_⟩) ?_ ?_
            rotate_left
            ·intro w'; go_simp
             with_reducible rfl
            rotate_left
            ·exact putA
            refine done_ (done_of HT_.out (by kernel_rfl)) ?_
            try go_wp2
            go_roundg k2
            case measure => have := HJ1.out; have := HK2.out; omega
            case rel => exact ⟨(y448), (wrap64 (x17_2 + 1)), enA, H', ⟨by have := HJ1.out; have := HK2.out; omega⟩, ⟨kdB HO450⟩, ⟨belS HB GE446⟩⟩
           ·rw [if_neg c15] at H
            exact absurd H (by simp)
          ·rw [if_neg c14] at H
           exact absurd H (by simp)
         ·rw [if_neg c12] at H
          exact absurd H (by simp)
        ·rw [if_neg c11] at H
         exact absurd H (by simp)
       ·rw [if_neg c10] at H
        exact absurd H (by simp)
      ·rw [if_neg c9] at H; have c9b0 := decide_eq_false c9; clear c9; replace H := Option.bind_eq_some_iff.mp H; obtain ⟨t451, A220, H⟩ := H; replace H : (if 1 + t451.size ≤ 9223372036854775807 then (if ((⟨#[40]⟩ : ByteArray) ++ t451).size + 1 ≤ 9223372036854775807 then (some (((⟨#[40]⟩ : ByteArray) ++ t451) ++ (⟨#[41]⟩ : ByteArray))) else (none)) else (none)) = some r := H; have A22 := Aside0.mk A220; clear A220
       by_cases c23 : 1 + t451.size ≤ 9223372036854775807
       ·rw [if_pos c23] at H; have c23b0 := eq_true c23; have c23b1 := decide_eq_true c23
        try have c23b2 : (9223372036854775807 < 1 + t451.size) = False := eq_false (Nat.not_lt.2 c23)
        by_cases c24 : ((⟨#[40]⟩ : ByteArray) ++ t451).size + 1 ≤ 9223372036854775807
        ·rw [if_pos c24] at H; have c24b0 := eq_true c24; have c24b1 := decide_eq_true c24
         have c24n : 1 + t451.size + 1 ≤ 9223372036854775807 := by have z_ := c24; simp only [ByteArray.size_append] at z_; exact z_
         have c24n0 := eq_true c24n; have c24n1 : decide (1 + t451.size + 1 ≤ 9223372036854775807) = true := decide_eq_true c24n
         try have c24b2 : (9223372036854775807 < ((⟨#[40]⟩ : ByteArray) ++ t451).size + 1) = False := eq_false (Nat.not_lt.2 c24)
         obtain rfl := Option.some.inj H; obtain ⟨Ao25, co25, eo25⟩ := Kd.R_slice HO_3.out; subst eo25
         go_wp2_with (first | ((with_reducible refine gate_callee (f := 26) rfl ?_); refine goesL_ (some 33) rfl rfl Tryz.func26 (by kernel_rfl) rfl #[.slice Ao25 x3_2.length co25, .string (⟨#[44, 32]⟩ : ByteArray)] rfl mapA ?_; (with_reducible refine (strings_Join.calls _ _ x3_2 (⟨#[44, 32]⟩ : ByteArray) t451 _ ?side1 ?side2 A22.out (strings_Join.spotR HO_3.out)).mono ?_); (case side1 => repeat (first | exact (Kd.R_reads' HO_3.out).2.2 | (with_reducible refine Kd.C_alloc ?_ _) | (with_reducible refine Kd.C_drewN ?_ _) | (with_reducible refine Kd.C_drew ?_))); (case side2 => exact (Kd.R_reads' HO_3.out).2.1); rintro e w26 ⟨rfl, hb⟩; refine ⟨_, rfl, ?_⟩; replace HO_3 := Aside0.mk (Kd.R_below (kdB HO_3) hb); replace HB := Aside0.mk (below_step (belB HB) hb); (try clear hb)))
         go_ret
         exact ⟨erA, belB HB⟩
        ·rw [if_neg c24] at H
         exact absurd H (by simp)
       ·rw [if_neg c23] at H
        exact absurd H (by simp)

def impl_DirsText.l0 : Nat → ByteArray → List (S38) → Int → Int → Option (ByteArray)
 | 0, _, _, _, _ => none
 | k + 1, x3, x9, x10, x11 => if x11 < x10 then (if 0 ≤ x11 then (if x11 < (x9.length : Int) then (if 2 + ((rd_T38 x9 x11).f0).size ≤ 9223372036854775807 then ((impl_ArgsText.f k ((rd_T38 x9 x11).f1)).bind fun t455 => (if ((⟨#[32, 64]⟩ : ByteArray) ++ ((rd_T38 x9 x11).f0)).size + t455.size ≤ 9223372036854775807 then (if x3.size + (((⟨#[32, 64]⟩ : ByteArray) ++ ((rd_T38 x9 x11).f0)) ++ t455).size ≤ 9223372036854775807 then (impl_DirsText.l0 k (x3 ++ (((⟨#[32, 64]⟩ : ByteArray) ++ ((rd_T38 x9 x11).f0)) ++ t455)) x9 x10 (wrap64 (x11 + 1))) else (none)) else (none))) else (none)) else (none)) else (none)) else (some x3)
def impl_DirsText.f (k : Nat) (l0 : List (S38)) : Option (ByteArray) := (impl_DirsOk.f k l0).bind fun t452 => (if t452 = true then (impl_DirsText.l0 k (⟨#[]⟩ : ByteArray) l0 (l0.length : Int) 0) else (some (⟨#[]⟩ : ByteArray)))
theorem impl_DirsText.mono_l : ∀ k, (∀ y0 y1 y2 y3, LeO (impl_DirsText.l0 k y0 y1 y2 y3) (impl_DirsText.l0 (k + 1) y0 y1 y2 y3))
 | 0 => fun _ _ _ _ r h => by simp [impl_DirsText.l0] at h
 | k + 1 => by
  have ih0 := impl_DirsText.mono_l k
  ·intro y0 y1 y2 y3; unfold impl_DirsText.l0
   repeat' first
   | (with_reducible first | exact ih0 _ _ _ _ | exact impl_ArgsText.mono _ _ | exact impl_DirsOk.mono _ _ | exact LeO.refl _ | exact LeO.none _ | refine LeO.ite ?_ ?_ | refine LeO.bind ?_ (fun _ => ?_))
   | exact ih0 _ _ _ _ | exact impl_ArgsText.mono _ _ | exact impl_DirsOk.mono _ _ | exact LeO.none _ | refine LeO.ite ?_ ?_ | refine LeO.bind ?_ (fun _ => ?_)
theorem impl_DirsText.mono : ∀ a0 k, LeO (impl_DirsText.f k a0) (impl_DirsText.f (k + 1) a0) := by
 intro a0 k; have ih0 := impl_DirsText.mono_l k; unfold impl_DirsText.f
 repeat' first
   | (with_reducible first | exact ih0 _ _ _ _ | exact impl_ArgsText.mono _ _ | exact impl_DirsOk.mono _ _ | exact LeO.refl _ | exact LeO.none _ | refine LeO.ite ?_ ?_ | refine LeO.bind ?_ (fun _ => ?_))
   | exact ih0 _ _ _ _ | exact impl_ArgsText.mono _ _ | exact impl_DirsOk.mono _ _ | exact LeO.none _ | refine LeO.ite ?_ ?_ | refine LeO.bind ?_ (fun _ => ?_)
def impl_DirsText.T7 : Bool × List (List Nat × List Nat) := (true, [([], []), ([], []), ([1], [1]), ([2], [2]), ([], []), ([4], [4]), ([5], [5]), ([3, 6], [3, 6]), ([0, 7], [0, 7]), ([8, 6, 0, 1, 2, 3, 4, 5, 6, 7, 8], [0, 8])])
def impl_DirsText.B7 : List Nat := [0, 0, 2, 6, 0, 16, 48, 126, 255, 511]
theorem impl_DirsText.tab7 : rtab .any (opsOf Tryz.f7 7) = impl_DirsText.T7 := by kernel_rfl
theorem impl_DirsText.bits7 : waitsOk impl_DirsText.T7.2 impl_DirsText.B7 = true := by kernel_rfl
set_option maxHeartbeats 8000000 in
set_option maxRecDepth 100000 in
theorem impl_DirsText.calls (k : Nat) (A0 : Option Addr) (c0 : Nat) (l0 : List (S38)) (r : ByteArray) (w : World) (hr0 : Kd.C k38 w A0 l0.length l0) (hc0 : l0.length ≤ c0) (hG : Gl w) (h : impl_DirsText.f k l0 = some r) :
  Calls Tryz.prog 7 #[.slice A0 l0.length c0] w fun e w' => e = .returned (.string r) ∧ Below w.heap.size w w' := by
 have hu38 := Tryz.underlying38; have HG := Aside0.mk hG; clear hG; have HR0 := Aside0.mk hr0; have HC0 := Aside0.mk hc0; clear hr0 hc0; have HB := Aside0.mk (Below.refl w.heap.size w); have H : ((impl_DirsOk.f k l0).bind fun t452 => (if t452 = true then (impl_DirsText.l0 k (⟨#[]⟩ : ByteArray) l0 (l0.length : Int) 0) else (some (⟨#[]⟩ : ByteArray)))) = some r := h; clear h; replace H := Option.bind_eq_some_iff.mp H; obtain ⟨t452, A20, H⟩ := H; replace H : (if t452 = true then (impl_DirsText.l0 k (⟨#[]⟩ : ByteArray) l0 (l0.length : Int) 0) else (some (⟨#[]⟩ : ByteArray))) = some r := H; have A2 := Aside0.mk A20; clear A20
 by_cases c3 : t452 = true
 ·subst c3
  have H1 : (impl_DirsText.l0 k (⟨#[]⟩ : ByteArray) l0 (l0.length : Int) 0) = some r := by rw [if_pos rfl] at H; exact H
  clear H; have H := H1; clear H1
  have H' := Aside0.mk H
  clear H
  go_enter Tryz.func7, Tryz.ntmps7
  go_wp2_with (first | ((with_reducible refine gate_callee (f := 13) rfl ?_); refine goesL_ (some 7) rfl rfl Tryz.func13 (by kernel_rfl) rfl #[.slice A0 l0.length c0] rfl mapA ?_; (with_reducible refine (impl_DirsOk.calls k _ _ l0 true _ ?side1 ?side2 (Gl.below HG.out (belB HB)) A2.out).mono ?_); (case side1 => repeat (first | exact HR0.out | (with_reducible refine Kd.C_alloc ?_ _) | (with_reducible refine Kd.C_drewN ?_ _) | (with_reducible refine Kd.C_drew ?_))); (case side2 => exact HC0.out); rintro e w4 ⟨rfl, hb⟩; refine ⟨_, rfl, ?_⟩; replace HB := Aside0.mk (below_step (belB HB) hb); (try clear hb)))
  go_loopg [3, 11] k (fun kq v3 v11 w' => ∃ (x3_1 : ByteArray) (x11_1 : Int), v3 = .string x3_1 ∧ v11 = .int .i64 x11_1 ∧ Aside0 (impl_DirsText.l0 kq x3_1 l0 (l0.length : Int) x11_1 = some r) ∧ Aside0 (kq ≤ k) ∧ Aside0 (Below w.heap.size w w'))
  case atStart => exact ⟨((⟨#[]⟩ : ByteArray)), (0), enA, enA, H', ⟨Nat.le_refl _⟩, ⟨belB HB⟩⟩
  case round =>
   clear H'
   try clear c1
   try clear p2
   try clear c3
   obtain ⟨x3_1, x11_1, rfl, rfl, HA, HK1, HB⟩ := hrel
   cases gk with
   | zero => exact absurd HA.out (by simp [impl_DirsText.l0])
   | succ k1 =>
    have H := HA.out; clear HA
    simp only [impl_DirsText.l0] at H
    by_cases c5 : x11_1 < (l0.length : Int)
    ·rw [if_pos c5] at H; have c5b0 := decide_eq_true c5; clear c5
     by_cases c6 : 0 ≤ x11_1
     ·rw [if_pos c6] at H; have c6b0 := decide_eq_true c6; clear c6
      by_cases c7 : x11_1 < (l0.length : Int)
      ·rw [if_pos c7] at H; have c7b0 := decide_eq_true c7; clear c7
       by_cases c8 : 2 + ((rd_T38 l0 x11_1).f0).size ≤ 9223372036854775807
       ·rw [if_pos c8] at H; have c8b0 := eq_true c8; have c8b1 := decide_eq_true c8
        try have c8b2 : (9223372036854775807 < 2 + ((rd_T38 l0 x11_1).f0).size) = False := eq_false (Nat.not_lt.2 c8)
        replace H := Option.bind_eq_some_iff.mp H; obtain ⟨t455, A90, H⟩ := H; replace H : (if ((⟨#[32, 64]⟩ : ByteArray) ++ ((rd_T38 l0 x11_1).f0)).size + t455.size ≤ 9223372036854775807 then (if x3_1.size + (((⟨#[32, 64]⟩ : ByteArray) ++ ((rd_T38 l0 x11_1).f0)) ++ t455).size ≤ 9223372036854775807 then (impl_DirsText.l0 k1 (x3_1 ++ (((⟨#[32, 64]⟩ : ByteArray) ++ ((rd_T38 l0 x11_1).f0)) ++ t455)) l0 (l0.length : Int) (wrap64 (x11_1 + 1))) else (none)) else (none)) = some r := H; have A9 := Aside0.mk A90; clear A90
        by_cases c10 : ((⟨#[32, 64]⟩ : ByteArray) ++ ((rd_T38 l0 x11_1).f0)).size + t455.size ≤ 9223372036854775807
        ·rw [if_pos c10] at H; have c10b0 := eq_true c10; have c10b1 := decide_eq_true c10
         try have c10b2 : (9223372036854775807 < ((⟨#[32, 64]⟩ : ByteArray) ++ ((rd_T38 l0 x11_1).f0)).size + t455.size) = False := eq_false (Nat.not_lt.2 c10)
         try have c10b3 : (9223372036854775807 < 2 + ((rd_T38 l0 x11_1).f0).size + t455.size) = False := eq_false (by have z_ := Nat.not_lt.2 c10; simp only [ByteArray.size_append] at z_; exact z_)
         by_cases c11 : x3_1.size + (((⟨#[32, 64]⟩ : ByteArray) ++ ((rd_T38 l0 x11_1).f0)) ++ t455).size ≤ 9223372036854775807
         ·rw [if_pos c11] at H; have c11b0 := eq_true c11; have c11b1 := decide_eq_true c11
          try have c11b2 : (9223372036854775807 < x3_1.size + (((⟨#[32, 64]⟩ : ByteArray) ++ ((rd_T38 l0 x11_1).f0)) ++ t455).size) = False := eq_false (Nat.not_lt.2 c11)
          try have c11b3 : (9223372036854775807 < x3_1.size + (2 + ((rd_T38 l0 x11_1).f0).size + t455.size)) = False := eq_false (by have z_ := Nat.not_lt.2 c11; simp only [ByteArray.size_append] at z_; exact z_)
          have H' := Aside0.mk H
          clear H; have p453 : 0 ≤ (x11_1 : Int) := odA; have q453 : x11_1 < (l0.length : Int) := odA; obtain ⟨ad453, A453_1, c453_1, e453, hx453_0, hx453_1, hl453_1, hi453_1⟩ := at_T38 HR0.out x11_1 p453 q453
          cases e453
          (try replace hx453_0 := celB HB hx453_0)
          (try replace hx453_1 := celB HB hx453_1)
          have HR453_1 := Aside0.mk hi453_1; have HC453_1 := Aside0.mk hl453_1; clear hi453_1 hl453_1; replace p453 := eq_true p453; replace q453 := eq_true q453
          try go_wp2_with (first | ((with_reducible refine gate_dst (N := 5) rfl ?_); refine boxE (N := 5) (cs := #[.string (⟨#[]⟩ : ByteArray), .slice none 0 0]) (t := 38) ?_; intro gb454 hg w12 hbox hb; have BK454 := Aside0.mk (hbox); have GW454 := Aside0.mk ((gbA (w := w) HB hg)); have GE454 := Aside0.mk ((gbA (w := w) HB hg)); replace HB := Aside0.mk (below_step (belB HB) hb); clear hb hbox hg; obtain ⟨hcz13_0, hcz13_1, hfz13_0, hfz13_1⟩ := cef2 BK454.out))
          have n0_ : Aside0 (((w12.setCell ⟨gb454, 0, none⟩ (.string ((rd_T38 l0 x11_1).f0))).setCell ⟨gb454, 1, none⟩ (.slice A453_1 ((rd_T38 l0 x11_1).f1).length c453_1)).heap[gb454]? = some (.cells #[.string ((rd_T38 l0 x11_1).f0), .slice A453_1 ((rd_T38 l0 x11_1).f1).length c453_1] 38 (0, 0))) := ⟨by (with_reducible repeat (first | refine blk_drewN ?_ _ | refine blk_drew ?_ | refine blk_alloc ?_ _)); refine blk_put (cs := #[.string ((rd_T38 l0 x11_1).f0), .slice none 0 0]) ?_ 1 _ rfl; (with_reducible repeat (first | refine blk_drewN ?_ _ | refine blk_drew ?_ | refine blk_alloc ?_ _)); refine blk_put (cs := #[.string (⟨#[]⟩ : ByteArray), .slice none 0 0]) ?_ 0 _ rfl; (with_reducible repeat (first | refine blk_drewN ?_ _ | refine blk_drew ?_ | refine blk_alloc ?_ _)); exact BK454.out⟩
          have n1_ : Aside0 (Below w.heap.size w ((w12.setCell ⟨gb454, 0, none⟩ (.string ((rd_T38 l0 x11_1).f0))).setCell ⟨gb454, 1, none⟩ (.slice A453_1 ((rd_T38 l0 x11_1).f1).length c453_1))) := ⟨belS HB GE454⟩
          (try clear BK454)
          (try clear HB)
          generalize ((w12.setCell ⟨gb454, 0, none⟩ (.string ((rd_T38 l0 x11_1).f0))).setCell ⟨gb454, 1, none⟩ (.slice A453_1 ((rd_T38 l0 x11_1).f1).length c453_1)) = w14 at n0_ n1_ ⊢
          have BK454 := n0_; have HB := n1_; clear n0_ n1_; replace BK454 := Aside0.mk (blk_drew BK454.out); replace HB := Aside0.mk (below_drew1 HB.out)
          refine start_ (n := 10) (S := fun w' => w'.cell? ⟨gb454, 0, none⟩ = some (.string ((rd_T38 l0 x11_1).f0)) ∧ w'.cell? ⟨gb454, 1, none⟩ = some (.slice A453_1 ((rd_T38 l0 x11_1).f1).length c453_1)) (ds := []) #[false, false, false, false, false, false, false, false, false, false] (by kernel_rfl) rfl rfl ⟨(blk_cell BK454.out 0).trans rfl, (blk_cell BK454.out 1).trans rfl⟩ (fun hHeld => ?_); refine with_tabW impl_DirsText.tab7 impl_DirsText.bits7 (fun HT_ HW_ => ?_)
          generalize w14.drew = w15 at BK454 HB hHeld ⊢
          refine pure_ (i := 0) (N := some 15) (v := ?_) (a' := ?_) #[true, false, false, false, false, false, false, false, false, false] rfl rfl (any_of HT_.out (by kernel_rfl)) (fun _ _ _ h => h) (Or.inl ⟨by rfl, ?_⟩) ?_ ?_
          rotate_left
          ·intro w'; go_simp
           with_reducible rfl
          rotate_left
          ·exact putA
          refine pure_ (i := 1) (N := some 16) (v := ?_) (a' := ?_) #[true, true, false, false, false, false, false, false, false, false] rfl rfl (any_of HT_.out (by kernel_rfl)) (fun _ _ _ h => h) (Or.inl ⟨by rfl, ?_⟩) ?_ ?_
          rotate_left
          ·intro w'; go_simp
           with_reducible rfl
          rotate_left
          ·exact putA
          refine pure_ (i := 4) (N := some 19) (v := ?_) (a' := ?_) #[true, true, false, false, true, false, false, false, false, false] rfl rfl (any_of HT_.out (by kernel_rfl)) (fun _ _ _ h => h) (Or.inl ⟨by rfl, ?_⟩) ?_ ?_
          rotate_left
          ·intro w'; go_simp
           with_reducible rfl
          rotate_left
          ·exact putA
          refine take_ (i := 2) (N := some 17) (v := ?_) (a' := ?_) #[true, true, true, false, true, false, false, false, false, false] rfl rfl (take_ofW HT_.out HW_.out (by kernel_rfl)) (fun _ _ _ h => h) (Or.inl ⟨by rfl, ?_⟩) hHeld ?_ ?_
          rotate_left
          ·rintro w' ⟨s0, s1⟩
           go_simp
           with_reducible rfl
          rotate_left
          ·exact putA
          refine pure_ (i := 3) (N := some 18) (v := ?_) (a' := ?_) #[true, true, true, true, true, false, false, false, false, false] rfl rfl (any_of HT_.out (by kernel_rfl)) (fun _ _ _ h => h) (Or.inl ⟨by rfl, ?_⟩) ?_ ?_
          rotate_left
          ·intro w'; go_simp
           with_reducible rfl
          rotate_left
          ·exact putA
          refine take_ (i := 5) (N := some 20) (v := ?_) (a' := ?_) #[true, true, true, true, true, true, false, false, false, false] rfl rfl (take_ofW HT_.out HW_.out (by kernel_rfl)) (fun _ _ _ h => h) (Or.inl ⟨by rfl, ?_⟩) hHeld ?_ ?_
          rotate_left
          ·rintro w' ⟨s0, s1⟩
           go_simp
           with_reducible rfl
          rotate_left
          ·exact putA
          refine one_ (i := 6) (N := some 21) #[true, true, true, true, true, true, true, false, false, false] rfl rfl (one_of HT_.out (by kernel_rfl)) (by decide) (fun K hK => ?_)
          refine goes_ Tryz.func14 (by kernel_rfl) rfl #[.slice A453_1 ((rd_T38 l0 x11_1).f1).length c453_1] (by rfl) rfl rfl mapA ?_
          with_reducible refine (impl_ArgsText.calls k1 _ _ ((rd_T38 l0 x11_1).f1) t455 _ ?side1 ?side2 (Gl.below HG.out (belS HB GE454)) A9.out).mono ?_
          (case side1 => exact cbA HR453_1 HB)
          (case side2 => exact HC453_1.out)
          rintro e w16 ⟨rfl, hb⟩
          refine ⟨_, rfl, ?_⟩; replace BK454 := Aside0.mk (bBA BK454 hb); replace HB := Aside0.mk (below_step (belS HB GE454) hb)
          (try clear hb)
          (try clear hb2)
          (try clear hk)
          (try clear hi)
          refine hK.out _ _ ⟨(blk_cell BK454.out 0).trans rfl, (blk_cell BK454.out 1).trans rfl⟩ (fun hHeld => ?_); clear hK K; refine norm_ (a' := ?_) ?_ ?_; rotate_left
          ·show Act.put _ (some 21) _ = _
           simp only [Act.put, List.setIfInBounds_toArray, List.set_cons_zero, List.set_cons_succ, i64_w, i32_w]
           rfl
          refine pure_ (i := 7) (N := some 22) (v := ?_) (a' := ?_) #[true, true, true, true, true, true, true, true, false, false] rfl rfl (any_of HT_.out (by kernel_rfl)) (fun _ _ _ h => h) (Or.inl ⟨by rfl, ?_⟩) ?_ ?_
          rotate_left
          ·intro w'; go_simp
           with_reducible rfl
          rotate_left
          ·exact putA
          refine pure_ (i := 8) (N := some 23) (v := ?_) (a' := ?_) #[true, true, true, true, true, true, true, true, true, false] rfl rfl (any_of HT_.out (by kernel_rfl)) (fun _ _ _ h => h) (Or.inl ⟨by rfl, ?_⟩) ?_ ?_
          rotate_left
          ·intro w'; go_simp
           with_reducible rfl
          rotate_left
          ·exact putA
          refine pure_ (i := 9) (N := some 3) (v := ?_) (a' := ?_) #[true, true, true, true, true, true, true, true, true, true] rfl rfl (any_of HT_.out (by kernel_rfl)) (fun _ _ _ h => h) (Or.inl ⟨by rfl, ?_⟩) ?_ ?_
          rotate_left
          ·intro w'; go_simp
           with_reducible rfl
          rotate_left
          ·exact putA
          refine done_ (done_of HT_.out (by kernel_rfl)) ?_
          try go_wp2
          go_roundg k1
          case measure => have := HK1.out; omega
          case rel => exact ⟨(x3_1 ++ (((⟨#[32, 64]⟩ : ByteArray) ++ ((rd_T38 l0 x11_1).f0)) ++ t455)), (wrap64 (x11_1 + 1)), enA, enA, H', ⟨by have := HK1.out; omega⟩, ⟨belS HB GE454⟩⟩
         ·rw [if_neg c11] at H
          exact absurd H (by simp)
        ·rw [if_neg c10] at H
         exact absurd H (by simp)
       ·rw [if_neg c8] at H
        exact absurd H (by simp)
      ·rw [if_neg c7] at H
       exact absurd H (by simp)
     ·rw [if_neg c6] at H
      exact absurd H (by simp)
    ·rw [if_neg c5] at H; have c5b0 := decide_eq_false c5; clear c5; obtain rfl := Option.some.inj H
     go_wp2
     go_ret
     exact ⟨erA, belB HB⟩
 ·replace c3 := Bool.eq_false_iff.mpr c3; subst c3
  have H1 : (some (⟨#[]⟩ : ByteArray)) = some r := by rw [if_neg (show ¬ (false = true) by decide)] at H; exact H
  clear H; have H := H1; clear H1; obtain rfl := Option.some.inj H
  go_enter Tryz.func7, Tryz.ntmps7
  go_wp2_with (first | ((with_reducible refine gate_callee (f := 13) rfl ?_); refine goesL_ (some 7) rfl rfl Tryz.func13 (by kernel_rfl) rfl #[.slice A0 l0.length c0] rfl mapA ?_; (with_reducible refine (impl_DirsOk.calls k _ _ l0 false _ ?side1 ?side2 (Gl.below HG.out (belB HB)) A2.out).mono ?_); (case side1 => repeat (first | exact HR0.out | (with_reducible refine Kd.C_alloc ?_ _) | (with_reducible refine Kd.C_drewN ?_ _) | (with_reducible refine Kd.C_drew ?_))); (case side2 => exact HC0.out); rintro e w17 ⟨rfl, hb⟩; refine ⟨_, rfl, ?_⟩; replace HB := Aside0.mk (below_step (belB HB) hb); (try clear hb)))
  go_ret
  exact ⟨erA, belB HB⟩


def laws_eqStringS.l0 : Nat → List ByteArray → List ByteArray → Int → Option (Bool)
 | 0, _, _, _ => none
 | k + 1, x0, x1, x5 => if x5 < (x0.length : Int) then (if 0 ≤ x5 then (if x5 < (x1.length : Int) then (if (rdOf ByteArray.empty x0 x5).toList = (rdOf ByteArray.empty x1 x5).toList then (laws_eqStringS.l0 k x0 x1 (wrap64 (x5 + 1))) else (some false)) else (none)) else (none)) else (some true)
def laws_eqStringS.f (k : Nat) (l0 : List ByteArray) (l1 : List ByteArray) : Option (Bool) := if (l0.length : Int) = (l1.length : Int) then (laws_eqStringS.l0 k l0 l1 0) else (some false)
theorem laws_eqStringS.mono_l : ∀ k, (∀ y0 y1 y2, LeO (laws_eqStringS.l0 k y0 y1 y2) (laws_eqStringS.l0 (k + 1) y0 y1 y2))
 | 0 => fun _ _ _ r h => by simp [laws_eqStringS.l0] at h
 | k + 1 => by
  have ih0 := laws_eqStringS.mono_l k
  ·intro y0 y1 y2; unfold laws_eqStringS.l0
   repeat' first
   | (with_reducible first | exact ih0 _ _ _ | exact LeO.refl _ | exact LeO.none _ | refine LeO.ite ?_ ?_ | refine LeO.bind ?_ (fun _ => ?_))
   | exact ih0 _ _ _ | exact LeO.none _ | refine LeO.ite ?_ ?_ | refine LeO.bind ?_ (fun _ => ?_)
theorem laws_eqStringS.mono : ∀ a0 a1 k, LeO (laws_eqStringS.f k a0 a1) (laws_eqStringS.f (k + 1) a0 a1) := by
 intro a0 a1 k; have ih0 := laws_eqStringS.mono_l k; unfold laws_eqStringS.f
 repeat' first
   | (with_reducible first | exact ih0 _ _ _ | exact LeO.refl _ | exact LeO.none _ | refine LeO.ite ?_ ?_ | refine LeO.bind ?_ (fun _ => ?_))
   | exact ih0 _ _ _ | exact LeO.none _ | refine LeO.ite ?_ ?_ | refine LeO.bind ?_ (fun _ => ?_)
set_option maxHeartbeats 8000000 in
set_option maxRecDepth 100000 in
theorem laws_eqStringS.calls (k : Nat) (A0 : Option Addr) (c0 : Nat) (l0 : List ByteArray) (A1 : Option Addr) (c1 : Nat) (l1 : List ByteArray) (r : Bool) (w : World) (hr0 : Kd.C Kd.string w A0 l0.length l0) (hc0 : l0.length ≤ c0) (hr1 : Kd.C Kd.string w A1 l1.length l1) (hc1 : l1.length ≤ c1) (h : laws_eqStringS.f k l0 l1 = some r) :
  Calls Tryz.prog 78 #[.slice A0 l0.length c0, .slice A1 l1.length c1] w fun e w' => e = .returned (.bool r) ∧ Drawn0 w w' := by
 have HR0 := Aside0.mk hr0; have HC0 := Aside0.mk hc0; clear hr0 hc0; have HR1 := Aside0.mk hr1; have HC1 := Aside0.mk hc1; clear hr1 hc1; have H : (if (l0.length : Int) = (l1.length : Int) then (laws_eqStringS.l0 k l0 l1 0) else (some false)) = some r := h; clear h
 by_cases c3 : (l0.length : Int) = (l1.length : Int)
 ·rw [if_pos c3] at H; have c3b0 := beq_iff_eq.mpr c3; have c3b1 := bne_eq_false_iff_eq.mpr c3
  have c3b2 : (l0.length == l1.length) = true := by first | simpa using c3 | (simp at c3 ⊢; omega)
  clear c3
  have H' := Aside0.mk H
  clear H
  go_enter Tryz.func78, Tryz.ntmps78
  go_wp2
  repeat (go_quiet (fail); try go_wp2)
  go_loopg [5] k (fun kq v5 w' => ∃ (x5_1 : Int), v5 = .int .i64 x5_1 ∧ Aside0 (laws_eqStringS.l0 kq l0 l1 x5_1 = some r) ∧ Aside0 (kq ≤ k) ∧ Drawn0 w w')
  case atStart => exact ⟨(0), enA, H', ⟨Nat.le_refl _⟩, drA⟩
  case round =>
   clear H'
   try clear c1
   try clear p2
   try clear c3
   try clear c3b0
   try clear c3b1
   try clear c3b2
   obtain ⟨x5_1, rfl, HA, HK1, ⟨m1, rfl⟩⟩ := hrel
   cases gk with
   | zero => exact absurd HA.out (by simp [laws_eqStringS.l0])
   | succ k1 =>
    have H := HA.out; clear HA
    simp only [laws_eqStringS.l0] at H
    by_cases c4 : x5_1 < (l0.length : Int)
    ·rw [if_pos c4] at H; have c4b0 := decide_eq_true c4; clear c4
     by_cases c5 : 0 ≤ x5_1
     ·rw [if_pos c5] at H; have c5b0 := decide_eq_true c5; clear c5
      by_cases c6 : x5_1 < (l1.length : Int)
      ·rw [if_pos c6] at H; have c6b0 := decide_eq_true c6; clear c6
       by_cases c7 : (rdOf ByteArray.empty l0 x5_1).toList = (rdOf ByteArray.empty l1 x5_1).toList
       ·rw [if_pos c7] at H; have c7b0 := beq_iff_eq.mpr c7; have c7b1 := bne_eq_false_iff_eq.mpr c7; clear c7
        have H' := Aside0.mk H
        clear H; have p459 : 0 ≤ (x5_1 : Int) := odA; have q459 : x5_1 < (l0.length : Int) := odA; obtain ⟨ad459, e459, hx459_0⟩ := Kd.at_string HR0.out x5_1 p459 q459
        cases e459
        replace p459 := eq_true p459; replace q459 := eq_true q459; have p460 : 0 ≤ (x5_1 : Int) := odA; have q460 : x5_1 < (l1.length : Int) := odA; obtain ⟨ad460, e460, hx460_0⟩ := Kd.at_string HR1.out x5_1 p460 q460
        cases e460
        replace p460 := eq_true p460; replace q460 := eq_true q460
        go_wp2
        repeat (go_quiet (fail); try go_wp2)
        go_roundg k1
        case measure => have := HK1.out; omega
        case rel => exact ⟨(wrap64 (x5_1 + 1)), enA, H', ⟨by have := HK1.out; omega⟩, drA⟩
       ·rw [if_neg c7] at H; have c7b0 := beq_eq_false_iff_ne.mpr c7; have c7b1 := bne_iff_ne.mpr c7; obtain rfl := Option.some.inj H; have p459 : 0 ≤ (x5_1 : Int) := odA; have q459 : x5_1 < (l0.length : Int) := odA; obtain ⟨ad459, e459, hx459_0⟩ := Kd.at_string HR0.out x5_1 p459 q459
        cases e459
        replace p459 := eq_true p459; replace q459 := eq_true q459; have p460 : 0 ≤ (x5_1 : Int) := odA; have q460 : x5_1 < (l1.length : Int) := odA; obtain ⟨ad460, e460, hx460_0⟩ := Kd.at_string HR1.out x5_1 p460 q460
        cases e460
        replace p460 := eq_true p460; replace q460 := eq_true q460
        go_wp2
        repeat (go_quiet (fail); try go_wp2)
        go_ret
        exact ⟨enA, drA⟩
      ·rw [if_neg c6] at H
       exact absurd H (by simp)
     ·rw [if_neg c5] at H
      exact absurd H (by simp)
    ·rw [if_neg c4] at H; have c4b0 := decide_eq_false c4; clear c4; obtain rfl := Option.some.inj H
     go_wp2
     repeat (go_quiet (fail); try go_wp2)
     go_ret
     exact ⟨enA, drA⟩
 ·rw [if_neg c3] at H; have c3b0 := beq_eq_false_iff_ne.mpr c3; have c3b1 := bne_iff_ne.mpr c3
  have c3b2 : (l0.length == l1.length) = false := by first | simpa using c3 | (simp at c3 ⊢; omega)
  obtain rfl := Option.some.inj H
  go_enter Tryz.func78, Tryz.ntmps78
  go_wp2
  repeat (go_quiet (fail); try go_wp2)
  go_ret
  exact ⟨enA, drA⟩

end Go.Proofs.YtjhagdjjlgjlbaaGreatDoor.OFnExactDirsText
-- narrow
