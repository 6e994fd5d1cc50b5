/- The machine side of one law, written by a program. -/
import Derived.Test.YtjhagdjjlgjlbaaGreatDoorOFnExactDirsTextx0
import Derived.Test.YtjhagdjjlgjlbaaGreatDoorOFnExactDirsTextx4
namespace Go.Proofs.YtjhagdjjlgjlbaaGreatDoor.OFnExactDirsText
open Go.Proofs.YtjhagdjjlgjlbaaGreatDoor.GlU Go.Proofs.YtjhagdjjlgjlbaaGreatDoor.Ix
open Go.RowKit Go.Proofs.YtjhagdjjlgjlbaaGreatDoorW.PrintWords Go.Proofs.YtjhagdjjlgjlbaaGreatDoorW.PrintLast Go.Proofs.YtjhagdjjlgjlbaaGreatDoorW.PrintMore
attribute [local go_sem] max2_int min2_int max_two min_two max_three min_three max_four min_four
set_option linter.unusedVariables false
set_option linter.unusedSimpArgs false

mutual
def spec_l07Say.j0 : Nat → List Int → Bool → Int → ByteArray → List (S52) → List ByteArray → Option (List Int)
 | 0, _, _, _, _, _, _ => none
 | k + 1, x0, x25, x177000, x177001, x177002, x177003 => if x25 = true then (if x177000 = 8 then (spec_l07Say.j1 k x0 123 125 x177000 x177001 x177002 x177003) else (spec_l07Say.j1 k x0 91 93 x177000 x177001 x177002 x177003)) else (if x0.length + x177001.size < 140737488355328 then (some (x0 ++ bytesOf x177001)) else (none))
def spec_l07Say.j1 : Nat → List Int → Int → Int → Int → ByteArray → List (S52) → List ByteArray → Option (List Int)
 | 0, _, _, _, _, _, _, _ => none
 | k + 1, x0, x5, x6, x177000, x177001, x177002, x177003 => if x0.length < 140737488355328 then (spec_l07Say.l0 k (x0 ++ [x5]) x6 0 x177000 x177001 x177002 x177003) else (none)
def spec_l07Say.l0 : Nat → List Int → Int → Int → Int → ByteArray → List (S52) → List ByteArray → Option (List Int)
 | 0, _, _, _, _, _, _, _ => none
 | k + 1, x0, x6, x7, x177000, x177001, x177002, x177003 => if x7 < (x177002.length : Int) then (if x7 > 0 then ((some (([44, 32] : List Int) : List Int)).bind fun y193 => (if x0.length + y193.length < 140737488355328 then ((some (x0 ++ y193 : List Int)).bind fun y196 => (if x177000 = 8 then (if 0 ≤ x7 then (if x7 < (x177003.length : Int) then (if y196.length + (rdOf ByteArray.empty x177003 x7).size < 140737488355328 then ((some (y196 ++ bytesOf (rdOf ByteArray.empty x177003 x7) : List Int)).bind fun y200 => ((some (([58, 32] : List Int) : List Int)).bind fun y203 => (if y200.length + y203.length < 140737488355328 then ((spec_l07Say.f k (y200 ++ y203) ((rd_T52 x177002 x7).f0) ((rd_T52 x177002 x7).f1) ((rd_T52 x177002 x7).f2) ((rd_T52 x177002 x7).f3)).bind fun t210 => (spec_l07Say.l0 k t210 x6 (wrap64 (x7 + 1)) x177000 x177001 x177002 x177003)) else (none)))) else (none)) else (none)) else (none)) else (if 0 ≤ x7 then ((spec_l07Say.f k y196 ((rd_T52 x177002 x7).f0) ((rd_T52 x177002 x7).f1) ((rd_T52 x177002 x7).f2) ((rd_T52 x177002 x7).f3)).bind fun t214 => (spec_l07Say.l0 k t214 x6 (wrap64 (x7 + 1)) x177000 x177001 x177002 x177003)) else (none)))) else (none))) else (if x177000 = 8 then (if 0 ≤ x7 then (if x7 < (x177003.length : Int) then (if x0.length + (rdOf ByteArray.empty x177003 x7).size < 140737488355328 then ((some (x0 ++ bytesOf (rdOf ByteArray.empty x177003 x7) : List Int)).bind fun y218 => ((some (([58, 32] : List Int) : List Int)).bind fun y221 => (if y218.length + y221.length < 140737488355328 then ((spec_l07Say.f k (y218 ++ y221) ((rd_T52 x177002 x7).f0) ((rd_T52 x177002 x7).f1) ((rd_T52 x177002 x7).f2) ((rd_T52 x177002 x7).f3)).bind fun t228 => (spec_l07Say.l0 k t228 x6 (wrap64 (x7 + 1)) x177000 x177001 x177002 x177003)) else (none)))) else (none)) else (none)) else (none)) else (if 0 ≤ x7 then ((spec_l07Say.f k x0 ((rd_T52 x177002 x7).f0) ((rd_T52 x177002 x7).f1) ((rd_T52 x177002 x7).f2) ((rd_T52 x177002 x7).f3)).bind fun t232 => (spec_l07Say.l0 k t232 x6 (wrap64 (x7 + 1)) x177000 x177001 x177002 x177003)) else (none)))) else (if x0.length < 140737488355328 then (some (x0 ++ [x6])) else (none))
def spec_l07Say.f : Nat → List Int → Int → ByteArray → List (S52) → List ByteArray → Option (List Int)
 | 0, _, _, _, _, _ => none
 | k + 1, l0, a1_0, a1_1, l1_2, l1_3 => if a1_0 = 1 then (if l0.length < 140737488355328 then ((some (l0 ++ [36] : List Int)).bind fun y177 => (if y177.length + a1_1.size < 140737488355328 then (some (y177 ++ bytesOf a1_1)) else (none))) else (none)) else (if a1_0 = 4 then ((spec_Escaped.f k a1_1).bind fun t183 => (if l0.length + t183.size < 140737488355328 then (some (l0 ++ bytesOf t183)) else (none))) else (if a1_0 = 7 then (spec_l07Say.j0 k l0 (a1_0 == 7) a1_0 a1_1 l1_2 l1_3) else (spec_l07Say.j0 k l0 (a1_0 == 8) a1_0 a1_1 l1_2 l1_3)))
end
theorem spec_l07Say.mono_l : ∀ k, (∀ y0 y1 y2 y3 y4, LeO (spec_l07Say.f k y0 y1 y2 y3 y4) (spec_l07Say.f (k + 1) y0 y1 y2 y3 y4)) ∧ (∀ y0 y1 y2 y3 y4 y5, LeO (spec_l07Say.j0 k y0 y1 y2 y3 y4 y5) (spec_l07Say.j0 (k + 1) y0 y1 y2 y3 y4 y5)) ∧ (∀ y0 y1 y2 y3 y4 y5 y6, LeO (spec_l07Say.j1 k y0 y1 y2 y3 y4 y5 y6) (spec_l07Say.j1 (k + 1) y0 y1 y2 y3 y4 y5 y6)) ∧ (∀ y0 y1 y2 y3 y4 y5 y6, LeO (spec_l07Say.l0 k y0 y1 y2 y3 y4 y5 y6) (spec_l07Say.l0 (k + 1) y0 y1 y2 y3 y4 y5 y6))
 | 0 => ⟨fun _ _ _ _ _ r h => by simp [spec_l07Say.f] at h, fun _ _ _ _ _ _ r h => by simp [spec_l07Say.j0] at h, fun _ _ _ _ _ _ _ r h => by simp [spec_l07Say.j1] at h, fun _ _ _ _ _ _ _ r h => by simp [spec_l07Say.l0] at h⟩
 | k + 1 => by
  obtain ⟨ih0, ih1, ih2, ih3⟩ := spec_l07Say.mono_l k; refine ⟨?_, ?_, ?_, ?_⟩
  ·intro y0 y1 y2 y3 y4; unfold spec_l07Say.f
   repeat' first
   | (with_reducible first | exact ih0 _ _ _ _ _ | exact ih1 _ _ _ _ _ _ | exact ih2 _ _ _ _ _ _ _ | exact ih3 _ _ _ _ _ _ _ | exact spec_Escaped.mono _ _ | exact LeO.refl _ | exact LeO.none _ | refine LeO.ite ?_ ?_ | refine LeO.bind ?_ (fun _ => ?_))
   | exact ih0 _ _ _ _ _ | exact ih1 _ _ _ _ _ _ | exact ih2 _ _ _ _ _ _ _ | exact ih3 _ _ _ _ _ _ _ | exact spec_Escaped.mono _ _ | exact LeO.none _ | refine LeO.ite ?_ ?_ | refine LeO.bind ?_ (fun _ => ?_)
  ·intro y0 y1 y2 y3 y4 y5; unfold spec_l07Say.j0
   repeat' first
   | (with_reducible first | exact ih0 _ _ _ _ _ | exact ih1 _ _ _ _ _ _ | exact ih2 _ _ _ _ _ _ _ | exact ih3 _ _ _ _ _ _ _ | exact spec_Escaped.mono _ _ | exact LeO.refl _ | exact LeO.none _ | refine LeO.ite ?_ ?_ | refine LeO.bind ?_ (fun _ => ?_))
   | exact ih0 _ _ _ _ _ | exact ih1 _ _ _ _ _ _ | exact ih2 _ _ _ _ _ _ _ | exact ih3 _ _ _ _ _ _ _ | exact spec_Escaped.mono _ _ | exact LeO.none _ | refine LeO.ite ?_ ?_ | refine LeO.bind ?_ (fun _ => ?_)
  ·intro y0 y1 y2 y3 y4 y5 y6; unfold spec_l07Say.j1
   repeat' first
   | (with_reducible first | exact ih0 _ _ _ _ _ | exact ih1 _ _ _ _ _ _ | exact ih2 _ _ _ _ _ _ _ | exact ih3 _ _ _ _ _ _ _ | exact spec_Escaped.mono _ _ | exact LeO.refl _ | exact LeO.none _ | refine LeO.ite ?_ ?_ | refine LeO.bind ?_ (fun _ => ?_))
   | exact ih0 _ _ _ _ _ | exact ih1 _ _ _ _ _ _ | exact ih2 _ _ _ _ _ _ _ | exact ih3 _ _ _ _ _ _ _ | exact spec_Escaped.mono _ _ | exact LeO.none _ | refine LeO.ite ?_ ?_ | refine LeO.bind ?_ (fun _ => ?_)
  ·intro y0 y1 y2 y3 y4 y5 y6; unfold spec_l07Say.l0
   repeat' first
   | (with_reducible first | exact ih0 _ _ _ _ _ | exact ih1 _ _ _ _ _ _ | exact ih2 _ _ _ _ _ _ _ | exact ih3 _ _ _ _ _ _ _ | exact spec_Escaped.mono _ _ | exact LeO.refl _ | exact LeO.none _ | refine LeO.ite ?_ ?_ | refine LeO.bind ?_ (fun _ => ?_))
   | exact ih0 _ _ _ _ _ | exact ih1 _ _ _ _ _ _ | exact ih2 _ _ _ _ _ _ _ | exact ih3 _ _ _ _ _ _ _ | exact spec_Escaped.mono _ _ | exact LeO.none _ | refine LeO.ite ?_ ?_ | refine LeO.bind ?_ (fun _ => ?_)
theorem spec_l07Say.mono : ∀ a0 a1 a2 a3 a4 k, LeO (spec_l07Say.f k a0 a1 a2 a3 a4) (spec_l07Say.f (k + 1) a0 a1 a2 a3 a4) := by
 intro a0 a1 a2 a3 a4 k; obtain ⟨ih0, ih1, ih2, ih3⟩ := spec_l07Say.mono_l k; exact ih0 a0 a1 a2 a3 a4
set_option maxHeartbeats 8000000 in
set_option maxRecDepth 100000 in
theorem spec_l07Say.calls (k : Nat) : ∀ (P0_ : Nat → Prop) (u9000_ : Value) (l0 : List Int) (a1_0 : Int) (a1_1 : ByteArray) (A1_2 : Option Addr) (c1_2 : Nat) (l1_2 : List (S52)) (A1_3 : Option Addr) (c1_3 : Nat) (l1_3 : List ByteArray) (r : List Int) (w0 w : World) (hB : Below w0.heap.size w0 w) (ho0 : Kd.R (Kd.int .u8) 5 w w0.heap.size P0_ u9000_ l0) (hr1_2 : ∀ W_, Kept w W_ (fun k_ => P0_ k_) → Kd.C k52 W_ A1_2 l1_2.length l1_2) (hc1_2 : l1_2.length ≤ c1_2) (hr1_3 : ∀ W_, Kept w W_ (fun k_ => P0_ k_) → Kd.C Kd.string W_ A1_3 l1_3.length l1_3) (hc1_3 : l1_3.length ≤ c1_3) (h : spec_l07Say.f k l0 a1_0 a1_1 l1_2 l1_3 = some r),
  Calls Tryz.prog 32 #[u9000_, .agg #[.int .i64 a1_0, .string a1_1, .slice A1_2 l1_2.length c1_2, .slice A1_3 l1_3.length c1_3]] w fun e w' => ∃ v0_ : Value, e = .returned (v0_) ∧ Kd.R (Kd.int .u8) 5 w' w0.heap.size (fun k_ => (P0_ k_ ∨ w.heap.size ≤ k_)) v0_ r ∧ Below w0.heap.size w0 w' ∧ Kept w w' (fun k_ => P0_ k_) := by
 induction k using Nat.strongRecOn with
 | _ k ih =>
 intro P0_ u9000_ l0 a1_0 a1_1 A1_2 c1_2 l1_2 A1_3 c1_3 l1_3 r w0 w hB ho0 hr1_2 hc1_2 hr1_3 hc1_3 h
 cases k with
 | zero => exact absurd h (by simp [spec_l07Say.f])
 | succ k =>
 simp only [spec_l07Say.f] at h
 have hu52 := Tryz.underlying52; have HO0 := Aside0.mk (show Kd.R (Kd.int .u8) 5 w w0.heap.size (fun k_ => (P0_ k_ ∨ w.heap.size ≤ k_)) u9000_ l0 from Kd.R_mono ho0 (fun k_ hk => (.inl hk))); have HR1_2 := Aside0.mk hr1_2; have HC1_2 := Aside0.mk hc1_2; clear hr1_2 hc1_2; have HR1_3 := Aside0.mk hr1_3; have HC1_3 := Aside0.mk hc1_3; clear hr1_3 hc1_3; have HK := Aside0.mk (Kept.refl w (fun k_ => P0_ k_)); have HW0 := Aside0.mk hB.size; have HB := Aside0.mk hB; clear hB; have H : (if a1_0 = 1 then (if l0.length < 140737488355328 then ((some (l0 ++ [36] : List Int)).bind fun y177 => (if y177.length + a1_1.size < 140737488355328 then (some (y177 ++ bytesOf a1_1)) else (none))) else (none)) else (if a1_0 = 4 then ((spec_Escaped.f k a1_1).bind fun t183 => (if l0.length + t183.size < 140737488355328 then (some (l0 ++ bytesOf t183)) else (none))) else (if a1_0 = 7 then (spec_l07Say.j0 k l0 (a1_0 == 7) a1_0 a1_1 l1_2 l1_3) else (spec_l07Say.j0 k l0 (a1_0 == 8) a1_0 a1_1 l1_2 l1_3)))) = some r := h; clear h
 by_cases c3 : a1_0 = 1
 ·rw [if_pos c3] at H; have c3b0 := beq_iff_eq.mpr c3; have c3b1 := bne_eq_false_iff_eq.mpr c3; clear c3
  by_cases c4 : l0.length < 140737488355328
  ·rw [if_pos c4] at H; have LMc4 := Aside0.mk c4; clear c4
   obtain ⟨y177, hy177⟩ : ∃ y_ : List Int, y_ = (l0 ++ [36]) := ⟨_, rfl⟩
   replace H : (if y177.length + a1_1.size < 140737488355328 then (some (y177 ++ bytesOf a1_1)) else (none)) = some r := reA H hy177; have Ny177 := Aside0.mk hy177; clear hy177
   by_cases c5 : y177.length + a1_1.size < 140737488355328
   ·rw [if_pos c5] at H; have LMc5 := Aside0.mk c5; clear c5
    obtain ⟨y180, hy180⟩ : ∃ y_ : List Int, y_ = (y177 ++ bytesOf a1_1) := ⟨_, rfl⟩
    replace H : (some y180) = some r := reA H hy180; have Ny180 := Aside0.mk hy180; clear hy180; obtain rfl := Option.some.inj H
    go_enter Tryz.func32, Tryz.ntmps32
    try go_wp2_with (first | ((with_reducible refine gate_dst (N := 3) rfl ?_); refine boxE (N := 3) (cs := #[.int .i64 a1_0, .string a1_1, .slice A1_2 l1_2.length c1_2, .slice A1_3 l1_3.length c1_3]) (t := 52) ?_; intro gb176 hg w6 hbox hb; have BK176 := Aside0.mk (hbox); have GW176 := Aside0.mk ((by rw [hg]; exact (by first | exact HK.out.1 | exact (show Kept w _ (fun k_ => P0_ k_) from kepA HK).1) : w.heap.size ≤ gb176)); have GE176 := Aside0.mk ((by rw [hg]; exact (below_size (belB HB)) : w0.heap.size ≤ gb176)); replace HO0 := Aside0.mk (Kd.R_below (kdB HO0) hb); replace HK := Aside0.mk (Kept.below (S := (fun k_ => P0_ k_)) (kepA HK) hb); replace HB := Aside0.mk (below_step (belB HB) hb); clear hb hbox hg; obtain ⟨hcz7_0, hcz7_1, hcz7_2, hcz7_3, hfz7_0, hfz7_1, hfz7_2, hfz7_3⟩ := cef4 BK176.out))
    replace HO0 := Aside0.mk (Kd.R_drew HO0.out); replace BK176 := Aside0.mk (blk_drew BK176.out); replace HK := Aside0.mk (Kept.drew HK.out); replace HB := Aside0.mk (below_drew1 HB.out)
    refine start_ (n := 7) (S := fun w' => w'.cell? ⟨gb176, 0, none⟩ = some (.int .i64 a1_0) ∧ w'.cell? ⟨gb176, 1, none⟩ = some (.string a1_1) ∧ w'.cell? ⟨gb176, 2, none⟩ = some (.slice A1_2 l1_2.length c1_2) ∧ w'.cell? ⟨gb176, 3, none⟩ = some (.slice A1_3 l1_3.length c1_3)) (ds := []) #[false, false, false, false, false, false, false] (by kernel_rfl) rfl rfl ⟨(blk_cell BK176.out 0).trans rfl, (blk_cell BK176.out 1).trans rfl, (blk_cell BK176.out 2).trans rfl, (blk_cell BK176.out 3).trans rfl⟩ (fun hHeld => ?_)
    generalize w6.drew = w8 at HO0 BK176 HK HB hHeld ⊢
    refine pure_ (i := 0) (N := some 12) (v := ?_) (a' := ?_) #[true, false, false, false, false, false, false] rfl rfl (by kernel_rfl) (fun _ _ _ h => h) (Or.inl ⟨by rfl, ?_⟩) ?_ ?_
    rotate_left
    ·intro w'; go_simp
     with_reducible rfl
    rotate_left
    ·exact putA
    refine pure_ (i := 3) (N := some 15) (v := ?_) (a' := ?_) #[true, false, false, true, false, false, false] rfl rfl (by kernel_rfl) (fun _ _ _ h => h) (Or.inl ⟨by rfl, ?_⟩) ?_ ?_
    rotate_left
    ·intro w'; go_simp
     with_reducible rfl
    rotate_left
    ·exact putA
    refine take_ (i := 4) (N := some 16) (v := ?_) (a' := ?_) #[true, false, false, true, true, false, false] rfl rfl (by kernel_rfl) (fun _ _ _ h => h) (Or.inl ⟨by rfl, ?_⟩) hHeld ?_ ?_
    rotate_left
    ·rintro w' ⟨s0, s1, s2, s3⟩
     go_simp
     with_reducible rfl
    rotate_left
    ·exact putA
    refine one_ (i := 1) (N := some 13) #[true, true, false, true, true, false, false] rfl rfl (by kernel_rfl) (by decide) (fun K hK => ?_)
    refine value_ (w1 := ?_) (v := ?_) (by rfl) rfl ?_ ?_
    rotate_left 2
    ·go_simp
     constructor
     ·rfl
     ·rfl
    refine hK.out _ _ ⟨(blk_cell (blk_alloc BK176.out _) 0).trans rfl, (blk_cell (blk_alloc BK176.out _) 1).trans rfl, (blk_cell (blk_alloc BK176.out _) 2).trans rfl, (blk_cell (blk_alloc BK176.out _) 3).trans rfl⟩ (fun hHeld => ?_); clear hK K; refine norm_ (a' := ?_) ?_ ?_; rotate_left
    ·show Act.put _ (some 13) _ = _
     simp only [Act.put, List.setIfInBounds_toArray, List.set_cons_zero, List.set_cons_succ, i64_w, i32_w]
     rfl
    refine one_ (i := 2) (N := some 14) #[true, true, true, true, true, false, false] rfl rfl (by kernel_rfl) (by decide) (fun K hK => ?_)
    refine Kd.R_append_step (Kd.int .u8) (w0 := w0) w0.heap.size (by rfl) (.tmp 12) (.tmp 13) 34 5 (.int .u8 0) 1 rfl Tryz.underlying34 info5 rfl (by decide) (by omega) u9000_ l0 36 [.int .u8 36] (fun k_ => (P0_ k_ ∨ w.heap.size ≤ k_)) (fun _ => False) rfl rfl ?aP (fun _ hk => hk.elim) ?aF ?aO ?aB ?aS ?aL ?_
    (case aP => exact rfl)
    (case aB => exact (belS HB GE176))
    (case aF => exact (fun k_ hk => (.inr (Nat.le_trans (by first | exact HK.out.1 | exact (show Kept w _ (fun k_ => P0_ k_) from kepS HK GW176).1) hk))))
    (case aO => exact (kdB HO0))
    (case aS => exact (below_size (belS HB GE176)))
    (case aL => have := LMc4.out; omega)
    intro v178 w9 ho hb hg hat; rw [← Ny177.out] at ho
    have HO179 := Aside0.mk (ho); replace BK176 := Aside0.mk (blk_grown (g := gb176) (o := .cells #[.int .i64 a1_0, .string a1_1, .slice A1_2 l1_2.length c1_2, .slice A1_3 l1_3.length c1_3] 52 (0, 0)) (blkA BK176) hg (Kd.R_ne HO0.out BK176.out (by decide))); replace HB := Aside0.mk (hb); replace HK := Aside0.mk (Kept.of_grown (S := (fun k_ => P0_ k_)) hg (kepS HK GW176) (fun k_ e_ => (HO0.out.1 k_ e_))); clear HO0
    clear ho hb hg hat; refine hK.out _ _ ⟨(blk_cell BK176.out 0).trans rfl, (blk_cell BK176.out 1).trans rfl, (blk_cell BK176.out 2).trans rfl, (blk_cell BK176.out 3).trans rfl⟩ (fun hHeld => ?_); clear hK K; refine norm_ (a' := ?_) ?_ ?_; rotate_left
    ·show Act.put _ (some 14) _ = _
     simp only [Act.put, List.setIfInBounds_toArray, List.set_cons_zero, List.set_cons_succ, i64_w, i32_w]
     rfl
    refine one_ (i := 5) (N := some 17) #[true, true, true, true, true, true, false] rfl rfl (by kernel_rfl) (by decide) (fun K hK => ?_)
    refine print_append_strH_step (w0 := w0) w0.heap.size (by rfl) (.tmp 14) _ 34 9 5 rfl Tryz.underlying34 Tryz.underlying9 info5 v178 y177 a1_1 rfl rfl ?aO ?aB ?aS ?aL ?_
    (case aB => exact (belS HB GE176))
    (case aO => exact (Kd.own_of_R (kdB HO179)))
    (case aS => exact (below_size (belS HB GE176)))
    (case aL => have := LMc5.out; omega)
    intro v181 w10 ho0 hb hg hat
    have ho := R_str_at (h1 := fun _ => rfl) (ok := (fun k_ => (P0_ k_ ∨ w.heap.size ≤ k_))) ho0 hat (fun k_ hk => (.inr (Nat.le_trans (by first | exact HK.out.1 | exact (show Kept w _ (fun k_ => P0_ k_) from kepS HK GW176).1) hk))) (kdB HO179)
    clear ho0; rw [← Ny180.out] at ho
    change Kd.R (Kd.int .u8) 5 w10 w0.heap.size (fun k_ => (P0_ k_ ∨ w.heap.size ≤ k_)) v181 y180 at ho
    have HO182 := Aside0.mk (ho); replace BK176 := Aside0.mk (blk_grown (g := gb176) (o := .cells #[.int .i64 a1_0, .string a1_1, .slice A1_2 l1_2.length c1_2, .slice A1_3 l1_3.length c1_3] 52 (0, 0)) (blkA BK176) hg (Kd.R_ne HO179.out BK176.out (by decide))); replace HB := Aside0.mk (hb); replace HK := Aside0.mk (Kept.of_grown (S := (fun k_ => P0_ k_)) hg (kepS HK GW176) (fun k_ e_ => (HO179.out.1 k_ e_))); clear HO179
    clear ho hb hg hat; refine hK.out _ _ ⟨(blk_cell BK176.out 0).trans rfl, (blk_cell BK176.out 1).trans rfl, (blk_cell BK176.out 2).trans rfl, (blk_cell BK176.out 3).trans rfl⟩ (fun hHeld => ?_); clear hK K; refine norm_ (a' := ?_) ?_ ?_; rotate_left
    ·show Act.put _ (some 17) _ = _
     simp only [Act.put, List.setIfInBounds_toArray, List.set_cons_zero, List.set_cons_succ, i64_w, i32_w]
     rfl
    refine pure_ (i := 6) (N := some 4) (v := ?_) (a' := ?_) #[true, true, true, true, true, true, true] rfl rfl (by kernel_rfl) (fun _ _ _ h => h) (Or.inl ⟨by rfl, ?_⟩) ?_ ?_
    rotate_left
    ·intro w'; go_simp
     with_reducible rfl
    rotate_left
    ·exact putA
    refine done_ (by kernel_rfl) ?_
    try go_wp2
    go_ret
    exact ⟨_, erA, kdB HO182, belS HB GE176, kepS HK GW176⟩
   ·rw [if_neg c5] at H
    exact absurd H (by simp)
  ·rw [if_neg c4] at H
   exact absurd H (by simp)
 ·rw [if_neg c3] at H; have c3b0 := beq_eq_false_iff_ne.mpr c3; have c3b1 := bne_iff_ne.mpr c3
  by_cases c11 : a1_0 = 4
  ·rw [if_pos c11] at H; have c11b0 := beq_iff_eq.mpr c11; have c11b1 := bne_eq_false_iff_eq.mpr c11; clear c11; replace H := Option.bind_eq_some_iff.mp H; obtain ⟨t183, A120, H⟩ := H; replace H : (if l0.length + t183.size < 140737488355328 then (some (l0 ++ bytesOf t183)) else (none)) = some r := H; have A12 := Aside0.mk A120; clear A120
   by_cases c13 : l0.length + t183.size < 140737488355328
   ·rw [if_pos c13] at H; have LMc13 := Aside0.mk c13; clear c13
    obtain ⟨y184, hy184⟩ : ∃ y_ : List Int, y_ = (l0 ++ bytesOf t183) := ⟨_, rfl⟩
    replace H : (some y184) = some r := reA H hy184; have Ny184 := Aside0.mk hy184; clear hy184; obtain rfl := Option.some.inj H
    go_enter Tryz.func32, Tryz.ntmps32
    go_wp2_with (first | ((with_reducible refine gate_dst (N := 3) rfl ?_); refine boxE (N := 3) (cs := #[.int .i64 a1_0, .string a1_1, .slice A1_2 l1_2.length c1_2, .slice A1_3 l1_3.length c1_3]) (t := 52) ?_; intro gb176 hg w14 hbox hb; have BK176 := Aside0.mk (hbox); have GW176 := Aside0.mk ((by rw [hg]; exact (by first | exact HK.out.1 | exact (show Kept w _ (fun k_ => P0_ k_) from kepA HK).1) : w.heap.size ≤ gb176)); have GE176 := Aside0.mk ((by rw [hg]; exact (below_size (belB HB)) : w0.heap.size ≤ gb176)); replace HO0 := Aside0.mk (Kd.R_below (kdB HO0) hb); replace HK := Aside0.mk (Kept.below (S := (fun k_ => P0_ k_)) (kepA HK) hb); replace HB := Aside0.mk (below_step (belB HB) hb); clear hb hbox hg; obtain ⟨hcz15_0, hcz15_1, hcz15_2, hcz15_3, hfz15_0, hfz15_1, hfz15_2, hfz15_3⟩ := cef4 BK176.out) | ((with_reducible refine gate_callee (f := 48) rfl ?_); refine goesL_ (some 23) rfl rfl Tryz.func48 (by kernel_rfl) rfl #[.string a1_1] rfl mapA ?_; (with_reducible refine (spec_Escaped.calls k a1_1 t183 _ A12.out).mono ?_); rintro e w16 ⟨rfl, hb⟩; refine ⟨_, rfl, ?_⟩; replace HO0 := Aside0.mk (Kd.R_below (kdB HO0) hb); replace BK176 := Aside0.mk (bBA BK176 hb); replace HK := Aside0.mk (Kept.below (S := (fun k_ => P0_ k_)) (kepS HK GW176) hb); replace HB := Aside0.mk (below_step (belS HB GE176) hb); (try clear hb)) | (at_builtin; refine print_append_strH (w0 := w0) w0.heap.size rfl (.tmp 20) _ 34 9 5 rfl Tryz.underlying34 Tryz.underlying9 info5 u9000_ l0 t183 rfl rfl ?aO ?aB ?aS ?aL ?_; (case aB => exact (belS HB GE176)); (case aO => exact (Kd.own_of_R (kdB HO0))); (case aS => exact (below_size (belS HB GE176))); (case aL => have := LMc13.out; omega); intro v185 w17 ho0 hb hg hat; have ho := R_str_at (h1 := fun _ => rfl) (ok := (fun k_ => (P0_ k_ ∨ w.heap.size ≤ k_))) ho0 hat (fun k_ hk => (.inr (Nat.le_trans (by first | exact HK.out.1 | exact (show Kept w _ (fun k_ => P0_ k_) from kepS HK GW176).1) hk))) (kdB HO0); clear ho0; rw [← Ny184.out] at ho; change Kd.R (Kd.int .u8) 5 w17 w0.heap.size (fun k_ => (P0_ k_ ∨ w.heap.size ≤ k_)) v185 y184 at ho; have HO186 := Aside0.mk (ho); replace BK176 := Aside0.mk (blk_grown (g := gb176) (o := .cells #[.int .i64 a1_0, .string a1_1, .slice A1_2 l1_2.length c1_2, .slice A1_3 l1_3.length c1_3] 52 (0, 0)) (blkA BK176) hg (Kd.R_ne HO0.out BK176.out (by decide))); replace HB := Aside0.mk (hb); replace HK := Aside0.mk (Kept.of_grown (S := (fun k_ => P0_ k_)) hg (kepS HK GW176) (fun k_ e_ => (HO0.out.1 k_ e_))); clear HO0; clear ho hb hg hat))
    go_ret
    exact ⟨_, erA, kdB HO186, belS HB GE176, kepS HK GW176⟩
   ·rw [if_neg c13] at H
    exact absurd H (by simp)
  ·rw [if_neg c11] at H; have c11b0 := beq_eq_false_iff_ne.mpr c11; have c11b1 := bne_iff_ne.mpr c11; have HC18 := Aside0.mk H; clear H
   go_enter Tryz.func32, Tryz.ntmps32
   go_upto_if 25 with (first | ((with_reducible refine gate_dst (N := 3) rfl ?_); refine boxE (N := 3) (cs := #[.int .i64 a1_0, .string a1_1, .slice A1_2 l1_2.length c1_2, .slice A1_3 l1_3.length c1_3]) (t := 52) ?_; intro gb176 hg w19 hbox hb; have BK176 := Aside0.mk (hbox); have GW176 := Aside0.mk ((by rw [hg]; exact (by first | exact HK.out.1 | exact (show Kept w _ (fun k_ => P0_ k_) from kepA HK).1) : w.heap.size ≤ gb176)); have GE176 := Aside0.mk ((by rw [hg]; exact (below_size (belB HB)) : w0.heap.size ≤ gb176)); replace HO0 := Aside0.mk (Kd.R_below (kdB HO0) hb); replace HK := Aside0.mk (Kept.below (S := (fun k_ => P0_ k_)) (kepA HK) hb); replace HB := Aside0.mk (below_step (belB HB) hb); clear hb hbox hg; obtain ⟨hcz20_0, hcz20_1, hcz20_2, hcz20_3, hfz20_0, hfz20_1, hfz20_2, hfz20_3⟩ := cef4 BK176.out))
   (try simp only [Act.put, List.setIfInBounds_toArray, List.set_cons_zero, List.set_cons_succ])
   go_cut [25] (fun v25 wc => ∃ (kq : Nat) (x25_17 : Bool), v25 = .bool x25_17 ∧ Aside0 (spec_l07Say.j0 kq l0 x25_17 a1_0 a1_1 l1_2 l1_3 = some r) ∧ Aside0 (kq ≤ k) ∧ Aside0 (Kd.R (Kd.int .u8) 5 wc w0.heap.size (fun k_ => (P0_ k_ ∨ w.heap.size ≤ k_)) u9000_ l0) ∧ Aside0 (wc.heap[gb176]? = some (.cells #[.int .i64 a1_0, .string a1_1, (.slice A1_2 l1_2.length c1_2), (.slice A1_3 l1_3.length c1_3)] 52 (0, 0))) ∧ Aside0 (Kept w wc (fun k_ => P0_ k_)) ∧ Aside0 (Below w0.heap.size w0 wc))
   case first =>
    have H := HC18.out; clear HC18
    by_cases c21 : a1_0 = 7
    ·rw [if_pos c21] at H; have c21b0 := beq_iff_eq.mpr c21; have c21b1 := bne_eq_false_iff_eq.mpr c21; clear c21
     (first | rw [c21b0] | (simp only [i64_w, i32_w]; rw [c21b0]) | skip)
     have H' := Aside0.mk H
     clear H
     go_wp2
     go_meet
     case rel => exact ⟨_, ((a1_0 == 7)), enA, H', ⟨by first | omega | exact Nat.le_refl _⟩, ⟨kdB HO0⟩, ⟨blkA BK176⟩, ⟨kepS HK GW176⟩, ⟨belS HB GE176⟩⟩
    ·rw [if_neg c21] at H; have c21b0 := beq_eq_false_iff_ne.mpr c21; have c21b1 := bne_iff_ne.mpr c21
     (first | rw [c21b0] | (simp only [i64_w, i32_w]; rw [c21b0]) | skip)
     have H' := Aside0.mk H
     clear H
     go_wp2
     go_meet
     case rel => exact ⟨_, ((a1_0 == 8)), enA, H', ⟨by first | omega | exact Nat.le_refl _⟩, ⟨kdB HO0⟩, ⟨blkA BK176⟩, ⟨kepS HK GW176⟩, ⟨belS HB GE176⟩⟩
   case rest =>
    clear HC18
    try clear c1
    try clear c2
    try clear p2
    try clear c3
    try clear c3b0
    try clear c3b1
    try clear c4
    try clear c5
    try clear c11
    try clear c11b0
    try clear c11b1
    try clear c13
    try clear c21
    try clear c21b0
    try clear c21b1
    try clear hcz15_0
    try clear hcz15_1
    try clear hcz15_2
    try clear hcz15_3
    try clear hcz20_0
    try clear hcz20_1
    try clear hcz20_2
    try clear hcz20_3
    try clear hcz7_0
    try clear hcz7_1
    try clear hcz7_2
    try clear hcz7_3
    try clear hfz15_0
    try clear hfz15_1
    try clear hfz15_2
    try clear hfz15_3
    try clear hfz20_0
    try clear hfz20_1
    try clear hfz20_2
    try clear hfz20_3
    try clear hfz7_0
    try clear hfz7_1
    try clear hfz7_2
    try clear hfz7_3
    obtain ⟨kq, x25_17, rfl, HA, HJ17, HO_0, BK176, HK, HB⟩ := hcut
    cases kq with
    | zero => exact absurd HA.out (by simp [spec_l07Say.j0])
    | succ kj17 =>
     have H := HA.out; clear HA
     simp only [spec_l07Say.j0] at H
     by_cases c22 : x25_17 = true
     ·subst c22
      have H1 : (if a1_0 = 8 then (spec_l07Say.j1 kj17 l0 123 125 a1_0 a1_1 l1_2 l1_3) else (spec_l07Say.j1 kj17 l0 91 93 a1_0 a1_1 l1_2 l1_3)) = some r := by rw [if_pos rfl] at H; exact H
      clear H; have H := H1; clear H1; have HC23 := Aside0.mk H; clear H; obtain ⟨hcz24_0, hcz24_1, hcz24_2, hcz24_3, hfz24_0, hfz24_1, hfz24_2, hfz24_3⟩ := cef4 BK176.out
      go_upto_if 30 with (fail)
      go_cut [5, 6] (fun v5 v6 wc => ∃ (kq : Nat) (x5_22 : Int) (x6_22 : Int), v5 = .int .u8 x5_22 ∧ v6 = .int .u8 x6_22 ∧ Aside0 (spec_l07Say.j1 kq l0 x5_22 x6_22 a1_0 a1_1 l1_2 l1_3 = some r) ∧ Aside0 (kq ≤ kj17) ∧ Aside0 (Kd.R (Kd.int .u8) 5 wc w0.heap.size (fun k_ => (P0_ k_ ∨ w.heap.size ≤ k_)) u9000_ l0) ∧ Aside0 (wc.heap[gb176]? = some (.cells #[.int .i64 a1_0, .string a1_1, (.slice A1_2 l1_2.length c1_2), (.slice A1_3 l1_3.length c1_3)] 52 (0, 0))) ∧ Aside0 (Kept w wc (fun k_ => P0_ k_)) ∧ Aside0 (Below w0.heap.size w0 wc))
      case first =>
       have H := HC23.out; clear HC23
       by_cases c25 : a1_0 = 8
       ·rw [if_pos c25] at H; have c25b0 := beq_iff_eq.mpr c25; have c25b1 := bne_eq_false_iff_eq.mpr c25; clear c25
        (first | rw [c25b0] | (simp only [i64_w, i32_w]; rw [c25b0]) | skip)
        have H' := Aside0.mk H
        clear H
        go_wp2
        go_meet
        case rel => exact ⟨_, (123), (125), enA, enA, H', ⟨by have := HJ17.out; first | omega | exact Nat.le_refl _⟩, ⟨kdB HO_0⟩, ⟨blkA BK176⟩, ⟨kepS HK GW176⟩, ⟨belS HB GE176⟩⟩
       ·rw [if_neg c25] at H; have c25b0 := beq_eq_false_iff_ne.mpr c25; have c25b1 := bne_iff_ne.mpr c25
        (first | rw [c25b0] | (simp only [i64_w, i32_w]; rw [c25b0]) | skip)
        have H' := Aside0.mk H
        clear H
        go_wp2
        go_meet
        case rel => exact ⟨_, (91), (93), enA, enA, H', ⟨by have := HJ17.out; first | omega | exact Nat.le_refl _⟩, ⟨kdB HO_0⟩, ⟨blkA BK176⟩, ⟨kepS HK GW176⟩, ⟨belS HB GE176⟩⟩
      case rest =>
       clear HC23
       try clear c1
       try clear c2
       try clear p2
       try clear c3
       try clear c3b0
       try clear c3b1
       try clear c4
       try clear c5
       try clear c11
       try clear c11b0
       try clear c11b1
       try clear c13
       try clear c21
       try clear c21b0
       try clear c21b1
       try clear c22
       try clear c25
       try clear c25b0
       try clear c25b1
       try clear hcz15_0
       try clear hcz15_1
       try clear hcz15_2
       try clear hcz15_3
       try clear hcz20_0
       try clear hcz20_1
       try clear hcz20_2
       try clear hcz20_3
       try clear hcz24_0
       try clear hcz24_1
       try clear hcz24_2
       try clear hcz24_3
       try clear hcz7_0
       try clear hcz7_1
       try clear hcz7_2
       try clear hcz7_3
       try clear hfz15_0
       try clear hfz15_1
       try clear hfz15_2
       try clear hfz15_3
       try clear hfz20_0
       try clear hfz20_1
       try clear hfz20_2
       try clear hfz20_3
       try clear hfz24_0
       try clear hfz24_1
       try clear hfz24_2
       try clear hfz24_3
       try clear hfz7_0
       try clear hfz7_1
       try clear hfz7_2
       try clear hfz7_3
       try clear p2
       obtain ⟨kq, x5_22, x6_22, rfl, rfl, HA, HJ22, HO_0, BK176, HK, HB⟩ := hcut
       cases kq with
       | zero => exact absurd HA.out (by simp [spec_l07Say.j1])
       | succ kj22 =>
        have H := HA.out; clear HA
        simp only [spec_l07Say.j1] at H
        by_cases c26 : l0.length < 140737488355328
        ·rw [if_pos c26] at H; have LMc26 := Aside0.mk c26; clear c26
         obtain ⟨y187, hy187⟩ : ∃ y_ : List Int, y_ = (l0 ++ [x5_22]) := ⟨_, rfl⟩
         replace H : (spec_l07Say.l0 kj22 y187 x6_22 0 a1_0 a1_1 l1_2 l1_3) = some r := reA H hy187; have Ny187 := Aside0.mk hy187; clear hy187
         have H' := Aside0.mk H
         clear H
         go_wp2_with (first | ((with_reducible refine gate_builtin (b := .append) (xs := #[.tmp 31, .tmp 33]) rfl ?_); at_builtin; refine Kd.R_append (Kd.int .u8) (w0 := w0) w0.heap.size rfl (.tmp 31) (.tmp 33) 34 5 (.int .u8 0) 1 rfl Tryz.underlying34 info5 rfl (by decide) (by omega) u9000_ l0 x5_22 [.int .u8 x5_22] (fun k_ => (P0_ k_ ∨ w.heap.size ≤ k_)) (fun _ => False) rfl rfl ?aP (fun _ hk => hk.elim) ?aF ?aO ?aB ?aS ?aL ?_; (case aP => exact rfl); (case aB => exact (belS HB GE176)); (case aF => exact (fun k_ hk => (.inr (Nat.le_trans (by first | exact HK.out.1 | exact (show Kept w _ (fun k_ => P0_ k_) from kepS HK GW176).1) hk)))); (case aO => exact (kdB HO_0)); (case aS => exact (below_size (belS HB GE176))); (case aL => have := LMc26.out; omega); intro v188 w27 ho hb hg hat; rw [← Ny187.out] at ho; have HO189 := Aside0.mk (ho); replace BK176 := Aside0.mk (blk_grown (g := gb176) (o := .cells #[.int .i64 a1_0, .string a1_1, .slice A1_2 l1_2.length c1_2, .slice A1_3 l1_3.length c1_3] 52 (0, 0)) (blkA BK176) hg (Kd.R_ne HO_0.out BK176.out (by decide))); replace HB := Aside0.mk (hb); replace HK := Aside0.mk (Kept.of_grown (S := (fun k_ => P0_ k_)) hg (kepS HK GW176) (fun k_ e_ => (HO_0.out.1 k_ e_))); clear HO_0; clear ho hb hg hat))
         go_loopg [0, 7] kj22 (fun kq v0 v7 w' => ∃ (x0_3 : List Int) (x7_3 : Int), v7 = .int .i64 x7_3 ∧ Aside0 (spec_l07Say.l0 kq x0_3 x6_22 x7_3 a1_0 a1_1 l1_2 l1_3 = some r) ∧ Aside0 (kq ≤ kj22) ∧ Aside0 (Kd.R (Kd.int .u8) 5 w' w0.heap.size (fun k_ => (P0_ k_ ∨ w.heap.size ≤ k_)) v0 x0_3) ∧ Aside0 (w'.heap[gb176]? = some (.cells #[.int .i64 a1_0, .string a1_1, (.slice A1_2 l1_2.length c1_2), (.slice A1_3 l1_3.length c1_3)] 52 (0, 0))) ∧ Aside0 (Kept w w' (fun k_ => P0_ k_)) ∧ Aside0 (Below w0.heap.size w0 w'))
         case atStart => exact ⟨(y187), (0), enA, H', ⟨Nat.le_refl _⟩, ⟨kdB HO189⟩, ⟨blkA BK176⟩, ⟨kepS HK GW176⟩, ⟨belS HB GE176⟩⟩
         case round =>
          clear H'
          try clear c1
          try clear c2
          try clear p2
          try clear c3
          try clear c3b0
          try clear c3b1
          try clear c4
          try clear c5
          try clear c11
          try clear c11b0
          try clear c11b1
          try clear c13
          try clear c21
          try clear c21b0
          try clear c21b1
          try clear c22
          try clear c25
          try clear c25b0
          try clear c25b1
          try clear c26
          try clear hcz15_0
          try clear hcz15_1
          try clear hcz15_2
          try clear hcz15_3
          try clear hcz20_0
          try clear hcz20_1
          try clear hcz20_2
          try clear hcz20_3
          try clear hcz24_0
          try clear hcz24_1
          try clear hcz24_2
          try clear hcz24_3
          try clear hcz7_0
          try clear hcz7_1
          try clear hcz7_2
          try clear hcz7_3
          try clear hfz15_0
          try clear hfz15_1
          try clear hfz15_2
          try clear hfz15_3
          try clear hfz20_0
          try clear hfz20_1
          try clear hfz20_2
          try clear hfz20_3
          try clear hfz24_0
          try clear hfz24_1
          try clear hfz24_2
          try clear hfz24_3
          try clear hfz7_0
          try clear hfz7_1
          try clear hfz7_2
          try clear hfz7_3
          try clear p2
          obtain ⟨x0_3, x7_3, rfl, HA, HK3, HO_0, BK176, HK, HB⟩ := hrel
          cases gk with
          | zero => exact absurd HA.out (by simp [spec_l07Say.l0])
          | succ k3 =>
           have H := HA.out; clear HA
           simp only [spec_l07Say.l0] at H
           by_cases c28 : x7_3 < (l1_2.length : Int)
           ·rw [if_pos c28] at H; have c28b0 := decide_eq_true c28; clear c28
            by_cases c29 : x7_3 > 0
            ·rw [if_pos c29] at H; have c29b0 := decide_eq_true c29; clear c29
             obtain ⟨y193, hy193⟩ : ∃ y_ : List Int, y_ = (([44, 32] : List Int)) := ⟨_, rfl⟩
             replace H : (if x0_3.length + y193.length < 140737488355328 then ((some (x0_3 ++ y193 : List Int)).bind fun y196 => (if a1_0 = 8 then (if 0 ≤ x7_3 then (if x7_3 < (l1_3.length : Int) then (if y196.length + (rdOf ByteArray.empty l1_3 x7_3).size < 140737488355328 then ((some (y196 ++ bytesOf (rdOf ByteArray.empty l1_3 x7_3) : List Int)).bind fun y200 => ((some (([58, 32] : List Int) : List Int)).bind fun y203 => (if y200.length + y203.length < 140737488355328 then ((spec_l07Say.f k3 (y200 ++ y203) ((rd_T52 l1_2 x7_3).f0) ((rd_T52 l1_2 x7_3).f1) ((rd_T52 l1_2 x7_3).f2) ((rd_T52 l1_2 x7_3).f3)).bind fun t210 => (spec_l07Say.l0 k3 t210 x6_22 (wrap64 (x7_3 + 1)) a1_0 a1_1 l1_2 l1_3)) else (none)))) else (none)) else (none)) else (none)) else (if 0 ≤ x7_3 then ((spec_l07Say.f k3 y196 ((rd_T52 l1_2 x7_3).f0) ((rd_T52 l1_2 x7_3).f1) ((rd_T52 l1_2 x7_3).f2) ((rd_T52 l1_2 x7_3).f3)).bind fun t214 => (spec_l07Say.l0 k3 t214 x6_22 (wrap64 (x7_3 + 1)) a1_0 a1_1 l1_2 l1_3)) else (none)))) else (none)) = some r := reA H hy193; have Ny193 := Aside0.mk hy193; clear hy193
             by_cases c30 : x0_3.length + y193.length < 140737488355328
             ·rw [if_pos c30] at H; have LMc30 := Aside0.mk c30; clear c30
              obtain ⟨y196, hy196⟩ : ∃ y_ : List Int, y_ = (x0_3 ++ y193) := ⟨_, rfl⟩
              replace H : (if a1_0 = 8 then (if 0 ≤ x7_3 then (if x7_3 < (l1_3.length : Int) then (if y196.length + (rdOf ByteArray.empty l1_3 x7_3).size < 140737488355328 then ((some (y196 ++ bytesOf (rdOf ByteArray.empty l1_3 x7_3) : List Int)).bind fun y200 => ((some (([58, 32] : List Int) : List Int)).bind fun y203 => (if y200.length + y203.length < 140737488355328 then ((spec_l07Say.f k3 (y200 ++ y203) ((rd_T52 l1_2 x7_3).f0) ((rd_T52 l1_2 x7_3).f1) ((rd_T52 l1_2 x7_3).f2) ((rd_T52 l1_2 x7_3).f3)).bind fun t210 => (spec_l07Say.l0 k3 t210 x6_22 (wrap64 (x7_3 + 1)) a1_0 a1_1 l1_2 l1_3)) else (none)))) else (none)) else (none)) else (none)) else (if 0 ≤ x7_3 then ((spec_l07Say.f k3 y196 ((rd_T52 l1_2 x7_3).f0) ((rd_T52 l1_2 x7_3).f1) ((rd_T52 l1_2 x7_3).f2) ((rd_T52 l1_2 x7_3).f3)).bind fun t214 => (spec_l07Say.l0 k3 t214 x6_22 (wrap64 (x7_3 + 1)) a1_0 a1_1 l1_2 l1_3)) else (none))) = some r := reA H hy196; have Ny196 := Aside0.mk hy196; clear hy196
              by_cases c31 : a1_0 = 8
              ·rw [if_pos c31] at H; have c31b0 := beq_iff_eq.mpr c31; have c31b1 := bne_eq_false_iff_eq.mpr c31; clear c31
               by_cases c32 : 0 ≤ x7_3
               ·rw [if_pos c32] at H; have c32b0 := decide_eq_true c32; clear c32
                by_cases c33 : x7_3 < (l1_3.length : Int)
                ·rw [if_pos c33] at H; have c33b0 := decide_eq_true c33; clear c33
                 by_cases c34 : y196.length + (rdOf ByteArray.empty l1_3 x7_3).size < 140737488355328
                 ·rw [if_pos c34] at H; have LMc34 := Aside0.mk c34; clear c34
                  obtain ⟨y200, hy200⟩ : ∃ y_ : List Int, y_ = (y196 ++ bytesOf (rdOf ByteArray.empty l1_3 x7_3)) := ⟨_, rfl⟩
                  replace H : ((some (([58, 32] : List Int) : List Int)).bind fun y203 => (if y200.length + y203.length < 140737488355328 then ((spec_l07Say.f k3 (y200 ++ y203) ((rd_T52 l1_2 x7_3).f0) ((rd_T52 l1_2 x7_3).f1) ((rd_T52 l1_2 x7_3).f2) ((rd_T52 l1_2 x7_3).f3)).bind fun t210 => (spec_l07Say.l0 k3 t210 x6_22 (wrap64 (x7_3 + 1)) a1_0 a1_1 l1_2 l1_3)) else (none))) = some r := reA H hy200; have Ny200 := Aside0.mk hy200; clear hy200
                  obtain ⟨y203, hy203⟩ : ∃ y_ : List Int, y_ = (([58, 32] : List Int)) := ⟨_, rfl⟩
                  replace H : (if y200.length + y203.length < 140737488355328 then ((spec_l07Say.f k3 (y200 ++ y203) ((rd_T52 l1_2 x7_3).f0) ((rd_T52 l1_2 x7_3).f1) ((rd_T52 l1_2 x7_3).f2) ((rd_T52 l1_2 x7_3).f3)).bind fun t210 => (spec_l07Say.l0 k3 t210 x6_22 (wrap64 (x7_3 + 1)) a1_0 a1_1 l1_2 l1_3)) else (none)) = some r := reA H hy203; have Ny203 := Aside0.mk hy203; clear hy203
                  by_cases c35 : y200.length + y203.length < 140737488355328
                  ·rw [if_pos c35] at H; have LMc35 := Aside0.mk c35; clear c35
                   obtain ⟨y206, hy206⟩ : ∃ y_ : List Int, y_ = (y200 ++ y203) := ⟨_, rfl⟩
                   replace H : ((spec_l07Say.f k3 y206 ((rd_T52 l1_2 x7_3).f0) ((rd_T52 l1_2 x7_3).f1) ((rd_T52 l1_2 x7_3).f2) ((rd_T52 l1_2 x7_3).f3)).bind fun t210 => (spec_l07Say.l0 k3 t210 x6_22 (wrap64 (x7_3 + 1)) a1_0 a1_1 l1_2 l1_3)) = some r := reA H hy206; have Ny206 := Aside0.mk hy206; clear hy206; replace H := Option.bind_eq_some_iff.mp H; obtain ⟨t210, A360, H⟩ := H; replace H : (spec_l07Say.l0 k3 t210 x6_22 (wrap64 (x7_3 + 1)) a1_0 a1_1 l1_2 l1_3) = some r := H; have A36 := Aside0.mk A360; clear A360
                   have H' := Aside0.mk H
                   clear H; obtain ⟨hcz37_0, hcz37_1, hcz37_2, hcz37_3, hfz37_0, hfz37_1, hfz37_2, hfz37_3⟩ := cef4 BK176.out
                   go_wp2_with (first | ((with_reducible refine gate_dst (N := 45) rfl ?_); refine Kd.R_lit (Kd.int .u8) _ 5 ?hg (N := 45) ?hd (xs := ([44, 32] : List Int)) (inner := [.int .u8 44, .int .u8 32]) (ok := fun _ => True) (okp := fun _ => True) ?hr ?hp (fun _ hk => hk) trivial (Below.refl _ _) (Nat.le_refl _) (by simp) ?_; (case hd => rfl); (case hg => rfl); (case hr => first | (go_simp; done) | (go_simp; rfl)); (case hp => exact (Reps.one (show Kd.M (Kd.int .u8) _ _ _ 44 [.int .u8 44] from rfl) (Reps.one (show Kd.M (Kd.int .u8) _ _ _ 32 [.int .u8 32] from rfl) (Reps.none _ _)))); intro v194 w38 ho39 hb hg_ hnew_; clear hg_ hnew_; (first | rw [← Ny193.out] at ho39 | (simp only [Int.reduceToNat] at ho39; rw [← Ny193.out] at ho39)); have HO195 := Aside0.mk (Kd.R_lower (Kd.R_new' (Kd.R_newM (M := fun k_ => (P0_ k_ ∨ w.heap.size ≤ k_)) ho39 (by first | exact HK.out.1 | exact (show Kept w _ (fun k_ => P0_ k_) from kepS HK GW176).1) (fun k_ h_ => .inr h_)) (Kd.R_lt (kdB HO_0))) (below_size (belS HB GE176))); replace HO_0 := Aside0.mk (Kd.R_elder' (kdB HO_0) (Kd.R_base ho39) hb); replace BK176 := Aside0.mk (bBA BK176 hb); replace HK := Aside0.mk (Kept.below (S := (fun k_ => P0_ k_)) (kepS HK GW176) hb); replace HB := Aside0.mk (below_step (belS HB GE176) hb); clear hb ho39; obtain ⟨Ao41, co41, eo41⟩ := Kd.R_slice HO195.out; subst eo41) | ((with_reducible refine gate_builtin (b := .append) (xs := #[.tmp 44, .tmp 45]) rfl ?_); at_builtin; refine Kd.R_append_rows (Kd.int .u8) (w0 := w0) w0.heap.size rfl (.tmp 44) (.tmp 45) 34 5 (.int .u8 0) 1 rfl Tryz.underlying34 info5 rfl (by decide) (by omega) u0 x0_3 y193 _ _ _ (fun k_ => (P0_ k_ ∨ w.heap.size ≤ k_) ∧ some k_ ≠ (.slice Ao41 y193.length co41 : Value).ownBlock) (fun _ => False) rfl rfl ?aO ?aR (fun _ _ h => h) (fun _ h => h.elim) ?aF ?aB ?aS ?aL ?_; (case aR => repeat (first | exact (Kd.R_reads' HO195.out).2.2 | (with_reducible refine Kd.C_alloc ?_ _) | (with_reducible refine Kd.C_drewN ?_ _) | (with_reducible refine Kd.C_drew ?_))); (case aB => exact (belS HB GE176)); (case aF => exact (fun k_ hk => ⟨(.inr (Nat.le_trans (by first | exact HK.out.1 | exact (show Kept w _ (fun k_ => P0_ k_) from kepS HK GW176).1) hk)), Kd.fresh' (Kd.R_lt (kdB HO195)) k_ hk⟩)); (case aO => exact (kdB HO_0)); (case aS => exact (below_size (belS HB GE176))); (case aL => have := LMc30.out; omega); intro v197 w40 ho hb hg hat; rw [← Ny196.out] at ho; have HO198 := Aside0.mk (ho); replace BK176 := Aside0.mk (blk_grown (g := gb176) (o := .cells #[.int .i64 a1_0, .string a1_1, .slice A1_2 l1_2.length c1_2, .slice A1_3 l1_3.length c1_3] 52 (0, 0)) (blkA BK176) hg (Kd.R_ne HO_0.out BK176.out (by decide))); replace HO195 := Aside0.mk (Kd.R_after (ok := (fun k_ => (P0_ k_ ∨ w.heap.size ≤ k_))) (by (with_reducible repeat (first | apply Kd.R_alloc | apply Kd.R_drewN | apply Kd.R_drew)); exact Kd.R_mono HO195.out (fun _ hk => ⟨hk.1.1, hk.2⟩)) hg hat); replace HB := Aside0.mk (hb); replace HK := Aside0.mk (Kept.of_grown (S := (fun k_ => P0_ k_)) hg (kepS HK GW176) (fun k_ e_ => (HO_0.out.1 k_ e_).1)); clear HO_0; clear ho hb hg hat; obtain ⟨hcz42_0, hcz42_1, hcz42_2, hcz42_3, hfz42_0, hfz42_1, hfz42_2, hfz42_3⟩ := cef4 BK176.out; have p199 : 0 ≤ (x7_3 : Int) := odA; have q199 : x7_3 < (l1_3.length : Int) := odA; obtain ⟨ad199, e199, hx199_0⟩ := Kd.at_string (Kd.C_kept_now HR1_3.out HK.out) x7_3 p199 q199; cases e199; replace p199 := eq_true p199; replace q199 := eq_true q199) | (at_builtin; refine print_append_strH (w0 := w0) w0.heap.size rfl (.tmp 50) _ 34 9 5 rfl Tryz.underlying34 Tryz.underlying9 info5 v197 y196 (rdOf ByteArray.empty l1_3 x7_3) rfl rfl ?aO ?aB ?aS ?aL ?_; (case aB => exact (belS HB GE176)); (case aO => exact (Kd.own_of_R (by (with_reducible repeat (first | apply Kd.R_alloc | apply Kd.R_drewN | apply Kd.R_drew)); exact Kd.R_mono HO198.out (fun _ hk => hk.1)))); (case aS => exact (below_size (belS HB GE176))); (case aL => have := LMc34.out; omega); intro v201 w43 ho0 hb hg hat; have ho := R_str_at (h1 := fun _ => rfl) (ok := (fun k_ => (P0_ k_ ∨ w.heap.size ≤ k_))) ho0 hat (fun k_ hk => (.inr (Nat.le_trans (by first | exact HK.out.1 | exact (show Kept w _ (fun k_ => P0_ k_) from kepS HK GW176).1) hk))) (by (with_reducible repeat (first | apply Kd.R_alloc | apply Kd.R_drewN | apply Kd.R_drew)); exact Kd.R_mono HO198.out (fun _ hk => hk.1)); clear ho0; rw [← Ny200.out] at ho; change Kd.R (Kd.int .u8) 5 w43 w0.heap.size (fun k_ => (P0_ k_ ∨ w.heap.size ≤ k_)) v201 y200 at ho; have HO202 := Aside0.mk (ho); replace BK176 := Aside0.mk (blk_grown (g := gb176) (o := .cells #[.int .i64 a1_0, .string a1_1, .slice A1_2 l1_2.length c1_2, .slice (some ad199) l1_3.length c1_3] 52 (0, 0)) (blkA BK176) hg (Kd.R_ne HO198.out BK176.out (by decide))); replace HB := Aside0.mk (hb); replace HK := Aside0.mk (Kept.of_grown (S := (fun k_ => P0_ k_)) hg (kepS HK GW176) (fun k_ e_ => (HO198.out.1 k_ e_).1)); clear HO198; clear ho hb hg hat) | ((with_reducible refine gate_dst (N := 57) rfl ?_); refine Kd.R_lit (Kd.int .u8) _ 5 ?hg (N := 57) ?hd (xs := ([58, 32] : List Int)) (inner := [.int .u8 58, .int .u8 32]) (ok := fun _ => True) (okp := fun _ => True) ?hr ?hp (fun _ hk => hk) trivial (Below.refl _ _) (Nat.le_refl _) (by simp) ?_; (case hd => rfl); (case hg => rfl); (case hr => first | (go_simp; done) | (go_simp; rfl)); (case hp => exact (Reps.one (show Kd.M (Kd.int .u8) _ _ _ 58 [.int .u8 58] from rfl) (Reps.one (show Kd.M (Kd.int .u8) _ _ _ 32 [.int .u8 32] from rfl) (Reps.none _ _)))); intro v204 w44 ho45 hb hg_ hnew_; clear hg_ hnew_; (first | rw [← Ny203.out] at ho45 | (simp only [Int.reduceToNat] at ho45; rw [← Ny203.out] at ho45)); have HO205 := Aside0.mk (Kd.R_lower (Kd.R_new' (Kd.R_newM (M := fun k_ => (P0_ k_ ∨ w.heap.size ≤ k_)) ho45 (by first | exact HK.out.1 | exact (show Kept w _ (fun k_ => P0_ k_) from kepS HK GW176).1) (fun k_ h_ => .inr h_)) (Kd.R_lt (kdB HO202))) (below_size (belS HB GE176))); replace HO202 := Aside0.mk (Kd.R_elder' (kdB HO202) (Kd.R_base ho45) hb); replace BK176 := Aside0.mk (bBA BK176 hb); replace HK := Aside0.mk (Kept.below (S := (fun k_ => P0_ k_)) (kepS HK GW176) hb); replace HB := Aside0.mk (below_step (belS HB GE176) hb); clear hb ho45; obtain ⟨Ao47, co47, eo47⟩ := Kd.R_slice HO205.out; subst eo47) | ((with_reducible refine gate_builtin (b := .append) (xs := #[.tmp 56, .tmp 57]) rfl ?_); at_builtin; refine Kd.R_append_rows (Kd.int .u8) (w0 := w0) w0.heap.size rfl (.tmp 56) (.tmp 57) 34 5 (.int .u8 0) 1 rfl Tryz.underlying34 info5 rfl (by decide) (by omega) v201 y200 y203 _ _ _ (fun k_ => (P0_ k_ ∨ w.heap.size ≤ k_) ∧ some k_ ≠ (.slice Ao47 y203.length co47 : Value).ownBlock) (fun _ => False) rfl rfl ?aO ?aR (fun _ _ h => h) (fun _ h => h.elim) ?aF ?aB ?aS ?aL ?_; (case aR => repeat (first | exact (Kd.R_reads' HO205.out).2.2 | (with_reducible refine Kd.C_alloc ?_ _) | (with_reducible refine Kd.C_drewN ?_ _) | (with_reducible refine Kd.C_drew ?_))); (case aB => exact (belS HB GE176)); (case aF => exact (fun k_ hk => ⟨(.inr (Nat.le_trans (by first | exact HK.out.1 | exact (show Kept w _ (fun k_ => P0_ k_) from kepS HK GW176).1) hk)), Kd.fresh' (Kd.R_lt (kdB HO205)) k_ hk⟩)); (case aO => exact (kdB HO202)); (case aS => exact (below_size (belS HB GE176))); (case aL => have := LMc35.out; omega); intro v207 w46 ho hb hg hat; rw [← Ny206.out] at ho; have HO208 := Aside0.mk (ho); replace BK176 := Aside0.mk (blk_grown (g := gb176) (o := .cells #[.int .i64 a1_0, .string a1_1, .slice A1_2 l1_2.length c1_2, .slice (some ad199) l1_3.length c1_3] 52 (0, 0)) (blkA BK176) hg (Kd.R_ne HO202.out BK176.out (by decide))); replace HO205 := Aside0.mk (Kd.R_after (ok := (fun k_ => (P0_ k_ ∨ w.heap.size ≤ k_))) (by (with_reducible repeat (first | apply Kd.R_alloc | apply Kd.R_drewN | apply Kd.R_drew)); exact Kd.R_mono HO205.out (fun _ hk => ⟨hk.1.1, hk.2⟩)) hg hat); replace HB := Aside0.mk (hb); replace HK := Aside0.mk (Kept.of_grown (S := (fun k_ => P0_ k_)) hg (kepS HK GW176) (fun k_ e_ => (HO202.out.1 k_ e_).1)); clear HO202; clear ho hb hg hat; obtain ⟨hcz48_0, hcz48_1, hcz48_2, hcz48_3, hfz48_0, hfz48_1, hfz48_2, hfz48_3⟩ := cef4 BK176.out; have p209 : 0 ≤ (x7_3 : Int) := odA; have q209 : x7_3 < (l1_2.length : Int) := odA; obtain ⟨ad209, A209_2, c209_2, A209_3, c209_3, e209, hx209_0, hx209_1, hx209_2, hx209_3, hl209_2, hi209_2, hl209_3, hi209_3⟩ := at_T52 (Kd.C_kept_now HR1_2.out HK.out) x7_3 p209 q209; have HF209_2 := Aside0.mk (k52_in2 HR1_2.out HK.out x7_3 p209 q209 e209 hx209_2); have HF209_3 := Aside0.mk (k52_in3 HR1_2.out HK.out x7_3 p209 q209 e209 hx209_3); cases e209; have HR209_2 := Aside0.mk hi209_2; have HC209_2 := Aside0.mk hl209_2; clear hi209_2 hl209_2; have HR209_3 := Aside0.mk hi209_3; have HC209_3 := Aside0.mk hl209_3; clear hi209_3 hl209_3; replace p209 := eq_true p209; replace q209 := eq_true q209; obtain ⟨Ao49, co49, eo49⟩ := Kd.R_slice HO208.out; subst eo49) | ((with_reducible refine gate_callee (f := 32) rfl ?_); refine goesL_ (some 65) rfl rfl Tryz.func32 (by kernel_rfl) rfl #[.slice Ao49 y206.length co49, .agg #[.int .i64 ((rd_T52 l1_2 x7_3).f0), .string ((rd_T52 l1_2 x7_3).f1), .slice A209_2 ((rd_T52 l1_2 x7_3).f2).length c209_2, .slice A209_3 ((rd_T52 l1_2 x7_3).f3).length c209_3]] rfl mapA ?_; (with_reducible refine (ih k3 (by have := HJ17.out; have := HJ22.out; have := HK3.out; omega) (fun k_ => some k_ = (.slice Ao49 y206.length co49 : Value).ownBlock) (.slice Ao49 y206.length co49) y206 ((rd_T52 l1_2 x7_3).f0) ((rd_T52 l1_2 x7_3).f1) _ _ ((rd_T52 l1_2 x7_3).f2) _ _ ((rd_T52 l1_2 x7_3).f3) t210 w0 _ ?side1 ?side2 ?side3 ?side4 ?side5 ?side6 A36.out).mono ?_); (case side1 => repeat (first | (with_reducible first | exact HB.out | apply below_alloc | apply pw_below_drewN | apply below_drew1 | refine below_set ?_ GE176.out) | exact HB.out)); (case side2 => exact Kd.R_tight rfl HO208.out); (case side3 => exact Kd.C_kept_call HF209_2.out (kepS HK GW176) (fun k_ hs_ => (fun e_ => (HO208.out.1 k_ e_.symm).1) hs_)); (case side4 => exact HC209_2.out); (case side5 => exact Kd.C_kept_call HF209_3.out (kepS HK GW176) (fun k_ hs_ => (fun e_ => (HO208.out.1 k_ e_.symm).1) hs_)); (case side6 => exact HC209_3.out); rintro e w50 ⟨v211, rfl, ho0, hb, hkp⟩; refine ⟨_, rfl, ?_⟩; have HO212 := Aside0.mk (Kd.R_mono (ok' := fun k_ => (P0_ k_ ∨ w.heap.size ≤ k_) ∧ some k_ ≠ (.slice Ao47 y203.length co47 : Value).ownBlock) ho0 (fun k_ hk_ => ⟨Or.elim hk_ (fun hs_ => (HO208.out.1 k_ (hs_).symm).1) (fun hn_ => (.inr (Nat.le_trans (by first | exact HK.out.1 | exact (show Kept w _ (fun k_ => P0_ k_) from kepS HK GW176).1) hn_))), Or.elim hk_ (fun hs_ => fun e_ => (((HO205.out).1 k_ e_.symm).2) hs_) (fun hn_ => (Kd.fresh' (Kd.R_lt (kdB HO205)) k_ hn_))⟩)); replace BK176 := Aside0.mk (blk_kept (blkA BK176) hkp (fun hs_ => (fun e_ => (Kd.R_ne HO208.out BK176.out (by decide)) e_) hs_)); replace HO205 := Aside0.mk (Kd.R_mono (ok' := fun k_ => (P0_ k_ ∨ w.heap.size ≤ k_) ∧ some k_ ≠ (v211 : Value).ownBlock) (Kd.R_keptB (HO205.out) hkp (fun k_ hk_ hs_ => (hk_.2) hs_)) (fun k_ hk_ => ⟨hk_.1.1, fun e_ => Or.elim (ho0.1 k_ e_.symm) (fun hs_ => hk_.2.1 hs_) (fun hn_ => Nat.not_le.2 hk_.2.2 hn_)⟩)); replace HK := Aside0.mk (Kept.then_ (S := (fun k_ => P0_ k_)) (kepS HK GW176) hkp (fun k_ hs_ => (fun e_ => (HO208.out.1 k_ e_.symm).1) hs_)); replace HB := Aside0.mk (hb); clear HO208; (try clear hb); (try clear hkp); (try clear ho0)))
                   go_roundg k3
                   case measure => have := HJ17.out; have := HJ22.out; have := HK3.out; omega
                   case rel => exact ⟨(t210), (wrap64 (x7_3 + 1)), enA, H', ⟨by have := HJ17.out; have := HJ22.out; have := HK3.out; omega⟩, ⟨by (with_reducible repeat (first | apply Kd.R_alloc | apply Kd.R_drewN | apply Kd.R_drew)); exact Kd.R_mono HO212.out (fun _ hk => hk.1)⟩, ⟨blkA BK176⟩, ⟨kepS HK GW176⟩, ⟨belS HB GE176⟩⟩
                  ·rw [if_neg c35] at H
                   exact absurd H (by simp)
                 ·rw [if_neg c34] at H
                  exact absurd H (by simp)
                ·rw [if_neg c33] at H
                 exact absurd H (by simp)
               ·rw [if_neg c32] at H
                exact absurd H (by simp)
              ·rw [if_neg c31] at H; have c31b0 := beq_eq_false_iff_ne.mpr c31; have c31b1 := bne_iff_ne.mpr c31
               by_cases c51 : 0 ≤ x7_3
               ·rw [if_pos c51] at H; have c51b0 := decide_eq_true c51; clear c51; replace H := Option.bind_eq_some_iff.mp H; obtain ⟨t214, A520, H⟩ := H; replace H : (spec_l07Say.l0 k3 t214 x6_22 (wrap64 (x7_3 + 1)) a1_0 a1_1 l1_2 l1_3) = some r := H; have A52 := Aside0.mk A520; clear A520
                have H' := Aside0.mk H
                clear H; obtain ⟨hcz53_0, hcz53_1, hcz53_2, hcz53_3, hfz53_0, hfz53_1, hfz53_2, hfz53_3⟩ := cef4 BK176.out
                go_wp2_with (first | ((with_reducible refine gate_dst (N := 45) rfl ?_); refine Kd.R_lit (Kd.int .u8) _ 5 ?hg (N := 45) ?hd (xs := ([44, 32] : List Int)) (inner := [.int .u8 44, .int .u8 32]) (ok := fun _ => True) (okp := fun _ => True) ?hr ?hp (fun _ hk => hk) trivial (Below.refl _ _) (Nat.le_refl _) (by simp) ?_; (case hd => rfl); (case hg => rfl); (case hr => first | (go_simp; done) | (go_simp; rfl)); (case hp => exact (Reps.one (show Kd.M (Kd.int .u8) _ _ _ 44 [.int .u8 44] from rfl) (Reps.one (show Kd.M (Kd.int .u8) _ _ _ 32 [.int .u8 32] from rfl) (Reps.none _ _)))); intro v194 w54 ho55 hb hg_ hnew_; clear hg_ hnew_; (first | rw [← Ny193.out] at ho55 | (simp only [Int.reduceToNat] at ho55; rw [← Ny193.out] at ho55)); have HO195 := Aside0.mk (Kd.R_lower (Kd.R_new' (Kd.R_newM (M := fun k_ => (P0_ k_ ∨ w.heap.size ≤ k_)) ho55 (by first | exact HK.out.1 | exact (show Kept w _ (fun k_ => P0_ k_) from kepS HK GW176).1) (fun k_ h_ => .inr h_)) (Kd.R_lt (kdB HO_0))) (below_size (belS HB GE176))); replace HO_0 := Aside0.mk (Kd.R_elder' (kdB HO_0) (Kd.R_base ho55) hb); replace BK176 := Aside0.mk (bBA BK176 hb); replace HK := Aside0.mk (Kept.below (S := (fun k_ => P0_ k_)) (kepS HK GW176) hb); replace HB := Aside0.mk (below_step (belS HB GE176) hb); clear hb ho55; obtain ⟨Ao57, co57, eo57⟩ := Kd.R_slice HO195.out; subst eo57) | ((with_reducible refine gate_builtin (b := .append) (xs := #[.tmp 44, .tmp 45]) rfl ?_); at_builtin; refine Kd.R_append_rows (Kd.int .u8) (w0 := w0) w0.heap.size rfl (.tmp 44) (.tmp 45) 34 5 (.int .u8 0) 1 rfl Tryz.underlying34 info5 rfl (by decide) (by omega) u0 x0_3 y193 _ _ _ (fun k_ => (P0_ k_ ∨ w.heap.size ≤ k_) ∧ some k_ ≠ (.slice Ao57 y193.length co57 : Value).ownBlock) (fun _ => False) rfl rfl ?aO ?aR (fun _ _ h => h) (fun _ h => h.elim) ?aF ?aB ?aS ?aL ?_; (case aR => repeat (first | exact (Kd.R_reads' HO195.out).2.2 | (with_reducible refine Kd.C_alloc ?_ _) | (with_reducible refine Kd.C_drewN ?_ _) | (with_reducible refine Kd.C_drew ?_))); (case aB => exact (belS HB GE176)); (case aF => exact (fun k_ hk => ⟨(.inr (Nat.le_trans (by first | exact HK.out.1 | exact (show Kept w _ (fun k_ => P0_ k_) from kepS HK GW176).1) hk)), Kd.fresh' (Kd.R_lt (kdB HO195)) k_ hk⟩)); (case aO => exact (kdB HO_0)); (case aS => exact (below_size (belS HB GE176))); (case aL => have := LMc30.out; omega); intro v197 w56 ho hb hg hat; rw [← Ny196.out] at ho; have HO198 := Aside0.mk (ho); replace BK176 := Aside0.mk (blk_grown (g := gb176) (o := .cells #[.int .i64 a1_0, .string a1_1, .slice A1_2 l1_2.length c1_2, .slice A1_3 l1_3.length c1_3] 52 (0, 0)) (blkA BK176) hg (Kd.R_ne HO_0.out BK176.out (by decide))); replace HO195 := Aside0.mk (Kd.R_after (ok := (fun k_ => (P0_ k_ ∨ w.heap.size ≤ k_))) (by (with_reducible repeat (first | apply Kd.R_alloc | apply Kd.R_drewN | apply Kd.R_drew)); exact Kd.R_mono HO195.out (fun _ hk => ⟨hk.1.1, hk.2⟩)) hg hat); replace HB := Aside0.mk (hb); replace HK := Aside0.mk (Kept.of_grown (S := (fun k_ => P0_ k_)) hg (kepS HK GW176) (fun k_ e_ => (HO_0.out.1 k_ e_).1)); clear HO_0; clear ho hb hg hat; obtain ⟨hcz58_0, hcz58_1, hcz58_2, hcz58_3, hfz58_0, hfz58_1, hfz58_2, hfz58_3⟩ := cef4 BK176.out; have p213 : 0 ≤ (x7_3 : Int) := odA; have q213 : x7_3 < (l1_2.length : Int) := odA; obtain ⟨ad213, A213_2, c213_2, A213_3, c213_3, e213, hx213_0, hx213_1, hx213_2, hx213_3, hl213_2, hi213_2, hl213_3, hi213_3⟩ := at_T52 (Kd.C_kept_now HR1_2.out HK.out) x7_3 p213 q213; have HF213_2 := Aside0.mk (k52_in2 HR1_2.out HK.out x7_3 p213 q213 e213 hx213_2); have HF213_3 := Aside0.mk (k52_in3 HR1_2.out HK.out x7_3 p213 q213 e213 hx213_3); cases e213; have HR213_2 := Aside0.mk hi213_2; have HC213_2 := Aside0.mk hl213_2; clear hi213_2 hl213_2; have HR213_3 := Aside0.mk hi213_3; have HC213_3 := Aside0.mk hl213_3; clear hi213_3 hl213_3; replace p213 := eq_true p213; replace q213 := eq_true q213; obtain ⟨Ao59, co59, eo59⟩ := Kd.R_slice HO198.out; subst eo59) | ((with_reducible refine gate_callee (f := 32) rfl ?_); refine goesL_ (some 65) rfl rfl Tryz.func32 (by kernel_rfl) rfl #[.slice Ao59 y196.length co59, .agg #[.int .i64 ((rd_T52 l1_2 x7_3).f0), .string ((rd_T52 l1_2 x7_3).f1), .slice A213_2 ((rd_T52 l1_2 x7_3).f2).length c213_2, .slice A213_3 ((rd_T52 l1_2 x7_3).f3).length c213_3]] rfl mapA ?_; (with_reducible refine (ih k3 (by have := HJ17.out; have := HJ22.out; have := HK3.out; omega) (fun k_ => some k_ = (.slice Ao59 y196.length co59 : Value).ownBlock) (.slice Ao59 y196.length co59) y196 ((rd_T52 l1_2 x7_3).f0) ((rd_T52 l1_2 x7_3).f1) _ _ ((rd_T52 l1_2 x7_3).f2) _ _ ((rd_T52 l1_2 x7_3).f3) t214 w0 _ ?side1 ?side2 ?side3 ?side4 ?side5 ?side6 A52.out).mono ?_); (case side1 => repeat (first | (with_reducible first | exact HB.out | apply below_alloc | apply pw_below_drewN | apply below_drew1 | refine below_set ?_ GE176.out) | exact HB.out)); (case side2 => exact Kd.R_tight rfl HO198.out); (case side3 => exact Kd.C_kept_call HF213_2.out (kepS HK GW176) (fun k_ hs_ => (fun e_ => (HO198.out.1 k_ e_.symm).1) hs_)); (case side4 => exact HC213_2.out); (case side5 => exact Kd.C_kept_call HF213_3.out (kepS HK GW176) (fun k_ hs_ => (fun e_ => (HO198.out.1 k_ e_.symm).1) hs_)); (case side6 => exact HC213_3.out); rintro e w60 ⟨v215, rfl, ho0, hb, hkp⟩; refine ⟨_, rfl, ?_⟩; have HO216 := Aside0.mk (Kd.R_mono (ok' := fun k_ => (P0_ k_ ∨ w.heap.size ≤ k_) ∧ some k_ ≠ (.slice Ao57 y193.length co57 : Value).ownBlock) ho0 (fun k_ hk_ => ⟨Or.elim hk_ (fun hs_ => (HO198.out.1 k_ (hs_).symm).1) (fun hn_ => (.inr (Nat.le_trans (by first | exact HK.out.1 | exact (show Kept w _ (fun k_ => P0_ k_) from kepS HK GW176).1) hn_))), Or.elim hk_ (fun hs_ => fun e_ => (((HO195.out).1 k_ e_.symm).2) hs_) (fun hn_ => (Kd.fresh' (Kd.R_lt (kdB HO195)) k_ hn_))⟩)); replace BK176 := Aside0.mk (blk_kept (blkA BK176) hkp (fun hs_ => (fun e_ => (Kd.R_ne HO198.out BK176.out (by decide)) e_) hs_)); replace HO195 := Aside0.mk (Kd.R_mono (ok' := fun k_ => (P0_ k_ ∨ w.heap.size ≤ k_) ∧ some k_ ≠ (v215 : Value).ownBlock) (Kd.R_keptB (HO195.out) hkp (fun k_ hk_ hs_ => (hk_.2) hs_)) (fun k_ hk_ => ⟨hk_.1.1, fun e_ => Or.elim (ho0.1 k_ e_.symm) (fun hs_ => hk_.2.1 hs_) (fun hn_ => Nat.not_le.2 hk_.2.2 hn_)⟩)); replace HK := Aside0.mk (Kept.then_ (S := (fun k_ => P0_ k_)) (kepS HK GW176) hkp (fun k_ hs_ => (fun e_ => (HO198.out.1 k_ e_.symm).1) hs_)); replace HB := Aside0.mk (hb); clear HO198; (try clear hb); (try clear hkp); (try clear ho0)))
                go_roundg k3
                case measure => have := HJ17.out; have := HJ22.out; have := HK3.out; omega
                case rel => exact ⟨(t214), (wrap64 (x7_3 + 1)), enA, H', ⟨by have := HJ17.out; have := HJ22.out; have := HK3.out; omega⟩, ⟨by (with_reducible repeat (first | apply Kd.R_alloc | apply Kd.R_drewN | apply Kd.R_drew)); exact Kd.R_mono HO216.out (fun _ hk => hk.1)⟩, ⟨blkA BK176⟩, ⟨kepS HK GW176⟩, ⟨belS HB GE176⟩⟩
               ·rw [if_neg c51] at H
                exact absurd H (by simp)
             ·rw [if_neg c30] at H
              exact absurd H (by simp)
            ·rw [if_neg c29] at H; have c29b0 := decide_eq_false c29; clear c29
             by_cases c61 : a1_0 = 8
             ·rw [if_pos c61] at H; have c61b0 := beq_iff_eq.mpr c61; have c61b1 := bne_eq_false_iff_eq.mpr c61; clear c61
              by_cases c62 : 0 ≤ x7_3
              ·rw [if_pos c62] at H; have c62b0 := decide_eq_true c62; clear c62
               by_cases c63 : x7_3 < (l1_3.length : Int)
               ·rw [if_pos c63] at H; have c63b0 := decide_eq_true c63; clear c63
                by_cases c64 : x0_3.length + (rdOf ByteArray.empty l1_3 x7_3).size < 140737488355328
                ·rw [if_pos c64] at H; have LMc64 := Aside0.mk c64; clear c64
                 obtain ⟨y218, hy218⟩ : ∃ y_ : List Int, y_ = (x0_3 ++ bytesOf (rdOf ByteArray.empty l1_3 x7_3)) := ⟨_, rfl⟩
                 replace H : ((some (([58, 32] : List Int) : List Int)).bind fun y221 => (if y218.length + y221.length < 140737488355328 then ((spec_l07Say.f k3 (y218 ++ y221) ((rd_T52 l1_2 x7_3).f0) ((rd_T52 l1_2 x7_3).f1) ((rd_T52 l1_2 x7_3).f2) ((rd_T52 l1_2 x7_3).f3)).bind fun t228 => (spec_l07Say.l0 k3 t228 x6_22 (wrap64 (x7_3 + 1)) a1_0 a1_1 l1_2 l1_3)) else (none))) = some r := reA H hy218; have Ny218 := Aside0.mk hy218; clear hy218
                 obtain ⟨y221, hy221⟩ : ∃ y_ : List Int, y_ = (([58, 32] : List Int)) := ⟨_, rfl⟩
                 replace H : (if y218.length + y221.length < 140737488355328 then ((spec_l07Say.f k3 (y218 ++ y221) ((rd_T52 l1_2 x7_3).f0) ((rd_T52 l1_2 x7_3).f1) ((rd_T52 l1_2 x7_3).f2) ((rd_T52 l1_2 x7_3).f3)).bind fun t228 => (spec_l07Say.l0 k3 t228 x6_22 (wrap64 (x7_3 + 1)) a1_0 a1_1 l1_2 l1_3)) else (none)) = some r := reA H hy221; have Ny221 := Aside0.mk hy221; clear hy221
                 by_cases c65 : y218.length + y221.length < 140737488355328
                 ·rw [if_pos c65] at H; have LMc65 := Aside0.mk c65; clear c65
                  obtain ⟨y224, hy224⟩ : ∃ y_ : List Int, y_ = (y218 ++ y221) := ⟨_, rfl⟩
                  replace H : ((spec_l07Say.f k3 y224 ((rd_T52 l1_2 x7_3).f0) ((rd_T52 l1_2 x7_3).f1) ((rd_T52 l1_2 x7_3).f2) ((rd_T52 l1_2 x7_3).f3)).bind fun t228 => (spec_l07Say.l0 k3 t228 x6_22 (wrap64 (x7_3 + 1)) a1_0 a1_1 l1_2 l1_3)) = some r := reA H hy224; have Ny224 := Aside0.mk hy224; clear hy224; replace H := Option.bind_eq_some_iff.mp H; obtain ⟨t228, A660, H⟩ := H; replace H : (spec_l07Say.l0 k3 t228 x6_22 (wrap64 (x7_3 + 1)) a1_0 a1_1 l1_2 l1_3) = some r := H; have A66 := Aside0.mk A660; clear A660
                  have H' := Aside0.mk H
                  clear H; obtain ⟨hcz67_0, hcz67_1, hcz67_2, hcz67_3, hfz67_0, hfz67_1, hfz67_2, hfz67_3⟩ := cef4 BK176.out; have p217 : 0 ≤ (x7_3 : Int) := odA; have q217 : x7_3 < (l1_3.length : Int) := odA; obtain ⟨ad217, e217, hx217_0⟩ := Kd.at_string (Kd.C_kept_now HR1_3.out HK.out) x7_3 p217 q217
                  cases e217
                  replace p217 := eq_true p217; replace q217 := eq_true q217
                  go_wp2_with (first | (at_builtin; refine print_append_strH (w0 := w0) w0.heap.size rfl (.tmp 50) _ 34 9 5 rfl Tryz.underlying34 Tryz.underlying9 info5 u0 x0_3 (rdOf ByteArray.empty l1_3 x7_3) rfl rfl ?aO ?aB ?aS ?aL ?_; (case aB => exact (belS HB GE176)); (case aO => exact (Kd.own_of_R (kdB HO_0))); (case aS => exact (below_size (belS HB GE176))); (case aL => have := LMc64.out; omega); intro v219 w68 ho0 hb hg hat; have ho := R_str_at (h1 := fun _ => rfl) (ok := (fun k_ => (P0_ k_ ∨ w.heap.size ≤ k_))) ho0 hat (fun k_ hk => (.inr (Nat.le_trans (by first | exact HK.out.1 | exact (show Kept w _ (fun k_ => P0_ k_) from kepS HK GW176).1) hk))) (kdB HO_0); clear ho0; rw [← Ny218.out] at ho; change Kd.R (Kd.int .u8) 5 w68 w0.heap.size (fun k_ => (P0_ k_ ∨ w.heap.size ≤ k_)) v219 y218 at ho; have HO220 := Aside0.mk (ho); replace BK176 := Aside0.mk (blk_grown (g := gb176) (o := .cells #[.int .i64 a1_0, .string a1_1, .slice A1_2 l1_2.length c1_2, .slice (some ad217) l1_3.length c1_3] 52 (0, 0)) (blkA BK176) hg (Kd.R_ne HO_0.out BK176.out (by decide))); replace HB := Aside0.mk (hb); replace HK := Aside0.mk (Kept.of_grown (S := (fun k_ => P0_ k_)) hg (kepS HK GW176) (fun k_ e_ => (HO_0.out.1 k_ e_))); clear HO_0; clear ho hb hg hat) | ((with_reducible refine gate_dst (N := 57) rfl ?_); refine Kd.R_lit (Kd.int .u8) _ 5 ?hg (N := 57) ?hd (xs := ([58, 32] : List Int)) (inner := [.int .u8 58, .int .u8 32]) (ok := fun _ => True) (okp := fun _ => True) ?hr ?hp (fun _ hk => hk) trivial (Below.refl _ _) (Nat.le_refl _) (by simp) ?_; (case hd => rfl); (case hg => rfl); (case hr => first | (go_simp; done) | (go_simp; rfl)); (case hp => exact (Reps.one (show Kd.M (Kd.int .u8) _ _ _ 58 [.int .u8 58] from rfl) (Reps.one (show Kd.M (Kd.int .u8) _ _ _ 32 [.int .u8 32] from rfl) (Reps.none _ _)))); intro v222 w69 ho70 hb hg_ hnew_; clear hg_ hnew_; (first | rw [← Ny221.out] at ho70 | (simp only [Int.reduceToNat] at ho70; rw [← Ny221.out] at ho70)); have HO223 := Aside0.mk (Kd.R_lower (Kd.R_new' (Kd.R_newM (M := fun k_ => (P0_ k_ ∨ w.heap.size ≤ k_)) ho70 (by first | exact HK.out.1 | exact (show Kept w _ (fun k_ => P0_ k_) from kepS HK GW176).1) (fun k_ h_ => .inr h_)) (Kd.R_lt (kdB HO220))) (below_size (belS HB GE176))); replace HO220 := Aside0.mk (Kd.R_elder' (kdB HO220) (Kd.R_base ho70) hb); replace BK176 := Aside0.mk (bBA BK176 hb); replace HK := Aside0.mk (Kept.below (S := (fun k_ => P0_ k_)) (kepS HK GW176) hb); replace HB := Aside0.mk (below_step (belS HB GE176) hb); clear hb ho70; obtain ⟨Ao72, co72, eo72⟩ := Kd.R_slice HO223.out; subst eo72) | ((with_reducible refine gate_builtin (b := .append) (xs := #[.tmp 56, .tmp 57]) rfl ?_); at_builtin; refine Kd.R_append_rows (Kd.int .u8) (w0 := w0) w0.heap.size rfl (.tmp 56) (.tmp 57) 34 5 (.int .u8 0) 1 rfl Tryz.underlying34 info5 rfl (by decide) (by omega) v219 y218 y221 _ _ _ (fun k_ => (P0_ k_ ∨ w.heap.size ≤ k_) ∧ some k_ ≠ (.slice Ao72 y221.length co72 : Value).ownBlock) (fun _ => False) rfl rfl ?aO ?aR (fun _ _ h => h) (fun _ h => h.elim) ?aF ?aB ?aS ?aL ?_; (case aR => repeat (first | exact (Kd.R_reads' HO223.out).2.2 | (with_reducible refine Kd.C_alloc ?_ _) | (with_reducible refine Kd.C_drewN ?_ _) | (with_reducible refine Kd.C_drew ?_))); (case aB => exact (belS HB GE176)); (case aF => exact (fun k_ hk => ⟨(.inr (Nat.le_trans (by first | exact HK.out.1 | exact (show Kept w _ (fun k_ => P0_ k_) from kepS HK GW176).1) hk)), Kd.fresh' (Kd.R_lt (kdB HO223)) k_ hk⟩)); (case aO => exact (kdB HO220)); (case aS => exact (below_size (belS HB GE176))); (case aL => have := LMc65.out; omega); intro v225 w71 ho hb hg hat; rw [← Ny224.out] at ho; have HO226 := Aside0.mk (ho); replace BK176 := Aside0.mk (blk_grown (g := gb176) (o := .cells #[.int .i64 a1_0, .string a1_1, .slice A1_2 l1_2.length c1_2, .slice (some ad217) l1_3.length c1_3] 52 (0, 0)) (blkA BK176) hg (Kd.R_ne HO220.out BK176.out (by decide))); replace HO223 := Aside0.mk (Kd.R_after (ok := (fun k_ => (P0_ k_ ∨ w.heap.size ≤ k_))) (by (with_reducible repeat (first | apply Kd.R_alloc | apply Kd.R_drewN | apply Kd.R_drew)); exact Kd.R_mono HO223.out (fun _ hk => ⟨hk.1.1, hk.2⟩)) hg hat); replace HB := Aside0.mk (hb); replace HK := Aside0.mk (Kept.of_grown (S := (fun k_ => P0_ k_)) hg (kepS HK GW176) (fun k_ e_ => (HO220.out.1 k_ e_).1)); clear HO220; clear ho hb hg hat; obtain ⟨hcz73_0, hcz73_1, hcz73_2, hcz73_3, hfz73_0, hfz73_1, hfz73_2, hfz73_3⟩ := cef4 BK176.out; have p227 : 0 ≤ (x7_3 : Int) := odA; have q227 : x7_3 < (l1_2.length : Int) := odA; obtain ⟨ad227, A227_2, c227_2, A227_3, c227_3, e227, hx227_0, hx227_1, hx227_2, hx227_3, hl227_2, hi227_2, hl227_3, hi227_3⟩ := at_T52 (Kd.C_kept_now HR1_2.out HK.out) x7_3 p227 q227; have HF227_2 := Aside0.mk (k52_in2 HR1_2.out HK.out x7_3 p227 q227 e227 hx227_2); have HF227_3 := Aside0.mk (k52_in3 HR1_2.out HK.out x7_3 p227 q227 e227 hx227_3); cases e227; have HR227_2 := Aside0.mk hi227_2; have HC227_2 := Aside0.mk hl227_2; clear hi227_2 hl227_2; have HR227_3 := Aside0.mk hi227_3; have HC227_3 := Aside0.mk hl227_3; clear hi227_3 hl227_3; replace p227 := eq_true p227; replace q227 := eq_true q227; obtain ⟨Ao74, co74, eo74⟩ := Kd.R_slice HO226.out; subst eo74) | ((with_reducible refine gate_callee (f := 32) rfl ?_); refine goesL_ (some 65) rfl rfl Tryz.func32 (by kernel_rfl) rfl #[.slice Ao74 y224.length co74, .agg #[.int .i64 ((rd_T52 l1_2 x7_3).f0), .string ((rd_T52 l1_2 x7_3).f1), .slice A227_2 ((rd_T52 l1_2 x7_3).f2).length c227_2, .slice A227_3 ((rd_T52 l1_2 x7_3).f3).length c227_3]] rfl mapA ?_; (with_reducible refine (ih k3 (by have := HJ17.out; have := HJ22.out; have := HK3.out; omega) (fun k_ => some k_ = (.slice Ao74 y224.length co74 : Value).ownBlock) (.slice Ao74 y224.length co74) y224 ((rd_T52 l1_2 x7_3).f0) ((rd_T52 l1_2 x7_3).f1) _ _ ((rd_T52 l1_2 x7_3).f2) _ _ ((rd_T52 l1_2 x7_3).f3) t228 w0 _ ?side1 ?side2 ?side3 ?side4 ?side5 ?side6 A66.out).mono ?_); (case side1 => repeat (first | (with_reducible first | exact HB.out | apply below_alloc | apply pw_below_drewN | apply below_drew1 | refine below_set ?_ GE176.out) | exact HB.out)); (case side2 => exact Kd.R_tight rfl HO226.out); (case side3 => exact Kd.C_kept_call HF227_2.out (kepS HK GW176) (fun k_ hs_ => (fun e_ => (HO226.out.1 k_ e_.symm).1) hs_)); (case side4 => exact HC227_2.out); (case side5 => exact Kd.C_kept_call HF227_3.out (kepS HK GW176) (fun k_ hs_ => (fun e_ => (HO226.out.1 k_ e_.symm).1) hs_)); (case side6 => exact HC227_3.out); rintro e w75 ⟨v229, rfl, ho0, hb, hkp⟩; refine ⟨_, rfl, ?_⟩; have HO230 := Aside0.mk (Kd.R_mono (ok' := fun k_ => (P0_ k_ ∨ w.heap.size ≤ k_) ∧ some k_ ≠ (.slice Ao72 y221.length co72 : Value).ownBlock) ho0 (fun k_ hk_ => ⟨Or.elim hk_ (fun hs_ => (HO226.out.1 k_ (hs_).symm).1) (fun hn_ => (.inr (Nat.le_trans (by first | exact HK.out.1 | exact (show Kept w _ (fun k_ => P0_ k_) from kepS HK GW176).1) hn_))), Or.elim hk_ (fun hs_ => fun e_ => (((HO223.out).1 k_ e_.symm).2) hs_) (fun hn_ => (Kd.fresh' (Kd.R_lt (kdB HO223)) k_ hn_))⟩)); replace BK176 := Aside0.mk (blk_kept (blkA BK176) hkp (fun hs_ => (fun e_ => (Kd.R_ne HO226.out BK176.out (by decide)) e_) hs_)); replace HO223 := Aside0.mk (Kd.R_mono (ok' := fun k_ => (P0_ k_ ∨ w.heap.size ≤ k_) ∧ some k_ ≠ (v229 : Value).ownBlock) (Kd.R_keptB (HO223.out) hkp (fun k_ hk_ hs_ => (hk_.2) hs_)) (fun k_ hk_ => ⟨hk_.1.1, fun e_ => Or.elim (ho0.1 k_ e_.symm) (fun hs_ => hk_.2.1 hs_) (fun hn_ => Nat.not_le.2 hk_.2.2 hn_)⟩)); replace HK := Aside0.mk (Kept.then_ (S := (fun k_ => P0_ k_)) (kepS HK GW176) hkp (fun k_ hs_ => (fun e_ => (HO226.out.1 k_ e_.symm).1) hs_)); replace HB := Aside0.mk (hb); clear HO226; (try clear hb); (try clear hkp); (try clear ho0)))
                  go_roundg k3
                  case measure => have := HJ17.out; have := HJ22.out; have := HK3.out; omega
                  case rel => exact ⟨(t228), (wrap64 (x7_3 + 1)), enA, H', ⟨by have := HJ17.out; have := HJ22.out; have := HK3.out; omega⟩, ⟨by (with_reducible repeat (first | apply Kd.R_alloc | apply Kd.R_drewN | apply Kd.R_drew)); exact Kd.R_mono HO230.out (fun _ hk => hk.1)⟩, ⟨blkA BK176⟩, ⟨kepS HK GW176⟩, ⟨belS HB GE176⟩⟩
                 ·rw [if_neg c65] at H
                  exact absurd H (by simp)
                ·rw [if_neg c64] at H
                 exact absurd H (by simp)
               ·rw [if_neg c63] at H
                exact absurd H (by simp)
              ·rw [if_neg c62] at H
               exact absurd H (by simp)
             ·rw [if_neg c61] at H; have c61b0 := beq_eq_false_iff_ne.mpr c61; have c61b1 := bne_iff_ne.mpr c61
              by_cases c76 : 0 ≤ x7_3
              ·rw [if_pos c76] at H; have c76b0 := decide_eq_true c76; clear c76; replace H := Option.bind_eq_some_iff.mp H; obtain ⟨t232, A770, H⟩ := H; replace H : (spec_l07Say.l0 k3 t232 x6_22 (wrap64 (x7_3 + 1)) a1_0 a1_1 l1_2 l1_3) = some r := H; have A77 := Aside0.mk A770; clear A770
               have H' := Aside0.mk H
               clear H; obtain ⟨hcz78_0, hcz78_1, hcz78_2, hcz78_3, hfz78_0, hfz78_1, hfz78_2, hfz78_3⟩ := cef4 BK176.out; have p231 : 0 ≤ (x7_3 : Int) := odA; have q231 : x7_3 < (l1_2.length : Int) := odA; obtain ⟨ad231, A231_2, c231_2, A231_3, c231_3, e231, hx231_0, hx231_1, hx231_2, hx231_3, hl231_2, hi231_2, hl231_3, hi231_3⟩ := at_T52 (Kd.C_kept_now HR1_2.out HK.out) x7_3 p231 q231; have HF231_2 := Aside0.mk (k52_in2 HR1_2.out HK.out x7_3 p231 q231 e231 hx231_2); have HF231_3 := Aside0.mk (k52_in3 HR1_2.out HK.out x7_3 p231 q231 e231 hx231_3)
               cases e231
               have HR231_2 := Aside0.mk hi231_2; have HC231_2 := Aside0.mk hl231_2; clear hi231_2 hl231_2; have HR231_3 := Aside0.mk hi231_3; have HC231_3 := Aside0.mk hl231_3; clear hi231_3 hl231_3; replace p231 := eq_true p231; replace q231 := eq_true q231; obtain ⟨Ao79, co79, eo79⟩ := Kd.R_slice HO_0.out; subst eo79
               go_wp2_with (first | ((with_reducible refine gate_callee (f := 32) rfl ?_); refine goesL_ (some 65) rfl rfl Tryz.func32 (by kernel_rfl) rfl #[.slice Ao79 x0_3.length co79, .agg #[.int .i64 ((rd_T52 l1_2 x7_3).f0), .string ((rd_T52 l1_2 x7_3).f1), .slice A231_2 ((rd_T52 l1_2 x7_3).f2).length c231_2, .slice A231_3 ((rd_T52 l1_2 x7_3).f3).length c231_3]] rfl mapA ?_; (with_reducible refine (ih k3 (by have := HJ17.out; have := HJ22.out; have := HK3.out; omega) (fun k_ => some k_ = (.slice Ao79 x0_3.length co79 : Value).ownBlock) (.slice Ao79 x0_3.length co79) x0_3 ((rd_T52 l1_2 x7_3).f0) ((rd_T52 l1_2 x7_3).f1) _ _ ((rd_T52 l1_2 x7_3).f2) _ _ ((rd_T52 l1_2 x7_3).f3) t232 w0 _ ?side1 ?side2 ?side3 ?side4 ?side5 ?side6 A77.out).mono ?_); (case side1 => repeat (first | (with_reducible first | exact HB.out | apply below_alloc | apply pw_below_drewN | apply below_drew1 | refine below_set ?_ GE176.out) | exact HB.out)); (case side2 => exact Kd.R_tight rfl HO_0.out); (case side3 => exact Kd.C_kept_call HF231_2.out (kepS HK GW176) (fun k_ hs_ => (fun e_ => (HO_0.out.1 k_ e_.symm)) hs_)); (case side4 => exact HC231_2.out); (case side5 => exact Kd.C_kept_call HF231_3.out (kepS HK GW176) (fun k_ hs_ => (fun e_ => (HO_0.out.1 k_ e_.symm)) hs_)); (case side6 => exact HC231_3.out); rintro e w80 ⟨v233, rfl, ho0, hb, hkp⟩; refine ⟨_, rfl, ?_⟩; have HO234 := Aside0.mk (Kd.R_mono (ok' := fun k_ => (P0_ k_ ∨ w.heap.size ≤ k_)) ho0 (fun k_ hk_ => Or.elim hk_ (fun hs_ => (HO_0.out.1 k_ (hs_).symm)) (fun hn_ => (.inr (Nat.le_trans (by first | exact HK.out.1 | exact (show Kept w _ (fun k_ => P0_ k_) from kepS HK GW176).1) hn_))))); replace BK176 := Aside0.mk (blk_kept (blkA BK176) hkp (fun hs_ => (fun e_ => (Kd.R_ne HO_0.out BK176.out (by decide)) e_) hs_)); replace HK := Aside0.mk (Kept.then_ (S := (fun k_ => P0_ k_)) (kepS HK GW176) hkp (fun k_ hs_ => (fun e_ => (HO_0.out.1 k_ e_.symm)) hs_)); replace HB := Aside0.mk (hb); clear HO_0; (try clear hb); (try clear hkp); (try clear ho0)))
               go_roundg k3
               case measure => have := HJ17.out; have := HJ22.out; have := HK3.out; omega
               case rel => exact ⟨(t232), (wrap64 (x7_3 + 1)), enA, H', ⟨by have := HJ17.out; have := HJ22.out; have := HK3.out; omega⟩, ⟨kdB HO234⟩, ⟨blkA BK176⟩, ⟨kepS HK GW176⟩, ⟨belS HB GE176⟩⟩
              ·rw [if_neg c76] at H
               exact absurd H (by simp)
           ·rw [if_neg c28] at H; have c28b0 := decide_eq_false c28; clear c28
            by_cases c81 : x0_3.length < 140737488355328
            ·rw [if_pos c81] at H; have LMc81 := Aside0.mk c81; clear c81
             obtain ⟨y190, hy190⟩ : ∃ y_ : List Int, y_ = (x0_3 ++ [x6_22]) := ⟨_, rfl⟩
             replace H : (some y190) = some r := reA H hy190; have Ny190 := Aside0.mk hy190; clear hy190; obtain rfl := Option.some.inj H; obtain ⟨hcz82_0, hcz82_1, hcz82_2, hcz82_3, hfz82_0, hfz82_1, hfz82_2, hfz82_3⟩ := cef4 BK176.out
             go_wp2_with (first | ((with_reducible refine gate_builtin (b := .append) (xs := #[.tmp 66, .tmp 68]) rfl ?_); at_builtin; refine Kd.R_append (Kd.int .u8) (w0 := w0) w0.heap.size rfl (.tmp 66) (.tmp 68) 34 5 (.int .u8 0) 1 rfl Tryz.underlying34 info5 rfl (by decide) (by omega) u0 x0_3 x6_22 [.int .u8 x6_22] (fun k_ => (P0_ k_ ∨ w.heap.size ≤ k_)) (fun _ => False) rfl rfl ?aP (fun _ hk => hk.elim) ?aF ?aO ?aB ?aS ?aL ?_; (case aP => exact rfl); (case aB => exact (belS HB GE176)); (case aF => exact (fun k_ hk => (.inr (Nat.le_trans (by first | exact HK.out.1 | exact (show Kept w _ (fun k_ => P0_ k_) from kepS HK GW176).1) hk)))); (case aO => exact (kdB HO_0)); (case aS => exact (below_size (belS HB GE176))); (case aL => have := LMc81.out; omega); intro v191 w83 ho hb hg hat; rw [← Ny190.out] at ho; have HO192 := Aside0.mk (ho); replace BK176 := Aside0.mk (blk_grown (g := gb176) (o := .cells #[.int .i64 a1_0, .string a1_1, .slice A1_2 l1_2.length c1_2, .slice A1_3 l1_3.length c1_3] 52 (0, 0)) (blkA BK176) hg (Kd.R_ne HO_0.out BK176.out (by decide))); replace HB := Aside0.mk (hb); replace HK := Aside0.mk (Kept.of_grown (S := (fun k_ => P0_ k_)) hg (kepS HK GW176) (fun k_ e_ => (HO_0.out.1 k_ e_))); clear HO_0; clear ho hb hg hat))
             go_ret
             exact ⟨_, erA, kdB HO192, belS HB GE176, kepS HK GW176⟩
            ·rw [if_neg c81] at H
             exact absurd H (by simp)
        ·rw [if_neg c26] at H
         exact absurd H (by simp)
     ·replace c22 := Bool.eq_false_iff.mpr c22; subst c22
      have H1 : (if l0.length + a1_1.size < 140737488355328 then (some (l0 ++ bytesOf a1_1)) else (none)) = some r := by rw [if_neg (show ¬ (false = true) by decide)] at H; exact H
      clear H; have H := H1; clear H1
      by_cases c84 : l0.length + a1_1.size < 140737488355328
      ·rw [if_pos c84] at H; have LMc84 := Aside0.mk c84; clear c84
       obtain ⟨y235, hy235⟩ : ∃ y_ : List Int, y_ = (l0 ++ bytesOf a1_1) := ⟨_, rfl⟩
       replace H : (some y235) = some r := reA H hy235; have Ny235 := Aside0.mk hy235; clear hy235; obtain rfl := Option.some.inj H; obtain ⟨hcz85_0, hcz85_1, hcz85_2, hcz85_3, hfz85_0, hfz85_1, hfz85_2, hfz85_3⟩ := cef4 BK176.out
       go_wp2_with (first | (at_builtin; refine print_append_strH (w0 := w0) w0.heap.size rfl (.tmp 70) _ 34 9 5 rfl Tryz.underlying34 Tryz.underlying9 info5 u9000_ l0 a1_1 rfl rfl ?aO ?aB ?aS ?aL ?_; (case aB => exact (belS HB GE176)); (case aO => exact (Kd.own_of_R (kdB HO_0))); (case aS => exact (below_size (belS HB GE176))); (case aL => have := LMc84.out; omega); intro v236 w86 ho0 hb hg hat; have ho := R_str_at (h1 := fun _ => rfl) (ok := (fun k_ => (P0_ k_ ∨ w.heap.size ≤ k_))) ho0 hat (fun k_ hk => (.inr (Nat.le_trans (by first | exact HK.out.1 | exact (show Kept w _ (fun k_ => P0_ k_) from kepS HK GW176).1) hk))) (kdB HO_0); clear ho0; rw [← Ny235.out] at ho; change Kd.R (Kd.int .u8) 5 w86 w0.heap.size (fun k_ => (P0_ k_ ∨ w.heap.size ≤ k_)) v236 y235 at ho; have HO237 := Aside0.mk (ho); replace BK176 := Aside0.mk (blk_grown (g := gb176) (o := .cells #[.int .i64 a1_0, .string a1_1, .slice A1_2 l1_2.length c1_2, .slice A1_3 l1_3.length c1_3] 52 (0, 0)) (blkA BK176) hg (Kd.R_ne HO_0.out BK176.out (by decide))); replace HB := Aside0.mk (hb); replace HK := Aside0.mk (Kept.of_grown (S := (fun k_ => P0_ k_)) hg (kepS HK GW176) (fun k_ e_ => (HO_0.out.1 k_ e_))); clear HO_0; clear ho hb hg hat))
       go_ret
       exact ⟨_, erA, kdB HO237, belS HB GE176, kepS HK GW176⟩
      ·rw [if_neg c84] at H
       exact absurd H (by simp)

end Go.Proofs.YtjhagdjjlgjlbaaGreatDoor.OFnExactDirsText
-- narrow
