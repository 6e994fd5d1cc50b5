/- The machine side of one law, written by a program. -/
import Derived.Test.YtjhagdjjlgjlbaaDoorOFnExactArgsTextx0
import Derived.Test.YtjhagdjjlgjlbaaDoorOFnExactArgsTextx1
import Derived.Test.YtjhagdjjlgjlbaaDoorOFnExactArgsTextx2
import Derived.Test.YtjhagdjjlgjlbaaDoorOFnExactArgsTextx4
import Derived.Test.YtjhagdjjlgjlbaaDoorOFnExactArgsTextx13
import Derived.Test.YtjhagdjjlgjlbaaDoorOFnExactArgsTextx16
import Derived.Test.YtjhagdjjlgjlbaaDoorOFnExactArgsTextx17
namespace Go.Proofs.YtjhagdjjlgjlbaaDoor.OFnExactArgsText
open Go.Proofs.YtjhagdjjlgjlbaaDoor.GlU Go.Proofs.YtjhagdjjlgjlbaaDoor.Ix
open Go.RowKit Go.Proofs.YtjhagdjjlgjlbaaDoorW.PrintWords Go.Proofs.YtjhagdjjlgjlbaaDoorW.PrintLast Go.Proofs.YtjhagdjjlgjlbaaDoorW.PrintMore
attribute [local go_sem] max2_int min2_int max_two min_two max_three min_three max_four min_four
set_option linter.unusedVariables false
set_option linter.unusedSimpArgs false

mutual
def impl_printValue.l0 : Nat → List ByteArray → List (S37) → Int → Int → Int → ByteArray → List (S37) → List ByteArray → Option (ByteArray)
 | 0, _, _, _, _, _, _, _, _ => none
 | k + 1, x3, x10, x11, x12, x404000, x404001, x404002, x404003 => if x12 < x11 then (if 0 ≤ x12 then (if x12 < (x10.length : Int) then ((impl_printValue.f k ((rd_T37 x10 x12).f0) ((rd_T37 x10 x12).f1) ((rd_T37 x10 x12).f2) ((rd_T37 x10 x12).f3)).bind fun t409 => (if x404000 = 8 then (if x12 < (x404003.length : Int) then (if (rdOf ByteArray.empty x404003 x12).size + 2 ≤ 9223372036854775807 then (if ((rdOf ByteArray.empty x404003 x12) ++ (⟨#[58, 32]⟩ : ByteArray)).size + t409.size ≤ 9223372036854775807 then (if x3.length < 8796093022208 then (impl_printValue.l0 k (x3 ++ [((rdOf ByteArray.empty x404003 x12) ++ (⟨#[58, 32]⟩ : ByteArray)) ++ t409]) x10 x11 (wrap64 (x12 + 1)) x404000 x404001 x404002 x404003) else (none)) else (none)) else (none)) else (none)) else (if x3.length < 8796093022208 then (impl_printValue.l0 k (x3 ++ [t409]) x10 x11 (wrap64 (x12 + 1)) x404000 x404001 x404002 x404003) else (none)))) else (none)) else (none)) else ((strings_Join.f x3 (⟨#[44, 32]⟩ : ByteArray)).bind fun t417 => (if x404000 = 1 then (if 1 + x404001.size ≤ 9223372036854775807 then (some ((⟨#[36]⟩ : ByteArray) ++ x404001)) else (none)) else (if x404000 = 4 then ((impl_Escaped.f k x404001).bind fun t418 => (some t418)) else (if x404000 = 7 then (if 1 + t417.size ≤ 9223372036854775807 then (if ((⟨#[91]⟩ : ByteArray) ++ t417).size + 1 ≤ 9223372036854775807 then (some (((⟨#[91]⟩ : ByteArray) ++ t417) ++ (⟨#[93]⟩ : ByteArray))) else (none)) else (none)) else (if x404000 = 8 then (if 1 + t417.size ≤ 9223372036854775807 then (if ((⟨#[123]⟩ : ByteArray) ++ t417).size + 1 ≤ 9223372036854775807 then (some (((⟨#[123]⟩ : ByteArray) ++ t417) ++ (⟨#[125]⟩ : ByteArray))) else (none)) else (none)) else (some x404001))))))
def impl_printValue.f : Nat → Int → ByteArray → List (S37) → List ByteArray → Option (ByteArray)
 | 0, _, _, _, _ => none
 | k + 1, a0_0, a0_1, l0_2, l0_3 => impl_printValue.l0 k (([] : List ByteArray)) l0_2 (l0_2.length : Int) 0 a0_0 a0_1 l0_2 l0_3
end
theorem impl_printValue.mono_l : ∀ k, (∀ y0 y1 y2 y3, LeO (impl_printValue.f k y0 y1 y2 y3) (impl_printValue.f (k + 1) y0 y1 y2 y3)) ∧ (∀ y0 y1 y2 y3 y4 y5 y6 y7, LeO (impl_printValue.l0 k y0 y1 y2 y3 y4 y5 y6 y7) (impl_printValue.l0 (k + 1) y0 y1 y2 y3 y4 y5 y6 y7))
 | 0 => ⟨fun _ _ _ _ r h => by simp [impl_printValue.f] at h, fun _ _ _ _ _ _ _ _ r h => by simp [impl_printValue.l0] at h⟩
 | k + 1 => by
  obtain ⟨ih0, ih1⟩ := impl_printValue.mono_l k; refine ⟨?_, ?_⟩
  ·intro y0 y1 y2 y3; unfold impl_printValue.f
   repeat' first
   | (with_reducible first | exact ih0 _ _ _ _ | exact ih1 _ _ _ _ _ _ _ _ | exact impl_Escaped.mono _ _ | exact LeO.refl _ | exact LeO.none _ | refine LeO.ite ?_ ?_ | refine LeO.bind ?_ (fun _ => ?_))
   | exact ih0 _ _ _ _ | exact ih1 _ _ _ _ _ _ _ _ | exact impl_Escaped.mono _ _ | exact LeO.none _ | refine LeO.ite ?_ ?_ | refine LeO.bind ?_ (fun _ => ?_)
  ·intro y0 y1 y2 y3 y4 y5 y6 y7; unfold impl_printValue.l0
   repeat' first
   | (with_reducible first | exact ih0 _ _ _ _ | exact ih1 _ _ _ _ _ _ _ _ | exact impl_Escaped.mono _ _ | exact LeO.refl _ | exact LeO.none _ | refine LeO.ite ?_ ?_ | refine LeO.bind ?_ (fun _ => ?_))
   | exact ih0 _ _ _ _ | exact ih1 _ _ _ _ _ _ _ _ | exact impl_Escaped.mono _ _ | exact LeO.none _ | refine LeO.ite ?_ ?_ | refine LeO.bind ?_ (fun _ => ?_)
theorem impl_printValue.mono : ∀ a0 a1 a2 a3 k, LeO (impl_printValue.f k a0 a1 a2 a3) (impl_printValue.f (k + 1) a0 a1 a2 a3) := by
 intro a0 a1 a2 a3 k; obtain ⟨ih0, ih1⟩ := impl_printValue.mono_l k; exact ih0 a0 a1 a2 a3
set_option maxHeartbeats 8000000 in
set_option maxRecDepth 100000 in
theorem impl_printValue.calls (k : Nat) : ∀ (a0_0 : Int) (a0_1 : ByteArray) (A0_2 : Option Addr) (c0_2 : Nat) (l0_2 : List (S37)) (A0_3 : Option Addr) (c0_3 : Nat) (l0_3 : List ByteArray) (r : ByteArray) (w : World) (hr0_2 : Kd.C k37 w A0_2 l0_2.length l0_2) (hc0_2 : l0_2.length ≤ c0_2) (hr0_3 : Kd.C Kd.string w A0_3 l0_3.length l0_3) (hc0_3 : l0_3.length ≤ c0_3) (hG : Gl w) (h : impl_printValue.f k a0_0 a0_1 l0_2 l0_3 = some r),
  Calls Tryd.prog 56 #[.agg #[.int .i64 a0_0, .string a0_1, .slice A0_2 l0_2.length c0_2, .slice A0_3 l0_3.length c0_3]] w fun e w' => e = .returned (.string r) ∧ Below w.heap.size w w' := by
 induction k using Nat.strongRecOn with
 | _ k ih =>
 intro a0_0 a0_1 A0_2 c0_2 l0_2 A0_3 c0_3 l0_3 r w hr0_2 hc0_2 hr0_3 hc0_3 hG h
 cases k with
 | zero => exact absurd h (by simp [impl_printValue.f])
 | succ k =>
 simp only [impl_printValue.f] at h
 have hu37 := Tryd.underlying37; have HG := Aside0.mk hG; clear hG; have HR0_2 := Aside0.mk hr0_2; have HC0_2 := Aside0.mk hc0_2; clear hr0_2 hc0_2; have HR0_3 := Aside0.mk hr0_3; have HC0_3 := Aside0.mk hc0_3; clear hr0_3 hc0_3; have HB := Aside0.mk (Below.refl w.heap.size w); have H : (impl_printValue.l0 k (([] : List ByteArray)) l0_2 (l0_2.length : Int) 0 a0_0 a0_1 l0_2 l0_3) = some r := h; clear h
 obtain ⟨y404, hy404⟩ : ∃ y_ : List ByteArray, y_ = (([] : List ByteArray)) := ⟨_, rfl⟩
 replace H : (impl_printValue.l0 k y404 l0_2 (l0_2.length : Int) 0 a0_0 a0_1 l0_2 l0_3) = some r := reA H hy404; have Ny404 := Aside0.mk hy404; clear hy404
 have H' := Aside0.mk H
 clear H
 go_enter Tryd.func56, Tryd.ntmps56
 go_wp2_with (first | ((with_reducible refine gate_dst (N := 1) rfl ?_); refine boxE (N := 1) (cs := #[.int .i64 a0_0, .string a0_1, .slice A0_2 l0_2.length c0_2, .slice A0_3 l0_3.length c0_3]) (t := 37) ?_; intro gb403 hg w2 hbox hb; have BK403 := Aside0.mk (hbox); have GW403 := Aside0.mk ((gbA (w := w) HB hg)); have GE403 := Aside0.mk ((gbA (w := w) HB hg)); replace HB := Aside0.mk (below_step (belB HB) hb); clear hb hbox hg) | ((with_reducible refine gate_dst (N := 8) rfl ?_); refine Kd.R_lit Kd.string _ 9 ?hg (N := 8) ?hd (xs := ([] : List ByteArray)) (inner := []) (ok := fun _ => True) (okp := fun _ => True) ?hr ?hp (fun _ hk => hk) trivial (Below.refl _ _) (Nat.le_refl _) (by simp) ?_; (case hd => rfl); (case hg => rfl); (case hr => first | (go_simp; done) | (go_simp; rfl)); (case hp => exact (Reps.none _ _)); intro v405 w3 ho4 hb hg_ hnew_; clear hg_ hnew_; (first | rw [← Ny404.out] at ho4 | (simp only [Int.reduceToNat] at ho4; rw [← Ny404.out] at ho4)); have HO406 := Aside0.mk (Kd.R_lower ho4 (below_size (belS HB GE403))); replace BK403 := Aside0.mk (bBA BK403 hb); replace HB := Aside0.mk (below_step (belS HB GE403) hb); clear hb ho4; obtain ⟨hcz5_0, hcz5_1, hcz5_2, hcz5_3, hfz5_0, hfz5_1, hfz5_2, hfz5_3⟩ := cef4 BK403.out))
 go_loopg [3, 12] k (fun kq v3 v12 w' => ∃ (x3_1 : List ByteArray) (x12_1 : Int), v12 = .int .i64 x12_1 ∧ Aside0 (impl_printValue.l0 kq x3_1 l0_2 (l0_2.length : Int) x12_1 a0_0 a0_1 l0_2 l0_3 = some r) ∧ Aside0 (kq ≤ k) ∧ Aside0 (Kd.R Kd.string 9 w' w.heap.size (fun _ => True) v3 x3_1) ∧ Aside0 (w'.heap[gb403]? = some (.cells #[.int .i64 a0_0, .string a0_1, (.slice A0_2 l0_2.length c0_2), (.slice A0_3 l0_3.length c0_3)] 37 (0, 0))) ∧ Aside0 (Below w.heap.size w w'))
 case atStart => exact ⟨(y404), (0), enA, H', ⟨Nat.le_refl _⟩, ⟨kdB HO406⟩, ⟨blkA BK403⟩, ⟨belS HB GE403⟩⟩
 case round =>
  clear H'
  try clear p2
  try clear c5
  try clear hcz5_0
  try clear hcz5_1
  try clear hcz5_2
  try clear hcz5_3
  try clear hfz5_0
  try clear hfz5_1
  try clear hfz5_2
  try clear hfz5_3
  obtain ⟨x3_1, x12_1, rfl, HA, HK1, HO_3, BK403, HB⟩ := hrel
  cases gk with
  | zero => exact absurd HA.out (by simp [impl_printValue.l0])
  | succ k1 =>
   have H := HA.out; clear HA
   simp only [impl_printValue.l0] at H
   by_cases c6 : x12_1 < (l0_2.length : Int)
   ·rw [if_pos c6] at H; have c6b0 := decide_eq_true c6; clear c6
    by_cases c7 : 0 ≤ x12_1
    ·rw [if_pos c7] at H; have c7b0 := decide_eq_true c7; clear c7
     by_cases c8 : x12_1 < (l0_2.length : Int)
     ·rw [if_pos c8] at H; have c8b0 := decide_eq_true c8; clear c8; replace H := Option.bind_eq_some_iff.mp H; obtain ⟨t409, A90, H⟩ := H; replace H : (if a0_0 = 8 then (if x12_1 < (l0_3.length : Int) then (if (rdOf ByteArray.empty l0_3 x12_1).size + 2 ≤ 9223372036854775807 then (if ((rdOf ByteArray.empty l0_3 x12_1) ++ (⟨#[58, 32]⟩ : ByteArray)).size + t409.size ≤ 9223372036854775807 then (if x3_1.length < 8796093022208 then (impl_printValue.l0 k1 (x3_1 ++ [((rdOf ByteArray.empty l0_3 x12_1) ++ (⟨#[58, 32]⟩ : ByteArray)) ++ t409]) l0_2 (l0_2.length : Int) (wrap64 (x12_1 + 1)) a0_0 a0_1 l0_2 l0_3) else (none)) else (none)) else (none)) else (none)) else (if x3_1.length < 8796093022208 then (impl_printValue.l0 k1 (x3_1 ++ [t409]) l0_2 (l0_2.length : Int) (wrap64 (x12_1 + 1)) a0_0 a0_1 l0_2 l0_3) else (none))) = some r := H; have A9 := Aside0.mk A90; clear A90
      by_cases c10 : a0_0 = 8
      ·rw [if_pos c10] at H; have c10b0 := beq_iff_eq.mpr c10; have c10b1 := bne_eq_false_iff_eq.mpr c10; clear c10
       by_cases c11 : x12_1 < (l0_3.length : Int)
       ·rw [if_pos c11] at H; have c11b0 := decide_eq_true c11; clear c11
        by_cases c12 : (rdOf ByteArray.empty l0_3 x12_1).size + 2 ≤ 9223372036854775807
        ·rw [if_pos c12] at H; have c12b0 := eq_true c12; have c12b1 := decide_eq_true c12
         try have c12b2 : (9223372036854775807 < (rdOf ByteArray.empty l0_3 x12_1).size + 2) = False := eq_false (Nat.not_lt.2 c12)
         by_cases c13 : ((rdOf ByteArray.empty l0_3 x12_1) ++ (⟨#[58, 32]⟩ : ByteArray)).size + t409.size ≤ 9223372036854775807
         ·rw [if_pos c13] at H; have c13b0 := eq_true c13; have c13b1 := decide_eq_true c13
          try have c13b2 : (9223372036854775807 < ((rdOf ByteArray.empty l0_3 x12_1) ++ (⟨#[58, 32]⟩ : ByteArray)).size + t409.size) = False := eq_false (Nat.not_lt.2 c13)
          by_cases c14 : x3_1.length < 8796093022208
          ·rw [if_pos c14] at H; have LMc14 := Aside0.mk c14; clear c14
           obtain ⟨y411, hy411⟩ : ∃ y_ : List ByteArray, y_ = (x3_1 ++ [((rdOf ByteArray.empty l0_3 x12_1) ++ (⟨#[58, 32]⟩ : ByteArray)) ++ t409]) := ⟨_, rfl⟩
           replace H : (impl_printValue.l0 k1 y411 l0_2 (l0_2.length : Int) (wrap64 (x12_1 + 1)) a0_0 a0_1 l0_2 l0_3) = some r := reA H hy411; have Ny411 := Aside0.mk hy411; clear hy411
           have H' := Aside0.mk H
           clear H; have p407 : 0 ≤ (x12_1 : Int) := odA; have q407 : x12_1 < (l0_2.length : Int) := odA; obtain ⟨ad407, A407_2, c407_2, A407_3, c407_3, e407, hx407_0, hx407_1, hx407_2, hx407_3, hl407_2, hi407_2, hl407_3, hi407_3⟩ := at_T37 HR0_2.out x12_1 p407 q407
           cases e407
           (try replace hx407_0 := celB HB hx407_0)
           (try replace hx407_1 := celB HB hx407_1)
           (try replace hx407_2 := celB HB hx407_2)
           (try replace hx407_3 := celB HB hx407_3)
           have HR407_2 := Aside0.mk hi407_2; have HC407_2 := Aside0.mk hl407_2; clear hi407_2 hl407_2; have HR407_3 := Aside0.mk hi407_3; have HC407_3 := Aside0.mk hl407_3; clear hi407_3 hl407_3; replace p407 := eq_true p407; replace q407 := eq_true q407
           go_wp2_with (first | ((with_reducible refine gate_dst (N := 5) rfl ?_); refine boxE (N := 5) (cs := #[.int .i64 0, .string (⟨#[]⟩ : ByteArray), .slice none 0 0, .slice none 0 0]) (t := 37) ?_; intro gb408 hg w15 hbox hb; have BK408 := Aside0.mk (hbox); have GW408 := Aside0.mk ((by rw [hg]; exact (below_size (belS HB GE403)) : w.heap.size ≤ gb408)); have GE408 := Aside0.mk ((by rw [hg]; exact (below_size (belS HB GE403)) : w.heap.size ≤ gb408)); have NB403_408 := Aside0.mk ((by rw [hg]; exact Nat.ne_of_lt (blk_lt (g := gb403) (o := .cells #[.int .i64 a0_0, .string a0_1, .slice (some ad407) l0_2.length c0_2, .slice A0_3 l0_3.length c0_3] 37 (0, 0)) (blkA BK403)) : gb403 ≠ gb408)); have NB408_403 := Aside0.mk ((by rw [hg]; exact Nat.ne_of_gt (blk_lt (g := gb403) (o := .cells #[.int .i64 a0_0, .string a0_1, .slice (some ad407) l0_2.length c0_2, .slice A0_3 l0_3.length c0_3] 37 (0, 0)) (blkA BK403)) : gb408 ≠ gb403)); replace HO_3 := Aside0.mk (Kd.R_below (kdB HO_3) hb); replace BK403 := Aside0.mk (bBA BK403 hb); replace HB := Aside0.mk (below_step (belS HB GE403) hb); clear hb hbox hg; have hnb16 := NB408_403.out; have hnc16 := NB403_408.out; obtain ⟨hcz17_0, hcz17_1, hcz17_2, hcz17_3, hfz17_0, hfz17_1, hfz17_2, hfz17_3⟩ := cef4 BK408.out) | ((with_reducible refine gate_callee (f := 56) rfl ?_); refine goesL_ (some 18) rfl rfl Tryd.func56 (by kernel_rfl) rfl #[.agg #[.int .i64 ((rd_T37 l0_2 x12_1).f0), .string ((rd_T37 l0_2 x12_1).f1), .slice A407_2 ((rd_T37 l0_2 x12_1).f2).length c407_2, .slice A407_3 ((rd_T37 l0_2 x12_1).f3).length c407_3]] rfl mapA ?_; (with_reducible refine (ih k1 (by have := HK1.out; omega) ((rd_T37 l0_2 x12_1).f0) ((rd_T37 l0_2 x12_1).f1) _ _ ((rd_T37 l0_2 x12_1).f2) _ _ ((rd_T37 l0_2 x12_1).f3) t409 _ ?side1 ?side2 ?side3 ?side4 (Gl.below HG.out (belT HB GE403 GE408)) A9.out).mono ?_); (case side1 => exact Kd.C_below HR407_2.out (belT HB GE403 GE408)); (case side2 => exact HC407_2.out); (case side3 => exact Kd.C_below HR407_3.out (belT HB GE403 GE408)); (case side4 => exact HC407_3.out); rintro e w18 ⟨rfl, hb⟩; refine ⟨_, rfl, ?_⟩; replace HO_3 := Aside0.mk (Kd.R_below (by (with_reducible repeat (first | apply Kd.R_alloc | apply Kd.R_drewN | apply Kd.R_drew)); exact (Kd.R_mono (Kd.R_far (p := ⟨gb408, 3, none⟩) (Kd.R_far (p := ⟨gb408, 2, none⟩) (Kd.R_far (p := ⟨gb408, 1, none⟩) (Kd.R_far (p := ⟨gb408, 0, none⟩) (Kd.R_types HO_3.out BK408.out (by decide)) (fun _ hk => hk.2) (.int .i64 ((rd_T37 l0_2 x12_1).f0))) (fun _ hk => hk.2) (.string ((rd_T37 l0_2 x12_1).f1))) (fun _ hk => hk.2) (.slice A407_2 ((rd_T37 l0_2 x12_1).f2).length c407_2)) (fun _ hk => hk.2) (.slice A407_3 ((rd_T37 l0_2 x12_1).f3).length c407_3)) (fun _ h_ => h_.1))) hb); replace BK403 := Aside0.mk (blk_below (g := gb403) (o := .cells #[.int .i64 a0_0, .string a0_1, .slice (some ad407) l0_2.length c0_2, .slice A0_3 l0_3.length c0_3] 37 (0, 0)) (by (with_reducible repeat (first | refine blk_drewN ?_ _ | refine blk_drew ?_ | refine blk_alloc ?_ _)); refine blk_far ?_ NB403_408.out _; (with_reducible repeat (first | refine blk_drewN ?_ _ | refine blk_drew ?_ | refine blk_alloc ?_ _)); refine blk_far ?_ NB403_408.out _; (with_reducible repeat (first | refine blk_drewN ?_ _ | refine blk_drew ?_ | refine blk_alloc ?_ _)); refine blk_far ?_ NB403_408.out _; (with_reducible repeat (first | refine blk_drewN ?_ _ | refine blk_drew ?_ | refine blk_alloc ?_ _)); refine blk_far ?_ NB403_408.out _; (with_reducible repeat (first | refine blk_drewN ?_ _ | refine blk_drew ?_ | refine blk_alloc ?_ _)); exact BK403.out) hb); replace BK408 := Aside0.mk (blk_below (g := gb408) (o := .cells #[.int .i64 ((rd_T37 l0_2 x12_1).f0), .string ((rd_T37 l0_2 x12_1).f1), .slice A407_2 ((rd_T37 l0_2 x12_1).f2).length c407_2, .slice A407_3 ((rd_T37 l0_2 x12_1).f3).length c407_3] 37 (0, 0)) (by (with_reducible repeat (first | refine blk_drewN ?_ _ | refine blk_drew ?_ | refine blk_alloc ?_ _)); refine blk_put (cs := #[.int .i64 ((rd_T37 l0_2 x12_1).f0), .string ((rd_T37 l0_2 x12_1).f1), .slice A407_2 ((rd_T37 l0_2 x12_1).f2).length c407_2, .slice none 0 0]) ?_ 3 _ rfl; (with_reducible repeat (first | refine blk_drewN ?_ _ | refine blk_drew ?_ | refine blk_alloc ?_ _)); refine blk_put (cs := #[.int .i64 ((rd_T37 l0_2 x12_1).f0), .string ((rd_T37 l0_2 x12_1).f1), .slice none 0 0, .slice none 0 0]) ?_ 2 _ rfl; (with_reducible repeat (first | refine blk_drewN ?_ _ | refine blk_drew ?_ | refine blk_alloc ?_ _)); refine blk_put (cs := #[.int .i64 ((rd_T37 l0_2 x12_1).f0), .string (⟨#[]⟩ : ByteArray), .slice none 0 0, .slice none 0 0]) ?_ 1 _ rfl; (with_reducible repeat (first | refine blk_drewN ?_ _ | refine blk_drew ?_ | refine blk_alloc ?_ _)); refine blk_put (cs := #[.int .i64 0, .string (⟨#[]⟩ : ByteArray), .slice none 0 0, .slice none 0 0]) ?_ 0 _ rfl; (with_reducible repeat (first | refine blk_drewN ?_ _ | refine blk_drew ?_ | refine blk_alloc ?_ _)); exact BK408.out) hb); replace HB := Aside0.mk (below_step (belT HB GE403 GE408) hb); (try clear hb); obtain ⟨hcz19_0, hcz19_1, hcz19_2, hcz19_3, hfz19_0, hfz19_1, hfz19_2, hfz19_3⟩ := cef4 BK403.out; have p410 : 0 ≤ (x12_1 : Int) := odA; have q410 : x12_1 < (l0_3.length : Int) := odA; obtain ⟨ad410, e410, hx410_0⟩ := Kd.at_string HR0_3.out x12_1 p410 q410; cases e410; replace hx410_0 := (HB.out.cell (World.block_lt_of_cell? w _ hx410_0)).trans hx410_0; replace p410 := eq_true p410; replace q410 := eq_true q410) | ((with_reducible refine gate_builtin (b := .append) (xs := #[.tmp 30, .tmp 32]) rfl ?_); at_builtin; refine Kd.R_append Kd.string (w0 := w) w.heap.size rfl (.tmp 30) (.tmp 32) 30 9 (.string ⟨#[]⟩) 16 rfl Tryd.underlying30 info9 rfl (by decide) (by omega) u3 x3_1 (((rdOf ByteArray.empty l0_3 x12_1) ++ (⟨#[58, 32]⟩ : ByteArray)) ++ t409) [.string (((rdOf ByteArray.empty l0_3 x12_1) ++ (⟨#[58, 32]⟩ : ByteArray)) ++ t409)] (fun _ => True) (fun _ => False) rfl rfl ?aP (fun _ hk => hk.elim) ?aF ?aO ?aB ?aS ?aL ?_; (case aP => exact rfl); (case aB => exact (belT HB GE403 GE408)); (case aF => exact (fun _ _ => trivial)); (case aO => exact (kdB HO_3)); (case aS => exact (below_size (belT HB GE403 GE408))); (case aL => have := LMc14.out; omega); intro v412 w20 ho hb hg hat; rw [← Ny411.out] at ho; have HO413 := Aside0.mk (ho); replace BK403 := Aside0.mk (blk_grown (g := gb403) (o := .cells #[.int .i64 a0_0, .string a0_1, .slice (some ad407) l0_2.length c0_2, .slice (some ad410) l0_3.length c0_3] 37 (0, 0)) (blkA BK403) hg (Kd.R_ne HO_3.out BK403.out (by decide))); replace BK408 := Aside0.mk (blk_grown (g := gb408) (o := .cells #[.int .i64 ((rd_T37 l0_2 x12_1).f0), .string ((rd_T37 l0_2 x12_1).f1), .slice A407_2 ((rd_T37 l0_2 x12_1).f2).length c407_2, .slice A407_3 ((rd_T37 l0_2 x12_1).f3).length c407_3] 37 (0, 0)) (blkA BK408) hg (Kd.R_ne HO_3.out BK408.out (by decide))); replace HB := Aside0.mk (hb); clear HO_3; clear ho hb hg hat))
           go_roundg k1
           case measure => have := HK1.out; omega
           case rel => exact ⟨(y411), (wrap64 (x12_1 + 1)), enA, H', ⟨by have := HK1.out; omega⟩, ⟨kdB HO413⟩, ⟨blkA BK403⟩, ⟨belT HB GE403 GE408⟩⟩
          ·rw [if_neg c14] at H
           exact absurd H (by simp)
         ·rw [if_neg c13] at H
          exact absurd H (by simp)
        ·rw [if_neg c12] at H
         exact absurd H (by simp)
       ·rw [if_neg c11] at H
        exact absurd H (by simp)
      ·rw [if_neg c10] at H; have c10b0 := beq_eq_false_iff_ne.mpr c10; have c10b1 := bne_iff_ne.mpr c10
       by_cases c21 : x3_1.length < 8796093022208
       ·rw [if_pos c21] at H; have LMc21 := Aside0.mk c21; clear c21
        obtain ⟨y414, hy414⟩ : ∃ y_ : List ByteArray, y_ = (x3_1 ++ [t409]) := ⟨_, rfl⟩
        replace H : (impl_printValue.l0 k1 y414 l0_2 (l0_2.length : Int) (wrap64 (x12_1 + 1)) a0_0 a0_1 l0_2 l0_3) = some r := reA H hy414; have Ny414 := Aside0.mk hy414; clear hy414
        have H' := Aside0.mk H
        clear H; have p407 : 0 ≤ (x12_1 : Int) := odA; have q407 : x12_1 < (l0_2.length : Int) := odA; obtain ⟨ad407, A407_2, c407_2, A407_3, c407_3, e407, hx407_0, hx407_1, hx407_2, hx407_3, hl407_2, hi407_2, hl407_3, hi407_3⟩ := at_T37 HR0_2.out x12_1 p407 q407
        cases e407
        (try replace hx407_0 := celB HB hx407_0)
        (try replace hx407_1 := celB HB hx407_1)
        (try replace hx407_2 := celB HB hx407_2)
        (try replace hx407_3 := celB HB hx407_3)
        have HR407_2 := Aside0.mk hi407_2; have HC407_2 := Aside0.mk hl407_2; clear hi407_2 hl407_2; have HR407_3 := Aside0.mk hi407_3; have HC407_3 := Aside0.mk hl407_3; clear hi407_3 hl407_3; replace p407 := eq_true p407; replace q407 := eq_true q407
        go_wp2_with (first | ((with_reducible refine gate_dst (N := 5) rfl ?_); refine boxE (N := 5) (cs := #[.int .i64 0, .string (⟨#[]⟩ : ByteArray), .slice none 0 0, .slice none 0 0]) (t := 37) ?_; intro gb408 hg w22 hbox hb; have BK408 := Aside0.mk (hbox); have GW408 := Aside0.mk ((by rw [hg]; exact (below_size (belS HB GE403)) : w.heap.size ≤ gb408)); have GE408 := Aside0.mk ((by rw [hg]; exact (below_size (belS HB GE403)) : w.heap.size ≤ gb408)); have NB403_408 := Aside0.mk ((by rw [hg]; exact Nat.ne_of_lt (blk_lt (g := gb403) (o := .cells #[.int .i64 a0_0, .string a0_1, .slice (some ad407) l0_2.length c0_2, .slice A0_3 l0_3.length c0_3] 37 (0, 0)) (blkA BK403)) : gb403 ≠ gb408)); have NB408_403 := Aside0.mk ((by rw [hg]; exact Nat.ne_of_gt (blk_lt (g := gb403) (o := .cells #[.int .i64 a0_0, .string a0_1, .slice (some ad407) l0_2.length c0_2, .slice A0_3 l0_3.length c0_3] 37 (0, 0)) (blkA BK403)) : gb408 ≠ gb403)); replace HO_3 := Aside0.mk (Kd.R_below (kdB HO_3) hb); replace BK403 := Aside0.mk (bBA BK403 hb); replace HB := Aside0.mk (below_step (belS HB GE403) hb); clear hb hbox hg; have hnb23 := NB408_403.out; have hnc23 := NB403_408.out; obtain ⟨hcz24_0, hcz24_1, hcz24_2, hcz24_3, hfz24_0, hfz24_1, hfz24_2, hfz24_3⟩ := cef4 BK408.out) | ((with_reducible refine gate_callee (f := 56) rfl ?_); refine goesL_ (some 18) rfl rfl Tryd.func56 (by kernel_rfl) rfl #[.agg #[.int .i64 ((rd_T37 l0_2 x12_1).f0), .string ((rd_T37 l0_2 x12_1).f1), .slice A407_2 ((rd_T37 l0_2 x12_1).f2).length c407_2, .slice A407_3 ((rd_T37 l0_2 x12_1).f3).length c407_3]] rfl mapA ?_; (with_reducible refine (ih k1 (by have := HK1.out; omega) ((rd_T37 l0_2 x12_1).f0) ((rd_T37 l0_2 x12_1).f1) _ _ ((rd_T37 l0_2 x12_1).f2) _ _ ((rd_T37 l0_2 x12_1).f3) t409 _ ?side1 ?side2 ?side3 ?side4 (Gl.below HG.out (belT HB GE403 GE408)) A9.out).mono ?_); (case side1 => exact Kd.C_below HR407_2.out (belT HB GE403 GE408)); (case side2 => exact HC407_2.out); (case side3 => exact Kd.C_below HR407_3.out (belT HB GE403 GE408)); (case side4 => exact HC407_3.out); rintro e w25 ⟨rfl, hb⟩; refine ⟨_, rfl, ?_⟩; replace HO_3 := Aside0.mk (Kd.R_below (by (with_reducible repeat (first | apply Kd.R_alloc | apply Kd.R_drewN | apply Kd.R_drew)); exact (Kd.R_mono (Kd.R_far (p := ⟨gb408, 3, none⟩) (Kd.R_far (p := ⟨gb408, 2, none⟩) (Kd.R_far (p := ⟨gb408, 1, none⟩) (Kd.R_far (p := ⟨gb408, 0, none⟩) (Kd.R_types HO_3.out BK408.out (by decide)) (fun _ hk => hk.2) (.int .i64 ((rd_T37 l0_2 x12_1).f0))) (fun _ hk => hk.2) (.string ((rd_T37 l0_2 x12_1).f1))) (fun _ hk => hk.2) (.slice A407_2 ((rd_T37 l0_2 x12_1).f2).length c407_2)) (fun _ hk => hk.2) (.slice A407_3 ((rd_T37 l0_2 x12_1).f3).length c407_3)) (fun _ h_ => h_.1))) hb); replace BK403 := Aside0.mk (blk_below (g := gb403) (o := .cells #[.int .i64 a0_0, .string a0_1, .slice (some ad407) l0_2.length c0_2, .slice A0_3 l0_3.length c0_3] 37 (0, 0)) (by (with_reducible repeat (first | refine blk_drewN ?_ _ | refine blk_drew ?_ | refine blk_alloc ?_ _)); refine blk_far ?_ NB403_408.out _; (with_reducible repeat (first | refine blk_drewN ?_ _ | refine blk_drew ?_ | refine blk_alloc ?_ _)); refine blk_far ?_ NB403_408.out _; (with_reducible repeat (first | refine blk_drewN ?_ _ | refine blk_drew ?_ | refine blk_alloc ?_ _)); refine blk_far ?_ NB403_408.out _; (with_reducible repeat (first | refine blk_drewN ?_ _ | refine blk_drew ?_ | refine blk_alloc ?_ _)); refine blk_far ?_ NB403_408.out _; (with_reducible repeat (first | refine blk_drewN ?_ _ | refine blk_drew ?_ | refine blk_alloc ?_ _)); exact BK403.out) hb); replace BK408 := Aside0.mk (blk_below (g := gb408) (o := .cells #[.int .i64 ((rd_T37 l0_2 x12_1).f0), .string ((rd_T37 l0_2 x12_1).f1), .slice A407_2 ((rd_T37 l0_2 x12_1).f2).length c407_2, .slice A407_3 ((rd_T37 l0_2 x12_1).f3).length c407_3] 37 (0, 0)) (by (with_reducible repeat (first | refine blk_drewN ?_ _ | refine blk_drew ?_ | refine blk_alloc ?_ _)); refine blk_put (cs := #[.int .i64 ((rd_T37 l0_2 x12_1).f0), .string ((rd_T37 l0_2 x12_1).f1), .slice A407_2 ((rd_T37 l0_2 x12_1).f2).length c407_2, .slice none 0 0]) ?_ 3 _ rfl; (with_reducible repeat (first | refine blk_drewN ?_ _ | refine blk_drew ?_ | refine blk_alloc ?_ _)); refine blk_put (cs := #[.int .i64 ((rd_T37 l0_2 x12_1).f0), .string ((rd_T37 l0_2 x12_1).f1), .slice none 0 0, .slice none 0 0]) ?_ 2 _ rfl; (with_reducible repeat (first | refine blk_drewN ?_ _ | refine blk_drew ?_ | refine blk_alloc ?_ _)); refine blk_put (cs := #[.int .i64 ((rd_T37 l0_2 x12_1).f0), .string (⟨#[]⟩ : ByteArray), .slice none 0 0, .slice none 0 0]) ?_ 1 _ rfl; (with_reducible repeat (first | refine blk_drewN ?_ _ | refine blk_drew ?_ | refine blk_alloc ?_ _)); refine blk_put (cs := #[.int .i64 0, .string (⟨#[]⟩ : ByteArray), .slice none 0 0, .slice none 0 0]) ?_ 0 _ rfl; (with_reducible repeat (first | refine blk_drewN ?_ _ | refine blk_drew ?_ | refine blk_alloc ?_ _)); exact BK408.out) hb); replace HB := Aside0.mk (below_step (belT HB GE403 GE408) hb); (try clear hb); obtain ⟨hcz26_0, hcz26_1, hcz26_2, hcz26_3, hfz26_0, hfz26_1, hfz26_2, hfz26_3⟩ := cef4 BK403.out) | ((with_reducible refine gate_builtin (b := .append) (xs := #[.tmp 30, .tmp 32]) rfl ?_); at_builtin; refine Kd.R_append Kd.string (w0 := w) w.heap.size rfl (.tmp 30) (.tmp 32) 30 9 (.string ⟨#[]⟩) 16 rfl Tryd.underlying30 info9 rfl (by decide) (by omega) u3 x3_1 t409 [.string t409] (fun _ => True) (fun _ => False) rfl rfl ?aP (fun _ hk => hk.elim) ?aF ?aO ?aB ?aS ?aL ?_; (case aP => exact rfl); (case aB => exact (belT HB GE403 GE408)); (case aF => exact (fun _ _ => trivial)); (case aO => exact (kdB HO_3)); (case aS => exact (below_size (belT HB GE403 GE408))); (case aL => have := LMc21.out; omega); intro v415 w27 ho hb hg hat; rw [← Ny414.out] at ho; have HO416 := Aside0.mk (ho); replace BK403 := Aside0.mk (blk_grown (g := gb403) (o := .cells #[.int .i64 a0_0, .string a0_1, .slice (some ad407) l0_2.length c0_2, .slice A0_3 l0_3.length c0_3] 37 (0, 0)) (blkA BK403) hg (Kd.R_ne HO_3.out BK403.out (by decide))); replace BK408 := Aside0.mk (blk_grown (g := gb408) (o := .cells #[.int .i64 ((rd_T37 l0_2 x12_1).f0), .string ((rd_T37 l0_2 x12_1).f1), .slice A407_2 ((rd_T37 l0_2 x12_1).f2).length c407_2, .slice A407_3 ((rd_T37 l0_2 x12_1).f3).length c407_3] 37 (0, 0)) (blkA BK408) hg (Kd.R_ne HO_3.out BK408.out (by decide))); replace HB := Aside0.mk (hb); clear HO_3; clear ho hb hg hat))
        go_roundg k1
        case measure => have := HK1.out; omega
        case rel => exact ⟨(y414), (wrap64 (x12_1 + 1)), enA, H', ⟨by have := HK1.out; omega⟩, ⟨kdB HO416⟩, ⟨blkA BK403⟩, ⟨belT HB GE403 GE408⟩⟩
       ·rw [if_neg c21] at H
        exact absurd H (by simp)
     ·rw [if_neg c8] at H
      exact absurd H (by simp)
    ·rw [if_neg c7] at H
     exact absurd H (by simp)
   ·rw [if_neg c6] at H; have c6b0 := decide_eq_false c6; clear c6; replace H := Option.bind_eq_some_iff.mp H; obtain ⟨t417, A280, H⟩ := H; replace H : (if a0_0 = 1 then (if 1 + a0_1.size ≤ 9223372036854775807 then (some ((⟨#[36]⟩ : ByteArray) ++ a0_1)) else (none)) else (if a0_0 = 4 then ((impl_Escaped.f k1 a0_1).bind fun t418 => (some t418)) else (if a0_0 = 7 then (if 1 + t417.size ≤ 9223372036854775807 then (if ((⟨#[91]⟩ : ByteArray) ++ t417).size + 1 ≤ 9223372036854775807 then (some (((⟨#[91]⟩ : ByteArray) ++ t417) ++ (⟨#[93]⟩ : ByteArray))) else (none)) else (none)) else (if a0_0 = 8 then (if 1 + t417.size ≤ 9223372036854775807 then (if ((⟨#[123]⟩ : ByteArray) ++ t417).size + 1 ≤ 9223372036854775807 then (some (((⟨#[123]⟩ : ByteArray) ++ t417) ++ (⟨#[125]⟩ : ByteArray))) else (none)) else (none)) else (some a0_1))))) = some r := H; have A28 := Aside0.mk A280; clear A280
    by_cases c29 : a0_0 = 1
    ·rw [if_pos c29] at H; have c29b0 := beq_iff_eq.mpr c29; have c29b1 := bne_eq_false_iff_eq.mpr c29; clear c29
     by_cases c30 : 1 + a0_1.size ≤ 9223372036854775807
     ·rw [if_pos c30] at H; have c30b0 := eq_true c30; have c30b1 := decide_eq_true c30
      try have c30b2 : (9223372036854775807 < 1 + a0_1.size) = False := eq_false (Nat.not_lt.2 c30)
      obtain rfl := Option.some.inj H; obtain ⟨Ao31, co31, eo31⟩ := Kd.R_slice HO_3.out; subst eo31
      go_wp2_with (first | ((with_reducible refine gate_callee (f := 63) rfl ?_); refine goesL_ (some 36) rfl rfl Tryd.func63 (by kernel_rfl) rfl #[.slice Ao31 x3_1.length co31, .string (⟨#[44, 32]⟩ : ByteArray)] rfl mapA ?_; (with_reducible refine (strings_Join.calls _ _ x3_1 (⟨#[44, 32]⟩ : ByteArray) t417 _ ?side1 ?side2 A28.out (strings_Join.spotR HO_3.out)).mono ?_); (case side1 => repeat (first | exact (Kd.R_reads' HO_3.out).2.2 | (with_reducible refine Kd.C_alloc ?_ _) | (with_reducible refine Kd.C_drewN ?_ _) | (with_reducible refine Kd.C_drew ?_))); (case side2 => exact (Kd.R_reads' HO_3.out).2.1); rintro e w32 ⟨rfl, hb⟩; refine ⟨_, rfl, ?_⟩; replace HO_3 := Aside0.mk (Kd.R_below (kdB HO_3) hb); replace BK403 := Aside0.mk (bBA BK403 hb); replace HB := Aside0.mk (below_step (belS HB GE403) hb); (try clear hb); obtain ⟨hcz33_0, hcz33_1, hcz33_2, hcz33_3, hfz33_0, hfz33_1, hfz33_2, hfz33_3⟩ := cef4 BK403.out))
      go_ret
      exact ⟨erA, belS HB GE403⟩
     ·rw [if_neg c30] at H
      exact absurd H (by simp)
    ·rw [if_neg c29] at H; have c29b0 := beq_eq_false_iff_ne.mpr c29; have c29b1 := bne_iff_ne.mpr c29
     by_cases c34 : a0_0 = 4
     ·rw [if_pos c34] at H; have c34b0 := beq_iff_eq.mpr c34; have c34b1 := bne_eq_false_iff_eq.mpr c34; clear c34; replace H := Option.bind_eq_some_iff.mp H; obtain ⟨t418, A350, H⟩ := H; replace H : (some t418) = some r := H; have A35 := Aside0.mk A350; clear A350; obtain rfl := Option.some.inj H; obtain ⟨Ao36, co36, eo36⟩ := Kd.R_slice HO_3.out; subst eo36
      go_wp2_with (first | ((with_reducible refine gate_callee (f := 63) rfl ?_); refine goesL_ (some 36) rfl rfl Tryd.func63 (by kernel_rfl) rfl #[.slice Ao36 x3_1.length co36, .string (⟨#[44, 32]⟩ : ByteArray)] rfl mapA ?_; (with_reducible refine (strings_Join.calls _ _ x3_1 (⟨#[44, 32]⟩ : ByteArray) t417 _ ?side1 ?side2 A28.out (strings_Join.spotR HO_3.out)).mono ?_); (case side1 => repeat (first | exact (Kd.R_reads' HO_3.out).2.2 | (with_reducible refine Kd.C_alloc ?_ _) | (with_reducible refine Kd.C_drewN ?_ _) | (with_reducible refine Kd.C_drew ?_))); (case side2 => exact (Kd.R_reads' HO_3.out).2.1); rintro e w37 ⟨rfl, hb⟩; refine ⟨_, rfl, ?_⟩; replace HO_3 := Aside0.mk (Kd.R_below (kdB HO_3) hb); replace BK403 := Aside0.mk (bBA BK403 hb); replace HB := Aside0.mk (below_step (belS HB GE403) hb); (try clear hb); obtain ⟨hcz38_0, hcz38_1, hcz38_2, hcz38_3, hfz38_0, hfz38_1, hfz38_2, hfz38_3⟩ := cef4 BK403.out) | ((with_reducible refine gate_callee (f := 41) rfl ?_); refine goesL_ (some 48) rfl rfl Tryd.func41 (by kernel_rfl) rfl #[.string a0_1] rfl mapA ?_; (with_reducible refine (impl_Escaped.calls k1 a0_1 t418 _ (Gl.below HG.out (belS HB GE403)) A35.out).mono ?_); rintro e w39 ⟨rfl, hb⟩; refine ⟨_, rfl, ?_⟩; replace HO_3 := Aside0.mk (Kd.R_below (kdB HO_3) hb); replace BK403 := Aside0.mk (bBA BK403 hb); replace HB := Aside0.mk (below_step (belS HB GE403) hb); (try clear hb)))
      go_ret
      exact ⟨erA, belS HB GE403⟩
     ·rw [if_neg c34] at H; have c34b0 := beq_eq_false_iff_ne.mpr c34; have c34b1 := bne_iff_ne.mpr c34
      by_cases c40 : a0_0 = 7
      ·rw [if_pos c40] at H; have c40b0 := beq_iff_eq.mpr c40; have c40b1 := bne_eq_false_iff_eq.mpr c40; clear c40
       by_cases c41 : 1 + t417.size ≤ 9223372036854775807
       ·rw [if_pos c41] at H; have c41b0 := eq_true c41; have c41b1 := decide_eq_true c41
        try have c41b2 : (9223372036854775807 < 1 + t417.size) = False := eq_false (Nat.not_lt.2 c41)
        by_cases c42 : ((⟨#[91]⟩ : ByteArray) ++ t417).size + 1 ≤ 9223372036854775807
        ·rw [if_pos c42] at H; have c42b0 := eq_true c42; have c42b1 := decide_eq_true c42
         have c42n : 1 + t417.size + 1 ≤ 9223372036854775807 := by have z_ := c42; simp only [ByteArray.size_append] at z_; exact z_
         have c42n0 := eq_true c42n; have c42n1 : decide (1 + t417.size + 1 ≤ 9223372036854775807) = true := decide_eq_true c42n
         try have c42b2 : (9223372036854775807 < ((⟨#[91]⟩ : ByteArray) ++ t417).size + 1) = False := eq_false (Nat.not_lt.2 c42)
         obtain rfl := Option.some.inj H; obtain ⟨Ao43, co43, eo43⟩ := Kd.R_slice HO_3.out; subst eo43
         go_wp2_with (first | ((with_reducible refine gate_callee (f := 63) rfl ?_); refine goesL_ (some 36) rfl rfl Tryd.func63 (by kernel_rfl) rfl #[.slice Ao43 x3_1.length co43, .string (⟨#[44, 32]⟩ : ByteArray)] rfl mapA ?_; (with_reducible refine (strings_Join.calls _ _ x3_1 (⟨#[44, 32]⟩ : ByteArray) t417 _ ?side1 ?side2 A28.out (strings_Join.spotR HO_3.out)).mono ?_); (case side1 => repeat (first | exact (Kd.R_reads' HO_3.out).2.2 | (with_reducible refine Kd.C_alloc ?_ _) | (with_reducible refine Kd.C_drewN ?_ _) | (with_reducible refine Kd.C_drew ?_))); (case side2 => exact (Kd.R_reads' HO_3.out).2.1); rintro e w44 ⟨rfl, hb⟩; refine ⟨_, rfl, ?_⟩; replace HO_3 := Aside0.mk (Kd.R_below (kdB HO_3) hb); replace BK403 := Aside0.mk (bBA BK403 hb); replace HB := Aside0.mk (below_step (belS HB GE403) hb); (try clear hb); obtain ⟨hcz45_0, hcz45_1, hcz45_2, hcz45_3, hfz45_0, hfz45_1, hfz45_2, hfz45_3⟩ := cef4 BK403.out))
         go_ret
         exact ⟨erA, belS HB GE403⟩
        ·rw [if_neg c42] at H
         exact absurd H (by simp)
       ·rw [if_neg c41] at H
        exact absurd H (by simp)
      ·rw [if_neg c40] at H; have c40b0 := beq_eq_false_iff_ne.mpr c40; have c40b1 := bne_iff_ne.mpr c40
       by_cases c46 : a0_0 = 8
       ·rw [if_pos c46] at H; have c46b0 := beq_iff_eq.mpr c46; have c46b1 := bne_eq_false_iff_eq.mpr c46; clear c46
        by_cases c47 : 1 + t417.size ≤ 9223372036854775807
        ·rw [if_pos c47] at H; have c47b0 := eq_true c47; have c47b1 := decide_eq_true c47
         try have c47b2 : (9223372036854775807 < 1 + t417.size) = False := eq_false (Nat.not_lt.2 c47)
         by_cases c48 : ((⟨#[123]⟩ : ByteArray) ++ t417).size + 1 ≤ 9223372036854775807
         ·rw [if_pos c48] at H; have c48b0 := eq_true c48; have c48b1 := decide_eq_true c48
          have c48n : 1 + t417.size + 1 ≤ 9223372036854775807 := by have z_ := c48; simp only [ByteArray.size_append] at z_; exact z_
          have c48n0 := eq_true c48n; have c48n1 : decide (1 + t417.size + 1 ≤ 9223372036854775807) = true := decide_eq_true c48n
          try have c48b2 : (9223372036854775807 < ((⟨#[123]⟩ : ByteArray) ++ t417).size + 1) = False := eq_false (Nat.not_lt.2 c48)
          obtain rfl := Option.some.inj H; obtain ⟨Ao49, co49, eo49⟩ := Kd.R_slice HO_3.out; subst eo49
          go_wp2_with (first | ((with_reducible refine gate_callee (f := 63) rfl ?_); refine goesL_ (some 36) rfl rfl Tryd.func63 (by kernel_rfl) rfl #[.slice Ao49 x3_1.length co49, .string (⟨#[44, 32]⟩ : ByteArray)] rfl mapA ?_; (with_reducible refine (strings_Join.calls _ _ x3_1 (⟨#[44, 32]⟩ : ByteArray) t417 _ ?side1 ?side2 A28.out (strings_Join.spotR HO_3.out)).mono ?_); (case side1 => repeat (first | exact (Kd.R_reads' HO_3.out).2.2 | (with_reducible refine Kd.C_alloc ?_ _) | (with_reducible refine Kd.C_drewN ?_ _) | (with_reducible refine Kd.C_drew ?_))); (case side2 => exact (Kd.R_reads' HO_3.out).2.1); rintro e w50 ⟨rfl, hb⟩; refine ⟨_, rfl, ?_⟩; replace HO_3 := Aside0.mk (Kd.R_below (kdB HO_3) hb); replace BK403 := Aside0.mk (bBA BK403 hb); replace HB := Aside0.mk (below_step (belS HB GE403) hb); (try clear hb); obtain ⟨hcz51_0, hcz51_1, hcz51_2, hcz51_3, hfz51_0, hfz51_1, hfz51_2, hfz51_3⟩ := cef4 BK403.out))
          go_ret
          exact ⟨erA, belS HB GE403⟩
         ·rw [if_neg c48] at H
          exact absurd H (by simp)
        ·rw [if_neg c47] at H
         exact absurd H (by simp)
       ·rw [if_neg c46] at H; have c46b0 := beq_eq_false_iff_ne.mpr c46; have c46b1 := bne_iff_ne.mpr c46; obtain rfl := Option.some.inj H; obtain ⟨Ao52, co52, eo52⟩ := Kd.R_slice HO_3.out; subst eo52
        go_wp2_with (first | ((with_reducible refine gate_callee (f := 63) rfl ?_); refine goesL_ (some 36) rfl rfl Tryd.func63 (by kernel_rfl) rfl #[.slice Ao52 x3_1.length co52, .string (⟨#[44, 32]⟩ : ByteArray)] rfl mapA ?_; (with_reducible refine (strings_Join.calls _ _ x3_1 (⟨#[44, 32]⟩ : ByteArray) t417 _ ?side1 ?side2 A28.out (strings_Join.spotR HO_3.out)).mono ?_); (case side1 => repeat (first | exact (Kd.R_reads' HO_3.out).2.2 | (with_reducible refine Kd.C_alloc ?_ _) | (with_reducible refine Kd.C_drewN ?_ _) | (with_reducible refine Kd.C_drew ?_))); (case side2 => exact (Kd.R_reads' HO_3.out).2.1); rintro e w53 ⟨rfl, hb⟩; refine ⟨_, rfl, ?_⟩; replace HO_3 := Aside0.mk (Kd.R_below (kdB HO_3) hb); replace BK403 := Aside0.mk (bBA BK403 hb); replace HB := Aside0.mk (below_step (belS HB GE403) hb); (try clear hb); obtain ⟨hcz54_0, hcz54_1, hcz54_2, hcz54_3, hfz54_0, hfz54_1, hfz54_2, hfz54_3⟩ := cef4 BK403.out))
        go_ret
        exact ⟨erA, belS HB GE403⟩

mutual
def impl_ArgsText.j0 : Nat → List (S70) → Bool → Option (ByteArray)
 | 0, _, _ => none
 | k + 1, x0, x13 => if x13 = true then (some (⟨#[]⟩ : ByteArray)) else (impl_ArgsText.l0 k (([] : List ByteArray)) x0 (x0.length : Int) 0)
def impl_ArgsText.l0 : Nat → List ByteArray → List (S70) → Int → Int → Option (ByteArray)
 | 0, _, _, _, _ => none
 | k + 1, x3, x15, x16, x17 => if x17 < x16 then (if 0 ≤ x17 then (if x17 < (x15.length : Int) then (if ((rd_T70 x15 x17).f0).size + 2 ≤ 9223372036854775807 then ((impl_printValue.f k ((rd_T70 x15 x17).f1.f0) ((rd_T70 x15 x17).f1.f1) ((rd_T70 x15 x17).f1.f2) ((rd_T70 x15 x17).f1.f3)).bind fun t425 => (if (((rd_T70 x15 x17).f0) ++ (⟨#[58, 32]⟩ : ByteArray)).size + t425.size ≤ 9223372036854775807 then (if x3.length < 8796093022208 then (impl_ArgsText.l0 k (x3 ++ [(((rd_T70 x15 x17).f0) ++ (⟨#[58, 32]⟩ : ByteArray)) ++ t425]) x15 x16 (wrap64 (x17 + 1))) else (none)) else (none))) else (none)) else (none)) else (none)) else ((strings_Join.f x3 (⟨#[44, 32]⟩ : ByteArray)).bind fun t429 => (if 1 + t429.size ≤ 9223372036854775807 then (if ((⟨#[40]⟩ : ByteArray) ++ t429).size + 1 ≤ 9223372036854775807 then (some (((⟨#[40]⟩ : ByteArray) ++ t429) ++ (⟨#[41]⟩ : ByteArray))) else (none)) else (none)))
end
def impl_ArgsText.f (k : Nat) (l0 : List (S70)) : Option (ByteArray) := if (l0.length : Int) = 0 then (impl_ArgsText.j0 k l0 true) else ((impl_ArgsOk.f k l0).bind fun t419 => (impl_ArgsText.j0 k l0 (!t419)))
theorem impl_ArgsText.mono_l : ∀ k, (∀ y0 y1, LeO (impl_ArgsText.j0 k y0 y1) (impl_ArgsText.j0 (k + 1) y0 y1)) ∧ (∀ y0 y1 y2 y3, LeO (impl_ArgsText.l0 k y0 y1 y2 y3) (impl_ArgsText.l0 (k + 1) y0 y1 y2 y3))
 | 0 => ⟨fun _ _ r h => by simp [impl_ArgsText.j0] at h, fun _ _ _ _ r h => by simp [impl_ArgsText.l0] at h⟩
 | k + 1 => by
  obtain ⟨ih0, ih1⟩ := impl_ArgsText.mono_l k; refine ⟨?_, ?_⟩
  ·intro y0 y1; unfold impl_ArgsText.j0
   repeat' first
   | (with_reducible first | exact ih0 _ _ | exact ih1 _ _ _ _ | exact impl_ArgsOk.mono _ _ | exact impl_printValue.mono _ _ _ _ _ | exact LeO.refl _ | exact LeO.none _ | refine LeO.ite ?_ ?_ | refine LeO.bind ?_ (fun _ => ?_))
   | exact ih0 _ _ | exact ih1 _ _ _ _ | exact impl_ArgsOk.mono _ _ | exact impl_printValue.mono _ _ _ _ _ | exact LeO.none _ | refine LeO.ite ?_ ?_ | refine LeO.bind ?_ (fun _ => ?_)
  ·intro y0 y1 y2 y3; unfold impl_ArgsText.l0
   repeat' first
   | (with_reducible first | exact ih0 _ _ | exact ih1 _ _ _ _ | exact impl_ArgsOk.mono _ _ | exact impl_printValue.mono _ _ _ _ _ | exact LeO.refl _ | exact LeO.none _ | refine LeO.ite ?_ ?_ | refine LeO.bind ?_ (fun _ => ?_))
   | exact ih0 _ _ | exact ih1 _ _ _ _ | exact impl_ArgsOk.mono _ _ | exact impl_printValue.mono _ _ _ _ _ | exact LeO.none _ | refine LeO.ite ?_ ?_ | refine LeO.bind ?_ (fun _ => ?_)
theorem impl_ArgsText.mono : ∀ a0 k, LeO (impl_ArgsText.f k a0) (impl_ArgsText.f (k + 1) a0) := by
 intro a0 k; obtain ⟨ih0, ih1⟩ := impl_ArgsText.mono_l k; unfold impl_ArgsText.f
 repeat' first
   | (with_reducible first | exact ih0 _ _ | exact ih1 _ _ _ _ | exact impl_ArgsOk.mono _ _ | exact impl_printValue.mono _ _ _ _ _ | exact LeO.refl _ | exact LeO.none _ | refine LeO.ite ?_ ?_ | refine LeO.bind ?_ (fun _ => ?_))
   | exact ih0 _ _ | exact ih1 _ _ _ _ | exact impl_ArgsOk.mono _ _ | exact impl_printValue.mono _ _ _ _ _ | exact LeO.none _ | refine LeO.ite ?_ ?_ | refine LeO.bind ?_ (fun _ => ?_)
def impl_ArgsText.T7 : Bool × List (List Nat × List Nat) := (true, [([], []), ([], []), ([1], [1]), ([2], [2]), ([], []), ([4], [4]), ([5], [5]), ([3, 6], [3, 6]), ([7], [7]), ([0, 8, 6], [0, 8]), ([9, 9, 0, 1, 2, 3, 4, 5, 6, 7, 8, 9], [0, 9])])
def impl_ArgsText.B7 : List Nat := [0, 0, 2, 6, 0, 16, 48, 126, 254, 511, 1023]
theorem impl_ArgsText.tab7 : rtab .any (opsOf Tryd.f31 7) = impl_ArgsText.T7 := by kernel_rfl
theorem impl_ArgsText.bits7 : waitsOk impl_ArgsText.T7.2 impl_ArgsText.B7 = true := by kernel_rfl
set_option maxHeartbeats 8000000 in
set_option maxRecDepth 100000 in
theorem impl_ArgsText.calls (k : Nat) (A0 : Option Addr) (c0 : Nat) (l0 : List (S70)) (r : ByteArray) (w : World) (hr0 : Kd.C k70 w A0 l0.length l0) (hc0 : l0.length ≤ c0) (hG : Gl w) (h : impl_ArgsText.f k l0 = some r) :
  Calls Tryd.prog 31 #[.slice A0 l0.length c0] w fun e w' => e = .returned (.string r) ∧ Below w.heap.size w w' := by
 have hu70 := Tryd.underlying70; have hu37 := Tryd.underlying37; have HG := Aside0.mk hG; clear hG; have HR0 := Aside0.mk hr0; have HC0 := Aside0.mk hc0; clear hr0 hc0; have HB := Aside0.mk (Below.refl w.heap.size w); have H : (if (l0.length : Int) = 0 then (impl_ArgsText.j0 k l0 true) else ((impl_ArgsOk.f k l0).bind fun t419 => (impl_ArgsText.j0 k l0 (!t419)))) = some r := h; clear h; have HC2 := Aside0.mk H; clear H
 go_enter Tryd.func31, Tryd.ntmps31
 go_upto_region 1 with (fail)
 go_cut [13] (fun v13 wc => ∃ (kq : Nat) (x13_1 : Bool), v13 = .bool x13_1 ∧ Aside0 (impl_ArgsText.j0 kq l0 x13_1 = some r) ∧ Aside0 (kq ≤ k) ∧ Aside0 (Below w.heap.size w wc))
 case first =>
  have H := HC2.out; clear HC2
  by_cases c3 : (l0.length : Int) = 0
  ·rw [if_pos c3] at H; have c3b0 := beq_iff_eq.mpr c3; have c3b1 := bne_eq_false_iff_eq.mpr c3; clear c3
   (first | rw [c3b0] | (simp only [i64_w, i32_w]; rw [c3b0]) | skip)
   have H' := Aside0.mk H
   clear H
   go_wp2
   go_meet
   case rel => exact ⟨_, (true), enA, H', ⟨by first | omega | exact Nat.le_refl _⟩, ⟨belB HB⟩⟩
  ·rw [if_neg c3] at H; have c3b0 := beq_eq_false_iff_ne.mpr c3; have c3b1 := bne_iff_ne.mpr c3
   have c3b2 : ¬ (l0 = []) := fun h_ => c3 (by rw [h_]; rfl)
   (first | rw [c3b0] | (simp only [i64_w, i32_w]; rw [c3b0]) | skip)
   replace H := Option.bind_eq_some_iff.mp H; obtain ⟨t419, A40, H⟩ := H; replace H : (impl_ArgsText.j0 k l0 (!t419)) = some r := H; have A4 := Aside0.mk A40; clear A40
   have H' := Aside0.mk H
   clear H
   go_wp2_with (first | (go_at_call 21; (with_reducible refine (impl_ArgsOk.calls k _ _ l0 t419 _ ?side1 ?side2 (Gl.below HG.out (belB HB)) A4.out).mono ?_); (case side1 => exact cbA HR0 HB); (case side2 => exact HC0.out); rintro e w5 ⟨rfl, hb⟩; replace HB := Aside0.mk (below_step (belB HB) hb); (try clear hb)))
   go_meet
   case rel => exact ⟨_, (!t419), enA, H', ⟨by first | omega | exact Nat.le_refl _⟩, ⟨belB HB⟩⟩
 case rest =>
  clear HC2
  try clear p2
  try clear c3
  try clear c3b0
  try clear c3b1
  try clear c3b2
  obtain ⟨kq, x13_1, rfl, HA, HJ1, HB⟩ := hcut
  cases kq with
  | zero => exact absurd HA.out (by simp [impl_ArgsText.j0])
  | succ kj1 =>
   have H := HA.out; clear HA
   simp only [impl_ArgsText.j0] at H
   by_cases c6 : x13_1 = true
   ·subst c6
    have H1 : (some (⟨#[]⟩ : ByteArray)) = some r := by rw [if_pos rfl] at H; exact H
    clear H; have H := H1; clear H1; obtain rfl := Option.some.inj H
    go_wp2
    go_ret
    exact ⟨erA, belB HB⟩
   ·replace c6 := Bool.eq_false_iff.mpr c6; subst c6
    have H1 : (impl_ArgsText.l0 kj1 (([] : List ByteArray)) l0 (l0.length : Int) 0) = some r := by rw [if_neg (show ¬ (false = true) by decide)] at H; exact H
    clear H; have H := H1; clear H1
    obtain ⟨y420, hy420⟩ : ∃ y_ : List ByteArray, y_ = (([] : List ByteArray)) := ⟨_, rfl⟩
    replace H : (impl_ArgsText.l0 kj1 y420 l0 (l0.length : Int) 0) = some r := reA H hy420; have Ny420 := Aside0.mk hy420; clear hy420
    have H' := Aside0.mk H
    clear H
    go_wp2_with (first | ((with_reducible refine gate_dst (N := 14) rfl ?_); refine Kd.R_lit Kd.string _ 9 ?hg (N := 14) ?hd (xs := ([] : List ByteArray)) (inner := []) (ok := fun _ => True) (okp := fun _ => True) ?hr ?hp (fun _ hk => hk) trivial (Below.refl _ _) (Nat.le_refl _) (by simp) ?_; (case hd => rfl); (case hg => rfl); (case hr => first | (go_simp; done) | (go_simp; rfl)); (case hp => exact (Reps.none _ _)); intro v421 w7 ho8 hb hg_ hnew_; clear hg_ hnew_; (first | rw [← Ny420.out] at ho8 | (simp only [Int.reduceToNat] at ho8; rw [← Ny420.out] at ho8)); have HO422 := Aside0.mk (Kd.R_lower ho8 (below_size (belB HB))); replace HB := Aside0.mk (below_step (belB HB) hb); clear hb ho8))
    go_loopg [3, 17] kj1 (fun kq v3 v17 w' => ∃ (x3_2 : List ByteArray) (x17_2 : Int), v17 = .int .i64 x17_2 ∧ Aside0 (impl_ArgsText.l0 kq x3_2 l0 (l0.length : Int) x17_2 = some r) ∧ Aside0 (kq ≤ kj1) ∧ Aside0 (Kd.R Kd.string 9 w' w.heap.size (fun _ => True) v3 x3_2) ∧ Aside0 (Below w.heap.size w w'))
    case atStart => exact ⟨(y420), (0), enA, H', ⟨Nat.le_refl _⟩, ⟨kdB HO422⟩, ⟨belB HB⟩⟩
    case round =>
     clear H'
     try clear p2
     try clear c3
     try clear c3b0
     try clear c3b1
     try clear c3b2
     try clear c6
     try clear p2
     obtain ⟨x3_2, x17_2, rfl, HA, HK2, HO_3, HB⟩ := hrel
     cases gk with
     | zero => exact absurd HA.out (by simp [impl_ArgsText.l0])
     | succ k2 =>
      have H := HA.out; clear HA
      simp only [impl_ArgsText.l0] at H
      by_cases c9 : x17_2 < (l0.length : Int)
      ·rw [if_pos c9] at H; have c9b0 := decide_eq_true c9; clear c9
       by_cases c10 : 0 ≤ x17_2
       ·rw [if_pos c10] at H; have c10b0 := decide_eq_true c10; clear c10
        by_cases c11 : x17_2 < (l0.length : Int)
        ·rw [if_pos c11] at H; have c11b0 := decide_eq_true c11; clear c11
         by_cases c12 : ((rd_T70 l0 x17_2).f0).size + 2 ≤ 9223372036854775807
         ·rw [if_pos c12] at H; have c12b0 := eq_true c12; have c12b1 := decide_eq_true c12
          try have c12b2 : (9223372036854775807 < ((rd_T70 l0 x17_2).f0).size + 2) = False := eq_false (Nat.not_lt.2 c12)
          replace H := Option.bind_eq_some_iff.mp H; obtain ⟨t425, A130, H⟩ := H; replace H : (if (((rd_T70 l0 x17_2).f0) ++ (⟨#[58, 32]⟩ : ByteArray)).size + t425.size ≤ 9223372036854775807 then (if x3_2.length < 8796093022208 then (impl_ArgsText.l0 k2 (x3_2 ++ [(((rd_T70 l0 x17_2).f0) ++ (⟨#[58, 32]⟩ : ByteArray)) ++ t425]) l0 (l0.length : Int) (wrap64 (x17_2 + 1))) else (none)) else (none)) = some r := H; have A13 := Aside0.mk A130; clear A130
          by_cases c14 : (((rd_T70 l0 x17_2).f0) ++ (⟨#[58, 32]⟩ : ByteArray)).size + t425.size ≤ 9223372036854775807
          ·rw [if_pos c14] at H; have c14b0 := eq_true c14; have c14b1 := decide_eq_true c14
           try have c14b2 : (9223372036854775807 < (((rd_T70 l0 x17_2).f0) ++ (⟨#[58, 32]⟩ : ByteArray)).size + t425.size) = False := eq_false (Nat.not_lt.2 c14)
           try have c14b3 : (9223372036854775807 < ((rd_T70 l0 x17_2).f0).size + 2 + t425.size) = False := eq_false (by have z_ := Nat.not_lt.2 c14; simp only [ByteArray.size_append] at z_; exact z_)
           by_cases c15 : x3_2.length < 8796093022208
           ·rw [if_pos c15] at H; have LMc15 := Aside0.mk c15; clear c15
            obtain ⟨y426, hy426⟩ : ∃ y_ : List ByteArray, y_ = (x3_2 ++ [(((rd_T70 l0 x17_2).f0) ++ (⟨#[58, 32]⟩ : ByteArray)) ++ t425]) := ⟨_, rfl⟩
            replace H : (impl_ArgsText.l0 k2 y426 l0 (l0.length : Int) (wrap64 (x17_2 + 1))) = some r := reA H hy426; have Ny426 := Aside0.mk hy426; clear hy426
            have H' := Aside0.mk H
            clear H; have p423 : 0 ≤ (x17_2 : Int) := odA; have q423 : x17_2 < (l0.length : Int) := odA; obtain ⟨ad423, A423_3, c423_3, A423_4, c423_4, e423, hx423_0, hx423_1, hx423_2, hx423_3, hx423_4, hl423_3, hi423_3, hl423_4, hi423_4⟩ := at_T70 HR0.out x17_2 p423 q423
            cases e423
            (try replace hx423_0 := celB HB hx423_0)
            (try replace hx423_1 := celB HB hx423_1)
            (try replace hx423_2 := celB HB hx423_2)
            (try replace hx423_3 := celB HB hx423_3)
            (try replace hx423_4 := celB HB hx423_4)
            have HR423_3 := Aside0.mk hi423_3; have HC423_3 := Aside0.mk hl423_3; clear hi423_3 hl423_3; have HR423_4 := Aside0.mk hi423_4; have HC423_4 := Aside0.mk hl423_4; clear hi423_4 hl423_4; replace p423 := eq_true p423; replace q423 := eq_true q423
            try go_wp2_with (first | ((with_reducible refine gate_dst (N := 5) rfl ?_); refine boxE (N := 5) (cs := #[.string (⟨#[]⟩ : ByteArray), .int .i64 0, .string (⟨#[]⟩ : ByteArray), .slice none 0 0, .slice none 0 0]) (t := 70) ?_; intro gb424 hg w16 hbox hb; have BK424 := Aside0.mk (hbox); have GW424 := Aside0.mk ((gbA (w := w) HB hg)); have GE424 := Aside0.mk ((gbA (w := w) HB hg)); replace HO_3 := Aside0.mk (Kd.R_below (kdB HO_3) hb); replace HB := Aside0.mk (below_step (belB HB) hb); clear hb hbox hg; have hcz17_0 : w16.cell? ⟨gb424, 0, none⟩ = some (.string (⟨#[]⟩ : ByteArray)) := (blk_cell BK424.out 0).trans rfl; have hcz17_1 : w16.cell? ⟨gb424, 1, none⟩ = some (.int .i64 0) := (blk_cell BK424.out 1).trans rfl; have hcz17_2 : w16.cell? ⟨gb424, 2, none⟩ = some (.string (⟨#[]⟩ : ByteArray)) := (blk_cell BK424.out 2).trans rfl; have hcz17_3 : w16.cell? ⟨gb424, 3, none⟩ = some (.slice none 0 0) := (blk_cell BK424.out 3).trans rfl; have hcz17_4 : w16.cell? ⟨gb424, 4, none⟩ = some (.slice none 0 0) := (blk_cell BK424.out 4).trans rfl; have hfz17_0 := blk_frozen BK424.out 0; have hfz17_1 := blk_frozen BK424.out 1; have hfz17_2 := blk_frozen BK424.out 2; have hfz17_3 := blk_frozen BK424.out 3; have hfz17_4 := blk_frozen BK424.out 4))
            have n0_ : Aside0 (Kd.R Kd.string 9 (((((w16.setCell ⟨gb424, 0, none⟩ (.string ((rd_T70 l0 x17_2).f0))).setCell ⟨gb424, 1, none⟩ (.int .i64 ((rd_T70 l0 x17_2).f1.f0))).setCell ⟨gb424, 2, none⟩ (.string ((rd_T70 l0 x17_2).f1.f1))).setCell ⟨gb424, 3, none⟩ (.slice A423_3 ((rd_T70 l0 x17_2).f1.f2).length c423_3)).setCell ⟨gb424, 4, none⟩ (.slice A423_4 ((rd_T70 l0 x17_2).f1.f3).length c423_4)) w.heap.size (fun _ => True) u3 x3_2) := ⟨by (with_reducible repeat (first | apply Kd.R_alloc | apply Kd.R_drewN | apply Kd.R_drew)); exact Kd.R_mono (Kd.R_far (p := ⟨gb424, 4, none⟩) (Kd.R_far (p := ⟨gb424, 3, none⟩) (Kd.R_far (p := ⟨gb424, 2, none⟩) (Kd.R_far (p := ⟨gb424, 1, none⟩) (Kd.R_far (p := ⟨gb424, 0, none⟩) (Kd.R_types HO_3.out BK424.out (by decide)) (fun _ hk => hk.2) (.string ((rd_T70 l0 x17_2).f0))) (fun _ hk => hk.2) (.int .i64 ((rd_T70 l0 x17_2).f1.f0))) (fun _ hk => hk.2) (.string ((rd_T70 l0 x17_2).f1.f1))) (fun _ hk => hk.2) (.slice A423_3 ((rd_T70 l0 x17_2).f1.f2).length c423_3)) (fun _ hk => hk.2) (.slice A423_4 ((rd_T70 l0 x17_2).f1.f3).length c423_4)) (fun _ hk => trivial)⟩
            have n1_ : Aside0 ((((((w16.setCell ⟨gb424, 0, none⟩ (.string ((rd_T70 l0 x17_2).f0))).setCell ⟨gb424, 1, none⟩ (.int .i64 ((rd_T70 l0 x17_2).f1.f0))).setCell ⟨gb424, 2, none⟩ (.string ((rd_T70 l0 x17_2).f1.f1))).setCell ⟨gb424, 3, none⟩ (.slice A423_3 ((rd_T70 l0 x17_2).f1.f2).length c423_3)).setCell ⟨gb424, 4, none⟩ (.slice A423_4 ((rd_T70 l0 x17_2).f1.f3).length c423_4)).heap[gb424]? = some (.cells #[.string ((rd_T70 l0 x17_2).f0), .int .i64 ((rd_T70 l0 x17_2).f1.f0), .string ((rd_T70 l0 x17_2).f1.f1), .slice A423_3 ((rd_T70 l0 x17_2).f1.f2).length c423_3, .slice A423_4 ((rd_T70 l0 x17_2).f1.f3).length c423_4] 70 (0, 0))) := ⟨by (with_reducible repeat (first | refine blk_drewN ?_ _ | refine blk_drew ?_ | refine blk_alloc ?_ _)); refine blk_put (cs := #[.string ((rd_T70 l0 x17_2).f0), .int .i64 ((rd_T70 l0 x17_2).f1.f0), .string ((rd_T70 l0 x17_2).f1.f1), .slice A423_3 ((rd_T70 l0 x17_2).f1.f2).length c423_3, .slice none 0 0]) ?_ 4 _ rfl; (with_reducible repeat (first | refine blk_drewN ?_ _ | refine blk_drew ?_ | refine blk_alloc ?_ _)); refine blk_put (cs := #[.string ((rd_T70 l0 x17_2).f0), .int .i64 ((rd_T70 l0 x17_2).f1.f0), .string ((rd_T70 l0 x17_2).f1.f1), .slice none 0 0, .slice none 0 0]) ?_ 3 _ rfl; (with_reducible repeat (first | refine blk_drewN ?_ _ | refine blk_drew ?_ | refine blk_alloc ?_ _)); refine blk_put (cs := #[.string ((rd_T70 l0 x17_2).f0), .int .i64 ((rd_T70 l0 x17_2).f1.f0), .string (⟨#[]⟩ : ByteArray), .slice none 0 0, .slice none 0 0]) ?_ 2 _ rfl; (with_reducible repeat (first | refine blk_drewN ?_ _ | refine blk_drew ?_ | refine blk_alloc ?_ _)); refine blk_put (cs := #[.string ((rd_T70 l0 x17_2).f0), .int .i64 0, .string (⟨#[]⟩ : ByteArray), .slice none 0 0, .slice none 0 0]) ?_ 1 _ rfl; (with_reducible repeat (first | refine blk_drewN ?_ _ | refine blk_drew ?_ | refine blk_alloc ?_ _)); refine blk_put (cs := #[.string (⟨#[]⟩ : ByteArray), .int .i64 0, .string (⟨#[]⟩ : ByteArray), .slice none 0 0, .slice none 0 0]) ?_ 0 _ rfl; (with_reducible repeat (first | refine blk_drewN ?_ _ | refine blk_drew ?_ | refine blk_alloc ?_ _)); exact BK424.out⟩
            have n2_ : Aside0 (Below w.heap.size w (((((w16.setCell ⟨gb424, 0, none⟩ (.string ((rd_T70 l0 x17_2).f0))).setCell ⟨gb424, 1, none⟩ (.int .i64 ((rd_T70 l0 x17_2).f1.f0))).setCell ⟨gb424, 2, none⟩ (.string ((rd_T70 l0 x17_2).f1.f1))).setCell ⟨gb424, 3, none⟩ (.slice A423_3 ((rd_T70 l0 x17_2).f1.f2).length c423_3)).setCell ⟨gb424, 4, none⟩ (.slice A423_4 ((rd_T70 l0 x17_2).f1.f3).length c423_4))) := ⟨belS HB GE424⟩
            (try clear HO_3)
            (try clear BK424)
            (try clear HB)
            generalize (((((w16.setCell ⟨gb424, 0, none⟩ (.string ((rd_T70 l0 x17_2).f0))).setCell ⟨gb424, 1, none⟩ (.int .i64 ((rd_T70 l0 x17_2).f1.f0))).setCell ⟨gb424, 2, none⟩ (.string ((rd_T70 l0 x17_2).f1.f1))).setCell ⟨gb424, 3, none⟩ (.slice A423_3 ((rd_T70 l0 x17_2).f1.f2).length c423_3)).setCell ⟨gb424, 4, none⟩ (.slice A423_4 ((rd_T70 l0 x17_2).f1.f3).length c423_4)) = w18 at n0_ n1_ n2_ ⊢
            have HO_3 := n0_; have BK424 := n1_; have HB := n2_; clear n0_ n1_ n2_; replace HO_3 := Aside0.mk (Kd.R_drew HO_3.out); replace BK424 := Aside0.mk (blk_drew BK424.out); replace HB := Aside0.mk (below_drew1 HB.out)
            refine start_ (n := 11) (S := fun w' => w'.cell? ⟨gb424, 0, none⟩ = some (.string ((rd_T70 l0 x17_2).f0)) ∧ w'.cell? ⟨gb424, 1, none⟩ = some (.int .i64 ((rd_T70 l0 x17_2).f1.f0)) ∧ w'.cell? ⟨gb424, 2, none⟩ = some (.string ((rd_T70 l0 x17_2).f1.f1)) ∧ w'.cell? ⟨gb424, 3, none⟩ = some (.slice A423_3 ((rd_T70 l0 x17_2).f1.f2).length c423_3) ∧ w'.cell? ⟨gb424, 4, none⟩ = some (.slice A423_4 ((rd_T70 l0 x17_2).f1.f3).length c423_4)) (ds := []) #[false, false, false, false, false, false, false, false, false, false, false] (by kernel_rfl) rfl rfl ⟨(blk_cell BK424.out 0).trans rfl, (blk_cell BK424.out 1).trans rfl, (blk_cell BK424.out 2).trans rfl, (blk_cell BK424.out 3).trans rfl, (blk_cell BK424.out 4).trans rfl⟩ (fun hHeld => ?_); refine with_tabW impl_ArgsText.tab7 impl_ArgsText.bits7 (fun HT_ HW_ => ?_)
            generalize w18.drew = w19 at HO_3 BK424 HB hHeld ⊢
            refine pure_ (i := 0) (N := some 21) (v := ?_) (a' := ?_) #[true, false, false, false, false, false, false, false, false, false, false] rfl rfl (any_of HT_.out (by kernel_rfl)) (fun _ _ _ h => h) (Or.inl ⟨by rfl, ?_⟩) ?_ ?_
            rotate_left
            ·intro w'; go_simp
             with_reducible rfl
            rotate_left
            ·exact putA
            refine pure_ (i := 1) (N := some 22) (v := ?_) (a' := ?_) #[true, true, false, false, false, false, false, false, false, false, false] rfl rfl (any_of HT_.out (by kernel_rfl)) (fun _ _ _ h => h) (Or.inl ⟨by rfl, ?_⟩) ?_ ?_
            rotate_left
            ·intro w'; go_simp
             with_reducible rfl
            rotate_left
            ·exact putA
            refine pure_ (i := 4) (N := some 25) (v := ?_) (a' := ?_) #[true, true, false, false, true, false, false, false, false, false, false] rfl rfl (any_of HT_.out (by kernel_rfl)) (fun _ _ _ h => h) (Or.inl ⟨by rfl, ?_⟩) ?_ ?_
            rotate_left
            ·intro w'; go_simp
             with_reducible rfl
            rotate_left
            ·exact putA
            refine take_ (i := 2) (N := some 23) (v := ?_) (a' := ?_) #[true, true, true, false, true, false, false, false, false, false, false] rfl rfl (take_ofW HT_.out HW_.out (by kernel_rfl)) (fun _ _ _ h => h) (Or.inl ⟨by rfl, ?_⟩) hHeld ?_ ?_
            rotate_left
            ·rintro w' ⟨s0, s1, s2, s3, s4⟩
             go_simp
             with_reducible rfl
            rotate_left
            ·exact putA
            refine pure_ (i := 3) (N := some 24) (v := ?_) (a' := ?_) #[true, true, true, true, true, false, false, false, false, false, false] rfl rfl (any_of HT_.out (by kernel_rfl)) (fun _ _ _ h => h) (Or.inl ⟨by rfl, ?_⟩) ?_ ?_
            rotate_left
            ·intro w'; go_simp
             with_reducible rfl
            rotate_left
            ·exact putA
            refine take_ (i := 5) (N := some 26) (v := ?_) (a' := ?_) #[true, true, true, true, true, true, false, false, false, false, false] rfl rfl (take_ofW HT_.out HW_.out (by kernel_rfl)) (fun _ _ _ h => h) (Or.inl ⟨by rfl, ?_⟩) hHeld ?_ ?_
            rotate_left
            ·rintro w' ⟨s0, s1, s2, s3, s4⟩
             go_simp
             with_reducible rfl
            rotate_left
            ·exact putA
            refine one_ (i := 6) (N := some 27) #[true, true, true, true, true, true, true, false, false, false, false] rfl rfl (one_of HT_.out (by kernel_rfl)) (by decide) (fun K hK => ?_)
            refine goes_ Tryd.func56 (by kernel_rfl) rfl #[.agg #[.int .i64 ((rd_T70 l0 x17_2).f1.f0), .string ((rd_T70 l0 x17_2).f1.f1), .slice A423_3 ((rd_T70 l0 x17_2).f1.f2).length c423_3, .slice A423_4 ((rd_T70 l0 x17_2).f1.f3).length c423_4]] (by rfl) rfl rfl mapA ?_
            with_reducible refine (impl_printValue.calls k2 ((rd_T70 l0 x17_2).f1.f0) ((rd_T70 l0 x17_2).f1.f1) _ _ ((rd_T70 l0 x17_2).f1.f2) _ _ ((rd_T70 l0 x17_2).f1.f3) t425 _ ?side1 ?side2 ?side3 ?side4 (Gl.below HG.out (belS HB GE424)) A13.out).mono ?_
            (case side1 => exact cbA HR423_3 HB)
            (case side2 => exact HC423_3.out)
            (case side3 => exact cbA HR423_4 HB)
            (case side4 => exact HC423_4.out)
            rintro e w20 ⟨rfl, hb⟩
            refine ⟨_, rfl, ?_⟩; replace HO_3 := Aside0.mk (Kd.R_below (kdB HO_3) hb); replace BK424 := Aside0.mk (bBA BK424 hb); replace HB := Aside0.mk (below_step (belS HB GE424) hb)
            (try clear hb)
            (try clear hb2)
            (try clear hk)
            (try clear hi)
            refine hK.out _ _ ⟨(blk_cell BK424.out 0).trans rfl, (blk_cell BK424.out 1).trans rfl, (blk_cell BK424.out 2).trans rfl, (blk_cell BK424.out 3).trans rfl, (blk_cell BK424.out 4).trans rfl⟩ (fun hHeld => ?_); clear hK K; refine norm_ (a' := ?_) ?_ ?_; rotate_left
            ·show Act.put _ (some 27) _ = _
             simp only [Act.put, List.setIfInBounds_toArray, List.set_cons_zero, List.set_cons_succ, i64_w, i32_w]
             rfl
            refine pure_ (i := 7) (N := some 28) (v := ?_) (a' := ?_) #[true, true, true, true, true, true, true, true, false, false, false] rfl rfl (any_of HT_.out (by kernel_rfl)) (fun _ _ _ h => h) (Or.inl ⟨by rfl, ?_⟩) ?_ ?_
            rotate_left
            ·intro w'; go_simp
             with_reducible rfl
            rotate_left
            ·exact putA
            refine one_ (i := 8) (N := some 29) #[true, true, true, true, true, true, true, true, true, false, false] rfl rfl (one_of HT_.out (by kernel_rfl)) (by decide) (fun K hK => ?_)
            refine value_ (w1 := ?_) (v := ?_) (by rfl) rfl ?_ ?_
            rotate_left 2
            ·go_simp
             constructor
             ·rfl
             ·rfl
            refine hK.out _ _ ⟨(blk_cell (blk_alloc BK424.out _) 0).trans rfl, (blk_cell (blk_alloc BK424.out _) 1).trans rfl, (blk_cell (blk_alloc BK424.out _) 2).trans rfl, (blk_cell (blk_alloc BK424.out _) 3).trans rfl, (blk_cell (blk_alloc BK424.out _) 4).trans rfl⟩ (fun hHeld => ?_); clear hK K; refine norm_ (a' := ?_) ?_ ?_; rotate_left
            ·show Act.put _ (some 29) _ = _
             simp only [Act.put, List.setIfInBounds_toArray, List.set_cons_zero, List.set_cons_succ, i64_w, i32_w]
             rfl
            refine one_ (i := 9) (N := some 30) #[true, true, true, true, true, true, true, true, true, true, false] rfl rfl (one_of HT_.out (by kernel_rfl)) (by decide) (fun K hK => ?_)
            refine Kd.R_append_step Kd.string (w0 := w) w.heap.size (by rfl) (.tmp 21) (.tmp 29) 30 9 (.string ⟨#[]⟩) 16 rfl Tryd.underlying30 info9 rfl (by decide) (by omega) u3 x3_2 ((((rd_T70 l0 x17_2).f0) ++ (⟨#[58, 32]⟩ : ByteArray)) ++ t425) [.string ((((rd_T70 l0 x17_2).f0) ++ (⟨#[58, 32]⟩ : ByteArray)) ++ t425)] (fun _ => True) (fun _ => False) rfl rfl ?aP (fun _ hk => hk.elim) ?aF ?aO ?aB ?aS ?aL ?_
            (case aP => exact rfl)
            (case aB => exact (belS HB GE424))
            (case aF => exact (fun _ _ => trivial))
            (case aO => exact (kdB HO_3))
            (case aS => exact (below_size (belS HB GE424)))
            (case aL => have := LMc15.out; omega)
            intro v427 w21 ho hb hg hat; rw [← Ny426.out] at ho
            have HO428 := Aside0.mk (ho); replace BK424 := Aside0.mk (blk_grown (g := gb424) (o := .cells #[.string ((rd_T70 l0 x17_2).f0), .int .i64 ((rd_T70 l0 x17_2).f1.f0), .string ((rd_T70 l0 x17_2).f1.f1), .slice A423_3 ((rd_T70 l0 x17_2).f1.f2).length c423_3, .slice A423_4 ((rd_T70 l0 x17_2).f1.f3).length c423_4] 70 (0, 0)) (blkA BK424) hg (Kd.R_ne HO_3.out BK424.out (by decide))); replace HB := Aside0.mk (hb); clear HO_3
            clear ho hb hg hat; refine hK.out _ _ ⟨(blk_cell BK424.out 0).trans rfl, (blk_cell BK424.out 1).trans rfl, (blk_cell BK424.out 2).trans rfl, (blk_cell BK424.out 3).trans rfl, (blk_cell BK424.out 4).trans rfl⟩ (fun hHeld => ?_); clear hK K; refine norm_ (a' := ?_) ?_ ?_; rotate_left
            ·show Act.put _ (some 30) _ = _
             simp only [Act.put, List.setIfInBounds_toArray, List.set_cons_zero, List.set_cons_succ, i64_w, i32_w]
             rfl
            refine pure_ (i := 10) (N := some 3) (v := ?_) (a' := ?_) #[true, true, true, true, true, true, true, true, true, true, true] rfl rfl (any_of HT_.out (by kernel_rfl)) (fun _ _ _ h => h) (Or.inl ⟨by rfl, ?_⟩) ?_ ?_
            rotate_left
            ·intro w'; go_simp
             with_reducible rfl
            rotate_left
            ·exact putA
            refine done_ (done_of HT_.out (by kernel_rfl)) ?_
            try go_wp2
            go_roundg k2
            case measure => have := HJ1.out; have := HK2.out; omega
            case rel => exact ⟨(y426), (wrap64 (x17_2 + 1)), enA, H', ⟨by have := HJ1.out; have := HK2.out; omega⟩, ⟨kdB HO428⟩, ⟨belS HB GE424⟩⟩
           ·rw [if_neg c15] at H
            exact absurd H (by simp)
          ·rw [if_neg c14] at H
           exact absurd H (by simp)
         ·rw [if_neg c12] at H
          exact absurd H (by simp)
        ·rw [if_neg c11] at H
         exact absurd H (by simp)
       ·rw [if_neg c10] at H
        exact absurd H (by simp)
      ·rw [if_neg c9] at H; have c9b0 := decide_eq_false c9; clear c9; replace H := Option.bind_eq_some_iff.mp H; obtain ⟨t429, A220, H⟩ := H; replace H : (if 1 + t429.size ≤ 9223372036854775807 then (if ((⟨#[40]⟩ : ByteArray) ++ t429).size + 1 ≤ 9223372036854775807 then (some (((⟨#[40]⟩ : ByteArray) ++ t429) ++ (⟨#[41]⟩ : ByteArray))) else (none)) else (none)) = some r := H; have A22 := Aside0.mk A220; clear A220
       by_cases c23 : 1 + t429.size ≤ 9223372036854775807
       ·rw [if_pos c23] at H; have c23b0 := eq_true c23; have c23b1 := decide_eq_true c23
        try have c23b2 : (9223372036854775807 < 1 + t429.size) = False := eq_false (Nat.not_lt.2 c23)
        by_cases c24 : ((⟨#[40]⟩ : ByteArray) ++ t429).size + 1 ≤ 9223372036854775807
        ·rw [if_pos c24] at H; have c24b0 := eq_true c24; have c24b1 := decide_eq_true c24
         have c24n : 1 + t429.size + 1 ≤ 9223372036854775807 := by have z_ := c24; simp only [ByteArray.size_append] at z_; exact z_
         have c24n0 := eq_true c24n; have c24n1 : decide (1 + t429.size + 1 ≤ 9223372036854775807) = true := decide_eq_true c24n
         try have c24b2 : (9223372036854775807 < ((⟨#[40]⟩ : ByteArray) ++ t429).size + 1) = False := eq_false (Nat.not_lt.2 c24)
         obtain rfl := Option.some.inj H; obtain ⟨Ao25, co25, eo25⟩ := Kd.R_slice HO_3.out; subst eo25
         go_wp2_with (first | ((with_reducible refine gate_callee (f := 63) rfl ?_); refine goesL_ (some 33) rfl rfl Tryd.func63 (by kernel_rfl) rfl #[.slice Ao25 x3_2.length co25, .string (⟨#[44, 32]⟩ : ByteArray)] rfl mapA ?_; (with_reducible refine (strings_Join.calls _ _ x3_2 (⟨#[44, 32]⟩ : ByteArray) t429 _ ?side1 ?side2 A22.out (strings_Join.spotR HO_3.out)).mono ?_); (case side1 => repeat (first | exact (Kd.R_reads' HO_3.out).2.2 | (with_reducible refine Kd.C_alloc ?_ _) | (with_reducible refine Kd.C_drewN ?_ _) | (with_reducible refine Kd.C_drew ?_))); (case side2 => exact (Kd.R_reads' HO_3.out).2.1); rintro e w26 ⟨rfl, hb⟩; refine ⟨_, rfl, ?_⟩; replace HO_3 := Aside0.mk (Kd.R_below (kdB HO_3) hb); replace HB := Aside0.mk (below_step (belB HB) hb); (try clear hb)))
         go_ret
         exact ⟨erA, belB HB⟩
        ·rw [if_neg c24] at H
         exact absurd H (by simp)
       ·rw [if_neg c23] at H
        exact absurd H (by simp)

def laws_FnExactArgsText.f (k : Nat) (l0 : List (S68)) : Option (Bool) := (laws_szArgS.f k l0 1048576).bind fun t430 => (if t430 < 0 then (some true) else ((laws_toArgS.f k l0).bind fun t431 => ((spec_ArgsText.f k t431).bind fun t434 => ((laws_toArgS.f k l0).bind fun t435 => ((impl_ArgsText.f k t435).bind fun t438 => (if t438.toList = t434.toList then ((laws_toArgS.f k l0).bind fun t439 => ((laws_eqArgS.f k t435 t439).bind fun t442 => (if t442 = true then (some true) else (some false)))) else (some false)))))))
theorem laws_FnExactArgsText.mono : ∀ a0 k, LeO (laws_FnExactArgsText.f k a0) (laws_FnExactArgsText.f (k + 1) a0) := by
 intro a0 k; unfold laws_FnExactArgsText.f
 repeat' first
   | (with_reducible first | exact impl_ArgsText.mono _ _ | exact laws_eqArgS.mono _ _ _ | exact laws_szArgS.mono _ _ _ | exact laws_toArgS.mono _ _ | exact spec_ArgsText.mono _ _ | exact LeO.refl _ | exact LeO.none _ | refine LeO.ite ?_ ?_ | refine LeO.bind ?_ (fun _ => ?_))
   | exact impl_ArgsText.mono _ _ | exact laws_eqArgS.mono _ _ _ | exact laws_szArgS.mono _ _ _ | exact laws_toArgS.mono _ _ | exact spec_ArgsText.mono _ _ | exact LeO.none _ | refine LeO.ite ?_ ?_ | refine LeO.bind ?_ (fun _ => ?_)
set_option maxHeartbeats 8000000 in
set_option maxRecDepth 100000 in
theorem laws_FnExactArgsText.calls (k : Nat) (A0 : Option Addr) (c0 : Nat) (l0 : List (S68)) (r : Bool) (w : World) (hr0 : Kd.C k68 w A0 l0.length l0) (hc0 : l0.length ≤ c0) (hG : Gl w) (h : laws_FnExactArgsText.f k l0 = some r) :
  Calls Tryd.prog 8 #[.slice A0 l0.length c0] w fun e w' => e = .returned (.bool r) ∧ Below w.heap.size w w' := by
 have HG := Aside0.mk hG; clear hG; have HR0 := Aside0.mk hr0; have HC0 := Aside0.mk hc0; clear hr0 hc0; have HB := Aside0.mk (Below.refl w.heap.size w); have H : ((laws_szArgS.f k l0 1048576).bind fun t430 => (if t430 < 0 then (some true) else ((laws_toArgS.f k l0).bind fun t431 => ((spec_ArgsText.f k t431).bind fun t434 => ((laws_toArgS.f k l0).bind fun t435 => ((impl_ArgsText.f k t435).bind fun t438 => (if t438.toList = t434.toList then ((laws_toArgS.f k l0).bind fun t439 => ((laws_eqArgS.f k t435 t439).bind fun t442 => (if t442 = true then (some true) else (some false)))) else (some false)))))))) = some r := h; clear h; replace H := Option.bind_eq_some_iff.mp H; obtain ⟨t430, A20, H⟩ := H; replace H : (if t430 < 0 then (some true) else ((laws_toArgS.f k l0).bind fun t431 => ((spec_ArgsText.f k t431).bind fun t434 => ((laws_toArgS.f k l0).bind fun t435 => ((impl_ArgsText.f k t435).bind fun t438 => (if t438.toList = t434.toList then ((laws_toArgS.f k l0).bind fun t439 => ((laws_eqArgS.f k t435 t439).bind fun t442 => (if t442 = true then (some true) else (some false)))) else (some false))))))) = some r := H; have A2 := Aside0.mk A20; clear A20
 by_cases c3 : t430 < 0
 ·rw [if_pos c3] at H; have c3b0 := decide_eq_true c3; clear c3; obtain rfl := Option.some.inj H
  go_enter Tryd.func8, Tryd.ntmps8
  go_wp2_with (first | ((with_reducible refine gate_callee (f := 18) rfl ?_); refine goesL_ (some 9) rfl rfl Tryd.func18 (by kernel_rfl) rfl #[.slice A0 l0.length c0, .int .i64 1048576] rfl mapA ?_; (with_reducible refine (laws_szArgS.calls k _ _ l0 1048576 t430 _ ?side1 ?side2 A2.out).mono ?_); (case side1 => repeat (first | exact HR0.out | (with_reducible refine Kd.C_alloc ?_ _) | (with_reducible refine Kd.C_drewN ?_ _) | (with_reducible refine Kd.C_drew ?_))); (case side2 => exact HC0.out); rintro e w4 ⟨rfl, hb⟩; refine ⟨_, rfl, ?_⟩; replace HB := Aside0.mk (below_step (belB HB) hb); (try clear hb)))
  go_ret
  exact ⟨erA, belB HB⟩
 ·rw [if_neg c3] at H; have c3b0 := decide_eq_false c3; clear c3; replace H := Option.bind_eq_some_iff.mp H; obtain ⟨t431, A50, H⟩ := H; replace H : ((spec_ArgsText.f k t431).bind fun t434 => ((laws_toArgS.f k l0).bind fun t435 => ((impl_ArgsText.f k t435).bind fun t438 => (if t438.toList = t434.toList then ((laws_toArgS.f k l0).bind fun t439 => ((laws_eqArgS.f k t435 t439).bind fun t442 => (if t442 = true then (some true) else (some false)))) else (some false))))) = some r := H; have A5 := Aside0.mk A50; clear A50; replace H := Option.bind_eq_some_iff.mp H; obtain ⟨t434, A60, H⟩ := H; replace H : ((laws_toArgS.f k l0).bind fun t435 => ((impl_ArgsText.f k t435).bind fun t438 => (if t438.toList = t434.toList then ((laws_toArgS.f k l0).bind fun t439 => ((laws_eqArgS.f k t435 t439).bind fun t442 => (if t442 = true then (some true) else (some false)))) else (some false)))) = some r := H; have A6 := Aside0.mk A60; clear A60; replace H := Option.bind_eq_some_iff.mp H; obtain ⟨t435, A70, H⟩ := H; replace H : ((impl_ArgsText.f k t435).bind fun t438 => (if t438.toList = t434.toList then ((laws_toArgS.f k l0).bind fun t439 => ((laws_eqArgS.f k t435 t439).bind fun t442 => (if t442 = true then (some true) else (some false)))) else (some false))) = some r := H; have A7 := Aside0.mk A70; clear A70; replace H := Option.bind_eq_some_iff.mp H; obtain ⟨t438, A80, H⟩ := H; replace H : (if t438.toList = t434.toList then ((laws_toArgS.f k l0).bind fun t439 => ((laws_eqArgS.f k t435 t439).bind fun t442 => (if t442 = true then (some true) else (some false)))) else (some false)) = some r := H; have A8 := Aside0.mk A80; clear A80
  by_cases c9 : t438.toList = t434.toList
  ·rw [if_pos c9] at H; have c9b0 := beq_iff_eq.mpr c9; have c9b1 := bne_eq_false_iff_eq.mpr c9; clear c9; replace H := Option.bind_eq_some_iff.mp H; obtain ⟨t439, A100, H⟩ := H; replace H : ((laws_eqArgS.f k t435 t439).bind fun t442 => (if t442 = true then (some true) else (some false))) = some r := H; have A10 := Aside0.mk A100; clear A100; replace H := Option.bind_eq_some_iff.mp H; obtain ⟨t442, A110, H⟩ := H; replace H : (if t442 = true then (some true) else (some false)) = some r := H; have A11 := Aside0.mk A110; clear A110
   by_cases c12 : t442 = true
   ·subst c12
    have H1 : (some true) = some r := by rw [if_pos rfl] at H; exact H
    clear H; have H := H1; clear H1; obtain rfl := Option.some.inj H
    go_enter Tryd.func8, Tryd.ntmps8
    go_wp2_with (first | ((with_reducible refine gate_callee (f := 18) rfl ?_); refine goesL_ (some 9) rfl rfl Tryd.func18 (by kernel_rfl) rfl #[.slice A0 l0.length c0, .int .i64 1048576] rfl mapA ?_; (with_reducible refine (laws_szArgS.calls k _ _ l0 1048576 t430 _ ?side1 ?side2 A2.out).mono ?_); (case side1 => repeat (first | exact HR0.out | (with_reducible refine Kd.C_alloc ?_ _) | (with_reducible refine Kd.C_drewN ?_ _) | (with_reducible refine Kd.C_drew ?_))); (case side2 => exact HC0.out); rintro e w13 ⟨rfl, hb⟩; refine ⟨_, rfl, ?_⟩; replace HB := Aside0.mk (below_step (belB HB) hb); (try clear hb)) | ((with_reducible refine gate_callee (f := 20) rfl ?_); refine goesL_ (some 13) rfl rfl Tryd.func20 (by kernel_rfl) rfl #[.slice A0 l0.length c0] rfl mapA ?_; (with_reducible refine (laws_toArgS.calls k _ _ l0 t431 _ ?side1 ?side2 A5.out).mono ?_); (case side1 => exact cbA HR0 HB); (case side2 => exact HC0.out); rintro e w14 ⟨v432, rfl, ho0, hb⟩; refine ⟨_, rfl, ?_⟩; have HO433 := Aside0.mk (Kd.R_lower ho0 (below_size (belB HB))); replace HB := Aside0.mk (below_step (belB HB) hb); (try clear hb); (try clear ho0); obtain ⟨Ao15, co15, eo15⟩ := Kd.R_slice HO433.out; subst eo15) | ((with_reducible refine gate_callee (f := 30) rfl ?_); refine goesL_ (some 14) rfl rfl Tryd.func30 (by kernel_rfl) rfl #[.slice Ao15 t431.length co15] rfl mapA ?_; (with_reducible refine (spec_ArgsText.calls k _ _ t431 t434 _ ?side1 ?side2 A6.out).mono ?_); (case side1 => repeat (first | exact (Kd.R_reads' HO433.out).2.2 | (with_reducible refine Kd.C_alloc ?_ _) | (with_reducible refine Kd.C_drewN ?_ _) | (with_reducible refine Kd.C_drew ?_))); (case side2 => exact (Kd.R_reads' HO433.out).2.1); rintro e w16 ⟨rfl, hb⟩; refine ⟨_, rfl, ?_⟩; replace HO433 := Aside0.mk (Kd.R_below (kdB HO433) hb); replace HB := Aside0.mk (below_step (belB HB) hb); (try clear hb)) | ((with_reducible refine gate_callee (f := 20) rfl ?_); refine goesL_ (some 16) rfl rfl Tryd.func20 (by kernel_rfl) rfl #[.slice A0 l0.length c0] rfl mapA ?_; (with_reducible refine (laws_toArgS.calls k _ _ l0 t435 _ ?side1 ?side2 A7.out).mono ?_); (case side1 => exact cbA HR0 HB); (case side2 => exact HC0.out); rintro e w17 ⟨v436, rfl, ho0, hb⟩; refine ⟨_, rfl, ?_⟩; have HO437 := Aside0.mk (Kd.R_lower (Kd.R_new' ho0 (Kd.R_lt (kdB HO433))) (below_size (belB HB))); replace HO433 := Aside0.mk (Kd.R_elder' (kdB HO433) (Kd.R_base ho0) hb); replace HB := Aside0.mk (below_step (belB HB) hb); (try clear hb); (try clear ho0); obtain ⟨Ao18, co18, eo18⟩ := Kd.R_slice HO437.out; subst eo18) | ((with_reducible refine gate_callee (f := 31) rfl ?_); refine goesL_ (some 18) rfl rfl Tryd.func31 (by kernel_rfl) rfl #[.slice Ao18 t435.length co18] rfl mapA ?_; (with_reducible refine (impl_ArgsText.calls k _ _ t435 t438 _ ?side1 ?side2 (Gl.below HG.out (belB HB)) A8.out).mono ?_); (case side1 => repeat (first | exact (Kd.R_reads' HO437.out).2.2 | (with_reducible refine Kd.C_alloc ?_ _) | (with_reducible refine Kd.C_drewN ?_ _) | (with_reducible refine Kd.C_drew ?_))); (case side2 => exact (Kd.R_reads' HO437.out).2.1); rintro e w19 ⟨rfl, hb⟩; refine ⟨_, rfl, ?_⟩; replace HO433 := Aside0.mk (Kd.R_below (kdB HO433) hb); replace HO437 := Aside0.mk (Kd.R_below (kdB HO437) hb); replace HB := Aside0.mk (below_step (belB HB) hb); (try clear hb)) | ((with_reducible refine gate_callee (f := 20) rfl ?_); refine goesL_ (some 24) rfl rfl Tryd.func20 (by kernel_rfl) rfl #[.slice A0 l0.length c0] rfl mapA ?_; (with_reducible refine (laws_toArgS.calls k _ _ l0 t439 _ ?side1 ?side2 A10.out).mono ?_); (case side1 => exact cbA HR0 HB); (case side2 => exact HC0.out); rintro e w20 ⟨v440, rfl, ho0, hb⟩; refine ⟨_, rfl, ?_⟩; have HO441 := Aside0.mk (Kd.R_lower (Kd.R_new' (Kd.R_new' ho0 (Kd.R_lt (kdB HO433))) (Kd.R_lt (kdB HO437))) (below_size (belB HB))); replace HO433 := Aside0.mk (Kd.R_elder' (kdB HO433) (Kd.R_base ho0) hb); replace HO437 := Aside0.mk (Kd.R_elder' (kdB HO437) (Kd.R_base ho0) hb); replace HB := Aside0.mk (below_step (belB HB) hb); (try clear hb); (try clear ho0); obtain ⟨Ao21, co21, eo21⟩ := Kd.R_slice HO441.out; subst eo21) | ((with_reducible refine gate_callee (f := 22) rfl ?_); refine goesL_ (some 25) rfl rfl Tryd.func22 (by kernel_rfl) rfl #[.slice Ao18 t435.length co18, .slice Ao21 t439.length co21] rfl mapA ?_; (with_reducible refine (laws_eqArgS.calls k _ _ t435 _ _ t439 true _ ?side1 ?side2 ?side3 ?side4 A11.out).mono ?_); (case side1 => repeat (first | exact (Kd.R_reads' HO437.out).2.2 | (with_reducible refine Kd.C_alloc ?_ _) | (with_reducible refine Kd.C_drewN ?_ _) | (with_reducible refine Kd.C_drew ?_))); (case side2 => exact (Kd.R_reads' HO437.out).2.1); (case side3 => repeat (first | exact (Kd.R_reads' HO441.out).2.2 | (with_reducible refine Kd.C_alloc ?_ _) | (with_reducible refine Kd.C_drewN ?_ _) | (with_reducible refine Kd.C_drew ?_))); (case side4 => exact (Kd.R_reads' HO441.out).2.1); rintro e w22 ⟨rfl, hb⟩; refine ⟨_, rfl, ?_⟩; replace HO433 := Aside0.mk (Kd.R_below (kdB HO433) hb); replace HO437 := Aside0.mk (Kd.R_below (kdB HO437) hb); replace HO441 := Aside0.mk (Kd.R_below (kdB HO441) hb); replace HB := Aside0.mk (below_step (belB HB) hb); (try clear hb)))
    go_ret
    exact ⟨erA, belB HB⟩
   ·replace c12 := Bool.eq_false_iff.mpr c12; subst c12
    have H1 : (some false) = some r := by rw [if_neg (show ¬ (false = true) by decide)] at H; exact H
    clear H; have H := H1; clear H1; obtain rfl := Option.some.inj H
    go_enter Tryd.func8, Tryd.ntmps8
    go_wp2_with (first | ((with_reducible refine gate_callee (f := 18) rfl ?_); refine goesL_ (some 9) rfl rfl Tryd.func18 (by kernel_rfl) rfl #[.slice A0 l0.length c0, .int .i64 1048576] rfl mapA ?_; (with_reducible refine (laws_szArgS.calls k _ _ l0 1048576 t430 _ ?side1 ?side2 A2.out).mono ?_); (case side1 => repeat (first | exact HR0.out | (with_reducible refine Kd.C_alloc ?_ _) | (with_reducible refine Kd.C_drewN ?_ _) | (with_reducible refine Kd.C_drew ?_))); (case side2 => exact HC0.out); rintro e w23 ⟨rfl, hb⟩; refine ⟨_, rfl, ?_⟩; replace HB := Aside0.mk (below_step (belB HB) hb); (try clear hb)) | ((with_reducible refine gate_callee (f := 20) rfl ?_); refine goesL_ (some 13) rfl rfl Tryd.func20 (by kernel_rfl) rfl #[.slice A0 l0.length c0] rfl mapA ?_; (with_reducible refine (laws_toArgS.calls k _ _ l0 t431 _ ?side1 ?side2 A5.out).mono ?_); (case side1 => exact cbA HR0 HB); (case side2 => exact HC0.out); rintro e w24 ⟨v432, rfl, ho0, hb⟩; refine ⟨_, rfl, ?_⟩; have HO433 := Aside0.mk (Kd.R_lower ho0 (below_size (belB HB))); replace HB := Aside0.mk (below_step (belB HB) hb); (try clear hb); (try clear ho0); obtain ⟨Ao25, co25, eo25⟩ := Kd.R_slice HO433.out; subst eo25) | ((with_reducible refine gate_callee (f := 30) rfl ?_); refine goesL_ (some 14) rfl rfl Tryd.func30 (by kernel_rfl) rfl #[.slice Ao25 t431.length co25] rfl mapA ?_; (with_reducible refine (spec_ArgsText.calls k _ _ t431 t434 _ ?side1 ?side2 A6.out).mono ?_); (case side1 => repeat (first | exact (Kd.R_reads' HO433.out).2.2 | (with_reducible refine Kd.C_alloc ?_ _) | (with_reducible refine Kd.C_drewN ?_ _) | (with_reducible refine Kd.C_drew ?_))); (case side2 => exact (Kd.R_reads' HO433.out).2.1); rintro e w26 ⟨rfl, hb⟩; refine ⟨_, rfl, ?_⟩; replace HO433 := Aside0.mk (Kd.R_below (kdB HO433) hb); replace HB := Aside0.mk (below_step (belB HB) hb); (try clear hb)) | ((with_reducible refine gate_callee (f := 20) rfl ?_); refine goesL_ (some 16) rfl rfl Tryd.func20 (by kernel_rfl) rfl #[.slice A0 l0.length c0] rfl mapA ?_; (with_reducible refine (laws_toArgS.calls k _ _ l0 t435 _ ?side1 ?side2 A7.out).mono ?_); (case side1 => exact cbA HR0 HB); (case side2 => exact HC0.out); rintro e w27 ⟨v436, rfl, ho0, hb⟩; refine ⟨_, rfl, ?_⟩; have HO437 := Aside0.mk (Kd.R_lower (Kd.R_new' ho0 (Kd.R_lt (kdB HO433))) (below_size (belB HB))); replace HO433 := Aside0.mk (Kd.R_elder' (kdB HO433) (Kd.R_base ho0) hb); replace HB := Aside0.mk (below_step (belB HB) hb); (try clear hb); (try clear ho0); obtain ⟨Ao28, co28, eo28⟩ := Kd.R_slice HO437.out; subst eo28) | ((with_reducible refine gate_callee (f := 31) rfl ?_); refine goesL_ (some 18) rfl rfl Tryd.func31 (by kernel_rfl) rfl #[.slice Ao28 t435.length co28] rfl mapA ?_; (with_reducible refine (impl_ArgsText.calls k _ _ t435 t438 _ ?side1 ?side2 (Gl.below HG.out (belB HB)) A8.out).mono ?_); (case side1 => repeat (first | exact (Kd.R_reads' HO437.out).2.2 | (with_reducible refine Kd.C_alloc ?_ _) | (with_reducible refine Kd.C_drewN ?_ _) | (with_reducible refine Kd.C_drew ?_))); (case side2 => exact (Kd.R_reads' HO437.out).2.1); rintro e w29 ⟨rfl, hb⟩; refine ⟨_, rfl, ?_⟩; replace HO433 := Aside0.mk (Kd.R_below (kdB HO433) hb); replace HO437 := Aside0.mk (Kd.R_below (kdB HO437) hb); replace HB := Aside0.mk (below_step (belB HB) hb); (try clear hb)) | ((with_reducible refine gate_callee (f := 20) rfl ?_); refine goesL_ (some 24) rfl rfl Tryd.func20 (by kernel_rfl) rfl #[.slice A0 l0.length c0] rfl mapA ?_; (with_reducible refine (laws_toArgS.calls k _ _ l0 t439 _ ?side1 ?side2 A10.out).mono ?_); (case side1 => exact cbA HR0 HB); (case side2 => exact HC0.out); rintro e w30 ⟨v440, rfl, ho0, hb⟩; refine ⟨_, rfl, ?_⟩; have HO441 := Aside0.mk (Kd.R_lower (Kd.R_new' (Kd.R_new' ho0 (Kd.R_lt (kdB HO433))) (Kd.R_lt (kdB HO437))) (below_size (belB HB))); replace HO433 := Aside0.mk (Kd.R_elder' (kdB HO433) (Kd.R_base ho0) hb); replace HO437 := Aside0.mk (Kd.R_elder' (kdB HO437) (Kd.R_base ho0) hb); replace HB := Aside0.mk (below_step (belB HB) hb); (try clear hb); (try clear ho0); obtain ⟨Ao31, co31, eo31⟩ := Kd.R_slice HO441.out; subst eo31) | ((with_reducible refine gate_callee (f := 22) rfl ?_); refine goesL_ (some 25) rfl rfl Tryd.func22 (by kernel_rfl) rfl #[.slice Ao28 t435.length co28, .slice Ao31 t439.length co31] rfl mapA ?_; (with_reducible refine (laws_eqArgS.calls k _ _ t435 _ _ t439 false _ ?side1 ?side2 ?side3 ?side4 A11.out).mono ?_); (case side1 => repeat (first | exact (Kd.R_reads' HO437.out).2.2 | (with_reducible refine Kd.C_alloc ?_ _) | (with_reducible refine Kd.C_drewN ?_ _) | (with_reducible refine Kd.C_drew ?_))); (case side2 => exact (Kd.R_reads' HO437.out).2.1); (case side3 => repeat (first | exact (Kd.R_reads' HO441.out).2.2 | (with_reducible refine Kd.C_alloc ?_ _) | (with_reducible refine Kd.C_drewN ?_ _) | (with_reducible refine Kd.C_drew ?_))); (case side4 => exact (Kd.R_reads' HO441.out).2.1); rintro e w32 ⟨rfl, hb⟩; refine ⟨_, rfl, ?_⟩; replace HO433 := Aside0.mk (Kd.R_below (kdB HO433) hb); replace HO437 := Aside0.mk (Kd.R_below (kdB HO437) hb); replace HO441 := Aside0.mk (Kd.R_below (kdB HO441) hb); replace HB := Aside0.mk (below_step (belB HB) hb); (try clear hb)))
    go_ret
    exact ⟨erA, belB HB⟩
  ·rw [if_neg c9] at H; have c9b0 := beq_eq_false_iff_ne.mpr c9; have c9b1 := bne_iff_ne.mpr c9; obtain rfl := Option.some.inj H
   go_enter Tryd.func8, Tryd.ntmps8
   go_wp2_with (first | ((with_reducible refine gate_callee (f := 18) rfl ?_); refine goesL_ (some 9) rfl rfl Tryd.func18 (by kernel_rfl) rfl #[.slice A0 l0.length c0, .int .i64 1048576] rfl mapA ?_; (with_reducible refine (laws_szArgS.calls k _ _ l0 1048576 t430 _ ?side1 ?side2 A2.out).mono ?_); (case side1 => repeat (first | exact HR0.out | (with_reducible refine Kd.C_alloc ?_ _) | (with_reducible refine Kd.C_drewN ?_ _) | (with_reducible refine Kd.C_drew ?_))); (case side2 => exact HC0.out); rintro e w33 ⟨rfl, hb⟩; refine ⟨_, rfl, ?_⟩; replace HB := Aside0.mk (below_step (belB HB) hb); (try clear hb)) | ((with_reducible refine gate_callee (f := 20) rfl ?_); refine goesL_ (some 13) rfl rfl Tryd.func20 (by kernel_rfl) rfl #[.slice A0 l0.length c0] rfl mapA ?_; (with_reducible refine (laws_toArgS.calls k _ _ l0 t431 _ ?side1 ?side2 A5.out).mono ?_); (case side1 => exact cbA HR0 HB); (case side2 => exact HC0.out); rintro e w34 ⟨v432, rfl, ho0, hb⟩; refine ⟨_, rfl, ?_⟩; have HO433 := Aside0.mk (Kd.R_lower ho0 (below_size (belB HB))); replace HB := Aside0.mk (below_step (belB HB) hb); (try clear hb); (try clear ho0); obtain ⟨Ao35, co35, eo35⟩ := Kd.R_slice HO433.out; subst eo35) | ((with_reducible refine gate_callee (f := 30) rfl ?_); refine goesL_ (some 14) rfl rfl Tryd.func30 (by kernel_rfl) rfl #[.slice Ao35 t431.length co35] rfl mapA ?_; (with_reducible refine (spec_ArgsText.calls k _ _ t431 t434 _ ?side1 ?side2 A6.out).mono ?_); (case side1 => repeat (first | exact (Kd.R_reads' HO433.out).2.2 | (with_reducible refine Kd.C_alloc ?_ _) | (with_reducible refine Kd.C_drewN ?_ _) | (with_reducible refine Kd.C_drew ?_))); (case side2 => exact (Kd.R_reads' HO433.out).2.1); rintro e w36 ⟨rfl, hb⟩; refine ⟨_, rfl, ?_⟩; replace HO433 := Aside0.mk (Kd.R_below (kdB HO433) hb); replace HB := Aside0.mk (below_step (belB HB) hb); (try clear hb)) | ((with_reducible refine gate_callee (f := 20) rfl ?_); refine goesL_ (some 16) rfl rfl Tryd.func20 (by kernel_rfl) rfl #[.slice A0 l0.length c0] rfl mapA ?_; (with_reducible refine (laws_toArgS.calls k _ _ l0 t435 _ ?side1 ?side2 A7.out).mono ?_); (case side1 => exact cbA HR0 HB); (case side2 => exact HC0.out); rintro e w37 ⟨v436, rfl, ho0, hb⟩; refine ⟨_, rfl, ?_⟩; have HO437 := Aside0.mk (Kd.R_lower (Kd.R_new' ho0 (Kd.R_lt (kdB HO433))) (below_size (belB HB))); replace HO433 := Aside0.mk (Kd.R_elder' (kdB HO433) (Kd.R_base ho0) hb); replace HB := Aside0.mk (below_step (belB HB) hb); (try clear hb); (try clear ho0); obtain ⟨Ao38, co38, eo38⟩ := Kd.R_slice HO437.out; subst eo38) | ((with_reducible refine gate_callee (f := 31) rfl ?_); refine goesL_ (some 18) rfl rfl Tryd.func31 (by kernel_rfl) rfl #[.slice Ao38 t435.length co38] rfl mapA ?_; (with_reducible refine (impl_ArgsText.calls k _ _ t435 t438 _ ?side1 ?side2 (Gl.below HG.out (belB HB)) A8.out).mono ?_); (case side1 => repeat (first | exact (Kd.R_reads' HO437.out).2.2 | (with_reducible refine Kd.C_alloc ?_ _) | (with_reducible refine Kd.C_drewN ?_ _) | (with_reducible refine Kd.C_drew ?_))); (case side2 => exact (Kd.R_reads' HO437.out).2.1); rintro e w39 ⟨rfl, hb⟩; refine ⟨_, rfl, ?_⟩; replace HO433 := Aside0.mk (Kd.R_below (kdB HO433) hb); replace HO437 := Aside0.mk (Kd.R_below (kdB HO437) hb); replace HB := Aside0.mk (below_step (belB HB) hb); (try clear hb)))
   go_ret
   exact ⟨erA, belB HB⟩

end Go.Proofs.YtjhagdjjlgjlbaaDoor.OFnExactArgsText
-- narrow
