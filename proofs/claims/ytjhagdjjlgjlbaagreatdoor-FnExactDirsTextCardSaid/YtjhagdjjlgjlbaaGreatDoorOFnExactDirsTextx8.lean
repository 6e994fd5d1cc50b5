/- The machine side of one law, written by a program. -/
import Derived.Test.YtjhagdjjlgjlbaaGreatDoorOFnExactDirsTextx0
import Derived.Test.YtjhagdjjlgjlbaaGreatDoorOFnExactDirsTextx2
import Derived.Test.YtjhagdjjlgjlbaaGreatDoorOFnExactDirsTextx7
namespace Go.Proofs.YtjhagdjjlgjlbaaGreatDoor.OFnExactDirsText
open Go.Proofs.YtjhagdjjlgjlbaaGreatDoor.GlU Go.Proofs.YtjhagdjjlgjlbaaGreatDoor.Ix
open Go.RowKit Go.Proofs.YtjhagdjjlgjlbaaGreatDoorW.PrintWords Go.Proofs.YtjhagdjjlgjlbaaGreatDoorW.PrintLast Go.Proofs.YtjhagdjjlgjlbaaGreatDoorW.PrintMore
attribute [local go_sem] max2_int min2_int max_two min_two max_three min_three max_four min_four
set_option linter.unusedVariables false
set_option linter.unusedSimpArgs false

def spec_ValueOk.f (k : Nat) (a0_0 : Int) (a0_1 : ByteArray) (l0_2 : List (S52)) (l0_3 : List ByteArray) : Option (Bool) := (spec_l07Right.f k a0_0 a0_1 l0_2 l0_3 10).bind fun t167 => (some t167)
theorem spec_ValueOk.mono : ∀ a0 a1 a2 a3 k, LeO (spec_ValueOk.f k a0 a1 a2 a3) (spec_ValueOk.f (k + 1) a0 a1 a2 a3) := by
 intro a0 a1 a2 a3 k; unfold spec_ValueOk.f
 repeat' first
   | (with_reducible first | exact spec_l07Right.mono _ _ _ _ _ _ | exact LeO.refl _ | exact LeO.none _ | refine LeO.ite ?_ ?_ | refine LeO.bind ?_ (fun _ => ?_))
   | exact spec_l07Right.mono _ _ _ _ _ _ | exact LeO.none _ | refine LeO.ite ?_ ?_ | refine LeO.bind ?_ (fun _ => ?_)
set_option maxHeartbeats 8000000 in
set_option maxRecDepth 100000 in
theorem spec_ValueOk.calls (k : Nat) (a0_0 : Int) (a0_1 : ByteArray) (A0_2 : Option Addr) (c0_2 : Nat) (l0_2 : List (S52)) (A0_3 : Option Addr) (c0_3 : Nat) (l0_3 : List ByteArray) (r : Bool) (w : World) (hr0_2 : Kd.C k52 w A0_2 l0_2.length l0_2) (hc0_2 : l0_2.length ≤ c0_2) (hr0_3 : Kd.C Kd.string w A0_3 l0_3.length l0_3) (hc0_3 : l0_3.length ≤ c0_3) (h : spec_ValueOk.f k a0_0 a0_1 l0_2 l0_3 = some r) :
  Calls Tryz.prog 31 #[.agg #[.int .i64 a0_0, .string a0_1, .slice A0_2 l0_2.length c0_2, .slice A0_3 l0_3.length c0_3]] w fun e w' => e = .returned (.bool r) ∧ Below w.heap.size w w' := by
 have hu52 := Tryz.underlying52; have HR0_2 := Aside0.mk hr0_2; have HC0_2 := Aside0.mk hc0_2; clear hr0_2 hc0_2; have HR0_3 := Aside0.mk hr0_3; have HC0_3 := Aside0.mk hc0_3; clear hr0_3 hc0_3; have HB := Aside0.mk (Below.refl w.heap.size w); have H : ((spec_l07Right.f k a0_0 a0_1 l0_2 l0_3 10).bind fun t167 => (some t167)) = some r := h; clear h; replace H := Option.bind_eq_some_iff.mp H; obtain ⟨t167, A20, H⟩ := H; replace H : (some t167) = some r := H; have A2 := Aside0.mk A20; clear A20; obtain rfl := Option.some.inj H
 go_enter Tryz.func31, Tryz.ntmps31
 go_wp2_with (first | ((with_reducible refine gate_dst (N := 1) rfl ?_); refine boxE (N := 1) (cs := #[.int .i64 a0_0, .string a0_1, .slice A0_2 l0_2.length c0_2, .slice A0_3 l0_3.length c0_3]) (t := 52) ?_; intro gb166 hg w3 hbox hb; have BK166 := Aside0.mk (hbox); have GW166 := Aside0.mk ((gbA (w := w) HB hg)); have GE166 := Aside0.mk ((gbA (w := w) HB hg)); replace HB := Aside0.mk (below_step (belB HB) hb); clear hb hbox hg; obtain ⟨hcz4_0, hcz4_1, hcz4_2, hcz4_3, hfz4_0, hfz4_1, hfz4_2, hfz4_3⟩ := cef4 BK166.out) | ((with_reducible refine gate_callee (f := 47) rfl ?_); refine goesL_ (some 4) rfl rfl Tryz.func47 (by kernel_rfl) rfl #[.agg #[.int .i64 a0_0, .string a0_1, .slice A0_2 l0_2.length c0_2, .slice A0_3 l0_3.length c0_3], .int .i64 10] rfl mapA ?_; (with_reducible refine (spec_l07Right.calls k a0_0 a0_1 _ _ l0_2 _ _ l0_3 10 t167 _ ?side1 ?side2 ?side3 ?side4 A2.out).mono ?_); (case side1 => exact cbA HR0_2 HB); (case side2 => exact HC0_2.out); (case side3 => exact cbA HR0_3 HB); (case side4 => exact HC0_3.out); rintro e w5 ⟨rfl, hb⟩; refine ⟨_, rfl, ?_⟩; replace BK166 := Aside0.mk (bBA BK166 hb); replace HB := Aside0.mk (below_step (belS HB GE166) hb); (try clear hb)))
 go_ret
 exact ⟨erA, belS HB GE166⟩

def spec_ArgsOk.l0 : Nat → List (S54) → Int → Option (Bool)
 | 0, _, _ => none
 | k + 1, x0, x3 => if x3 < (x0.length : Int) then (if 0 ≤ x3 then ((spec_NameOk.f k ((rd_T54 x0 x3).f0)).bind fun t169 => (if t169 = true then ((spec_ValueOk.f k ((rd_T54 x0 x3).f1.f0) ((rd_T54 x0 x3).f1.f1) ((rd_T54 x0 x3).f1.f2) ((rd_T54 x0 x3).f1.f3)).bind fun t171 => (if t171 = true then (spec_ArgsOk.l0 k x0 (wrap64 (x3 + 1))) else (some false))) else (some false))) else (none)) else (some true)
def spec_ArgsOk.f (k : Nat) (l0 : List (S54)) : Option (Bool) := spec_ArgsOk.l0 k l0 0
theorem spec_ArgsOk.mono_l : ∀ k, (∀ y0 y1, LeO (spec_ArgsOk.l0 k y0 y1) (spec_ArgsOk.l0 (k + 1) y0 y1))
 | 0 => fun _ _ r h => by simp [spec_ArgsOk.l0] at h
 | k + 1 => by
  have ih0 := spec_ArgsOk.mono_l k
  ·intro y0 y1; unfold spec_ArgsOk.l0
   repeat' first
   | (with_reducible first | exact ih0 _ _ | exact spec_NameOk.mono _ _ | exact spec_ValueOk.mono _ _ _ _ _ | exact LeO.refl _ | exact LeO.none _ | refine LeO.ite ?_ ?_ | refine LeO.bind ?_ (fun _ => ?_))
   | exact ih0 _ _ | exact spec_NameOk.mono _ _ | exact spec_ValueOk.mono _ _ _ _ _ | exact LeO.none _ | refine LeO.ite ?_ ?_ | refine LeO.bind ?_ (fun _ => ?_)
theorem spec_ArgsOk.mono : ∀ a0 k, LeO (spec_ArgsOk.f k a0) (spec_ArgsOk.f (k + 1) a0) := by
 intro a0 k; have ih0 := spec_ArgsOk.mono_l k; unfold spec_ArgsOk.f
 repeat' first
   | (with_reducible first | exact ih0 _ _ | exact spec_NameOk.mono _ _ | exact spec_ValueOk.mono _ _ _ _ _ | exact LeO.refl _ | exact LeO.none _ | refine LeO.ite ?_ ?_ | refine LeO.bind ?_ (fun _ => ?_))
   | exact ih0 _ _ | exact spec_NameOk.mono _ _ | exact spec_ValueOk.mono _ _ _ _ _ | exact LeO.none _ | refine LeO.ite ?_ ?_ | refine LeO.bind ?_ (fun _ => ?_)
set_option maxHeartbeats 8000000 in
set_option maxRecDepth 100000 in
theorem spec_ArgsOk.calls (k : Nat) (A0 : Option Addr) (c0 : Nat) (l0 : List (S54)) (r : Bool) (w : World) (hr0 : Kd.C k54 w A0 l0.length l0) (hc0 : l0.length ≤ c0) (h : spec_ArgsOk.f k l0 = some r) :
  Calls Tryz.prog 18 #[.slice A0 l0.length c0] w fun e w' => e = .returned (.bool r) ∧ Below w.heap.size w w' := by
 have hu52 := Tryz.underlying52; have HR0 := Aside0.mk hr0; have HC0 := Aside0.mk hc0; clear hr0 hc0; have HB := Aside0.mk (Below.refl w.heap.size w); have H : (spec_ArgsOk.l0 k l0 0) = some r := h; clear h
 have H' := Aside0.mk H
 clear H
 go_enter Tryz.func18, Tryz.ntmps18
 go_wp2
 go_loopg [3] k (fun kq v3 w' => ∃ (x3_1 : Int), v3 = .int .i64 x3_1 ∧ Aside0 (spec_ArgsOk.l0 kq l0 x3_1 = some r) ∧ Aside0 (kq ≤ k) ∧ Aside0 (Below w.heap.size w w'))
 case atStart => exact ⟨(0), enA, H', ⟨Nat.le_refl _⟩, ⟨belB HB⟩⟩
 case round =>
  clear H'
  try clear c1
  obtain ⟨x3_1, rfl, HA, HK1, HB⟩ := hrel
  cases gk with
  | zero => exact absurd HA.out (by simp [spec_ArgsOk.l0])
  | succ k1 =>
   have H := HA.out; clear HA
   simp only [spec_ArgsOk.l0] at H
   by_cases c2 : x3_1 < (l0.length : Int)
   ·rw [if_pos c2] at H; have c2b0 := decide_eq_true c2; clear c2
    by_cases c3 : 0 ≤ x3_1
    ·rw [if_pos c3] at H; have c3b0 := decide_eq_true c3; clear c3; replace H := Option.bind_eq_some_iff.mp H; obtain ⟨t169, A40, H⟩ := H; replace H : (if t169 = true then ((spec_ValueOk.f k1 ((rd_T54 l0 x3_1).f1.f0) ((rd_T54 l0 x3_1).f1.f1) ((rd_T54 l0 x3_1).f1.f2) ((rd_T54 l0 x3_1).f1.f3)).bind fun t171 => (if t171 = true then (spec_ArgsOk.l0 k1 l0 (wrap64 (x3_1 + 1))) else (some false))) else (some false)) = some r := H; have A4 := Aside0.mk A40; clear A40
     by_cases c5 : t169 = true
     ·subst c5
      have H1 : ((spec_ValueOk.f k1 ((rd_T54 l0 x3_1).f1.f0) ((rd_T54 l0 x3_1).f1.f1) ((rd_T54 l0 x3_1).f1.f2) ((rd_T54 l0 x3_1).f1.f3)).bind fun t171 => (if t171 = true then (spec_ArgsOk.l0 k1 l0 (wrap64 (x3_1 + 1))) else (some false))) = some r := by rw [if_pos rfl] at H; exact H
      clear H; have H := H1; clear H1; replace H := Option.bind_eq_some_iff.mp H; obtain ⟨t171, A60, H⟩ := H; replace H : (if t171 = true then (spec_ArgsOk.l0 k1 l0 (wrap64 (x3_1 + 1))) else (some false)) = some r := H; have A6 := Aside0.mk A60; clear A60
      by_cases c7 : t171 = true
      ·subst c7
       have H1 : (spec_ArgsOk.l0 k1 l0 (wrap64 (x3_1 + 1))) = some r := by rw [if_pos rfl] at H; exact H
       clear H; have H := H1; clear H1
       have H' := Aside0.mk H
       clear H; have p168 : 0 ≤ (x3_1 : Int) := odA; have q168 : x3_1 < (l0.length : Int) := odA; obtain ⟨ad168, A168_3, c168_3, A168_4, c168_4, e168, hx168_0, hx168_1, hx168_2, hx168_3, hx168_4, hl168_3, hi168_3, hl168_4, hi168_4⟩ := at_T54 HR0.out x3_1 p168 q168
       cases e168
       (try replace hx168_0 := celB HB hx168_0)
       (try replace hx168_1 := celB HB hx168_1)
       (try replace hx168_2 := celB HB hx168_2)
       (try replace hx168_3 := celB HB hx168_3)
       (try replace hx168_4 := celB HB hx168_4)
       have HR168_3 := Aside0.mk hi168_3; have HC168_3 := Aside0.mk hl168_3; clear hi168_3 hl168_3; have HR168_4 := Aside0.mk hi168_4; have HC168_4 := Aside0.mk hl168_4; clear hi168_4 hl168_4; replace p168 := eq_true p168; replace q168 := eq_true q168
       go_wp2_with (first | ((with_reducible refine gate_callee (f := 17) rfl ?_); refine goesL_ (some 15) rfl rfl Tryz.func17 (by kernel_rfl) rfl #[.string ((rd_T54 l0 x3_1).f0)] rfl mapA ?_; (with_reducible refine (spec_NameOk.calls k1 ((rd_T54 l0 x3_1).f0) true _ A4.out).mono ?_); rintro e w' ⟨rfl, ⟨nd, rfl⟩⟩; refine ⟨_, rfl, ?_⟩; have p170 : 0 ≤ (x3_1 : Int) := odA; have q170 : x3_1 < (l0.length : Int) := odA; obtain ⟨ad170, A170_3, c170_3, A170_4, c170_4, e170, hx170_0, hx170_1, hx170_2, hx170_3, hx170_4, hl170_3, hi170_3, hl170_4, hi170_4⟩ := at_T54 HR0.out x3_1 p170 q170; obtain rfl : ad168 = ad170 := (by injection e170); replace hx170_0 := (HB.out.cell (World.block_lt_of_cell? w _ hx170_0)).trans hx170_0; replace hx170_1 := (HB.out.cell (World.block_lt_of_cell? w _ hx170_1)).trans hx170_1; replace hx170_2 := (HB.out.cell (World.block_lt_of_cell? w _ hx170_2)).trans hx170_2; replace hx170_3 := (HB.out.cell (World.block_lt_of_cell? w _ hx170_3)).trans hx170_3; replace hx170_4 := (HB.out.cell (World.block_lt_of_cell? w _ hx170_4)).trans hx170_4; have HR170_3 := Aside0.mk hi170_3; have HC170_3 := Aside0.mk hl170_3; clear hi170_3 hl170_3; have HR170_4 := Aside0.mk hi170_4; have HC170_4 := Aside0.mk hl170_4; clear hi170_4 hl170_4; replace p170 := eq_true p170; replace q170 := eq_true q170; have ea_ := Option.some.inj (hx168_3.symm.trans hx170_3); injection ea_ with ea_ en_ ec_; subst ea_; subst ec_; clear en_; have ea_ := Option.some.inj (hx168_4.symm.trans hx170_4); injection ea_ with ea_ en_ ec_; subst ea_; subst ec_; clear en_) | (go_at_call 31; (with_reducible refine (spec_ValueOk.calls k1 ((rd_T54 l0 x3_1).f1.f0) ((rd_T54 l0 x3_1).f1.f1) _ _ ((rd_T54 l0 x3_1).f1.f2) _ _ ((rd_T54 l0 x3_1).f1.f3) true _ ?side1 ?side2 ?side3 ?side4 A6.out).mono ?_); (case side1 => repeat (first | exact (Kd.C_below HR170_3.out (belB HB)) | (with_reducible refine Kd.C_alloc ?_ _) | (with_reducible refine Kd.C_drewN ?_ _) | (with_reducible refine Kd.C_drew ?_))); (case side2 => exact HC170_3.out); (case side3 => repeat (first | exact (Kd.C_below HR170_4.out (belB HB)) | (with_reducible refine Kd.C_alloc ?_ _) | (with_reducible refine Kd.C_drewN ?_ _) | (with_reducible refine Kd.C_drew ?_))); (case side4 => exact HC170_4.out); rintro e w8 ⟨rfl, hb⟩; replace HB := Aside0.mk (below_step (belB HB) hb); (try clear hb)))
       go_roundg k1
       case measure => have := HK1.out; omega
       case rel => exact ⟨(wrap64 (x3_1 + 1)), enA, H', ⟨by have := HK1.out; omega⟩, ⟨belB HB⟩⟩
      ·replace c7 := Bool.eq_false_iff.mpr c7; subst c7
       have H1 : (some false) = some r := by rw [if_neg (show ¬ (false = true) by decide)] at H; exact H
       clear H; have H := H1; clear H1; obtain rfl := Option.some.inj H; have p168 : 0 ≤ (x3_1 : Int) := odA; have q168 : x3_1 < (l0.length : Int) := odA; obtain ⟨ad168, A168_3, c168_3, A168_4, c168_4, e168, hx168_0, hx168_1, hx168_2, hx168_3, hx168_4, hl168_3, hi168_3, hl168_4, hi168_4⟩ := at_T54 HR0.out x3_1 p168 q168
       cases e168
       (try replace hx168_0 := celB HB hx168_0)
       (try replace hx168_1 := celB HB hx168_1)
       (try replace hx168_2 := celB HB hx168_2)
       (try replace hx168_3 := celB HB hx168_3)
       (try replace hx168_4 := celB HB hx168_4)
       have HR168_3 := Aside0.mk hi168_3; have HC168_3 := Aside0.mk hl168_3; clear hi168_3 hl168_3; have HR168_4 := Aside0.mk hi168_4; have HC168_4 := Aside0.mk hl168_4; clear hi168_4 hl168_4; replace p168 := eq_true p168; replace q168 := eq_true q168
       go_wp2_with (first | ((with_reducible refine gate_callee (f := 17) rfl ?_); refine goesL_ (some 15) rfl rfl Tryz.func17 (by kernel_rfl) rfl #[.string ((rd_T54 l0 x3_1).f0)] rfl mapA ?_; (with_reducible refine (spec_NameOk.calls k1 ((rd_T54 l0 x3_1).f0) true _ A4.out).mono ?_); rintro e w' ⟨rfl, ⟨nd, rfl⟩⟩; refine ⟨_, rfl, ?_⟩; have p170 : 0 ≤ (x3_1 : Int) := odA; have q170 : x3_1 < (l0.length : Int) := odA; obtain ⟨ad170, A170_3, c170_3, A170_4, c170_4, e170, hx170_0, hx170_1, hx170_2, hx170_3, hx170_4, hl170_3, hi170_3, hl170_4, hi170_4⟩ := at_T54 HR0.out x3_1 p170 q170; obtain rfl : ad168 = ad170 := (by injection e170); replace hx170_0 := (HB.out.cell (World.block_lt_of_cell? w _ hx170_0)).trans hx170_0; replace hx170_1 := (HB.out.cell (World.block_lt_of_cell? w _ hx170_1)).trans hx170_1; replace hx170_2 := (HB.out.cell (World.block_lt_of_cell? w _ hx170_2)).trans hx170_2; replace hx170_3 := (HB.out.cell (World.block_lt_of_cell? w _ hx170_3)).trans hx170_3; replace hx170_4 := (HB.out.cell (World.block_lt_of_cell? w _ hx170_4)).trans hx170_4; have HR170_3 := Aside0.mk hi170_3; have HC170_3 := Aside0.mk hl170_3; clear hi170_3 hl170_3; have HR170_4 := Aside0.mk hi170_4; have HC170_4 := Aside0.mk hl170_4; clear hi170_4 hl170_4; replace p170 := eq_true p170; replace q170 := eq_true q170; have ea_ := Option.some.inj (hx168_3.symm.trans hx170_3); injection ea_ with ea_ en_ ec_; subst ea_; subst ec_; clear en_; have ea_ := Option.some.inj (hx168_4.symm.trans hx170_4); injection ea_ with ea_ en_ ec_; subst ea_; subst ec_; clear en_) | (go_at_call 31; (with_reducible refine (spec_ValueOk.calls k1 ((rd_T54 l0 x3_1).f1.f0) ((rd_T54 l0 x3_1).f1.f1) _ _ ((rd_T54 l0 x3_1).f1.f2) _ _ ((rd_T54 l0 x3_1).f1.f3) false _ ?side1 ?side2 ?side3 ?side4 A6.out).mono ?_); (case side1 => repeat (first | exact (Kd.C_below HR170_3.out (belB HB)) | (with_reducible refine Kd.C_alloc ?_ _) | (with_reducible refine Kd.C_drewN ?_ _) | (with_reducible refine Kd.C_drew ?_))); (case side2 => exact HC170_3.out); (case side3 => repeat (first | exact (Kd.C_below HR170_4.out (belB HB)) | (with_reducible refine Kd.C_alloc ?_ _) | (with_reducible refine Kd.C_drewN ?_ _) | (with_reducible refine Kd.C_drew ?_))); (case side4 => exact HC170_4.out); rintro e w9 ⟨rfl, hb⟩; replace HB := Aside0.mk (below_step (belB HB) hb); (try clear hb)))
       go_ret
       exact ⟨erA, belB HB⟩
     ·replace c5 := Bool.eq_false_iff.mpr c5; subst c5
      have H1 : (some false) = some r := by rw [if_neg (show ¬ (false = true) by decide)] at H; exact H
      clear H; have H := H1; clear H1; obtain rfl := Option.some.inj H; have p168 : 0 ≤ (x3_1 : Int) := odA; have q168 : x3_1 < (l0.length : Int) := odA; obtain ⟨ad168, A168_3, c168_3, A168_4, c168_4, e168, hx168_0, hx168_1, hx168_2, hx168_3, hx168_4, hl168_3, hi168_3, hl168_4, hi168_4⟩ := at_T54 HR0.out x3_1 p168 q168
      cases e168
      (try replace hx168_0 := celB HB hx168_0)
      (try replace hx168_1 := celB HB hx168_1)
      (try replace hx168_2 := celB HB hx168_2)
      (try replace hx168_3 := celB HB hx168_3)
      (try replace hx168_4 := celB HB hx168_4)
      have HR168_3 := Aside0.mk hi168_3; have HC168_3 := Aside0.mk hl168_3; clear hi168_3 hl168_3; have HR168_4 := Aside0.mk hi168_4; have HC168_4 := Aside0.mk hl168_4; clear hi168_4 hl168_4; replace p168 := eq_true p168; replace q168 := eq_true q168
      go_wp2_with (first | ((with_reducible refine gate_callee (f := 17) rfl ?_); refine goesL_ (some 15) rfl rfl Tryz.func17 (by kernel_rfl) rfl #[.string ((rd_T54 l0 x3_1).f0)] rfl mapA ?_; (with_reducible refine (spec_NameOk.calls k1 ((rd_T54 l0 x3_1).f0) false _ A4.out).mono ?_); rintro e w' ⟨rfl, ⟨nd, rfl⟩⟩; refine ⟨_, rfl, ?_⟩))
      go_ret
      exact ⟨erA, belB HB⟩
    ·rw [if_neg c3] at H
     exact absurd H (by simp)
   ·rw [if_neg c2] at H; have c2b0 := decide_eq_false c2; clear c2; obtain rfl := Option.some.inj H
    go_wp2
    go_ret
    exact ⟨erA, belB HB⟩

def spec_DirsOk.l0 : Nat → List (S38) → Int → Option (Bool)
 | 0, _, _ => none
 | k + 1, x0, x3 => if x3 < (x0.length : Int) then (if 0 ≤ x3 then ((spec_NameOk.f k ((rd_T38 x0 x3).f0)).bind fun t173 => (if t173 = true then ((spec_ArgsOk.f k ((rd_T38 x0 x3).f1)).bind fun t175 => (if t175 = true then (spec_DirsOk.l0 k x0 (wrap64 (x3 + 1))) else (some false))) else (some false))) else (none)) else (some true)
def spec_DirsOk.f (k : Nat) (l0 : List (S38)) : Option (Bool) := spec_DirsOk.l0 k l0 0
theorem spec_DirsOk.mono_l : ∀ k, (∀ y0 y1, LeO (spec_DirsOk.l0 k y0 y1) (spec_DirsOk.l0 (k + 1) y0 y1))
 | 0 => fun _ _ r h => by simp [spec_DirsOk.l0] at h
 | k + 1 => by
  have ih0 := spec_DirsOk.mono_l k
  ·intro y0 y1; unfold spec_DirsOk.l0
   repeat' first
   | (with_reducible first | exact ih0 _ _ | exact spec_ArgsOk.mono _ _ | exact spec_NameOk.mono _ _ | exact LeO.refl _ | exact LeO.none _ | refine LeO.ite ?_ ?_ | refine LeO.bind ?_ (fun _ => ?_))
   | exact ih0 _ _ | exact spec_ArgsOk.mono _ _ | exact spec_NameOk.mono _ _ | exact LeO.none _ | refine LeO.ite ?_ ?_ | refine LeO.bind ?_ (fun _ => ?_)
theorem spec_DirsOk.mono : ∀ a0 k, LeO (spec_DirsOk.f k a0) (spec_DirsOk.f (k + 1) a0) := by
 intro a0 k; have ih0 := spec_DirsOk.mono_l k; unfold spec_DirsOk.f
 repeat' first
   | (with_reducible first | exact ih0 _ _ | exact spec_ArgsOk.mono _ _ | exact spec_NameOk.mono _ _ | exact LeO.refl _ | exact LeO.none _ | refine LeO.ite ?_ ?_ | refine LeO.bind ?_ (fun _ => ?_))
   | exact ih0 _ _ | exact spec_ArgsOk.mono _ _ | exact spec_NameOk.mono _ _ | exact LeO.none _ | refine LeO.ite ?_ ?_ | refine LeO.bind ?_ (fun _ => ?_)
set_option maxHeartbeats 8000000 in
set_option maxRecDepth 100000 in
theorem spec_DirsOk.calls (k : Nat) (A0 : Option Addr) (c0 : Nat) (l0 : List (S38)) (r : Bool) (w : World) (hr0 : Kd.C k38 w A0 l0.length l0) (hc0 : l0.length ≤ c0) (h : spec_DirsOk.f k l0 = some r) :
  Calls Tryz.prog 10 #[.slice A0 l0.length c0] w fun e w' => e = .returned (.bool r) ∧ Below w.heap.size w w' := by
 have HR0 := Aside0.mk hr0; have HC0 := Aside0.mk hc0; clear hr0 hc0; have HB := Aside0.mk (Below.refl w.heap.size w); have H : (spec_DirsOk.l0 k l0 0) = some r := h; clear h
 have H' := Aside0.mk H
 clear H
 go_enter Tryz.func10, Tryz.ntmps10
 go_wp2
 go_loopg [3] k (fun kq v3 w' => ∃ (x3_1 : Int), v3 = .int .i64 x3_1 ∧ Aside0 (spec_DirsOk.l0 kq l0 x3_1 = some r) ∧ Aside0 (kq ≤ k) ∧ Aside0 (Below w.heap.size w w'))
 case atStart => exact ⟨(0), enA, H', ⟨Nat.le_refl _⟩, ⟨belB HB⟩⟩
 case round =>
  clear H'
  try clear c1
  obtain ⟨x3_1, rfl, HA, HK1, HB⟩ := hrel
  cases gk with
  | zero => exact absurd HA.out (by simp [spec_DirsOk.l0])
  | succ k1 =>
   have H := HA.out; clear HA
   simp only [spec_DirsOk.l0] at H
   by_cases c2 : x3_1 < (l0.length : Int)
   ·rw [if_pos c2] at H; have c2b0 := decide_eq_true c2; clear c2
    by_cases c3 : 0 ≤ x3_1
    ·rw [if_pos c3] at H; have c3b0 := decide_eq_true c3; clear c3; replace H := Option.bind_eq_some_iff.mp H; obtain ⟨t173, A40, H⟩ := H; replace H : (if t173 = true then ((spec_ArgsOk.f k1 ((rd_T38 l0 x3_1).f1)).bind fun t175 => (if t175 = true then (spec_DirsOk.l0 k1 l0 (wrap64 (x3_1 + 1))) else (some false))) else (some false)) = some r := H; have A4 := Aside0.mk A40; clear A40
     by_cases c5 : t173 = true
     ·subst c5
      have H1 : ((spec_ArgsOk.f k1 ((rd_T38 l0 x3_1).f1)).bind fun t175 => (if t175 = true then (spec_DirsOk.l0 k1 l0 (wrap64 (x3_1 + 1))) else (some false))) = some r := by rw [if_pos rfl] at H; exact H
      clear H; have H := H1; clear H1; replace H := Option.bind_eq_some_iff.mp H; obtain ⟨t175, A60, H⟩ := H; replace H : (if t175 = true then (spec_DirsOk.l0 k1 l0 (wrap64 (x3_1 + 1))) else (some false)) = some r := H; have A6 := Aside0.mk A60; clear A60
      by_cases c7 : t175 = true
      ·subst c7
       have H1 : (spec_DirsOk.l0 k1 l0 (wrap64 (x3_1 + 1))) = some r := by rw [if_pos rfl] at H; exact H
       clear H; have H := H1; clear H1
       have H' := Aside0.mk H
       clear H; have p172 : 0 ≤ (x3_1 : Int) := odA; have q172 : x3_1 < (l0.length : Int) := odA; obtain ⟨ad172, A172_1, c172_1, e172, hx172_0, hx172_1, hl172_1, hi172_1⟩ := at_T38 HR0.out x3_1 p172 q172
       cases e172
       (try replace hx172_0 := celB HB hx172_0)
       (try replace hx172_1 := celB HB hx172_1)
       have HR172_1 := Aside0.mk hi172_1; have HC172_1 := Aside0.mk hl172_1; clear hi172_1 hl172_1; replace p172 := eq_true p172; replace q172 := eq_true q172
       go_wp2_with (first | ((with_reducible refine gate_callee (f := 17) rfl ?_); refine goesL_ (some 15) rfl rfl Tryz.func17 (by kernel_rfl) rfl #[.string ((rd_T38 l0 x3_1).f0)] rfl mapA ?_; (with_reducible refine (spec_NameOk.calls k1 ((rd_T38 l0 x3_1).f0) true _ A4.out).mono ?_); rintro e w' ⟨rfl, ⟨nd, rfl⟩⟩; refine ⟨_, rfl, ?_⟩; have p174 : 0 ≤ (x3_1 : Int) := odA; have q174 : x3_1 < (l0.length : Int) := odA; obtain ⟨ad174, A174_1, c174_1, e174, hx174_0, hx174_1, hl174_1, hi174_1⟩ := at_T38 HR0.out x3_1 p174 q174; obtain rfl : ad172 = ad174 := (by injection e174); replace hx174_0 := (HB.out.cell (World.block_lt_of_cell? w _ hx174_0)).trans hx174_0; replace hx174_1 := (HB.out.cell (World.block_lt_of_cell? w _ hx174_1)).trans hx174_1; have HR174_1 := Aside0.mk hi174_1; have HC174_1 := Aside0.mk hl174_1; clear hi174_1 hl174_1; replace p174 := eq_true p174; replace q174 := eq_true q174; have ea_ := Option.some.inj (hx172_1.symm.trans hx174_1); injection ea_ with ea_ en_ ec_; subst ea_; subst ec_; clear en_) | (go_at_call 18; (with_reducible refine (spec_ArgsOk.calls k1 _ _ ((rd_T38 l0 x3_1).f1) true _ ?side1 ?side2 A6.out).mono ?_); (case side1 => repeat (first | exact (Kd.C_below HR174_1.out (belB HB)) | (with_reducible refine Kd.C_alloc ?_ _) | (with_reducible refine Kd.C_drewN ?_ _) | (with_reducible refine Kd.C_drew ?_))); (case side2 => exact HC174_1.out); rintro e w8 ⟨rfl, hb⟩; replace HB := Aside0.mk (below_step (belB HB) hb); (try clear hb)))
       go_roundg k1
       case measure => have := HK1.out; omega
       case rel => exact ⟨(wrap64 (x3_1 + 1)), enA, H', ⟨by have := HK1.out; omega⟩, ⟨belB HB⟩⟩
      ·replace c7 := Bool.eq_false_iff.mpr c7; subst c7
       have H1 : (some false) = some r := by rw [if_neg (show ¬ (false = true) by decide)] at H; exact H
       clear H; have H := H1; clear H1; obtain rfl := Option.some.inj H; have p172 : 0 ≤ (x3_1 : Int) := odA; have q172 : x3_1 < (l0.length : Int) := odA; obtain ⟨ad172, A172_1, c172_1, e172, hx172_0, hx172_1, hl172_1, hi172_1⟩ := at_T38 HR0.out x3_1 p172 q172
       cases e172
       (try replace hx172_0 := celB HB hx172_0)
       (try replace hx172_1 := celB HB hx172_1)
       have HR172_1 := Aside0.mk hi172_1; have HC172_1 := Aside0.mk hl172_1; clear hi172_1 hl172_1; replace p172 := eq_true p172; replace q172 := eq_true q172
       go_wp2_with (first | ((with_reducible refine gate_callee (f := 17) rfl ?_); refine goesL_ (some 15) rfl rfl Tryz.func17 (by kernel_rfl) rfl #[.string ((rd_T38 l0 x3_1).f0)] rfl mapA ?_; (with_reducible refine (spec_NameOk.calls k1 ((rd_T38 l0 x3_1).f0) true _ A4.out).mono ?_); rintro e w' ⟨rfl, ⟨nd, rfl⟩⟩; refine ⟨_, rfl, ?_⟩; have p174 : 0 ≤ (x3_1 : Int) := odA; have q174 : x3_1 < (l0.length : Int) := odA; obtain ⟨ad174, A174_1, c174_1, e174, hx174_0, hx174_1, hl174_1, hi174_1⟩ := at_T38 HR0.out x3_1 p174 q174; obtain rfl : ad172 = ad174 := (by injection e174); replace hx174_0 := (HB.out.cell (World.block_lt_of_cell? w _ hx174_0)).trans hx174_0; replace hx174_1 := (HB.out.cell (World.block_lt_of_cell? w _ hx174_1)).trans hx174_1; have HR174_1 := Aside0.mk hi174_1; have HC174_1 := Aside0.mk hl174_1; clear hi174_1 hl174_1; replace p174 := eq_true p174; replace q174 := eq_true q174; have ea_ := Option.some.inj (hx172_1.symm.trans hx174_1); injection ea_ with ea_ en_ ec_; subst ea_; subst ec_; clear en_) | (go_at_call 18; (with_reducible refine (spec_ArgsOk.calls k1 _ _ ((rd_T38 l0 x3_1).f1) false _ ?side1 ?side2 A6.out).mono ?_); (case side1 => repeat (first | exact (Kd.C_below HR174_1.out (belB HB)) | (with_reducible refine Kd.C_alloc ?_ _) | (with_reducible refine Kd.C_drewN ?_ _) | (with_reducible refine Kd.C_drew ?_))); (case side2 => exact HC174_1.out); rintro e w9 ⟨rfl, hb⟩; replace HB := Aside0.mk (below_step (belB HB) hb); (try clear hb)))
       go_ret
       exact ⟨erA, belB HB⟩
     ·replace c5 := Bool.eq_false_iff.mpr c5; subst c5
      have H1 : (some false) = some r := by rw [if_neg (show ¬ (false = true) by decide)] at H; exact H
      clear H; have H := H1; clear H1; obtain rfl := Option.some.inj H; have p172 : 0 ≤ (x3_1 : Int) := odA; have q172 : x3_1 < (l0.length : Int) := odA; obtain ⟨ad172, A172_1, c172_1, e172, hx172_0, hx172_1, hl172_1, hi172_1⟩ := at_T38 HR0.out x3_1 p172 q172
      cases e172
      (try replace hx172_0 := celB HB hx172_0)
      (try replace hx172_1 := celB HB hx172_1)
      have HR172_1 := Aside0.mk hi172_1; have HC172_1 := Aside0.mk hl172_1; clear hi172_1 hl172_1; replace p172 := eq_true p172; replace q172 := eq_true q172
      go_wp2_with (first | ((with_reducible refine gate_callee (f := 17) rfl ?_); refine goesL_ (some 15) rfl rfl Tryz.func17 (by kernel_rfl) rfl #[.string ((rd_T38 l0 x3_1).f0)] rfl mapA ?_; (with_reducible refine (spec_NameOk.calls k1 ((rd_T38 l0 x3_1).f0) false _ A4.out).mono ?_); rintro e w' ⟨rfl, ⟨nd, rfl⟩⟩; refine ⟨_, rfl, ?_⟩))
      go_ret
      exact ⟨erA, belB HB⟩
    ·rw [if_neg c3] at H
     exact absurd H (by simp)
   ·rw [if_neg c2] at H; have c2b0 := decide_eq_false c2; clear c2; obtain rfl := Option.some.inj H
    go_wp2
    go_ret
    exact ⟨erA, belB HB⟩

end Go.Proofs.YtjhagdjjlgjlbaaGreatDoor.OFnExactDirsText
-- narrow
