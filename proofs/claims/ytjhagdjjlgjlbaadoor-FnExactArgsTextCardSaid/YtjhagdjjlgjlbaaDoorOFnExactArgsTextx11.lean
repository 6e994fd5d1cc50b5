/- The machine side of one law, written by a program. -/
import Derived.Test.YtjhagdjjlgjlbaaDoorOFnExactArgsTextx0
import Derived.Test.YtjhagdjjlgjlbaaDoorOFnExactArgsTextx4
import Derived.Test.YtjhagdjjlgjlbaaDoorOFnExactArgsTextx10
namespace Go.Proofs.YtjhagdjjlgjlbaaDoor.OFnExactArgsText
open Go.Proofs.YtjhagdjjlgjlbaaDoor.GlU Go.Proofs.YtjhagdjjlgjlbaaDoor.Ix
open Go.RowKit Go.Proofs.YtjhagdjjlgjlbaaDoorW.PrintWords Go.Proofs.YtjhagdjjlgjlbaaDoorW.PrintLast Go.Proofs.YtjhagdjjlgjlbaaDoorW.PrintMore
attribute [local go_sem] max2_int min2_int max_two min_two max_three min_three max_four min_four
set_option linter.unusedVariables false
set_option linter.unusedSimpArgs false

def spec_ValueOk.f (k : Nat) (a0_0 : Int) (a0_1 : ByteArray) (l0_2 : List (S37)) (l0_3 : List ByteArray) : Option (Bool) := (spec_l07Right.f k a0_0 a0_1 l0_2 l0_3 10).bind fun t230 => (some t230)
theorem spec_ValueOk.mono : ∀ a0 a1 a2 a3 k, LeO (spec_ValueOk.f k a0 a1 a2 a3) (spec_ValueOk.f (k + 1) a0 a1 a2 a3) := by
 intro a0 a1 a2 a3 k; unfold spec_ValueOk.f
 repeat' first
   | (with_reducible first | exact spec_l07Right.mono _ _ _ _ _ _ | exact LeO.refl _ | exact LeO.none _ | refine LeO.ite ?_ ?_ | refine LeO.bind ?_ (fun _ => ?_))
   | exact spec_l07Right.mono _ _ _ _ _ _ | exact LeO.none _ | refine LeO.ite ?_ ?_ | refine LeO.bind ?_ (fun _ => ?_)
set_option maxHeartbeats 8000000 in
set_option maxRecDepth 100000 in
theorem spec_ValueOk.calls (k : Nat) (a0_0 : Int) (a0_1 : ByteArray) (A0_2 : Option Addr) (c0_2 : Nat) (l0_2 : List (S37)) (A0_3 : Option Addr) (c0_3 : Nat) (l0_3 : List ByteArray) (r : Bool) (w : World) (hr0_2 : Kd.C k37 w A0_2 l0_2.length l0_2) (hc0_2 : l0_2.length ≤ c0_2) (hr0_3 : Kd.C Kd.string w A0_3 l0_3.length l0_3) (hc0_3 : l0_3.length ≤ c0_3) (h : spec_ValueOk.f k a0_0 a0_1 l0_2 l0_3 = some r) :
  Calls Tryd.prog 14 #[.agg #[.int .i64 a0_0, .string a0_1, .slice A0_2 l0_2.length c0_2, .slice A0_3 l0_3.length c0_3]] w fun e w' => e = .returned (.bool r) ∧ Below w.heap.size w w' := by
 have hu37 := Tryd.underlying37; have HR0_2 := Aside0.mk hr0_2; have HC0_2 := Aside0.mk hc0_2; clear hr0_2 hc0_2; have HR0_3 := Aside0.mk hr0_3; have HC0_3 := Aside0.mk hc0_3; clear hr0_3 hc0_3; have HB := Aside0.mk (Below.refl w.heap.size w); have H : ((spec_l07Right.f k a0_0 a0_1 l0_2 l0_3 10).bind fun t230 => (some t230)) = some r := h; clear h; replace H := Option.bind_eq_some_iff.mp H; obtain ⟨t230, A20, H⟩ := H; replace H : (some t230) = some r := H; have A2 := Aside0.mk A20; clear A20; obtain rfl := Option.some.inj H
 go_enter Tryd.func14, Tryd.ntmps14
 go_wp2_with (first | ((with_reducible refine gate_dst (N := 1) rfl ?_); refine boxE (N := 1) (cs := #[.int .i64 a0_0, .string a0_1, .slice A0_2 l0_2.length c0_2, .slice A0_3 l0_3.length c0_3]) (t := 37) ?_; intro gb229 hg w3 hbox hb; have BK229 := Aside0.mk (hbox); have GW229 := Aside0.mk ((gbA (w := w) HB hg)); have GE229 := Aside0.mk ((gbA (w := w) HB hg)); replace HB := Aside0.mk (below_step (belB HB) hb); clear hb hbox hg; obtain ⟨hcz4_0, hcz4_1, hcz4_2, hcz4_3, hfz4_0, hfz4_1, hfz4_2, hfz4_3⟩ := cef4 BK229.out) | ((with_reducible refine gate_callee (f := 44) rfl ?_); refine goesL_ (some 4) rfl rfl Tryd.func44 (by kernel_rfl) rfl #[.agg #[.int .i64 a0_0, .string a0_1, .slice A0_2 l0_2.length c0_2, .slice A0_3 l0_3.length c0_3], .int .i64 10] rfl mapA ?_; (with_reducible refine (spec_l07Right.calls k a0_0 a0_1 _ _ l0_2 _ _ l0_3 10 t230 _ ?side1 ?side2 ?side3 ?side4 A2.out).mono ?_); (case side1 => exact cbA HR0_2 HB); (case side2 => exact HC0_2.out); (case side3 => exact cbA HR0_3 HB); (case side4 => exact HC0_3.out); rintro e w5 ⟨rfl, hb⟩; refine ⟨_, rfl, ?_⟩; replace BK229 := Aside0.mk (bBA BK229 hb); replace HB := Aside0.mk (below_step (belS HB GE229) hb); (try clear hb)))
 go_ret
 exact ⟨erA, belS HB GE229⟩

def spec_ArgsOk.l0 : Nat → List (S70) → Int → Option (Bool)
 | 0, _, _ => none
 | k + 1, x0, x3 => if x3 < (x0.length : Int) then (if 0 ≤ x3 then ((spec_NameOk.f k ((rd_T70 x0 x3).f0)).bind fun t232 => (if t232 = true then ((spec_ValueOk.f k ((rd_T70 x0 x3).f1.f0) ((rd_T70 x0 x3).f1.f1) ((rd_T70 x0 x3).f1.f2) ((rd_T70 x0 x3).f1.f3)).bind fun t234 => (if t234 = true then (spec_ArgsOk.l0 k x0 (wrap64 (x3 + 1))) else (some false))) else (some false))) else (none)) else (some true)
def spec_ArgsOk.f (k : Nat) (l0 : List (S70)) : Option (Bool) := spec_ArgsOk.l0 k l0 0
theorem spec_ArgsOk.mono_l : ∀ k, (∀ y0 y1, LeO (spec_ArgsOk.l0 k y0 y1) (spec_ArgsOk.l0 (k + 1) y0 y1))
 | 0 => fun _ _ r h => by simp [spec_ArgsOk.l0] at h
 | k + 1 => by
  have ih0 := spec_ArgsOk.mono_l k
  ·intro y0 y1; unfold spec_ArgsOk.l0
   repeat' first
   | (with_reducible first | exact ih0 _ _ | exact spec_NameOk.mono _ _ | exact spec_ValueOk.mono _ _ _ _ _ | exact LeO.refl _ | exact LeO.none _ | refine LeO.ite ?_ ?_ | refine LeO.bind ?_ (fun _ => ?_))
   | exact ih0 _ _ | exact spec_NameOk.mono _ _ | exact spec_ValueOk.mono _ _ _ _ _ | exact LeO.none _ | refine LeO.ite ?_ ?_ | refine LeO.bind ?_ (fun _ => ?_)
theorem spec_ArgsOk.mono : ∀ a0 k, LeO (spec_ArgsOk.f k a0) (spec_ArgsOk.f (k + 1) a0) := by
 intro a0 k; have ih0 := spec_ArgsOk.mono_l k; unfold spec_ArgsOk.f
 repeat' first
   | (with_reducible first | exact ih0 _ _ | exact spec_NameOk.mono _ _ | exact spec_ValueOk.mono _ _ _ _ _ | exact LeO.refl _ | exact LeO.none _ | refine LeO.ite ?_ ?_ | refine LeO.bind ?_ (fun _ => ?_))
   | exact ih0 _ _ | exact spec_NameOk.mono _ _ | exact spec_ValueOk.mono _ _ _ _ _ | exact LeO.none _ | refine LeO.ite ?_ ?_ | refine LeO.bind ?_ (fun _ => ?_)
set_option maxHeartbeats 8000000 in
set_option maxRecDepth 100000 in
theorem spec_ArgsOk.calls (k : Nat) (A0 : Option Addr) (c0 : Nat) (l0 : List (S70)) (r : Bool) (w : World) (hr0 : Kd.C k70 w A0 l0.length l0) (hc0 : l0.length ≤ c0) (h : spec_ArgsOk.f k l0 = some r) :
  Calls Tryd.prog 19 #[.slice A0 l0.length c0] w fun e w' => e = .returned (.bool r) ∧ Below w.heap.size w w' := by
 have hu37 := Tryd.underlying37; have HR0 := Aside0.mk hr0; have HC0 := Aside0.mk hc0; clear hr0 hc0; have HB := Aside0.mk (Below.refl w.heap.size w); have H : (spec_ArgsOk.l0 k l0 0) = some r := h; clear h
 have H' := Aside0.mk H
 clear H
 go_enter Tryd.func19, Tryd.ntmps19
 go_wp2
 go_loopg [3] k (fun kq v3 w' => ∃ (x3_1 : Int), v3 = .int .i64 x3_1 ∧ Aside0 (spec_ArgsOk.l0 kq l0 x3_1 = some r) ∧ Aside0 (kq ≤ k) ∧ Aside0 (Below w.heap.size w w'))
 case atStart => exact ⟨(0), enA, H', ⟨Nat.le_refl _⟩, ⟨belB HB⟩⟩
 case round =>
  clear H'
  try clear c1
  obtain ⟨x3_1, rfl, HA, HK1, HB⟩ := hrel
  cases gk with
  | zero => exact absurd HA.out (by simp [spec_ArgsOk.l0])
  | succ k1 =>
   have H := HA.out; clear HA
   simp only [spec_ArgsOk.l0] at H
   by_cases c2 : x3_1 < (l0.length : Int)
   ·rw [if_pos c2] at H; have c2b0 := decide_eq_true c2; clear c2
    by_cases c3 : 0 ≤ x3_1
    ·rw [if_pos c3] at H; have c3b0 := decide_eq_true c3; clear c3; replace H := Option.bind_eq_some_iff.mp H; obtain ⟨t232, A40, H⟩ := H; replace H : (if t232 = true then ((spec_ValueOk.f k1 ((rd_T70 l0 x3_1).f1.f0) ((rd_T70 l0 x3_1).f1.f1) ((rd_T70 l0 x3_1).f1.f2) ((rd_T70 l0 x3_1).f1.f3)).bind fun t234 => (if t234 = true then (spec_ArgsOk.l0 k1 l0 (wrap64 (x3_1 + 1))) else (some false))) else (some false)) = some r := H; have A4 := Aside0.mk A40; clear A40
     by_cases c5 : t232 = true
     ·subst c5
      have H1 : ((spec_ValueOk.f k1 ((rd_T70 l0 x3_1).f1.f0) ((rd_T70 l0 x3_1).f1.f1) ((rd_T70 l0 x3_1).f1.f2) ((rd_T70 l0 x3_1).f1.f3)).bind fun t234 => (if t234 = true then (spec_ArgsOk.l0 k1 l0 (wrap64 (x3_1 + 1))) else (some false))) = some r := by rw [if_pos rfl] at H; exact H
      clear H; have H := H1; clear H1; replace H := Option.bind_eq_some_iff.mp H; obtain ⟨t234, A60, H⟩ := H; replace H : (if t234 = true then (spec_ArgsOk.l0 k1 l0 (wrap64 (x3_1 + 1))) else (some false)) = some r := H; have A6 := Aside0.mk A60; clear A60
      by_cases c7 : t234 = true
      ·subst c7
       have H1 : (spec_ArgsOk.l0 k1 l0 (wrap64 (x3_1 + 1))) = some r := by rw [if_pos rfl] at H; exact H
       clear H; have H := H1; clear H1
       have H' := Aside0.mk H
       clear H; have p231 : 0 ≤ (x3_1 : Int) := odA; have q231 : x3_1 < (l0.length : Int) := odA; obtain ⟨ad231, A231_3, c231_3, A231_4, c231_4, e231, hx231_0, hx231_1, hx231_2, hx231_3, hx231_4, hl231_3, hi231_3, hl231_4, hi231_4⟩ := at_T70 HR0.out x3_1 p231 q231
       cases e231
       (try replace hx231_0 := celB HB hx231_0)
       (try replace hx231_1 := celB HB hx231_1)
       (try replace hx231_2 := celB HB hx231_2)
       (try replace hx231_3 := celB HB hx231_3)
       (try replace hx231_4 := celB HB hx231_4)
       have HR231_3 := Aside0.mk hi231_3; have HC231_3 := Aside0.mk hl231_3; clear hi231_3 hl231_3; have HR231_4 := Aside0.mk hi231_4; have HC231_4 := Aside0.mk hl231_4; clear hi231_4 hl231_4; replace p231 := eq_true p231; replace q231 := eq_true q231
       go_wp2_with (first | ((with_reducible refine gate_callee (f := 33) rfl ?_); refine goesL_ (some 15) rfl rfl Tryd.func33 (by kernel_rfl) rfl #[.string ((rd_T70 l0 x3_1).f0)] rfl mapA ?_; (with_reducible refine (spec_NameOk.calls k1 ((rd_T70 l0 x3_1).f0) true _ A4.out).mono ?_); rintro e w' ⟨rfl, ⟨nd, rfl⟩⟩; refine ⟨_, rfl, ?_⟩; have p233 : 0 ≤ (x3_1 : Int) := odA; have q233 : x3_1 < (l0.length : Int) := odA; obtain ⟨ad233, A233_3, c233_3, A233_4, c233_4, e233, hx233_0, hx233_1, hx233_2, hx233_3, hx233_4, hl233_3, hi233_3, hl233_4, hi233_4⟩ := at_T70 HR0.out x3_1 p233 q233; obtain rfl : ad231 = ad233 := (by injection e233); replace hx233_0 := (HB.out.cell (World.block_lt_of_cell? w _ hx233_0)).trans hx233_0; replace hx233_1 := (HB.out.cell (World.block_lt_of_cell? w _ hx233_1)).trans hx233_1; replace hx233_2 := (HB.out.cell (World.block_lt_of_cell? w _ hx233_2)).trans hx233_2; replace hx233_3 := (HB.out.cell (World.block_lt_of_cell? w _ hx233_3)).trans hx233_3; replace hx233_4 := (HB.out.cell (World.block_lt_of_cell? w _ hx233_4)).trans hx233_4; have HR233_3 := Aside0.mk hi233_3; have HC233_3 := Aside0.mk hl233_3; clear hi233_3 hl233_3; have HR233_4 := Aside0.mk hi233_4; have HC233_4 := Aside0.mk hl233_4; clear hi233_4 hl233_4; replace p233 := eq_true p233; replace q233 := eq_true q233; have ea_ := Option.some.inj (hx231_3.symm.trans hx233_3); injection ea_ with ea_ en_ ec_; subst ea_; subst ec_; clear en_; have ea_ := Option.some.inj (hx231_4.symm.trans hx233_4); injection ea_ with ea_ en_ ec_; subst ea_; subst ec_; clear en_) | (go_at_call 14; (with_reducible refine (spec_ValueOk.calls k1 ((rd_T70 l0 x3_1).f1.f0) ((rd_T70 l0 x3_1).f1.f1) _ _ ((rd_T70 l0 x3_1).f1.f2) _ _ ((rd_T70 l0 x3_1).f1.f3) true _ ?side1 ?side2 ?side3 ?side4 A6.out).mono ?_); (case side1 => repeat (first | exact (Kd.C_below HR233_3.out (belB HB)) | (with_reducible refine Kd.C_alloc ?_ _) | (with_reducible refine Kd.C_drewN ?_ _) | (with_reducible refine Kd.C_drew ?_))); (case side2 => exact HC233_3.out); (case side3 => repeat (first | exact (Kd.C_below HR233_4.out (belB HB)) | (with_reducible refine Kd.C_alloc ?_ _) | (with_reducible refine Kd.C_drewN ?_ _) | (with_reducible refine Kd.C_drew ?_))); (case side4 => exact HC233_4.out); rintro e w8 ⟨rfl, hb⟩; replace HB := Aside0.mk (below_step (belB HB) hb); (try clear hb)))
       go_roundg k1
       case measure => have := HK1.out; omega
       case rel => exact ⟨(wrap64 (x3_1 + 1)), enA, H', ⟨by have := HK1.out; omega⟩, ⟨belB HB⟩⟩
      ·replace c7 := Bool.eq_false_iff.mpr c7; subst c7
       have H1 : (some false) = some r := by rw [if_neg (show ¬ (false = true) by decide)] at H; exact H
       clear H; have H := H1; clear H1; obtain rfl := Option.some.inj H; have p231 : 0 ≤ (x3_1 : Int) := odA; have q231 : x3_1 < (l0.length : Int) := odA; obtain ⟨ad231, A231_3, c231_3, A231_4, c231_4, e231, hx231_0, hx231_1, hx231_2, hx231_3, hx231_4, hl231_3, hi231_3, hl231_4, hi231_4⟩ := at_T70 HR0.out x3_1 p231 q231
       cases e231
       (try replace hx231_0 := celB HB hx231_0)
       (try replace hx231_1 := celB HB hx231_1)
       (try replace hx231_2 := celB HB hx231_2)
       (try replace hx231_3 := celB HB hx231_3)
       (try replace hx231_4 := celB HB hx231_4)
       have HR231_3 := Aside0.mk hi231_3; have HC231_3 := Aside0.mk hl231_3; clear hi231_3 hl231_3; have HR231_4 := Aside0.mk hi231_4; have HC231_4 := Aside0.mk hl231_4; clear hi231_4 hl231_4; replace p231 := eq_true p231; replace q231 := eq_true q231
       go_wp2_with (first | ((with_reducible refine gate_callee (f := 33) rfl ?_); refine goesL_ (some 15) rfl rfl Tryd.func33 (by kernel_rfl) rfl #[.string ((rd_T70 l0 x3_1).f0)] rfl mapA ?_; (with_reducible refine (spec_NameOk.calls k1 ((rd_T70 l0 x3_1).f0) true _ A4.out).mono ?_); rintro e w' ⟨rfl, ⟨nd, rfl⟩⟩; refine ⟨_, rfl, ?_⟩; have p233 : 0 ≤ (x3_1 : Int) := odA; have q233 : x3_1 < (l0.length : Int) := odA; obtain ⟨ad233, A233_3, c233_3, A233_4, c233_4, e233, hx233_0, hx233_1, hx233_2, hx233_3, hx233_4, hl233_3, hi233_3, hl233_4, hi233_4⟩ := at_T70 HR0.out x3_1 p233 q233; obtain rfl : ad231 = ad233 := (by injection e233); replace hx233_0 := (HB.out.cell (World.block_lt_of_cell? w _ hx233_0)).trans hx233_0; replace hx233_1 := (HB.out.cell (World.block_lt_of_cell? w _ hx233_1)).trans hx233_1; replace hx233_2 := (HB.out.cell (World.block_lt_of_cell? w _ hx233_2)).trans hx233_2; replace hx233_3 := (HB.out.cell (World.block_lt_of_cell? w _ hx233_3)).trans hx233_3; replace hx233_4 := (HB.out.cell (World.block_lt_of_cell? w _ hx233_4)).trans hx233_4; have HR233_3 := Aside0.mk hi233_3; have HC233_3 := Aside0.mk hl233_3; clear hi233_3 hl233_3; have HR233_4 := Aside0.mk hi233_4; have HC233_4 := Aside0.mk hl233_4; clear hi233_4 hl233_4; replace p233 := eq_true p233; replace q233 := eq_true q233; have ea_ := Option.some.inj (hx231_3.symm.trans hx233_3); injection ea_ with ea_ en_ ec_; subst ea_; subst ec_; clear en_; have ea_ := Option.some.inj (hx231_4.symm.trans hx233_4); injection ea_ with ea_ en_ ec_; subst ea_; subst ec_; clear en_) | (go_at_call 14; (with_reducible refine (spec_ValueOk.calls k1 ((rd_T70 l0 x3_1).f1.f0) ((rd_T70 l0 x3_1).f1.f1) _ _ ((rd_T70 l0 x3_1).f1.f2) _ _ ((rd_T70 l0 x3_1).f1.f3) false _ ?side1 ?side2 ?side3 ?side4 A6.out).mono ?_); (case side1 => repeat (first | exact (Kd.C_below HR233_3.out (belB HB)) | (with_reducible refine Kd.C_alloc ?_ _) | (with_reducible refine Kd.C_drewN ?_ _) | (with_reducible refine Kd.C_drew ?_))); (case side2 => exact HC233_3.out); (case side3 => repeat (first | exact (Kd.C_below HR233_4.out (belB HB)) | (with_reducible refine Kd.C_alloc ?_ _) | (with_reducible refine Kd.C_drewN ?_ _) | (with_reducible refine Kd.C_drew ?_))); (case side4 => exact HC233_4.out); rintro e w9 ⟨rfl, hb⟩; replace HB := Aside0.mk (below_step (belB HB) hb); (try clear hb)))
       go_ret
       exact ⟨erA, belB HB⟩
     ·replace c5 := Bool.eq_false_iff.mpr c5; subst c5
      have H1 : (some false) = some r := by rw [if_neg (show ¬ (false = true) by decide)] at H; exact H
      clear H; have H := H1; clear H1; obtain rfl := Option.some.inj H; have p231 : 0 ≤ (x3_1 : Int) := odA; have q231 : x3_1 < (l0.length : Int) := odA; obtain ⟨ad231, A231_3, c231_3, A231_4, c231_4, e231, hx231_0, hx231_1, hx231_2, hx231_3, hx231_4, hl231_3, hi231_3, hl231_4, hi231_4⟩ := at_T70 HR0.out x3_1 p231 q231
      cases e231
      (try replace hx231_0 := celB HB hx231_0)
      (try replace hx231_1 := celB HB hx231_1)
      (try replace hx231_2 := celB HB hx231_2)
      (try replace hx231_3 := celB HB hx231_3)
      (try replace hx231_4 := celB HB hx231_4)
      have HR231_3 := Aside0.mk hi231_3; have HC231_3 := Aside0.mk hl231_3; clear hi231_3 hl231_3; have HR231_4 := Aside0.mk hi231_4; have HC231_4 := Aside0.mk hl231_4; clear hi231_4 hl231_4; replace p231 := eq_true p231; replace q231 := eq_true q231
      go_wp2_with (first | ((with_reducible refine gate_callee (f := 33) rfl ?_); refine goesL_ (some 15) rfl rfl Tryd.func33 (by kernel_rfl) rfl #[.string ((rd_T70 l0 x3_1).f0)] rfl mapA ?_; (with_reducible refine (spec_NameOk.calls k1 ((rd_T70 l0 x3_1).f0) false _ A4.out).mono ?_); rintro e w' ⟨rfl, ⟨nd, rfl⟩⟩; refine ⟨_, rfl, ?_⟩))
      go_ret
      exact ⟨erA, belB HB⟩
    ·rw [if_neg c3] at H
     exact absurd H (by simp)
   ·rw [if_neg c2] at H; have c2b0 := decide_eq_false c2; clear c2; obtain rfl := Option.some.inj H
    go_wp2
    go_ret
    exact ⟨erA, belB HB⟩

end Go.Proofs.YtjhagdjjlgjlbaaDoor.OFnExactArgsText
-- narrow
