/- The machine side of one law, written by a program. -/
import Derived.Test.YtjhagdjjlgjlbaaGreatDoorOFnExactDirsTextx0
import Derived.Test.YtjhagdjjlgjlbaaGreatDoorOFnExactDirsTextx12
import Derived.Test.YtjhagdjjlgjlbaaGreatDoorOFnExactDirsTextx13
import Derived.Test.YtjhagdjjlgjlbaaGreatDoorOFnExactDirsTextx14
namespace Go.Proofs.YtjhagdjjlgjlbaaGreatDoor.OFnExactDirsText
open Go.Proofs.YtjhagdjjlgjlbaaGreatDoor.GlU Go.Proofs.YtjhagdjjlgjlbaaGreatDoor.Ix
open Go.RowKit Go.Proofs.YtjhagdjjlgjlbaaGreatDoorW.PrintWords Go.Proofs.YtjhagdjjlgjlbaaGreatDoorW.PrintLast Go.Proofs.YtjhagdjjlgjlbaaGreatDoorW.PrintMore
attribute [local go_sem] max2_int min2_int max_two min_two max_three min_three max_four min_four
set_option linter.unusedVariables false
set_option linter.unusedSimpArgs false

set_option maxHeartbeats 4000000 in
set_option maxRecDepth 100000 in
theorem impl_valueOk.N.index (p : ByteArray → Option Bool) (A0 : Option Addr) (c0 : Nat) (l0 : List ByteArray) (r : Int) (w : World) (hr0 : Kd.C Kd.string w A0 l0.length l0)
  (hp : ∀ (W : World) (x : ByteArray) (b : Bool), Below w.heap.size w W → p x = some b →
   Calls Tryz.prog 70 #[.string x] W fun e w' => e = .returned (.bool b) ∧ Below W.heap.size W w')
  (h : ixO p l0 0 = some r) :
  Calls Tryz.prog 87 #[.slice A0 l0.length c0, .func (.func 70) #[] #[]] w fun e w' => e = .returned (.int .i64 r) ∧ Below w.heap.size w w' := by
 have hlen := hr0.2.1; have HR0 := Aside0.mk hr0; clear hr0; have HP := Aside0.mk hp; clear hp; have HH := Aside0.mk h; clear h
 go_enter Tryz.func87, Tryz.ntmps87
 go_wp2
 go_loopg [5, 8] l0.length (fun gg _ s8 wr => ∃ x : Int, 0 ≤ x ∧ x ≤ l0.length ∧ l0.length - x.toNat ≤ gg ∧ s8 = .int .i64 x ∧ Aside0 (Below w.heap.size w wr) ∧ Aside0 (ixO p (l0.drop x.toNat) x = some r))
 case atStart => exact ⟨0, Int.le_refl _, by omega, by omega, rfl, ⟨Below.refl _ w⟩, HH⟩
 case round =>
  clear HH; obtain ⟨x, h0, hk, hg, rfl, HB, HX⟩ := hrel
  by_cases hlt : x < (l0.length : Int)
  ·have w0 : wrap64 (x + 1) = x + 1 := by unfold wrap64; omega
   obtain ⟨ad, e1, hx0⟩ := Kd.at_string HR0.out x h0 hlt
   cases e1
   replace hx0 := (HB.out.cell (World.block_lt_of_cell? w _ hx0)).trans hx0; have H : ((p (rdOf ByteArray.empty l0 x)).bind fun b => if b = true then some x else ixO p (l0.drop (x + 1).toNat) (x + 1)) = some r := (ixO_at ByteArray.empty p l0 x h0 hlt).symm.trans HX.out; obtain ⟨b, hb, H⟩ := Option.bind_eq_some_iff.1 H; have hC := Aside0.mk (HP.out wr (rdOf ByteArray.empty l0 x)  b HB.out  hb); clear hb  HX; have c6b0 : decide (x < (l0.length : Int)) = true := decide_eq_true hlt; have p115 : (0 ≤ x) = True := eq_true h0; have q115 : (x < (l0.length : Int)) = True := eq_true hlt; have HH0 := Aside0.mk h0; have HK := Aside0.mk hk; have HG := Aside0.mk hg; have HLT := Aside0.mk hlt; have W0 := Aside0.mk w0; clear h0 hk hg hlt w0
   cases b with
   | true =>
    replace H := Option.some.inj ((if_pos rfl).symm.trans H); subst H
    go_wp2_with (go_at_call 70; refine hC.out.mono ?_; rintro e w' ⟨rfl, hb'⟩)
    go_ret
    exact ⟨rfl, below_step HB.out hb'⟩
   | false =>
    replace H := (if_neg (by decide)).symm.trans H
    have HX := Aside0.mk H; clear H
    go_wp2_with (go_at_call 70; refine hC.out.mono ?_; rintro e w' ⟨rfl, hb'⟩)
    go_roundg (l0.length - (x + 1).toNat)
    case measure => have := HG.out; have := HLT.out; have := HH0.out; omega
    case rel => exact ⟨x + 1, by have := HH0.out; omega, by have := HLT.out; omega, by omega, by rw [W0.out], ⟨below_step HB.out hb'⟩, HX⟩
  ·have c6b0 : decide (x < (l0.length : Int)) = false := decide_eq_false hlt; have H := HX.out; rw [ixO_end p l0 x x hlt] at H; have H2 := Option.some.inj H; subst H2; clear H hlt HX
   go_wp2
   go_ret
   exact ⟨rfl, HB.out⟩

set_option maxHeartbeats 4000000 in
set_option maxRecDepth 100000 in
theorem impl_valueOk.N.contains (p : ByteArray → Option Bool) (A0 : Option Addr) (c0 : Nat) (l0 : List ByteArray) (r : Bool) (w : World) (hr0 : Kd.C Kd.string w A0 l0.length l0)
  (hp : ∀ (W : World) (x : ByteArray) (b : Bool), Below w.heap.size w W → p x = some b →
   Calls Tryz.prog 70 #[.string x] W fun e w' => e = .returned (.bool b) ∧ Below W.heap.size W w')
  (h : anyO p l0 = some r) :
  Calls Tryz.prog 69 #[.slice A0 l0.length c0, .func (.func 70) #[] #[]] w fun e w' => e = .returned (.bool r) ∧ Below w.heap.size w w' := by
 obtain ⟨t, ht, rfl⟩ := Option.map_eq_some_iff.1 h; clear h; have HR0 := Aside0.mk hr0; clear hr0; have HP := Aside0.mk hp; clear hp; have HH := Aside0.mk ht; clear ht
 go_enter Tryz.func69, Tryz.ntmps69
 go_wp2_with (go_at_call 87; refine (impl_valueOk.N.index  p A0 c0 l0 t _ HR0.out HP.out HH.out).mono ?_; rintro e w' ⟨rfl, hb'⟩)
 go_ret
 exact ⟨rfl, hb'⟩
set_option maxHeartbeats 4000000 in
set_option maxRecDepth 100000 in
theorem impl_valueOk.V.index (gd : Nat) (p : S52 → Option Bool) (A0 : Option Addr) (c0 : Nat) (l0 : List S52) (r : Int) (w : World) (hr0 : Kd.C k52 w A0 l0.length l0)
  (hp : ∀ (W : World) (x : S52) (A2 : Option Addr) (c2 : Nat) (A3 : Option Addr) (c3 : Nat) (b : Bool), Below w.heap.size w W → Kd.C k52 W A2 x.f2.length x.f2 → x.f2.length ≤ c2 → Kd.C Kd.string W A3 x.f3.length x.f3 → x.f3.length ≤ c3 → p x = some b →
   Calls Tryz.prog 72 #[.agg #[.int .i64 x.f0, .string x.f1, .slice A2 x.f2.length c2, .slice A3 x.f3.length c3], .pointer (some ⟨gd, 0, none⟩)] W fun e w' => e = .returned (.bool b) ∧ Below W.heap.size W w')
  (h : ixO p l0 0 = some r) :
  Calls Tryz.prog 88 #[.slice A0 l0.length c0, .func (.func 72) #[] #[.pointer (some ⟨gd, 0, none⟩)]] w fun e w' => e = .returned (.int .i64 r) ∧ Below w.heap.size w w' := by
 have hlen := hr0.2.1; have HR0 := Aside0.mk hr0; clear hr0; have HP := Aside0.mk hp; clear hp; have HH := Aside0.mk h; clear h
 go_enter Tryz.func88, Tryz.ntmps88
 go_wp2
 go_loopg [5, 8] l0.length (fun gg _ s8 wr => ∃ x : Int, 0 ≤ x ∧ x ≤ l0.length ∧ l0.length - x.toNat ≤ gg ∧ s8 = .int .i64 x ∧ Aside0 (Below w.heap.size w wr) ∧ Aside0 (ixO p (l0.drop x.toNat) x = some r))
 case atStart => exact ⟨0, Int.le_refl _, by omega, by omega, rfl, ⟨Below.refl _ w⟩, HH⟩
 case round =>
  clear HH; obtain ⟨x, h0, hk, hg, rfl, HB, HX⟩ := hrel
  by_cases hlt : x < (l0.length : Int)
  ·have w0 : wrap64 (x + 1) = x + 1 := by unfold wrap64; omega
   obtain ⟨ad, A2, c2, A3, c3, e1, hx0, hx1, hx2, hx3, hl2, hi2, hl3, hi3⟩ := at_T52 HR0.out x h0 hlt
   cases e1
   replace hx0 := (HB.out.cell (World.block_lt_of_cell? w _ hx0)).trans hx0; replace hx1 := (HB.out.cell (World.block_lt_of_cell? w _ hx1)).trans hx1; replace hx2 := (HB.out.cell (World.block_lt_of_cell? w _ hx2)).trans hx2; replace hx3 := (HB.out.cell (World.block_lt_of_cell? w _ hx3)).trans hx3; have H : ((p (rd_T52 l0 x)).bind fun b => if b = true then some x else ixO p (l0.drop (x + 1).toNat) (x + 1)) = some r := (ixO_at z52 p l0 x h0 hlt).symm.trans HX.out; obtain ⟨b, hb, H⟩ := Option.bind_eq_some_iff.1 H; have hC := Aside0.mk (HP.out wr (rd_T52 l0 x) A2 c2 A3 c3 b HB.out (Kd.C_below hi2 HB.out) hl2 (Kd.C_below hi3 HB.out) hl3 hb); clear hb hi2 hl2 hi3 hl3 HX; have c6b0 : decide (x < (l0.length : Int)) = true := decide_eq_true hlt; have p115 : (0 ≤ x) = True := eq_true h0; have q115 : (x < (l0.length : Int)) = True := eq_true hlt; have HH0 := Aside0.mk h0; have HK := Aside0.mk hk; have HG := Aside0.mk hg; have HLT := Aside0.mk hlt; have W0 := Aside0.mk w0; clear h0 hk hg hlt w0
   cases b with
   | true =>
    replace H := Option.some.inj ((if_pos rfl).symm.trans H); subst H
    go_wp2_with (go_at_call 72; refine hC.out.mono ?_; rintro e w' ⟨rfl, hb'⟩)
    go_ret
    exact ⟨rfl, below_step HB.out hb'⟩
   | false =>
    replace H := (if_neg (by decide)).symm.trans H
    have HX := Aside0.mk H; clear H
    go_wp2_with (go_at_call 72; refine hC.out.mono ?_; rintro e w' ⟨rfl, hb'⟩)
    go_roundg (l0.length - (x + 1).toNat)
    case measure => have := HG.out; have := HLT.out; have := HH0.out; omega
    case rel => exact ⟨x + 1, by have := HH0.out; omega, by have := HLT.out; omega, by omega, by rw [W0.out], ⟨below_step HB.out hb'⟩, HX⟩
  ·have c6b0 : decide (x < (l0.length : Int)) = false := decide_eq_false hlt; have H := HX.out; rw [ixO_end p l0 x x hlt] at H; have H2 := Option.some.inj H; subst H2; clear H hlt HX
   go_wp2
   go_ret
   exact ⟨rfl, HB.out⟩

set_option maxHeartbeats 4000000 in
set_option maxRecDepth 100000 in
theorem impl_valueOk.V.contains (gd : Nat) (p : S52 → Option Bool) (A0 : Option Addr) (c0 : Nat) (l0 : List S52) (r : Bool) (w : World) (hr0 : Kd.C k52 w A0 l0.length l0)
  (hp : ∀ (W : World) (x : S52) (A2 : Option Addr) (c2 : Nat) (A3 : Option Addr) (c3 : Nat) (b : Bool), Below w.heap.size w W → Kd.C k52 W A2 x.f2.length x.f2 → x.f2.length ≤ c2 → Kd.C Kd.string W A3 x.f3.length x.f3 → x.f3.length ≤ c3 → p x = some b →
   Calls Tryz.prog 72 #[.agg #[.int .i64 x.f0, .string x.f1, .slice A2 x.f2.length c2, .slice A3 x.f3.length c3], .pointer (some ⟨gd, 0, none⟩)] W fun e w' => e = .returned (.bool b) ∧ Below W.heap.size W w')
  (h : anyO p l0 = some r) :
  Calls Tryz.prog 71 #[.slice A0 l0.length c0, .func (.func 72) #[] #[.pointer (some ⟨gd, 0, none⟩)]] w fun e w' => e = .returned (.bool r) ∧ Below w.heap.size w w' := by
 obtain ⟨t, ht, rfl⟩ := Option.map_eq_some_iff.1 h; clear h; have HR0 := Aside0.mk hr0; clear hr0; have HP := Aside0.mk hp; clear hp; have HH := Aside0.mk ht; clear ht
 go_enter Tryz.func71, Tryz.ntmps71
 go_wp2_with (go_at_call 88; refine (impl_valueOk.V.index gd p A0 c0 l0 t _ HR0.out HP.out HH.out).mono ?_; rintro e w' ⟨rfl, hb'⟩)
 go_ret
 exact ⟨rfl, hb'⟩
set_option maxHeartbeats 4000000 in
set_option maxRecDepth 100000 in
theorem impl_valueOk.lit1 (k : Nat) (x : ByteArray) (b : Bool) (w : World) (h : (impl_NameOk.f k x).map (!·) = some b) :
  Calls Tryz.prog 70 #[.string x] w fun e w' => e = .returned (.bool b) ∧ Below w.heap.size w w' := by
 obtain ⟨t, ht, rfl⟩ := Option.map_eq_some_iff.1 h; clear h; have HT := Aside0.mk ht; clear ht; have HB := Aside0.mk (Below.refl w.heap.size w)
 go_enter Tryz.func70, Tryz.ntmps70
 go_wp2_with (first | (go_at_call 23; refine (impl_NameOk.calls k x t _ HT.out).mono ?_; rintro e w1 ⟨rfl, hb'⟩; have hb' := Drawn0.below hb'; replace HB := Aside0.mk (below_step HB.out hb'); clear hb'))
 go_ret
 exact ⟨enA, HB.out⟩
set_option maxHeartbeats 4000000 in
set_option maxRecDepth 100000 in
theorem impl_valueOk.lit2 (a1 : Int) (gd : Nat) (x : S52) (A2 : Option Addr) (c2 : Nat) (A3 : Option Addr) (c3 : Nat) (b : Bool) (w : World) (hd : w.heap[gd]? = some (.cells #[.int .i64 a1] 3 (0, 0))) (hc : ∀ (W : World), Below w.heap.size w W → Calls Tryz.prog 52 #[.agg #[.int .i64 x.f0, .string x.f1, .slice A2 x.f2.length c2, .slice A3 x.f3.length c3], .int .i64 (wrap64 (a1 - 1))] W fun e w' => e = .returned (.bool b) ∧ Below W.heap.size W w') :
  Calls Tryz.prog 72 #[.agg #[.int .i64 x.f0, .string x.f1, .slice A2 x.f2.length c2, .slice A3 x.f3.length c3], .pointer (some ⟨gd, 0, none⟩)] w fun e w' => e = .returned (.bool (!b)) ∧ Below w.heap.size w w' := by
 have HC := Aside0.mk hc; clear hc; have BD := Aside0.mk hd; have hzBD_0 := cel1 BD.out; clear hd; have HB := Aside0.mk (Below.refl w.heap.size w)
 go_enter Tryz.func72, Tryz.ntmps72
 go_wp2_with (first | ((with_reducible refine gate_dst (N := 2) rfl ?_); refine boxE (N := 2) (cs := #[.int .i64 x.f0, .string x.f1, .slice A2 x.f2.length c2, .slice A3 x.f3.length c3]) (t := 52) ?_; intro gBX hg_ w1 hbox hb'; replace HB := Aside0.mk (below_step HB.out hb'); replace BD := Aside0.mk (blk_below BD.out hb'); have BX := Aside0.mk hbox; have hzBD_0 := cel1 BD.out; obtain ⟨hzBX_0, hzBX_1, hzBX_2, hzBX_3⟩ := cel4 BX.out; clear hb' hbox hg_) | (go_at_call 52; refine (HC.out _ HB.out).mono ?_; rintro e w1 ⟨rfl, hb'⟩; replace HB := Aside0.mk (below_step HB.out hb'); clear hb'))
 go_ret
 exact ⟨enA, HB.out⟩
set_option maxHeartbeats 4000000 in
set_option maxRecDepth 100000 in
theorem impl_valueOk.leaf1 (k : Nat) (a0_1 : ByteArray) (A0_2 : Option Addr) (c0_2 : Nat) (l0_2 : List (S52)) (A0_3 : Option Addr) (c0_3 : Nat) (l0_3 : List ByteArray) (a1 : Int) (r : Bool) (w : World) (hr0_2 : Kd.C k52 w A0_2 l0_2.length l0_2) (hc0_2 : l0_2.length ≤ c0_2) (hr0_3 : Kd.C Kd.string w A0_3 l0_3.length l0_3) (hc0_3 : l0_3.length ≤ c0_3) (hG : Gl w) (h : ((impl_plain.f 1 a0_1 l0_2 l0_3).bind fun t => if t = true then (impl_NameOk.f k a0_1) else some false) = some r) :
  Calls Tryz.prog 52 #[.agg #[.int .i64 1, .string a0_1, .slice A0_2 l0_2.length c0_2, .slice A0_3 l0_3.length c0_3], .int .i64 a1] w fun e w' => e = .returned (.bool r) ∧ Below w.heap.size w w' := by
 have HR2 := Aside0.mk hr0_2; have HC2 := Aside0.mk hc0_2; have HR3 := Aside0.mk hr0_3; have HC3 := Aside0.mk hc0_3; have HG := Aside0.mk hG; clear hr0_2 hc0_2 hr0_3 hc0_3 hG; have HB := Aside0.mk (Below.refl w.heap.size w); obtain ⟨t, ht, h⟩ := Option.bind_eq_some_iff.1 h; have HT := Aside0.mk ht; clear ht
 cases t with
 | false =>
  obtain rfl := Option.some.inj ((if_neg (by decide)).symm.trans h)
  clear h
  go_enter Tryz.func52, Tryz.ntmps52
  go_wp2_with (first | ((with_reducible refine gate_dst (N := 2) rfl ?_); refine boxE (N := 2) (cs := #[.int .i64 1, .string a0_1, .slice A0_2 l0_2.length c0_2, .slice A0_3 l0_3.length c0_3]) (t := 52) ?_; intro gBV hg_ w1 hbox hb'; replace HB := Aside0.mk (below_step HB.out hb'); have BV := Aside0.mk hbox; obtain ⟨hzBV_0, hzBV_1, hzBV_2, hzBV_3⟩ := cel4 BV.out; clear hb' hbox hg_) | ((with_reducible refine gate_dst (N := 3) rfl ?_); refine boxE (N := 3) (cs := #[.int .i64 a1]) (t := 3) ?_; intro gBD hg_ w1 hbox hb'; replace HB := Aside0.mk (below_step HB.out hb'); replace BV := Aside0.mk (blk_below BV.out hb'); have BD := Aside0.mk hbox; obtain ⟨hzBV_0, hzBV_1, hzBV_2, hzBV_3⟩ := cel4 BV.out; have hzBD_0 := cel1 BD.out; clear hb' hbox hg_) | (go_at_call 65; refine (impl_plain.calls 1 a0_1 _ _ l0_2 _ _ l0_3 false _ (Kd.C_below HR2.out HB.out) HC2.out (Kd.C_below HR3.out HB.out) HC3.out HT.out).mono ?_; rintro e w1 ⟨rfl, hb'⟩; replace HB := Aside0.mk (below_step HB.out hb'); replace BV := Aside0.mk (blk_below BV.out hb'); replace BD := Aside0.mk (blk_below BD.out hb'); obtain ⟨hzBV_0, hzBV_1, hzBV_2, hzBV_3⟩ := cel4 BV.out; have hzBD_0 := cel1 BD.out; clear hb'))
  go_ret
  exact ⟨enA, HB.out⟩
 | true =>
  replace h := (if_pos rfl).symm.trans h; have HS := Aside0.mk h; clear h
  go_enter Tryz.func52, Tryz.ntmps52
  go_wp2_with (first | ((with_reducible refine gate_dst (N := 2) rfl ?_); refine boxE (N := 2) (cs := #[.int .i64 1, .string a0_1, .slice A0_2 l0_2.length c0_2, .slice A0_3 l0_3.length c0_3]) (t := 52) ?_; intro gBV hg_ w1 hbox hb'; replace HB := Aside0.mk (below_step HB.out hb'); have BV := Aside0.mk hbox; obtain ⟨hzBV_0, hzBV_1, hzBV_2, hzBV_3⟩ := cel4 BV.out; clear hb' hbox hg_) | ((with_reducible refine gate_dst (N := 3) rfl ?_); refine boxE (N := 3) (cs := #[.int .i64 a1]) (t := 3) ?_; intro gBD hg_ w1 hbox hb'; replace HB := Aside0.mk (below_step HB.out hb'); replace BV := Aside0.mk (blk_below BV.out hb'); have BD := Aside0.mk hbox; obtain ⟨hzBV_0, hzBV_1, hzBV_2, hzBV_3⟩ := cel4 BV.out; have hzBD_0 := cel1 BD.out; clear hb' hbox hg_) | (go_at_call 65; refine (impl_plain.calls 1 a0_1 _ _ l0_2 _ _ l0_3 true _ (Kd.C_below HR2.out HB.out) HC2.out (Kd.C_below HR3.out HB.out) HC3.out HT.out).mono ?_; rintro e w1 ⟨rfl, hb'⟩; replace HB := Aside0.mk (below_step HB.out hb'); replace BV := Aside0.mk (blk_below BV.out hb'); replace BD := Aside0.mk (blk_below BD.out hb'); obtain ⟨hzBV_0, hzBV_1, hzBV_2, hzBV_3⟩ := cel4 BV.out; have hzBD_0 := cel1 BD.out; clear hb') | (go_at_call 23; refine (impl_NameOk.calls k a0_1 r _ HS.out).mono ?_; rintro e w1 ⟨rfl, hb'⟩; have hb' := Drawn0.below hb'; replace HB := Aside0.mk (below_step HB.out hb'); replace BV := Aside0.mk (blk_below BV.out hb'); replace BD := Aside0.mk (blk_below BD.out hb'); obtain ⟨hzBV_0, hzBV_1, hzBV_2, hzBV_3⟩ := cel4 BV.out; have hzBD_0 := cel1 BD.out; clear hb'))
  go_ret
  exact ⟨enA, HB.out⟩
set_option maxHeartbeats 4000000 in
set_option maxRecDepth 100000 in
theorem impl_valueOk.leaf2 (k : Nat) (a0_1 : ByteArray) (A0_2 : Option Addr) (c0_2 : Nat) (l0_2 : List (S52)) (A0_3 : Option Addr) (c0_3 : Nat) (l0_3 : List ByteArray) (a1 : Int) (r : Bool) (w : World) (hr0_2 : Kd.C k52 w A0_2 l0_2.length l0_2) (hc0_2 : l0_2.length ≤ c0_2) (hr0_3 : Kd.C Kd.string w A0_3 l0_3.length l0_3) (hc0_3 : l0_3.length ≤ c0_3) (hG : Gl w) (h : ((impl_plain.f 2 a0_1 l0_2 l0_3).bind fun t => if t = true then (impl_IntOk.f k a0_1) else some false) = some r) :
  Calls Tryz.prog 52 #[.agg #[.int .i64 2, .string a0_1, .slice A0_2 l0_2.length c0_2, .slice A0_3 l0_3.length c0_3], .int .i64 a1] w fun e w' => e = .returned (.bool r) ∧ Below w.heap.size w w' := by
 have HR2 := Aside0.mk hr0_2; have HC2 := Aside0.mk hc0_2; have HR3 := Aside0.mk hr0_3; have HC3 := Aside0.mk hc0_3; have HG := Aside0.mk hG; clear hr0_2 hc0_2 hr0_3 hc0_3 hG; have HB := Aside0.mk (Below.refl w.heap.size w); obtain ⟨t, ht, h⟩ := Option.bind_eq_some_iff.1 h; have HT := Aside0.mk ht; clear ht
 cases t with
 | false =>
  obtain rfl := Option.some.inj ((if_neg (by decide)).symm.trans h)
  clear h
  go_enter Tryz.func52, Tryz.ntmps52
  go_wp2_with (first | ((with_reducible refine gate_dst (N := 2) rfl ?_); refine boxE (N := 2) (cs := #[.int .i64 2, .string a0_1, .slice A0_2 l0_2.length c0_2, .slice A0_3 l0_3.length c0_3]) (t := 52) ?_; intro gBV hg_ w1 hbox hb'; replace HB := Aside0.mk (below_step HB.out hb'); have BV := Aside0.mk hbox; obtain ⟨hzBV_0, hzBV_1, hzBV_2, hzBV_3⟩ := cel4 BV.out; clear hb' hbox hg_) | ((with_reducible refine gate_dst (N := 3) rfl ?_); refine boxE (N := 3) (cs := #[.int .i64 a1]) (t := 3) ?_; intro gBD hg_ w1 hbox hb'; replace HB := Aside0.mk (below_step HB.out hb'); replace BV := Aside0.mk (blk_below BV.out hb'); have BD := Aside0.mk hbox; obtain ⟨hzBV_0, hzBV_1, hzBV_2, hzBV_3⟩ := cel4 BV.out; have hzBD_0 := cel1 BD.out; clear hb' hbox hg_) | (go_at_call 65; refine (impl_plain.calls 2 a0_1 _ _ l0_2 _ _ l0_3 false _ (Kd.C_below HR2.out HB.out) HC2.out (Kd.C_below HR3.out HB.out) HC3.out HT.out).mono ?_; rintro e w1 ⟨rfl, hb'⟩; replace HB := Aside0.mk (below_step HB.out hb'); replace BV := Aside0.mk (blk_below BV.out hb'); replace BD := Aside0.mk (blk_below BD.out hb'); obtain ⟨hzBV_0, hzBV_1, hzBV_2, hzBV_3⟩ := cel4 BV.out; have hzBD_0 := cel1 BD.out; clear hb'))
  go_ret
  exact ⟨enA, HB.out⟩
 | true =>
  replace h := (if_pos rfl).symm.trans h; have HS := Aside0.mk h; clear h
  go_enter Tryz.func52, Tryz.ntmps52
  go_wp2_with (first | ((with_reducible refine gate_dst (N := 2) rfl ?_); refine boxE (N := 2) (cs := #[.int .i64 2, .string a0_1, .slice A0_2 l0_2.length c0_2, .slice A0_3 l0_3.length c0_3]) (t := 52) ?_; intro gBV hg_ w1 hbox hb'; replace HB := Aside0.mk (below_step HB.out hb'); have BV := Aside0.mk hbox; obtain ⟨hzBV_0, hzBV_1, hzBV_2, hzBV_3⟩ := cel4 BV.out; clear hb' hbox hg_) | ((with_reducible refine gate_dst (N := 3) rfl ?_); refine boxE (N := 3) (cs := #[.int .i64 a1]) (t := 3) ?_; intro gBD hg_ w1 hbox hb'; replace HB := Aside0.mk (below_step HB.out hb'); replace BV := Aside0.mk (blk_below BV.out hb'); have BD := Aside0.mk hbox; obtain ⟨hzBV_0, hzBV_1, hzBV_2, hzBV_3⟩ := cel4 BV.out; have hzBD_0 := cel1 BD.out; clear hb' hbox hg_) | (go_at_call 65; refine (impl_plain.calls 2 a0_1 _ _ l0_2 _ _ l0_3 true _ (Kd.C_below HR2.out HB.out) HC2.out (Kd.C_below HR3.out HB.out) HC3.out HT.out).mono ?_; rintro e w1 ⟨rfl, hb'⟩; replace HB := Aside0.mk (below_step HB.out hb'); replace BV := Aside0.mk (blk_below BV.out hb'); replace BD := Aside0.mk (blk_below BD.out hb'); obtain ⟨hzBV_0, hzBV_1, hzBV_2, hzBV_3⟩ := cel4 BV.out; have hzBD_0 := cel1 BD.out; clear hb') | (go_at_call 66; refine (impl_IntOk.calls k a0_1 r _ HS.out).mono ?_; rintro e w1 ⟨rfl, hb'⟩; have hb' := Drawn0.below hb'; replace HB := Aside0.mk (below_step HB.out hb'); replace BV := Aside0.mk (blk_below BV.out hb'); replace BD := Aside0.mk (blk_below BD.out hb'); obtain ⟨hzBV_0, hzBV_1, hzBV_2, hzBV_3⟩ := cel4 BV.out; have hzBD_0 := cel1 BD.out; clear hb'))
  go_ret
  exact ⟨enA, HB.out⟩
set_option maxHeartbeats 4000000 in
set_option maxRecDepth 100000 in
theorem impl_valueOk.leaf3 (k : Nat) (a0_1 : ByteArray) (A0_2 : Option Addr) (c0_2 : Nat) (l0_2 : List (S52)) (A0_3 : Option Addr) (c0_3 : Nat) (l0_3 : List ByteArray) (a1 : Int) (r : Bool) (w : World) (hr0_2 : Kd.C k52 w A0_2 l0_2.length l0_2) (hc0_2 : l0_2.length ≤ c0_2) (hr0_3 : Kd.C Kd.string w A0_3 l0_3.length l0_3) (hc0_3 : l0_3.length ≤ c0_3) (hG : Gl w) (h : ((impl_plain.f 3 a0_1 l0_2 l0_3).bind fun t => if t = true then (impl_FloatOk.f k a0_1) else some false) = some r) :
  Calls Tryz.prog 52 #[.agg #[.int .i64 3, .string a0_1, .slice A0_2 l0_2.length c0_2, .slice A0_3 l0_3.length c0_3], .int .i64 a1] w fun e w' => e = .returned (.bool r) ∧ Below w.heap.size w w' := by
 have HR2 := Aside0.mk hr0_2; have HC2 := Aside0.mk hc0_2; have HR3 := Aside0.mk hr0_3; have HC3 := Aside0.mk hc0_3; have HG := Aside0.mk hG; clear hr0_2 hc0_2 hr0_3 hc0_3 hG; have HB := Aside0.mk (Below.refl w.heap.size w); obtain ⟨t, ht, h⟩ := Option.bind_eq_some_iff.1 h; have HT := Aside0.mk ht; clear ht
 cases t with
 | false =>
  obtain rfl := Option.some.inj ((if_neg (by decide)).symm.trans h)
  clear h
  go_enter Tryz.func52, Tryz.ntmps52
  go_wp2_with (first | ((with_reducible refine gate_dst (N := 2) rfl ?_); refine boxE (N := 2) (cs := #[.int .i64 3, .string a0_1, .slice A0_2 l0_2.length c0_2, .slice A0_3 l0_3.length c0_3]) (t := 52) ?_; intro gBV hg_ w1 hbox hb'; replace HB := Aside0.mk (below_step HB.out hb'); have BV := Aside0.mk hbox; obtain ⟨hzBV_0, hzBV_1, hzBV_2, hzBV_3⟩ := cel4 BV.out; clear hb' hbox hg_) | ((with_reducible refine gate_dst (N := 3) rfl ?_); refine boxE (N := 3) (cs := #[.int .i64 a1]) (t := 3) ?_; intro gBD hg_ w1 hbox hb'; replace HB := Aside0.mk (below_step HB.out hb'); replace BV := Aside0.mk (blk_below BV.out hb'); have BD := Aside0.mk hbox; obtain ⟨hzBV_0, hzBV_1, hzBV_2, hzBV_3⟩ := cel4 BV.out; have hzBD_0 := cel1 BD.out; clear hb' hbox hg_) | (go_at_call 65; refine (impl_plain.calls 3 a0_1 _ _ l0_2 _ _ l0_3 false _ (Kd.C_below HR2.out HB.out) HC2.out (Kd.C_below HR3.out HB.out) HC3.out HT.out).mono ?_; rintro e w1 ⟨rfl, hb'⟩; replace HB := Aside0.mk (below_step HB.out hb'); replace BV := Aside0.mk (blk_below BV.out hb'); replace BD := Aside0.mk (blk_below BD.out hb'); obtain ⟨hzBV_0, hzBV_1, hzBV_2, hzBV_3⟩ := cel4 BV.out; have hzBD_0 := cel1 BD.out; clear hb'))
  go_ret
  exact ⟨enA, HB.out⟩
 | true =>
  replace h := (if_pos rfl).symm.trans h; have HS := Aside0.mk h; clear h
  go_enter Tryz.func52, Tryz.ntmps52
  go_wp2_with (first | ((with_reducible refine gate_dst (N := 2) rfl ?_); refine boxE (N := 2) (cs := #[.int .i64 3, .string a0_1, .slice A0_2 l0_2.length c0_2, .slice A0_3 l0_3.length c0_3]) (t := 52) ?_; intro gBV hg_ w1 hbox hb'; replace HB := Aside0.mk (below_step HB.out hb'); have BV := Aside0.mk hbox; obtain ⟨hzBV_0, hzBV_1, hzBV_2, hzBV_3⟩ := cel4 BV.out; clear hb' hbox hg_) | ((with_reducible refine gate_dst (N := 3) rfl ?_); refine boxE (N := 3) (cs := #[.int .i64 a1]) (t := 3) ?_; intro gBD hg_ w1 hbox hb'; replace HB := Aside0.mk (below_step HB.out hb'); replace BV := Aside0.mk (blk_below BV.out hb'); have BD := Aside0.mk hbox; obtain ⟨hzBV_0, hzBV_1, hzBV_2, hzBV_3⟩ := cel4 BV.out; have hzBD_0 := cel1 BD.out; clear hb' hbox hg_) | (go_at_call 65; refine (impl_plain.calls 3 a0_1 _ _ l0_2 _ _ l0_3 true _ (Kd.C_below HR2.out HB.out) HC2.out (Kd.C_below HR3.out HB.out) HC3.out HT.out).mono ?_; rintro e w1 ⟨rfl, hb'⟩; replace HB := Aside0.mk (below_step HB.out hb'); replace BV := Aside0.mk (blk_below BV.out hb'); replace BD := Aside0.mk (blk_below BD.out hb'); obtain ⟨hzBV_0, hzBV_1, hzBV_2, hzBV_3⟩ := cel4 BV.out; have hzBD_0 := cel1 BD.out; clear hb') | (go_at_call 67; refine (impl_FloatOk.calls k a0_1 r _ HS.out).mono ?_; rintro e w1 ⟨rfl, hb'⟩; replace HB := Aside0.mk (below_step HB.out hb'); replace BV := Aside0.mk (blk_below BV.out hb'); replace BD := Aside0.mk (blk_below BD.out hb'); obtain ⟨hzBV_0, hzBV_1, hzBV_2, hzBV_3⟩ := cel4 BV.out; have hzBD_0 := cel1 BD.out; clear hb'))
  go_ret
  exact ⟨enA, HB.out⟩
set_option maxHeartbeats 4000000 in
set_option maxRecDepth 100000 in
theorem impl_valueOk.leaf4 (k : Nat) (a0_1 : ByteArray) (A0_2 : Option Addr) (c0_2 : Nat) (l0_2 : List (S52)) (A0_3 : Option Addr) (c0_3 : Nat) (l0_3 : List ByteArray) (a1 : Int) (r : Bool) (w : World) (hr0_2 : Kd.C k52 w A0_2 l0_2.length l0_2) (hc0_2 : l0_2.length ≤ c0_2) (hr0_3 : Kd.C Kd.string w A0_3 l0_3.length l0_3) (hc0_3 : l0_3.length ≤ c0_3) (hG : Gl w) (h : ((impl_plain.f 4 a0_1 l0_2 l0_3).bind fun t => if t = true then ((impl_Escaped.f k a0_1).bind fun s => some (s.toList != [])) else some false) = some r) :
  Calls Tryz.prog 52 #[.agg #[.int .i64 4, .string a0_1, .slice A0_2 l0_2.length c0_2, .slice A0_3 l0_3.length c0_3], .int .i64 a1] w fun e w' => e = .returned (.bool r) ∧ Below w.heap.size w w' := by
 have HR2 := Aside0.mk hr0_2; have HC2 := Aside0.mk hc0_2; have HR3 := Aside0.mk hr0_3; have HC3 := Aside0.mk hc0_3; have HG := Aside0.mk hG; clear hr0_2 hc0_2 hr0_3 hc0_3 hG; have HB := Aside0.mk (Below.refl w.heap.size w); obtain ⟨t, ht, h⟩ := Option.bind_eq_some_iff.1 h; have HT := Aside0.mk ht; clear ht
 cases t with
 | false =>
  obtain rfl := Option.some.inj ((if_neg (by decide)).symm.trans h)
  clear h
  go_enter Tryz.func52, Tryz.ntmps52
  go_wp2_with (first | ((with_reducible refine gate_dst (N := 2) rfl ?_); refine boxE (N := 2) (cs := #[.int .i64 4, .string a0_1, .slice A0_2 l0_2.length c0_2, .slice A0_3 l0_3.length c0_3]) (t := 52) ?_; intro gBV hg_ w1 hbox hb'; replace HB := Aside0.mk (below_step HB.out hb'); have BV := Aside0.mk hbox; obtain ⟨hzBV_0, hzBV_1, hzBV_2, hzBV_3⟩ := cel4 BV.out; clear hb' hbox hg_) | ((with_reducible refine gate_dst (N := 3) rfl ?_); refine boxE (N := 3) (cs := #[.int .i64 a1]) (t := 3) ?_; intro gBD hg_ w1 hbox hb'; replace HB := Aside0.mk (below_step HB.out hb'); replace BV := Aside0.mk (blk_below BV.out hb'); have BD := Aside0.mk hbox; obtain ⟨hzBV_0, hzBV_1, hzBV_2, hzBV_3⟩ := cel4 BV.out; have hzBD_0 := cel1 BD.out; clear hb' hbox hg_) | (go_at_call 65; refine (impl_plain.calls 4 a0_1 _ _ l0_2 _ _ l0_3 false _ (Kd.C_below HR2.out HB.out) HC2.out (Kd.C_below HR3.out HB.out) HC3.out HT.out).mono ?_; rintro e w1 ⟨rfl, hb'⟩; replace HB := Aside0.mk (below_step HB.out hb'); replace BV := Aside0.mk (blk_below BV.out hb'); replace BD := Aside0.mk (blk_below BD.out hb'); obtain ⟨hzBV_0, hzBV_1, hzBV_2, hzBV_3⟩ := cel4 BV.out; have hzBD_0 := cel1 BD.out; clear hb'))
  go_ret
  exact ⟨enA, HB.out⟩
 | true =>
  replace h := (if_pos rfl).symm.trans h; obtain ⟨s, hs, h⟩ := Option.bind_eq_some_iff.1 h; obtain rfl := Option.some.inj h; clear h; have HS := Aside0.mk hs; clear hs
  go_enter Tryz.func52, Tryz.ntmps52
  go_wp2_with (first | ((with_reducible refine gate_dst (N := 2) rfl ?_); refine boxE (N := 2) (cs := #[.int .i64 4, .string a0_1, .slice A0_2 l0_2.length c0_2, .slice A0_3 l0_3.length c0_3]) (t := 52) ?_; intro gBV hg_ w1 hbox hb'; replace HB := Aside0.mk (below_step HB.out hb'); have BV := Aside0.mk hbox; obtain ⟨hzBV_0, hzBV_1, hzBV_2, hzBV_3⟩ := cel4 BV.out; clear hb' hbox hg_) | ((with_reducible refine gate_dst (N := 3) rfl ?_); refine boxE (N := 3) (cs := #[.int .i64 a1]) (t := 3) ?_; intro gBD hg_ w1 hbox hb'; replace HB := Aside0.mk (below_step HB.out hb'); replace BV := Aside0.mk (blk_below BV.out hb'); have BD := Aside0.mk hbox; obtain ⟨hzBV_0, hzBV_1, hzBV_2, hzBV_3⟩ := cel4 BV.out; have hzBD_0 := cel1 BD.out; clear hb' hbox hg_) | (go_at_call 65; refine (impl_plain.calls 4 a0_1 _ _ l0_2 _ _ l0_3 true _ (Kd.C_below HR2.out HB.out) HC2.out (Kd.C_below HR3.out HB.out) HC3.out HT.out).mono ?_; rintro e w1 ⟨rfl, hb'⟩; replace HB := Aside0.mk (below_step HB.out hb'); replace BV := Aside0.mk (blk_below BV.out hb'); replace BD := Aside0.mk (blk_below BD.out hb'); obtain ⟨hzBV_0, hzBV_1, hzBV_2, hzBV_3⟩ := cel4 BV.out; have hzBD_0 := cel1 BD.out; clear hb') | (go_at_call 41; refine (impl_Escaped.calls k a0_1 s _ (Gl.below HG.out HB.out) HS.out).mono ?_; rintro e w1 ⟨rfl, hb'⟩; replace HB := Aside0.mk (below_step HB.out hb'); replace BV := Aside0.mk (blk_below BV.out hb'); replace BD := Aside0.mk (blk_below BD.out hb'); obtain ⟨hzBV_0, hzBV_1, hzBV_2, hzBV_3⟩ := cel4 BV.out; have hzBD_0 := cel1 BD.out; clear hb'))
  go_ret
  exact ⟨enA, HB.out⟩
set_option maxHeartbeats 4000000 in
set_option maxRecDepth 100000 in
theorem impl_valueOk.leaf5 (k : Nat) (a0_1 : ByteArray) (A0_2 : Option Addr) (c0_2 : Nat) (l0_2 : List (S52)) (A0_3 : Option Addr) (c0_3 : Nat) (l0_3 : List ByteArray) (a1 : Int) (r : Bool) (w : World) (hr0_2 : Kd.C k52 w A0_2 l0_2.length l0_2) (hc0_2 : l0_2.length ≤ c0_2) (hr0_3 : Kd.C Kd.string w A0_3 l0_3.length l0_3) (hc0_3 : l0_3.length ≤ c0_3) (hG : Gl w) (h : ((impl_plain.f 5 a0_1 l0_2 l0_3).bind fun t => if t = true then (impl_Word.f a0_1) else some false) = some r) :
  Calls Tryz.prog 52 #[.agg #[.int .i64 5, .string a0_1, .slice A0_2 l0_2.length c0_2, .slice A0_3 l0_3.length c0_3], .int .i64 a1] w fun e w' => e = .returned (.bool r) ∧ Below w.heap.size w w' := by
 have HR2 := Aside0.mk hr0_2; have HC2 := Aside0.mk hc0_2; have HR3 := Aside0.mk hr0_3; have HC3 := Aside0.mk hc0_3; have HG := Aside0.mk hG; clear hr0_2 hc0_2 hr0_3 hc0_3 hG; have HB := Aside0.mk (Below.refl w.heap.size w); obtain ⟨t, ht, h⟩ := Option.bind_eq_some_iff.1 h; have HT := Aside0.mk ht; clear ht
 cases t with
 | false =>
  obtain rfl := Option.some.inj ((if_neg (by decide)).symm.trans h)
  clear h
  go_enter Tryz.func52, Tryz.ntmps52
  go_wp2_with (first | ((with_reducible refine gate_dst (N := 2) rfl ?_); refine boxE (N := 2) (cs := #[.int .i64 5, .string a0_1, .slice A0_2 l0_2.length c0_2, .slice A0_3 l0_3.length c0_3]) (t := 52) ?_; intro gBV hg_ w1 hbox hb'; replace HB := Aside0.mk (below_step HB.out hb'); have BV := Aside0.mk hbox; obtain ⟨hzBV_0, hzBV_1, hzBV_2, hzBV_3⟩ := cel4 BV.out; clear hb' hbox hg_) | ((with_reducible refine gate_dst (N := 3) rfl ?_); refine boxE (N := 3) (cs := #[.int .i64 a1]) (t := 3) ?_; intro gBD hg_ w1 hbox hb'; replace HB := Aside0.mk (below_step HB.out hb'); replace BV := Aside0.mk (blk_below BV.out hb'); have BD := Aside0.mk hbox; obtain ⟨hzBV_0, hzBV_1, hzBV_2, hzBV_3⟩ := cel4 BV.out; have hzBD_0 := cel1 BD.out; clear hb' hbox hg_) | (go_at_call 65; refine (impl_plain.calls 5 a0_1 _ _ l0_2 _ _ l0_3 false _ (Kd.C_below HR2.out HB.out) HC2.out (Kd.C_below HR3.out HB.out) HC3.out HT.out).mono ?_; rintro e w1 ⟨rfl, hb'⟩; replace HB := Aside0.mk (below_step HB.out hb'); replace BV := Aside0.mk (blk_below BV.out hb'); replace BD := Aside0.mk (blk_below BD.out hb'); obtain ⟨hzBV_0, hzBV_1, hzBV_2, hzBV_3⟩ := cel4 BV.out; have hzBD_0 := cel1 BD.out; clear hb'))
  go_ret
  exact ⟨enA, HB.out⟩
 | true =>
  replace h := (if_pos rfl).symm.trans h; have HS := Aside0.mk h; clear h
  go_enter Tryz.func52, Tryz.ntmps52
  go_wp2_with (first | ((with_reducible refine gate_dst (N := 2) rfl ?_); refine boxE (N := 2) (cs := #[.int .i64 5, .string a0_1, .slice A0_2 l0_2.length c0_2, .slice A0_3 l0_3.length c0_3]) (t := 52) ?_; intro gBV hg_ w1 hbox hb'; replace HB := Aside0.mk (below_step HB.out hb'); have BV := Aside0.mk hbox; obtain ⟨hzBV_0, hzBV_1, hzBV_2, hzBV_3⟩ := cel4 BV.out; clear hb' hbox hg_) | ((with_reducible refine gate_dst (N := 3) rfl ?_); refine boxE (N := 3) (cs := #[.int .i64 a1]) (t := 3) ?_; intro gBD hg_ w1 hbox hb'; replace HB := Aside0.mk (below_step HB.out hb'); replace BV := Aside0.mk (blk_below BV.out hb'); have BD := Aside0.mk hbox; obtain ⟨hzBV_0, hzBV_1, hzBV_2, hzBV_3⟩ := cel4 BV.out; have hzBD_0 := cel1 BD.out; clear hb' hbox hg_) | (go_at_call 65; refine (impl_plain.calls 5 a0_1 _ _ l0_2 _ _ l0_3 true _ (Kd.C_below HR2.out HB.out) HC2.out (Kd.C_below HR3.out HB.out) HC3.out HT.out).mono ?_; rintro e w1 ⟨rfl, hb'⟩; replace HB := Aside0.mk (below_step HB.out hb'); replace BV := Aside0.mk (blk_below BV.out hb'); replace BD := Aside0.mk (blk_below BD.out hb'); obtain ⟨hzBV_0, hzBV_1, hzBV_2, hzBV_3⟩ := cel4 BV.out; have hzBD_0 := cel1 BD.out; clear hb') | (go_at_call 68; refine (impl_Word.calls a0_1 r _ HS.out).mono ?_; rintro e w1 ⟨rfl, hb'⟩; have hb' := Drawn0.below hb'; replace HB := Aside0.mk (below_step HB.out hb'); replace BV := Aside0.mk (blk_below BV.out hb'); replace BD := Aside0.mk (blk_below BD.out hb'); obtain ⟨hzBV_0, hzBV_1, hzBV_2, hzBV_3⟩ := cel4 BV.out; have hzBD_0 := cel1 BD.out; clear hb'))
  go_ret
  exact ⟨enA, HB.out⟩
set_option maxHeartbeats 4000000 in
set_option maxRecDepth 100000 in
theorem impl_valueOk.leaf6 (k : Nat) (a0_1 : ByteArray) (A0_2 : Option Addr) (c0_2 : Nat) (l0_2 : List (S52)) (A0_3 : Option Addr) (c0_3 : Nat) (l0_3 : List ByteArray) (a1 : Int) (r : Bool) (w : World) (hr0_2 : Kd.C k52 w A0_2 l0_2.length l0_2) (hc0_2 : l0_2.length ≤ c0_2) (hr0_3 : Kd.C Kd.string w A0_3 l0_3.length l0_3) (hc0_3 : l0_3.length ≤ c0_3) (hG : Gl w) (h : ((impl_plain.f 6 a0_1 l0_2 l0_3).bind fun t => if t = true then ((impl_NameOk.f k a0_1).bind fun t => if t = true then (impl_Word.f a0_1).bind fun u => some (!u) else some false) else some false) = some r) :
  Calls Tryz.prog 52 #[.agg #[.int .i64 6, .string a0_1, .slice A0_2 l0_2.length c0_2, .slice A0_3 l0_3.length c0_3], .int .i64 a1] w fun e w' => e = .returned (.bool r) ∧ Below w.heap.size w w' := by
 have HR2 := Aside0.mk hr0_2; have HC2 := Aside0.mk hc0_2; have HR3 := Aside0.mk hr0_3; have HC3 := Aside0.mk hc0_3; have HG := Aside0.mk hG; clear hr0_2 hc0_2 hr0_3 hc0_3 hG; have HB := Aside0.mk (Below.refl w.heap.size w); obtain ⟨t, ht, h⟩ := Option.bind_eq_some_iff.1 h; have HT := Aside0.mk ht; clear ht
 cases t with
 | false =>
  obtain rfl := Option.some.inj ((if_neg (by decide)).symm.trans h)
  clear h
  go_enter Tryz.func52, Tryz.ntmps52
  go_wp2_with (first | ((with_reducible refine gate_dst (N := 2) rfl ?_); refine boxE (N := 2) (cs := #[.int .i64 6, .string a0_1, .slice A0_2 l0_2.length c0_2, .slice A0_3 l0_3.length c0_3]) (t := 52) ?_; intro gBV hg_ w1 hbox hb'; replace HB := Aside0.mk (below_step HB.out hb'); have BV := Aside0.mk hbox; obtain ⟨hzBV_0, hzBV_1, hzBV_2, hzBV_3⟩ := cel4 BV.out; clear hb' hbox hg_) | ((with_reducible refine gate_dst (N := 3) rfl ?_); refine boxE (N := 3) (cs := #[.int .i64 a1]) (t := 3) ?_; intro gBD hg_ w1 hbox hb'; replace HB := Aside0.mk (below_step HB.out hb'); replace BV := Aside0.mk (blk_below BV.out hb'); have BD := Aside0.mk hbox; obtain ⟨hzBV_0, hzBV_1, hzBV_2, hzBV_3⟩ := cel4 BV.out; have hzBD_0 := cel1 BD.out; clear hb' hbox hg_) | (go_at_call 65; refine (impl_plain.calls 6 a0_1 _ _ l0_2 _ _ l0_3 false _ (Kd.C_below HR2.out HB.out) HC2.out (Kd.C_below HR3.out HB.out) HC3.out HT.out).mono ?_; rintro e w1 ⟨rfl, hb'⟩; replace HB := Aside0.mk (below_step HB.out hb'); replace BV := Aside0.mk (blk_below BV.out hb'); replace BD := Aside0.mk (blk_below BD.out hb'); obtain ⟨hzBV_0, hzBV_1, hzBV_2, hzBV_3⟩ := cel4 BV.out; have hzBD_0 := cel1 BD.out; clear hb'))
  go_ret
  exact ⟨enA, HB.out⟩
 | true =>
  replace h := (if_pos rfl).symm.trans h; obtain ⟨u, hs, h⟩ := Option.bind_eq_some_iff.1 h; have HS := Aside0.mk hs; clear hs
  cases u with
  | false =>
   obtain rfl := Option.some.inj ((if_neg (by decide)).symm.trans h)
   clear h
   go_enter Tryz.func52, Tryz.ntmps52
   go_wp2_with (first | ((with_reducible refine gate_dst (N := 2) rfl ?_); refine boxE (N := 2) (cs := #[.int .i64 6, .string a0_1, .slice A0_2 l0_2.length c0_2, .slice A0_3 l0_3.length c0_3]) (t := 52) ?_; intro gBV hg_ w1 hbox hb'; replace HB := Aside0.mk (below_step HB.out hb'); have BV := Aside0.mk hbox; obtain ⟨hzBV_0, hzBV_1, hzBV_2, hzBV_3⟩ := cel4 BV.out; clear hb' hbox hg_) | ((with_reducible refine gate_dst (N := 3) rfl ?_); refine boxE (N := 3) (cs := #[.int .i64 a1]) (t := 3) ?_; intro gBD hg_ w1 hbox hb'; replace HB := Aside0.mk (below_step HB.out hb'); replace BV := Aside0.mk (blk_below BV.out hb'); have BD := Aside0.mk hbox; obtain ⟨hzBV_0, hzBV_1, hzBV_2, hzBV_3⟩ := cel4 BV.out; have hzBD_0 := cel1 BD.out; clear hb' hbox hg_) | (go_at_call 65; refine (impl_plain.calls 6 a0_1 _ _ l0_2 _ _ l0_3 true _ (Kd.C_below HR2.out HB.out) HC2.out (Kd.C_below HR3.out HB.out) HC3.out HT.out).mono ?_; rintro e w1 ⟨rfl, hb'⟩; replace HB := Aside0.mk (below_step HB.out hb'); replace BV := Aside0.mk (blk_below BV.out hb'); replace BD := Aside0.mk (blk_below BD.out hb'); obtain ⟨hzBV_0, hzBV_1, hzBV_2, hzBV_3⟩ := cel4 BV.out; have hzBD_0 := cel1 BD.out; clear hb') | (go_at_call 23; refine (impl_NameOk.calls k a0_1 false _ HS.out).mono ?_; rintro e w1 ⟨rfl, hb'⟩; have hb' := Drawn0.below hb'; replace HB := Aside0.mk (below_step HB.out hb'); replace BV := Aside0.mk (blk_below BV.out hb'); replace BD := Aside0.mk (blk_below BD.out hb'); obtain ⟨hzBV_0, hzBV_1, hzBV_2, hzBV_3⟩ := cel4 BV.out; have hzBD_0 := cel1 BD.out; clear hb'))
   go_ret
   exact ⟨enA, HB.out⟩
  | true =>
   replace h := (if_pos rfl).symm.trans h; obtain ⟨v, hv, h⟩ := Option.bind_eq_some_iff.1 h; obtain rfl := Option.some.inj h; clear h; have HV := Aside0.mk hv; clear hv
   go_enter Tryz.func52, Tryz.ntmps52
   go_wp2_with (first | ((with_reducible refine gate_dst (N := 2) rfl ?_); refine boxE (N := 2) (cs := #[.int .i64 6, .string a0_1, .slice A0_2 l0_2.length c0_2, .slice A0_3 l0_3.length c0_3]) (t := 52) ?_; intro gBV hg_ w1 hbox hb'; replace HB := Aside0.mk (below_step HB.out hb'); have BV := Aside0.mk hbox; obtain ⟨hzBV_0, hzBV_1, hzBV_2, hzBV_3⟩ := cel4 BV.out; clear hb' hbox hg_) | ((with_reducible refine gate_dst (N := 3) rfl ?_); refine boxE (N := 3) (cs := #[.int .i64 a1]) (t := 3) ?_; intro gBD hg_ w1 hbox hb'; replace HB := Aside0.mk (below_step HB.out hb'); replace BV := Aside0.mk (blk_below BV.out hb'); have BD := Aside0.mk hbox; obtain ⟨hzBV_0, hzBV_1, hzBV_2, hzBV_3⟩ := cel4 BV.out; have hzBD_0 := cel1 BD.out; clear hb' hbox hg_) | (go_at_call 65; refine (impl_plain.calls 6 a0_1 _ _ l0_2 _ _ l0_3 true _ (Kd.C_below HR2.out HB.out) HC2.out (Kd.C_below HR3.out HB.out) HC3.out HT.out).mono ?_; rintro e w1 ⟨rfl, hb'⟩; replace HB := Aside0.mk (below_step HB.out hb'); replace BV := Aside0.mk (blk_below BV.out hb'); replace BD := Aside0.mk (blk_below BD.out hb'); obtain ⟨hzBV_0, hzBV_1, hzBV_2, hzBV_3⟩ := cel4 BV.out; have hzBD_0 := cel1 BD.out; clear hb') | (go_at_call 23; refine (impl_NameOk.calls k a0_1 true _ HS.out).mono ?_; rintro e w1 ⟨rfl, hb'⟩; have hb' := Drawn0.below hb'; replace HB := Aside0.mk (below_step HB.out hb'); replace BV := Aside0.mk (blk_below BV.out hb'); replace BD := Aside0.mk (blk_below BD.out hb'); obtain ⟨hzBV_0, hzBV_1, hzBV_2, hzBV_3⟩ := cel4 BV.out; have hzBD_0 := cel1 BD.out; clear hb') | (go_at_call 68; refine (impl_Word.calls a0_1 v _ HV.out).mono ?_; rintro e w1 ⟨rfl, hb'⟩; have hb' := Drawn0.below hb'; replace HB := Aside0.mk (below_step HB.out hb'); replace BV := Aside0.mk (blk_below BV.out hb'); replace BD := Aside0.mk (blk_below BD.out hb'); obtain ⟨hzBV_0, hzBV_1, hzBV_2, hzBV_3⟩ := cel4 BV.out; have hzBD_0 := cel1 BD.out; clear hb'))
   go_ret
   exact ⟨enA, HB.out⟩
set_option maxHeartbeats 8000000 in
set_option maxRecDepth 100000 in
theorem impl_valueOk.list (k : Nat) (a0_1 : ByteArray) (A0_2 : Option Addr) (c0_2 : Nat) (l0_2 : List (S52)) (A0_3 : Option Addr) (c0_3 : Nat) (l0_3 : List ByteArray) (a1 : Int) (r : Bool) (w : World) (hr0_2 : Kd.C k52 w A0_2 l0_2.length l0_2) (hc0_2 : l0_2.length ≤ c0_2) (hr0_3 : Kd.C Kd.string w A0_3 l0_3.length l0_3) (hc0_3 : l0_3.length ≤ c0_3) (hG : Gl w) (p : S52 → Option Bool) (hp : ∀ (gd : Nat) (W : World) (x : S52) (A2 : Option Addr) (c2 : Nat) (A3 : Option Addr) (c3 : Nat) (b : Bool), W.heap[gd]? = some (.cells #[.int .i64 a1] 3 (0, 0)) → Below w.heap.size w W → Kd.C k52 W A2 x.f2.length x.f2 → x.f2.length ≤ c2 → Kd.C Kd.string W A3 x.f3.length x.f3 → x.f3.length ≤ c3 → p x = some b →
   Calls Tryz.prog 72 #[.agg #[.int .i64 x.f0, .string x.f1, .slice A2 x.f2.length c2, .slice A3 x.f3.length c3], .pointer (some ⟨gd, 0, none⟩)] W fun e w' => e = .returned (.bool b) ∧ Below W.heap.size W w') (h : (if l0_3.length = 0 then (if 0 < a1 then (if a0_1.toList = [] then (anyO p l0_2).bind fun t => some (!t) else some false) else some false) else some false) = some r) :
  Calls Tryz.prog 52 #[.agg #[.int .i64 7, .string a0_1, .slice A0_2 l0_2.length c0_2, .slice A0_3 l0_3.length c0_3], .int .i64 a1] w fun e w' => e = .returned (.bool r) ∧ Below w.heap.size w w' := by
 have HR2 := Aside0.mk hr0_2; have HC2 := Aside0.mk hc0_2; have HR3 := Aside0.mk hr0_3; have HC3 := Aside0.mk hc0_3; have HG := Aside0.mk hG; clear hr0_2 hc0_2 hr0_3 hc0_3 hG; have HB := Aside0.mk (Below.refl w.heap.size w); have HP := Aside0.mk hp; clear hp
 by_cases d0 : l0_3.length = 0
 case neg =>
  rw [if_neg d0] at h; obtain rfl := Option.some.inj h
  have d0e0 : ((l0_3.length : Int) == 0) = false := by first | (rw [beq_iff_eq]; omega) | (rw [beq_eq_false_iff_ne]; omega)
  have d0e1 : ((l0_3.length : Int) != 0) = true := by first | (rw [bne_iff_ne]; omega) | (rw [bne_eq_false_iff_eq]; omega)
  have d0e2 : ((l0_3.length : Int) = 0) = False := by first | exact eq_true (by omega) | exact eq_false (by omega)
  have d0e3 : (l0_3.length = 0) = False := eq_false d0
  have d0e4 : (l0_3 = []) = False := eq_false (fun e_ => d0 (by rw [e_]; rfl))
  clear h d0
  go_enter Tryz.func52, Tryz.ntmps52
  go_wp2_with (first | ((with_reducible refine gate_dst (N := 2) rfl ?_); refine boxE (N := 2) (cs := #[.int .i64 7, .string a0_1, .slice A0_2 l0_2.length c0_2, .slice A0_3 l0_3.length c0_3]) (t := 52) ?_; intro gBV hg_ w1 hbox hb'; replace HB := Aside0.mk (below_step HB.out hb'); have BV := Aside0.mk hbox; obtain ⟨hzBV_0, hzBV_1, hzBV_2, hzBV_3⟩ := cel4 BV.out; clear hb' hbox hg_) | ((with_reducible refine gate_dst (N := 3) rfl ?_); refine boxE (N := 3) (cs := #[.int .i64 a1]) (t := 3) ?_; intro gBD hg_ w1 hbox hb'; replace HB := Aside0.mk (below_step HB.out hb'); replace BV := Aside0.mk (blk_below BV.out hb'); have BD := Aside0.mk hbox; obtain ⟨hzBV_0, hzBV_1, hzBV_2, hzBV_3⟩ := cel4 BV.out; have hzBD_0 := cel1 BD.out; clear hb' hbox hg_))
  go_ret
  exact ⟨enA, HB.out⟩
 rw [if_pos d0] at h
 have d0e0 : ((l0_3.length : Int) == 0) = true := by first | (rw [beq_iff_eq]; omega) | (rw [beq_eq_false_iff_ne]; omega)
 have d0e1 : ((l0_3.length : Int) != 0) = false := by first | (rw [bne_iff_ne]; omega) | (rw [bne_eq_false_iff_eq]; omega)
 have d0e2 : ((l0_3.length : Int) = 0) = True := by first | exact eq_true (by omega) | exact eq_false (by omega)
 have d0e3 : (l0_3.length = 0) = True := eq_true d0; have d0e4 : (l0_3 = []) = True := eq_true (List.length_eq_zero_iff.1 d0); have D0 := Aside0.mk d0; clear d0
 by_cases d1 : 0 < a1
 case neg =>
  rw [if_neg d1] at h; obtain rfl := Option.some.inj h; have d1b : decide (0 < a1) = false := decide_eq_false d1; have d1c : (0 < a1) = False := eq_false d1; clear h d1
  go_enter Tryz.func52, Tryz.ntmps52
  go_wp2_with (first | ((with_reducible refine gate_dst (N := 2) rfl ?_); refine boxE (N := 2) (cs := #[.int .i64 7, .string a0_1, .slice A0_2 l0_2.length c0_2, .slice A0_3 l0_3.length c0_3]) (t := 52) ?_; intro gBV hg_ w1 hbox hb'; replace HB := Aside0.mk (below_step HB.out hb'); have BV := Aside0.mk hbox; obtain ⟨hzBV_0, hzBV_1, hzBV_2, hzBV_3⟩ := cel4 BV.out; clear hb' hbox hg_) | ((with_reducible refine gate_dst (N := 3) rfl ?_); refine boxE (N := 3) (cs := #[.int .i64 a1]) (t := 3) ?_; intro gBD hg_ w1 hbox hb'; replace HB := Aside0.mk (below_step HB.out hb'); replace BV := Aside0.mk (blk_below BV.out hb'); have BD := Aside0.mk hbox; obtain ⟨hzBV_0, hzBV_1, hzBV_2, hzBV_3⟩ := cel4 BV.out; have hzBD_0 := cel1 BD.out; clear hb' hbox hg_))
  go_ret
  exact ⟨enA, HB.out⟩
 rw [if_pos d1] at h; have d1b : decide (0 < a1) = true := decide_eq_true d1; have d1c : (0 < a1) = True := eq_true d1; clear d1
 by_cases d2 : a0_1.toList = []
 case neg =>
  rw [if_neg d2] at h; obtain rfl := Option.some.inj h
  have d2e0 : (a0_1.toList == []) = false := by simpa using d2
  have d2e1 : (a0_1.toList != []) = true := by simpa using d2
  have d2e2 : a0_1.toList.isEmpty = false := by simpa using d2
  have d2e3 : (a0_1.toList = []) = False := by simpa using d2
  clear h d2
  go_enter Tryz.func52, Tryz.ntmps52
  go_wp2_with (first | ((with_reducible refine gate_dst (N := 2) rfl ?_); refine boxE (N := 2) (cs := #[.int .i64 7, .string a0_1, .slice A0_2 l0_2.length c0_2, .slice A0_3 l0_3.length c0_3]) (t := 52) ?_; intro gBV hg_ w1 hbox hb'; replace HB := Aside0.mk (below_step HB.out hb'); have BV := Aside0.mk hbox; obtain ⟨hzBV_0, hzBV_1, hzBV_2, hzBV_3⟩ := cel4 BV.out; clear hb' hbox hg_) | ((with_reducible refine gate_dst (N := 3) rfl ?_); refine boxE (N := 3) (cs := #[.int .i64 a1]) (t := 3) ?_; intro gBD hg_ w1 hbox hb'; replace HB := Aside0.mk (below_step HB.out hb'); replace BV := Aside0.mk (blk_below BV.out hb'); have BD := Aside0.mk hbox; obtain ⟨hzBV_0, hzBV_1, hzBV_2, hzBV_3⟩ := cel4 BV.out; have hzBD_0 := cel1 BD.out; clear hb' hbox hg_))
  go_ret
  exact ⟨enA, HB.out⟩
 rw [if_pos d2] at h
 have d2e0 : (a0_1.toList == []) = true := by simpa using d2
 have d2e1 : (a0_1.toList != []) = false := by simpa using d2
 have d2e2 : a0_1.toList.isEmpty = true := by simpa using d2
 have d2e3 : (a0_1.toList = []) = True := by simpa using d2
 clear d2; obtain ⟨t, ht, h⟩ := Option.bind_eq_some_iff.1 h; obtain rfl := Option.some.inj h; clear h; have HS := Aside0.mk ht; clear ht
 have hmf : ∀ (fn : Fn) (first cap : Array Value) (w : World), (Instr.makeFunc fn first cap).run Tryz.prog w = .ok (.func fn first cap) w := fun _ _ _ _ => rfl
 go_enter Tryz.func52, Tryz.ntmps52
 go_wp2_with (first | ((with_reducible refine gate_dst (N := 2) rfl ?_); refine boxE (N := 2) (cs := #[.int .i64 7, .string a0_1, .slice A0_2 l0_2.length c0_2, .slice A0_3 l0_3.length c0_3]) (t := 52) ?_; intro gBV hg_ w1 hbox hb'; replace HB := Aside0.mk (below_step HB.out hb'); have BV := Aside0.mk hbox; obtain ⟨hzBV_0, hzBV_1, hzBV_2, hzBV_3⟩ := cel4 BV.out; clear hb' hbox hg_) | ((with_reducible refine gate_dst (N := 3) rfl ?_); refine boxE (N := 3) (cs := #[.int .i64 a1]) (t := 3) ?_; intro gBD hg_ w1 hbox hb'; replace HB := Aside0.mk (below_step HB.out hb'); replace BV := Aside0.mk (blk_below BV.out hb'); have BD := Aside0.mk hbox; obtain ⟨hzBV_0, hzBV_1, hzBV_2, hzBV_3⟩ := cel4 BV.out; have hzBD_0 := cel1 BD.out; clear hb' hbox hg_) | (go_at_call 71; refine (impl_valueOk.V.contains gBD p _ _ l0_2 t _ (Kd.C_below HR2.out HB.out) (fun W x A2 c2 A3 c3 b hW g1 g2 g3 g4 hb => HP.out gBD W x A2 c2 A3 c3 b (blk_below BD.out hW) (below_step HB.out hW) g1 g2 g3 g4 hb) HS.out).mono ?_; rintro e w1 ⟨rfl, hb'⟩; replace HB := Aside0.mk (below_step HB.out hb'); replace BV := Aside0.mk (blk_below BV.out hb'); replace BD := Aside0.mk (blk_below BD.out hb'); obtain ⟨hzBV_0, hzBV_1, hzBV_2, hzBV_3⟩ := cel4 BV.out; have hzBD_0 := cel1 BD.out; clear hb'))
 go_ret
 exact ⟨enA, HB.out⟩
set_option maxHeartbeats 8000000 in
set_option maxRecDepth 100000 in
theorem impl_valueOk.obj (k : Nat) (a0_1 : ByteArray) (A0_2 : Option Addr) (c0_2 : Nat) (l0_2 : List (S52)) (A0_3 : Option Addr) (c0_3 : Nat) (l0_3 : List ByteArray) (a1 : Int) (r : Bool) (w : World) (hr0_2 : Kd.C k52 w A0_2 l0_2.length l0_2) (hc0_2 : l0_2.length ≤ c0_2) (hr0_3 : Kd.C Kd.string w A0_3 l0_3.length l0_3) (hc0_3 : l0_3.length ≤ c0_3) (hG : Gl w) (p : S52 → Option Bool) (hp : ∀ (gd : Nat) (W : World) (x : S52) (A2 : Option Addr) (c2 : Nat) (A3 : Option Addr) (c3 : Nat) (b : Bool), W.heap[gd]? = some (.cells #[.int .i64 a1] 3 (0, 0)) → Below w.heap.size w W → Kd.C k52 W A2 x.f2.length x.f2 → x.f2.length ≤ c2 → Kd.C Kd.string W A3 x.f3.length x.f3 → x.f3.length ≤ c3 → p x = some b →
   Calls Tryz.prog 72 #[.agg #[.int .i64 x.f0, .string x.f1, .slice A2 x.f2.length c2, .slice A3 x.f3.length c3], .pointer (some ⟨gd, 0, none⟩)] W fun e w' => e = .returned (.bool b) ∧ Below W.heap.size W w') (p' : ByteArray → Option Bool) (hq : ∀ (W : World) (x : ByteArray) (b : Bool), p' x = some b → Calls Tryz.prog 70 #[.string x] W fun e w' => e = .returned (.bool b) ∧ Below W.heap.size W w') (h : (if l0_3.length = l0_2.length then ((anyO p' l0_3).bind fun u => if u = true then some false else (if 0 < a1 then (if a0_1.toList = [] then (anyO p l0_2).bind fun t => some (!t) else some false) else some false)) else some false) = some r) :
  Calls Tryz.prog 52 #[.agg #[.int .i64 8, .string a0_1, .slice A0_2 l0_2.length c0_2, .slice A0_3 l0_3.length c0_3], .int .i64 a1] w fun e w' => e = .returned (.bool r) ∧ Below w.heap.size w w' := by
 have HR2 := Aside0.mk hr0_2; have HC2 := Aside0.mk hc0_2; have HR3 := Aside0.mk hr0_3; have HC3 := Aside0.mk hc0_3; have HG := Aside0.mk hG; clear hr0_2 hc0_2 hr0_3 hc0_3 hG; have HB := Aside0.mk (Below.refl w.heap.size w); have HP := Aside0.mk hp; clear hp; have HQ := Aside0.mk hq; clear hq
 by_cases d0 : l0_3.length = l0_2.length
 case neg =>
  rw [if_neg d0] at h; obtain rfl := Option.some.inj h
  have d0e0 : ((l0_3.length : Int) == (l0_2.length : Int)) = false := by first | (rw [beq_iff_eq]; omega) | (rw [beq_eq_false_iff_ne]; omega)
  have d0e1 : ((l0_3.length : Int) != (l0_2.length : Int)) = true := by first | (rw [bne_iff_ne]; omega) | (rw [bne_eq_false_iff_eq]; omega)
  have d0e2 : ((l0_3.length : Int) = (l0_2.length : Int)) = False := by first | exact eq_true (by omega) | exact eq_false (by omega)
  have d0e3 : (l0_3.length = l0_2.length) = False := eq_false d0; clear h d0
  go_enter Tryz.func52, Tryz.ntmps52
  go_wp2_with (first | ((with_reducible refine gate_dst (N := 2) rfl ?_); refine boxE (N := 2) (cs := #[.int .i64 8, .string a0_1, .slice A0_2 l0_2.length c0_2, .slice A0_3 l0_3.length c0_3]) (t := 52) ?_; intro gBV hg_ w1 hbox hb'; replace HB := Aside0.mk (below_step HB.out hb'); have BV := Aside0.mk hbox; obtain ⟨hzBV_0, hzBV_1, hzBV_2, hzBV_3⟩ := cel4 BV.out; clear hb' hbox hg_) | ((with_reducible refine gate_dst (N := 3) rfl ?_); refine boxE (N := 3) (cs := #[.int .i64 a1]) (t := 3) ?_; intro gBD hg_ w1 hbox hb'; replace HB := Aside0.mk (below_step HB.out hb'); replace BV := Aside0.mk (blk_below BV.out hb'); have BD := Aside0.mk hbox; obtain ⟨hzBV_0, hzBV_1, hzBV_2, hzBV_3⟩ := cel4 BV.out; have hzBD_0 := cel1 BD.out; clear hb' hbox hg_))
  go_ret
  exact ⟨enA, HB.out⟩
 rw [if_pos d0] at h
 have d0e0 : ((l0_3.length : Int) == (l0_2.length : Int)) = true := by first | (rw [beq_iff_eq]; omega) | (rw [beq_eq_false_iff_ne]; omega)
 have d0e1 : ((l0_3.length : Int) != (l0_2.length : Int)) = false := by first | (rw [bne_iff_ne]; omega) | (rw [bne_eq_false_iff_eq]; omega)
 have d0e2 : ((l0_3.length : Int) = (l0_2.length : Int)) = True := by first | exact eq_true (by omega) | exact eq_false (by omega)
 have d0e3 : (l0_3.length = l0_2.length) = True := eq_true d0; have D0 := Aside0.mk d0; clear d0; obtain ⟨u, hu, h⟩ := Option.bind_eq_some_iff.1 h; have HN := Aside0.mk hu; clear hu
 cases u with
 | true =>
  obtain rfl := Option.some.inj ((if_pos rfl).symm.trans h); clear h
  go_enter Tryz.func52, Tryz.ntmps52
  go_wp2_with (first | ((with_reducible refine gate_dst (N := 2) rfl ?_); refine boxE (N := 2) (cs := #[.int .i64 8, .string a0_1, .slice A0_2 l0_2.length c0_2, .slice A0_3 l0_3.length c0_3]) (t := 52) ?_; intro gBV hg_ w1 hbox hb'; replace HB := Aside0.mk (below_step HB.out hb'); have BV := Aside0.mk hbox; obtain ⟨hzBV_0, hzBV_1, hzBV_2, hzBV_3⟩ := cel4 BV.out; clear hb' hbox hg_) | ((with_reducible refine gate_dst (N := 3) rfl ?_); refine boxE (N := 3) (cs := #[.int .i64 a1]) (t := 3) ?_; intro gBD hg_ w1 hbox hb'; replace HB := Aside0.mk (below_step HB.out hb'); replace BV := Aside0.mk (blk_below BV.out hb'); have BD := Aside0.mk hbox; obtain ⟨hzBV_0, hzBV_1, hzBV_2, hzBV_3⟩ := cel4 BV.out; have hzBD_0 := cel1 BD.out; clear hb' hbox hg_) | (go_at_call 69; refine (impl_valueOk.N.contains p' _ _ l0_3 true _ (Kd.C_below HR3.out HB.out) (fun W x b hW hb => HQ.out W x b hb) HN.out).mono ?_; rintro e w1 ⟨rfl, hb'⟩; replace HB := Aside0.mk (below_step HB.out hb'); replace BV := Aside0.mk (blk_below BV.out hb'); replace BD := Aside0.mk (blk_below BD.out hb'); obtain ⟨hzBV_0, hzBV_1, hzBV_2, hzBV_3⟩ := cel4 BV.out; have hzBD_0 := cel1 BD.out; clear hb'))
  go_ret
  exact ⟨enA, HB.out⟩
 | false =>
  replace h := (if_neg (by decide)).symm.trans h
  by_cases d1 : 0 < a1
  case neg =>
   rw [if_neg d1] at h; obtain rfl := Option.some.inj h; have d1b : decide (0 < a1) = false := decide_eq_false d1; have d1c : (0 < a1) = False := eq_false d1; clear h d1
   go_enter Tryz.func52, Tryz.ntmps52
   go_wp2_with (first | ((with_reducible refine gate_dst (N := 2) rfl ?_); refine boxE (N := 2) (cs := #[.int .i64 8, .string a0_1, .slice A0_2 l0_2.length c0_2, .slice A0_3 l0_3.length c0_3]) (t := 52) ?_; intro gBV hg_ w1 hbox hb'; replace HB := Aside0.mk (below_step HB.out hb'); have BV := Aside0.mk hbox; obtain ⟨hzBV_0, hzBV_1, hzBV_2, hzBV_3⟩ := cel4 BV.out; clear hb' hbox hg_) | ((with_reducible refine gate_dst (N := 3) rfl ?_); refine boxE (N := 3) (cs := #[.int .i64 a1]) (t := 3) ?_; intro gBD hg_ w1 hbox hb'; replace HB := Aside0.mk (below_step HB.out hb'); replace BV := Aside0.mk (blk_below BV.out hb'); have BD := Aside0.mk hbox; obtain ⟨hzBV_0, hzBV_1, hzBV_2, hzBV_3⟩ := cel4 BV.out; have hzBD_0 := cel1 BD.out; clear hb' hbox hg_) | (go_at_call 69; refine (impl_valueOk.N.contains p' _ _ l0_3 false _ (Kd.C_below HR3.out HB.out) (fun W x b hW hb => HQ.out W x b hb) HN.out).mono ?_; rintro e w1 ⟨rfl, hb'⟩; replace HB := Aside0.mk (below_step HB.out hb'); replace BV := Aside0.mk (blk_below BV.out hb'); replace BD := Aside0.mk (blk_below BD.out hb'); obtain ⟨hzBV_0, hzBV_1, hzBV_2, hzBV_3⟩ := cel4 BV.out; have hzBD_0 := cel1 BD.out; clear hb'))
   go_ret
   exact ⟨enA, HB.out⟩
  rw [if_pos d1] at h; have d1b : decide (0 < a1) = true := decide_eq_true d1; have d1c : (0 < a1) = True := eq_true d1; clear d1
  by_cases d2 : a0_1.toList = []
  case neg =>
   rw [if_neg d2] at h; obtain rfl := Option.some.inj h
   have d2e0 : (a0_1.toList == []) = false := by simpa using d2
   have d2e1 : (a0_1.toList != []) = true := by simpa using d2
   have d2e2 : a0_1.toList.isEmpty = false := by simpa using d2
   have d2e3 : (a0_1.toList = []) = False := by simpa using d2
   clear h d2
   go_enter Tryz.func52, Tryz.ntmps52
   go_wp2_with (first | ((with_reducible refine gate_dst (N := 2) rfl ?_); refine boxE (N := 2) (cs := #[.int .i64 8, .string a0_1, .slice A0_2 l0_2.length c0_2, .slice A0_3 l0_3.length c0_3]) (t := 52) ?_; intro gBV hg_ w1 hbox hb'; replace HB := Aside0.mk (below_step HB.out hb'); have BV := Aside0.mk hbox; obtain ⟨hzBV_0, hzBV_1, hzBV_2, hzBV_3⟩ := cel4 BV.out; clear hb' hbox hg_) | ((with_reducible refine gate_dst (N := 3) rfl ?_); refine boxE (N := 3) (cs := #[.int .i64 a1]) (t := 3) ?_; intro gBD hg_ w1 hbox hb'; replace HB := Aside0.mk (below_step HB.out hb'); replace BV := Aside0.mk (blk_below BV.out hb'); have BD := Aside0.mk hbox; obtain ⟨hzBV_0, hzBV_1, hzBV_2, hzBV_3⟩ := cel4 BV.out; have hzBD_0 := cel1 BD.out; clear hb' hbox hg_) | (go_at_call 69; refine (impl_valueOk.N.contains p' _ _ l0_3 false _ (Kd.C_below HR3.out HB.out) (fun W x b hW hb => HQ.out W x b hb) HN.out).mono ?_; rintro e w1 ⟨rfl, hb'⟩; replace HB := Aside0.mk (below_step HB.out hb'); replace BV := Aside0.mk (blk_below BV.out hb'); replace BD := Aside0.mk (blk_below BD.out hb'); obtain ⟨hzBV_0, hzBV_1, hzBV_2, hzBV_3⟩ := cel4 BV.out; have hzBD_0 := cel1 BD.out; clear hb'))
   go_ret
   exact ⟨enA, HB.out⟩
  rw [if_pos d2] at h
  have d2e0 : (a0_1.toList == []) = true := by simpa using d2
  have d2e1 : (a0_1.toList != []) = false := by simpa using d2
  have d2e2 : a0_1.toList.isEmpty = true := by simpa using d2
  have d2e3 : (a0_1.toList = []) = True := by simpa using d2
  clear d2; obtain ⟨t, ht, h⟩ := Option.bind_eq_some_iff.1 h; obtain rfl := Option.some.inj h; clear h; have HS := Aside0.mk ht; clear ht
  have hmf : ∀ (fn : Fn) (first cap : Array Value) (w : World), (Instr.makeFunc fn first cap).run Tryz.prog w = .ok (.func fn first cap) w := fun _ _ _ _ => rfl
  go_enter Tryz.func52, Tryz.ntmps52
  go_wp2_with (first | ((with_reducible refine gate_dst (N := 2) rfl ?_); refine boxE (N := 2) (cs := #[.int .i64 8, .string a0_1, .slice A0_2 l0_2.length c0_2, .slice A0_3 l0_3.length c0_3]) (t := 52) ?_; intro gBV hg_ w1 hbox hb'; replace HB := Aside0.mk (below_step HB.out hb'); have BV := Aside0.mk hbox; obtain ⟨hzBV_0, hzBV_1, hzBV_2, hzBV_3⟩ := cel4 BV.out; clear hb' hbox hg_) | ((with_reducible refine gate_dst (N := 3) rfl ?_); refine boxE (N := 3) (cs := #[.int .i64 a1]) (t := 3) ?_; intro gBD hg_ w1 hbox hb'; replace HB := Aside0.mk (below_step HB.out hb'); replace BV := Aside0.mk (blk_below BV.out hb'); have BD := Aside0.mk hbox; obtain ⟨hzBV_0, hzBV_1, hzBV_2, hzBV_3⟩ := cel4 BV.out; have hzBD_0 := cel1 BD.out; clear hb' hbox hg_) | (go_at_call 69; refine (impl_valueOk.N.contains p' _ _ l0_3 false _ (Kd.C_below HR3.out HB.out) (fun W x b hW hb => HQ.out W x b hb) HN.out).mono ?_; rintro e w1 ⟨rfl, hb'⟩; replace HB := Aside0.mk (below_step HB.out hb'); replace BV := Aside0.mk (blk_below BV.out hb'); replace BD := Aside0.mk (blk_below BD.out hb'); obtain ⟨hzBV_0, hzBV_1, hzBV_2, hzBV_3⟩ := cel4 BV.out; have hzBD_0 := cel1 BD.out; clear hb') | (go_at_call 71; refine (impl_valueOk.V.contains gBD p _ _ l0_2 t _ (Kd.C_below HR2.out HB.out) (fun W x A2 c2 A3 c3 b hW g1 g2 g3 g4 hb => HP.out gBD W x A2 c2 A3 c3 b (blk_below BD.out hW) (below_step HB.out hW) g1 g2 g3 g4 hb) HS.out).mono ?_; rintro e w1 ⟨rfl, hb'⟩; replace HB := Aside0.mk (below_step HB.out hb'); replace BV := Aside0.mk (blk_below BV.out hb'); replace BD := Aside0.mk (blk_below BD.out hb'); obtain ⟨hzBV_0, hzBV_1, hzBV_2, hzBV_3⟩ := cel4 BV.out; have hzBD_0 := cel1 BD.out; clear hb'))
  go_ret
  exact ⟨enA, HB.out⟩
/-- What valueOk answers. -/
def impl_valueOk.f : Nat → Int → ByteArray → List S52 → List ByteArray → Int → Option Bool
 | 0, _, _, _, _, _ => none
 | k + 1, a0, a0_1, l0_2, l0_3, a1 => if a0 = 1 then ((impl_plain.f 1 a0_1 l0_2 l0_3).bind fun t => if t = true then (impl_NameOk.f k a0_1) else some false) else if a0 = 2 then ((impl_plain.f 2 a0_1 l0_2 l0_3).bind fun t => if t = true then (impl_IntOk.f k a0_1) else some false) else if a0 = 3 then ((impl_plain.f 3 a0_1 l0_2 l0_3).bind fun t => if t = true then (impl_FloatOk.f k a0_1) else some false) else if a0 = 4 then ((impl_plain.f 4 a0_1 l0_2 l0_3).bind fun t => if t = true then ((impl_Escaped.f k a0_1).bind fun s => some (s.toList != [])) else some false) else if a0 = 5 then ((impl_plain.f 5 a0_1 l0_2 l0_3).bind fun t => if t = true then (impl_Word.f a0_1) else some false) else if a0 = 6 then ((impl_plain.f 6 a0_1 l0_2 l0_3).bind fun t => if t = true then ((impl_NameOk.f k a0_1).bind fun t => if t = true then (impl_Word.f a0_1).bind fun u => some (!u) else some false) else some false) else if a0 = 7 then (if l0_3.length = 0 then (if 0 < a1 then (if a0_1.toList = [] then (anyO (fun x => (impl_valueOk.f k x.f0 x.f1 x.f2 x.f3 (wrap64 (a1 - 1))).map (!·)) l0_2).bind fun t => some (!t) else some false) else some false) else some false) else if a0 = 8 then (if l0_3.length = l0_2.length then ((anyO (fun x => (impl_NameOk.f k x).map (!·)) l0_3).bind fun u => if u = true then some false else (if 0 < a1 then (if a0_1.toList = [] then (anyO (fun x => (impl_valueOk.f k x.f0 x.f1 x.f2 x.f3 (wrap64 (a1 - 1))).map (!·)) l0_2).bind fun t => some (!t) else some false) else some false)) else some false) else some false
theorem impl_valueOk.mono : ∀ a0 a1 a2 a3 a4 k, LeO (impl_valueOk.f k a0 a1 a2 a3 a4) (impl_valueOk.f (k + 1) a0 a1 a2 a3 a4) := by
 intro a0 a1 a2 a3 a4 k
 induction k generalizing a0 a1 a2 a3 a4 with
 | zero => exact LeO.none _
 | succ k ih =>
  rw [impl_valueOk.f, impl_valueOk.f]
  repeat' first
   | (with_reducible first | exact ih _ _ _ _ _ | exact impl_NameOk.mono _ _ | exact impl_IntOk.mono _ _ | exact impl_FloatOk.mono _ _ | exact impl_Escaped.mono _ _ | exact LeO.refl _ | refine LeO.ite ?_ ?_ | refine LeO.bind (anyO_le _ _ (fun x => LeO.map _ ?_) _) (fun _ => ?_) | refine LeO.bind ?_ (fun _ => ?_))
   
set_option maxHeartbeats 8000000 in
set_option maxRecDepth 100000 in
theorem impl_valueOk.calls (k : Nat) :
  ∀ (a0_0 : Int) (a0_1 : ByteArray) (A0_2 : Option Addr) (c0_2 : Nat) (l0_2 : List (S52)) (A0_3 : Option Addr) (c0_3 : Nat) (l0_3 : List ByteArray) (a1 : Int) (r : Bool) (w : World) (hr0_2 : Kd.C k52 w A0_2 l0_2.length l0_2) (hc0_2 : l0_2.length ≤ c0_2) (hr0_3 : Kd.C Kd.string w A0_3 l0_3.length l0_3) (hc0_3 : l0_3.length ≤ c0_3) (hG : Gl w) (h : impl_valueOk.f k a0_0 a0_1 l0_2 l0_3 a1 = some r), Calls Tryz.prog 52 #[.agg #[.int .i64 a0_0, .string a0_1, .slice A0_2 l0_2.length c0_2, .slice A0_3 l0_3.length c0_3], .int .i64 a1] w fun e w' => e = .returned (.bool r) ∧ Below w.heap.size w w' := by
 induction k with
 | zero => intro _ _ _ _ _ _ _ _ _ _ _ _ _ _ _ _ h; exact absurd h (by simp [impl_valueOk.f])
 | succ k ih =>
 intro a0_0 a0_1 A0_2 c0_2 l0_2 A0_3 c0_3 l0_3 a1 r w hr0_2 hc0_2 hr0_3 hc0_3 hG h; rw [impl_valueOk.f] at h
 by_cases e1 : a0_0 = 1
 ·rw [if_pos e1] at h; subst e1; exact impl_valueOk.leaf1 k a0_1 A0_2 c0_2 l0_2 A0_3 c0_3 l0_3 a1 r w hr0_2 hc0_2 hr0_3 hc0_3 hG h
 rw [if_neg e1] at h
 by_cases e2 : a0_0 = 2
 ·rw [if_pos e2] at h; subst e2; exact impl_valueOk.leaf2 k a0_1 A0_2 c0_2 l0_2 A0_3 c0_3 l0_3 a1 r w hr0_2 hc0_2 hr0_3 hc0_3 hG h
 rw [if_neg e2] at h
 by_cases e3 : a0_0 = 3
 ·rw [if_pos e3] at h; subst e3; exact impl_valueOk.leaf3 k a0_1 A0_2 c0_2 l0_2 A0_3 c0_3 l0_3 a1 r w hr0_2 hc0_2 hr0_3 hc0_3 hG h
 rw [if_neg e3] at h
 by_cases e4 : a0_0 = 4
 ·rw [if_pos e4] at h; subst e4; exact impl_valueOk.leaf4 k a0_1 A0_2 c0_2 l0_2 A0_3 c0_3 l0_3 a1 r w hr0_2 hc0_2 hr0_3 hc0_3 hG h
 rw [if_neg e4] at h
 by_cases e5 : a0_0 = 5
 ·rw [if_pos e5] at h; subst e5; exact impl_valueOk.leaf5 k a0_1 A0_2 c0_2 l0_2 A0_3 c0_3 l0_3 a1 r w hr0_2 hc0_2 hr0_3 hc0_3 hG h
 rw [if_neg e5] at h
 by_cases e6 : a0_0 = 6
 ·rw [if_pos e6] at h; subst e6; exact impl_valueOk.leaf6 k a0_1 A0_2 c0_2 l0_2 A0_3 c0_3 l0_3 a1 r w hr0_2 hc0_2 hr0_3 hc0_3 hG h
 rw [if_neg e6] at h
 by_cases e7 : a0_0 = 7
 ·rw [if_pos e7] at h; subst e7; exact impl_valueOk.list k a0_1 A0_2 c0_2 l0_2 A0_3 c0_3 l0_3 a1 r w hr0_2 hc0_2 hr0_3 hc0_3 hG _ (fun gd W x A2 c2 A3 c3 b hd hW g1 g2 g3 g4 hb => by obtain ⟨b', hb', rfl⟩ := Option.map_eq_some_iff.1 hb; exact impl_valueOk.lit2 a1 gd x A2 c2 A3 c3 b' W hd (fun W' hW' => ih _ _ _ _ _ _ _ _ _ b' W' (Kd.C_below g1 hW') g2 (Kd.C_below g3 hW') g4 (Gl.below hG (below_step hW hW')) hb')) h
 rw [if_neg e7] at h
 by_cases e8 : a0_0 = 8
 ·rw [if_pos e8] at h; subst e8; exact impl_valueOk.obj k a0_1 A0_2 c0_2 l0_2 A0_3 c0_3 l0_3 a1 r w hr0_2 hc0_2 hr0_3 hc0_3 hG _ (fun gd W x A2 c2 A3 c3 b hd hW g1 g2 g3 g4 hb => by obtain ⟨b', hb', rfl⟩ := Option.map_eq_some_iff.1 hb; exact impl_valueOk.lit2 a1 gd x A2 c2 A3 c3 b' W hd (fun W' hW' => ih _ _ _ _ _ _ _ _ _ b' W' (Kd.C_below g1 hW') g2 (Kd.C_below g3 hW') g4 (Gl.below hG (below_step hW hW')) hb')) _ (fun W x b hb => impl_valueOk.lit1 k x b W hb) h
 rw [if_neg e8] at h; obtain rfl := Option.some.inj h; have e1b : (a0_0 == 1) = false := beq_eq_false_iff_ne.mpr e1; have e2b : (a0_0 == 2) = false := beq_eq_false_iff_ne.mpr e2; have e3b : (a0_0 == 3) = false := beq_eq_false_iff_ne.mpr e3; have e4b : (a0_0 == 4) = false := beq_eq_false_iff_ne.mpr e4; have e5b : (a0_0 == 5) = false := beq_eq_false_iff_ne.mpr e5; have e6b : (a0_0 == 6) = false := beq_eq_false_iff_ne.mpr e6; have e7b : (a0_0 == 7) = false := beq_eq_false_iff_ne.mpr e7; have e8b : (a0_0 == 8) = false := beq_eq_false_iff_ne.mpr e8; have e1c : (a0_0 = 1) = False := eq_false e1; have e2c : (a0_0 = 2) = False := eq_false e2; have e3c : (a0_0 = 3) = False := eq_false e3; have e4c : (a0_0 = 4) = False := eq_false e4; have e5c : (a0_0 = 5) = False := eq_false e5; have e6c : (a0_0 = 6) = False := eq_false e6; have e7c : (a0_0 = 7) = False := eq_false e7; have e8c : (a0_0 = 8) = False := eq_false e8; clear h ih e1 e2 e3 e4 e5 e6 e7 e8; have HR2 := Aside0.mk hr0_2; have HC2 := Aside0.mk hc0_2; have HR3 := Aside0.mk hr0_3; have HC3 := Aside0.mk hc0_3; have HG := Aside0.mk hG; clear hr0_2 hc0_2 hr0_3 hc0_3 hG; have HB := Aside0.mk (Below.refl w.heap.size w)
 go_enter Tryz.func52, Tryz.ntmps52
 go_wp2_with (first | ((with_reducible refine gate_dst (N := 2) rfl ?_); refine boxE (N := 2) (cs := #[.int .i64 a0_0, .string a0_1, .slice A0_2 l0_2.length c0_2, .slice A0_3 l0_3.length c0_3]) (t := 52) ?_; intro gBV hg_ w1 hbox hb'; replace HB := Aside0.mk (below_step HB.out hb'); have BV := Aside0.mk hbox; obtain ⟨hzBV_0, hzBV_1, hzBV_2, hzBV_3⟩ := cel4 BV.out; clear hb' hbox hg_) | ((with_reducible refine gate_dst (N := 3) rfl ?_); refine boxE (N := 3) (cs := #[.int .i64 a1]) (t := 3) ?_; intro gBD hg_ w1 hbox hb'; replace HB := Aside0.mk (below_step HB.out hb'); replace BV := Aside0.mk (blk_below BV.out hb'); have BD := Aside0.mk hbox; obtain ⟨hzBV_0, hzBV_1, hzBV_2, hzBV_3⟩ := cel4 BV.out; have hzBD_0 := cel1 BD.out; clear hb' hbox hg_))
 go_ret
 exact ⟨enA, HB.out⟩

def impl_ValueOk.f (k : Nat) (a0_0 : Int) (a0_1 : ByteArray) (l0_2 : List (S52)) (l0_3 : List ByteArray) : Option (Bool) := (impl_valueOk.f k a0_0 a0_1 l0_2 l0_3 10).bind fun t424 => (some t424)
theorem impl_ValueOk.mono : ∀ a0 a1 a2 a3 k, LeO (impl_ValueOk.f k a0 a1 a2 a3) (impl_ValueOk.f (k + 1) a0 a1 a2 a3) := by
 intro a0 a1 a2 a3 k; unfold impl_ValueOk.f
 repeat' first
   | (with_reducible first | exact impl_valueOk.mono _ _ _ _ _ _ | exact LeO.refl _ | exact LeO.none _ | refine LeO.ite ?_ ?_ | refine LeO.bind ?_ (fun _ => ?_))
   | exact impl_valueOk.mono _ _ _ _ _ _ | exact LeO.none _ | refine LeO.ite ?_ ?_ | refine LeO.bind ?_ (fun _ => ?_)
set_option maxHeartbeats 8000000 in
set_option maxRecDepth 100000 in
theorem impl_ValueOk.calls (k : Nat) (a0_0 : Int) (a0_1 : ByteArray) (A0_2 : Option Addr) (c0_2 : Nat) (l0_2 : List (S52)) (A0_3 : Option Addr) (c0_3 : Nat) (l0_3 : List ByteArray) (r : Bool) (w : World) (hr0_2 : Kd.C k52 w A0_2 l0_2.length l0_2) (hc0_2 : l0_2.length ≤ c0_2) (hr0_3 : Kd.C Kd.string w A0_3 l0_3.length l0_3) (hc0_3 : l0_3.length ≤ c0_3) (hG : Gl w) (h : impl_ValueOk.f k a0_0 a0_1 l0_2 l0_3 = some r) :
  Calls Tryz.prog 40 #[.agg #[.int .i64 a0_0, .string a0_1, .slice A0_2 l0_2.length c0_2, .slice A0_3 l0_3.length c0_3]] w fun e w' => e = .returned (.bool r) ∧ Below w.heap.size w w' := by
 have hu52 := Tryz.underlying52; have HG := Aside0.mk hG; clear hG; have HR0_2 := Aside0.mk hr0_2; have HC0_2 := Aside0.mk hc0_2; clear hr0_2 hc0_2; have HR0_3 := Aside0.mk hr0_3; have HC0_3 := Aside0.mk hc0_3; clear hr0_3 hc0_3; have HB := Aside0.mk (Below.refl w.heap.size w); have H : ((impl_valueOk.f k a0_0 a0_1 l0_2 l0_3 10).bind fun t424 => (some t424)) = some r := h; clear h; replace H := Option.bind_eq_some_iff.mp H; obtain ⟨t424, A20, H⟩ := H; replace H : (some t424) = some r := H; have A2 := Aside0.mk A20; clear A20; obtain rfl := Option.some.inj H
 go_enter Tryz.func40, Tryz.ntmps40
 go_wp2_with (first | ((with_reducible refine gate_dst (N := 1) rfl ?_); refine boxE (N := 1) (cs := #[.int .i64 a0_0, .string a0_1, .slice A0_2 l0_2.length c0_2, .slice A0_3 l0_3.length c0_3]) (t := 52) ?_; intro gb423 hg w3 hbox hb; have BK423 := Aside0.mk (hbox); have GW423 := Aside0.mk ((gbA (w := w) HB hg)); have GE423 := Aside0.mk ((gbA (w := w) HB hg)); replace HB := Aside0.mk (below_step (belB HB) hb); clear hb hbox hg; obtain ⟨hcz4_0, hcz4_1, hcz4_2, hcz4_3, hfz4_0, hfz4_1, hfz4_2, hfz4_3⟩ := cef4 BK423.out) | ((with_reducible refine gate_callee (f := 52) rfl ?_); refine goesL_ (some 4) rfl rfl Tryz.func52 (by kernel_rfl) rfl #[.agg #[.int .i64 a0_0, .string a0_1, .slice A0_2 l0_2.length c0_2, .slice A0_3 l0_3.length c0_3], .int .i64 10] rfl mapA ?_; (with_reducible refine (impl_valueOk.calls k a0_0 a0_1 _ _ l0_2 _ _ l0_3 10 t424 _ ?side1 ?side2 ?side3 ?side4 (Gl.below HG.out (belS HB GE423)) A2.out).mono ?_); (case side1 => exact cbA HR0_2 HB); (case side2 => exact HC0_2.out); (case side3 => exact cbA HR0_3 HB); (case side4 => exact HC0_3.out); rintro e w5 ⟨rfl, hb⟩; refine ⟨_, rfl, ?_⟩; replace BK423 := Aside0.mk (bBA BK423 hb); replace HB := Aside0.mk (below_step (belS HB GE423) hb); (try clear hb)))
 go_ret
 exact ⟨erA, belS HB GE423⟩

set_option maxHeartbeats 4000000 in
set_option maxRecDepth 100000 in
theorem impl_ArgsOk.index (p : S54 → Option Bool) (A0 : Option Addr) (c0 : Nat) (l0 : List S54) (r : Int) (w : World) (hr0 : Kd.C k54 w A0 l0.length l0)
  (hp : ∀ (W : World) (x : S54) (A3 : Option Addr) (c3 : Nat) (A4 : Option Addr) (c4 : Nat) (b : Bool), Below w.heap.size w W → Kd.C k52 W A3 x.f1.f2.length x.f1.f2 → x.f1.f2.length ≤ c3 → Kd.C Kd.string W A4 x.f1.f3.length x.f1.f3 → x.f1.f3.length ≤ c4 → p x = some b →
   Calls Tryz.prog 39 #[.agg #[.string x.f0, .int .i64 x.f1.f0, .string x.f1.f1, .slice A3 x.f1.f2.length c3, .slice A4 x.f1.f3.length c4]] W fun e w' => e = .returned (.bool b) ∧ Below W.heap.size W w')
  (h : ixO p l0 0 = some r) :
  Calls Tryz.prog 51 #[.slice A0 l0.length c0, .func (.func 39) #[] #[]] w fun e w' => e = .returned (.int .i64 r) ∧ Below w.heap.size w w' := by
 have hlen := hr0.2.1; have HR0 := Aside0.mk hr0; clear hr0; have HP := Aside0.mk hp; clear hp; have HH := Aside0.mk h; clear h
 go_enter Tryz.func51, Tryz.ntmps51
 go_wp2
 go_loopg [5, 8] l0.length (fun gg _ s8 wr => ∃ x : Int, 0 ≤ x ∧ x ≤ l0.length ∧ l0.length - x.toNat ≤ gg ∧ s8 = .int .i64 x ∧ Aside0 (Below w.heap.size w wr) ∧ Aside0 (ixO p (l0.drop x.toNat) x = some r))
 case atStart => exact ⟨0, Int.le_refl _, by omega, by omega, rfl, ⟨Below.refl _ w⟩, HH⟩
 case round =>
  clear HH; obtain ⟨x, h0, hk, hg, rfl, HB, HX⟩ := hrel
  by_cases hlt : x < (l0.length : Int)
  ·have w0 : wrap64 (x + 1) = x + 1 := by unfold wrap64; omega
   obtain ⟨ad, A3, c3, A4, c4, e1, hx0, hx1, hx2, hx3, hx4, hl3, hi3, hl4, hi4⟩ := at_T54 HR0.out x h0 hlt
   cases e1
   replace hx0 := (HB.out.cell (World.block_lt_of_cell? w _ hx0)).trans hx0; replace hx1 := (HB.out.cell (World.block_lt_of_cell? w _ hx1)).trans hx1; replace hx2 := (HB.out.cell (World.block_lt_of_cell? w _ hx2)).trans hx2; replace hx3 := (HB.out.cell (World.block_lt_of_cell? w _ hx3)).trans hx3; replace hx4 := (HB.out.cell (World.block_lt_of_cell? w _ hx4)).trans hx4; have H : ((p (rd_T54 l0 x)).bind fun b => if b = true then some x else ixO p (l0.drop (x + 1).toNat) (x + 1)) = some r := (ixO_at z54 p l0 x h0 hlt).symm.trans HX.out; obtain ⟨b, hb, H⟩ := Option.bind_eq_some_iff.1 H; have hC := Aside0.mk (HP.out wr (rd_T54 l0 x) A3 c3 A4 c4 b HB.out (Kd.C_below hi3 HB.out) hl3 (Kd.C_below hi4 HB.out) hl4 hb); clear hb hi3 hl3 hi4 hl4 HX; have c6b0 : decide (x < (l0.length : Int)) = true := decide_eq_true hlt; have p115 : (0 ≤ x) = True := eq_true h0; have q115 : (x < (l0.length : Int)) = True := eq_true hlt; have HH0 := Aside0.mk h0; have HK := Aside0.mk hk; have HG := Aside0.mk hg; have HLT := Aside0.mk hlt; have W0 := Aside0.mk w0; clear h0 hk hg hlt w0
   cases b with
   | true =>
    replace H := Option.some.inj ((if_pos rfl).symm.trans H); subst H
    go_wp2_with (go_at_call 39; refine hC.out.mono ?_; rintro e w' ⟨rfl, hb'⟩)
    go_ret
    exact ⟨rfl, below_step HB.out hb'⟩
   | false =>
    replace H := (if_neg (by decide)).symm.trans H
    have HX := Aside0.mk H; clear H
    go_wp2_with (go_at_call 39; refine hC.out.mono ?_; rintro e w' ⟨rfl, hb'⟩)
    go_roundg (l0.length - (x + 1).toNat)
    case measure => have := HG.out; have := HLT.out; have := HH0.out; omega
    case rel => exact ⟨x + 1, by have := HH0.out; omega, by have := HLT.out; omega, by omega, by rw [W0.out], ⟨below_step HB.out hb'⟩, HX⟩
  ·have c6b0 : decide (x < (l0.length : Int)) = false := decide_eq_false hlt; have H := HX.out; rw [ixO_end p l0 x x hlt] at H; have H2 := Option.some.inj H; subst H2; clear H hlt HX
   go_wp2
   go_ret
   exact ⟨rfl, HB.out⟩

set_option maxHeartbeats 4000000 in
set_option maxRecDepth 100000 in
theorem impl_ArgsOk.contains (p : S54 → Option Bool) (A0 : Option Addr) (c0 : Nat) (l0 : List S54) (r : Bool) (w : World) (hr0 : Kd.C k54 w A0 l0.length l0)
  (hp : ∀ (W : World) (x : S54) (A3 : Option Addr) (c3 : Nat) (A4 : Option Addr) (c4 : Nat) (b : Bool), Below w.heap.size w W → Kd.C k52 W A3 x.f1.f2.length x.f1.f2 → x.f1.f2.length ≤ c3 → Kd.C Kd.string W A4 x.f1.f3.length x.f1.f3 → x.f1.f3.length ≤ c4 → p x = some b →
   Calls Tryz.prog 39 #[.agg #[.string x.f0, .int .i64 x.f1.f0, .string x.f1.f1, .slice A3 x.f1.f2.length c3, .slice A4 x.f1.f3.length c4]] W fun e w' => e = .returned (.bool b) ∧ Below W.heap.size W w')
  (h : anyO p l0 = some r) :
  Calls Tryz.prog 38 #[.slice A0 l0.length c0, .func (.func 39) #[] #[]] w fun e w' => e = .returned (.bool r) ∧ Below w.heap.size w w' := by
 obtain ⟨t, ht, rfl⟩ := Option.map_eq_some_iff.1 h; clear h; have HR0 := Aside0.mk hr0; clear hr0; have HP := Aside0.mk hp; clear hp; have HH := Aside0.mk ht; clear ht
 go_enter Tryz.func38, Tryz.ntmps38
 go_wp2_with (go_at_call 51; refine (impl_ArgsOk.index  p A0 c0 l0 t _ HR0.out HP.out HH.out).mono ?_; rintro e w' ⟨rfl, hb'⟩)
 go_ret
 exact ⟨rfl, hb'⟩
/-- What ArgsOk asks of one (true: it falls); what it answers. -/
def impl_ArgsOk.p (k : Nat) (x : S54) : Option Bool := (impl_NameOk.f k x.f0).bind fun t => if t = true then (impl_ValueOk.f k x.f1.f0 x.f1.f1 x.f1.f2 x.f1.f3).map (!·) else some true
def impl_ArgsOk.f (k : Nat) (l0 : List S54) : Option Bool := (anyO (impl_ArgsOk.p k) l0).map (!·)
theorem impl_ArgsOk.mono : ∀ a0 k, LeO (impl_ArgsOk.f k a0) (impl_ArgsOk.f (k + 1) a0) := by
 intro a0 k; refine LeO.map _ (anyO_le _ _ (fun x => ?_) _); unfold impl_ArgsOk.p; exact LeO.bind (impl_NameOk.mono _ _) (fun _ => LeO.ite (LeO.map _ (impl_ValueOk.mono _ _ _ _ _)) (LeO.refl _))
set_option maxHeartbeats 8000000 in
set_option maxRecDepth 100000 in
theorem impl_ArgsOk.lit (k : Nat) (x : S54) (A3 : Option Addr) (c3 : Nat) (A4 : Option Addr) (c4 : Nat) (b : Bool) (w : World) (g1 : Kd.C k52 w A3 x.f1.f2.length x.f1.f2) (g2 : x.f1.f2.length ≤ c3) (g3 : Kd.C Kd.string w A4 x.f1.f3.length x.f1.f3) (g4 : x.f1.f3.length ≤ c4) (hG : Gl w) (h : impl_ArgsOk.p k x = some b) :
  Calls Tryz.prog 39 #[.agg #[.string x.f0, .int .i64 x.f1.f0, .string x.f1.f1, .slice A3 x.f1.f2.length c3, .slice A4 x.f1.f3.length c4]] w fun e w' => e = .returned (.bool b) ∧ Below w.heap.size w w' := by
 unfold impl_ArgsOk.p at h; have HG := Aside0.mk hG; clear hG; have HB := Aside0.mk (Below.refl w.heap.size w); replace g1 := Aside0.mk g1; replace g2 := Aside0.mk g2; replace g3 := Aside0.mk g3; replace g4 := Aside0.mk g4; obtain ⟨t, ht, h⟩ := Option.bind_eq_some_iff.1 h; have HN := Aside0.mk ht; clear ht
 cases t with
 | false =>
  obtain rfl := Option.some.inj ((if_neg (by decide)).symm.trans h)
  clear h
  go_enter Tryz.func39, Tryz.ntmps39
  go_wp2_with (first | ((with_reducible refine gate_dst (N := 1) rfl ?_); refine boxE (N := 1) (cs := #[.string x.f0, .int .i64 x.f1.f0, .string x.f1.f1, .slice A3 x.f1.f2.length c3, .slice A4 x.f1.f3.length c4]) (t := 54) ?_; intro gBX hg_ w1 hbox hb'; replace HB := Aside0.mk (below_step HB.out hb'); have BX := Aside0.mk hbox; have hzBX_0 : w1.cell? ⟨gBX, 0, none⟩ = some (.string x.f0) := (blk_cell BX.out 0).trans rfl; have hzBX_1 : w1.cell? ⟨gBX, 1, none⟩ = some (.int .i64 x.f1.f0) := (blk_cell BX.out 1).trans rfl; have hzBX_2 : w1.cell? ⟨gBX, 2, none⟩ = some (.string x.f1.f1) := (blk_cell BX.out 2).trans rfl; have hzBX_3 : w1.cell? ⟨gBX, 3, none⟩ = some (.slice A3 x.f1.f2.length c3) := (blk_cell BX.out 3).trans rfl; have hzBX_4 : w1.cell? ⟨gBX, 4, none⟩ = some (.slice A4 x.f1.f3.length c4) := (blk_cell BX.out 4).trans rfl; clear hb' hbox hg_) | (go_at_call 23; refine (impl_NameOk.calls k x.f0 false _ HN.out).mono ?_; rintro e w1 ⟨rfl, hb'⟩; have hb' := Drawn0.below hb'; replace HB := Aside0.mk (below_step HB.out hb'); replace BX := Aside0.mk (blk_below BX.out hb'); have hzBX_0 : w1.cell? ⟨gBX, 0, none⟩ = some (.string x.f0) := (blk_cell BX.out 0).trans rfl; have hzBX_1 : w1.cell? ⟨gBX, 1, none⟩ = some (.int .i64 x.f1.f0) := (blk_cell BX.out 1).trans rfl; have hzBX_2 : w1.cell? ⟨gBX, 2, none⟩ = some (.string x.f1.f1) := (blk_cell BX.out 2).trans rfl; have hzBX_3 : w1.cell? ⟨gBX, 3, none⟩ = some (.slice A3 x.f1.f2.length c3) := (blk_cell BX.out 3).trans rfl; have hzBX_4 : w1.cell? ⟨gBX, 4, none⟩ = some (.slice A4 x.f1.f3.length c4) := (blk_cell BX.out 4).trans rfl; clear hb'))
  go_ret
  exact ⟨enA, HB.out⟩
 | true =>
  replace h := (if_pos rfl).symm.trans h; obtain ⟨u, hu, rfl⟩ := Option.map_eq_some_iff.1 h; clear h; have HS := Aside0.mk hu; clear hu
  go_enter Tryz.func39, Tryz.ntmps39
  go_wp2_with (first | ((with_reducible refine gate_dst (N := 1) rfl ?_); refine boxE (N := 1) (cs := #[.string x.f0, .int .i64 x.f1.f0, .string x.f1.f1, .slice A3 x.f1.f2.length c3, .slice A4 x.f1.f3.length c4]) (t := 54) ?_; intro gBX hg_ w1 hbox hb'; replace HB := Aside0.mk (below_step HB.out hb'); have BX := Aside0.mk hbox; have hzBX_0 : w1.cell? ⟨gBX, 0, none⟩ = some (.string x.f0) := (blk_cell BX.out 0).trans rfl; have hzBX_1 : w1.cell? ⟨gBX, 1, none⟩ = some (.int .i64 x.f1.f0) := (blk_cell BX.out 1).trans rfl; have hzBX_2 : w1.cell? ⟨gBX, 2, none⟩ = some (.string x.f1.f1) := (blk_cell BX.out 2).trans rfl; have hzBX_3 : w1.cell? ⟨gBX, 3, none⟩ = some (.slice A3 x.f1.f2.length c3) := (blk_cell BX.out 3).trans rfl; have hzBX_4 : w1.cell? ⟨gBX, 4, none⟩ = some (.slice A4 x.f1.f3.length c4) := (blk_cell BX.out 4).trans rfl; clear hb' hbox hg_) | (go_at_call 23; refine (impl_NameOk.calls k x.f0 true _ HN.out).mono ?_; rintro e w1 ⟨rfl, hb'⟩; have hb' := Drawn0.below hb'; replace HB := Aside0.mk (below_step HB.out hb'); replace BX := Aside0.mk (blk_below BX.out hb'); have hzBX_0 : w1.cell? ⟨gBX, 0, none⟩ = some (.string x.f0) := (blk_cell BX.out 0).trans rfl; have hzBX_1 : w1.cell? ⟨gBX, 1, none⟩ = some (.int .i64 x.f1.f0) := (blk_cell BX.out 1).trans rfl; have hzBX_2 : w1.cell? ⟨gBX, 2, none⟩ = some (.string x.f1.f1) := (blk_cell BX.out 2).trans rfl; have hzBX_3 : w1.cell? ⟨gBX, 3, none⟩ = some (.slice A3 x.f1.f2.length c3) := (blk_cell BX.out 3).trans rfl; have hzBX_4 : w1.cell? ⟨gBX, 4, none⟩ = some (.slice A4 x.f1.f3.length c4) := (blk_cell BX.out 4).trans rfl; clear hb') | (go_at_call 40; refine (impl_ValueOk.calls k x.f1.f0 x.f1.f1 _ _ x.f1.f2 _ _ x.f1.f3 u _ (Kd.C_below g1.out HB.out) g2.out (Kd.C_below g3.out HB.out) g4.out (Gl.below HG.out HB.out) HS.out).mono ?_; rintro e w1 ⟨rfl, hb'⟩; replace HB := Aside0.mk (below_step HB.out hb'); replace BX := Aside0.mk (blk_below BX.out hb'); have hzBX_0 : w1.cell? ⟨gBX, 0, none⟩ = some (.string x.f0) := (blk_cell BX.out 0).trans rfl; have hzBX_1 : w1.cell? ⟨gBX, 1, none⟩ = some (.int .i64 x.f1.f0) := (blk_cell BX.out 1).trans rfl; have hzBX_2 : w1.cell? ⟨gBX, 2, none⟩ = some (.string x.f1.f1) := (blk_cell BX.out 2).trans rfl; have hzBX_3 : w1.cell? ⟨gBX, 3, none⟩ = some (.slice A3 x.f1.f2.length c3) := (blk_cell BX.out 3).trans rfl; have hzBX_4 : w1.cell? ⟨gBX, 4, none⟩ = some (.slice A4 x.f1.f3.length c4) := (blk_cell BX.out 4).trans rfl; clear hb'))
  go_ret
  exact ⟨enA, HB.out⟩
set_option maxHeartbeats 4000000 in
set_option maxRecDepth 100000 in
theorem impl_ArgsOk.calls (k : Nat) (A0 : Option Addr) (c0 : Nat) (l0 : List S54) (r : Bool) (w : World) (hr0 : Kd.C k54 w A0 l0.length l0) (hc0 : l0.length ≤ c0) (hG : Gl w) (h : impl_ArgsOk.f k l0 = some r) :
  Calls Tryz.prog 24 #[.slice A0 l0.length c0] w fun e w' => e = .returned (.bool r) ∧ Below w.heap.size w w' := by
 obtain ⟨t, ht, rfl⟩ := Option.map_eq_some_iff.1 h; clear h; have HC := Aside0.mk (fun (W : World) (hW : Below w.heap.size w W) => impl_ArgsOk.contains (impl_ArgsOk.p k) A0 c0 l0 t W (Kd.C_below hr0 hW) (fun W2 x A3 c3 A4 c4 b hW2 g1 g2 g3 g4 hb => impl_ArgsOk.lit k x A3 c3 A4 c4 b W2 g1 g2 g3 g4 (Gl.below hG (below_step hW hW2)) hb) ht); clear hr0 ht hG; have HB := Aside0.mk (Below.refl w.heap.size w)
 go_enter Tryz.func24, Tryz.ntmps24
 go_wp2_with (first | (go_at_call 38; refine (HC.out _ HB.out).mono ?_; rintro e w1 ⟨rfl, hb'⟩; replace HB := Aside0.mk (below_step HB.out hb'); clear hb'))
 go_ret
 exact ⟨enA, HB.out⟩

end Go.Proofs.YtjhagdjjlgjlbaaGreatDoor.OFnExactDirsText
-- narrow
