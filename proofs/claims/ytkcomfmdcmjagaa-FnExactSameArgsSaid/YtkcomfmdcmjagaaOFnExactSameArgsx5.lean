/- The machine side of one law, written by a program of this session out of Lean's print of the translation: for each Go function that is reached a plain Lean function and the proof that the call comes to just its answer; each under the condition that the plain function answers 'some'. -/
import Derived.Test.YtkcomfmdcmjagaaOFnExactSameArgsx0
import Derived.Test.YtkcomfmdcmjagaaOFnExactSameArgsx4
namespace Go.Proofs.Ytkcomfmdcmjagaa.OFnExactSameArgs
open Go.Proofs.Ytkcomfmdcmjagaa.Ix
open Go.RowKit Go.Proofs.YtkcomfmdcmjagaaW.PrintWords Go.Proofs.YtkcomfmdcmjagaaW.PrintLast Go.Proofs.YtkcomfmdcmjagaaW.PrintMore
attribute [local go_sem] max2_int min2_int max_two min_two max_three min_three max_four min_four   -- for this text's walks alone
set_option linter.unusedVariables false
set_option linter.unusedSimpArgs false

/-! ### impl_SameValue: function 15 -/
set_option maxHeartbeats 8000000 in
set_option maxRecDepth 100000 in
theorem impl_SameValue.same (p : S30 → S30 → Option Bool) (A0 : Option Addr) (c0 : Nat) (l0 : List S30) (A1 : Option Addr) (c1 : Nat) (l1 : List S30) (r : Bool) (w : World) (hr0 : Kd.C k30 w A0 l0.length l0) (hr1 : Kd.C k30 w A1 l1.length l1)
    (hp : ∀ (W : World) (x : S30) (A2 : Option Addr) (c2 : Nat) (A3 : Option Addr) (c3 : Nat) (y : S30) (A2y : Option Addr) (c2y : Nat) (A3y : Option Addr) (c3y : Nat) (b : Bool), Below w.heap.size w W → Kd.C k30 W A2 x.f2.length x.f2 → x.f2.length ≤ c2 → Kd.C Kd.string W A3 x.f3.length x.f3 → x.f3.length ≤ c3 → Kd.C k30 W A2y y.f2.length y.f2 → y.f2.length ≤ c2y → Kd.C Kd.string W A3y y.f3.length y.f3 → y.f3.length ≤ c3y → p x y = some b →
      Calls Try.prog 15 #[.agg #[.int .i64 x.f0, .string x.f1, .slice A2 x.f2.length c2, .slice A3 x.f3.length c3], .agg #[.int .i64 y.f0, .string y.f1, .slice A2y y.f2.length c2y, .slice A3y y.f3.length c3y]] W fun e w' => e = .returned (.bool b) ∧ Below W.heap.size W w')
    (h : sameO p l0 l1 = some r) :
    Calls Try.prog 48 #[.slice A0 l0.length c0, .slice A1 l1.length c1, .func (.func 15) #[] #[]] w fun e w' => e = .returned (.bool r) ∧ Below w.heap.size w w' := by
  have hlen := hr0.2.1
  have HR0 := Aside0.mk hr0
  have HR1 := Aside0.mk hr1
  clear hr0 hr1
  have HP := Aside0.mk hp
  clear hp
  unfold sameO at h
  by_cases hl : l0.length = l1.length
  case neg =>
    rw [if_neg hl] at h
    obtain rfl := Option.some.inj h
    clear h HP
    have e0 : ((l0.length : Int) == (l1.length : Int)) = false := by rw [beq_eq_false_iff_ne]; omega
    have e1 : ((l0.length : Int) != (l1.length : Int)) = true := by rw [bne_iff_ne]; omega
    have e2 : ((l0.length : Int) = (l1.length : Int)) = False := eq_false (by omega)
    have e3 : (l0.length = l1.length) = False := eq_false hl
    clear hl
    go_enter Try.func48, Try.ntmps48
    go_wp2
    go_ret
    exact ⟨rfl, Below.refl _ _⟩
  rw [if_pos hl] at h
  have HH := Aside0.mk h
  have HL := Aside0.mk hl
  clear h
  have e0 : ((l0.length : Int) == (l1.length : Int)) = true := by rw [beq_iff_eq]; omega
  have e1 : ((l0.length : Int) != (l1.length : Int)) = false := by rw [bne_eq_false_iff_eq]; omega
  have e2 : ((l0.length : Int) = (l1.length : Int)) = True := eq_true (by omega)
  have e3 : (l0.length = l1.length) = True := eq_true hl
  clear hl
  go_enter Try.func48, Try.ntmps48
  go_wp2
  go_loopg [7, 8, 9, 17] l0.length (fun gg _ _ _ s17 wr => ∃ x : Int, 0 ≤ x ∧ x ≤ l0.length ∧ l0.length - x.toNat ≤ gg ∧ s17 = .int .i64 x ∧ Aside0 (Below w.heap.size w wr) ∧ Aside0 (eqO p (l0.drop x.toNat) (l1.drop x.toNat) = some r))
  case atStart => exact ⟨0, Int.le_refl _, by omega, by omega, rfl, ⟨Below.refl _ w⟩, HH⟩
  case round =>
    clear HH e0 e1 e2 e3
    obtain ⟨x, h0, hk, hg, rfl, HB, HX⟩ := hrel
    by_cases hlt : x < (l0.length : Int)
    · have w0 : wrap64 (x + 1) = x + 1 := by unfold wrap64; omega
      have hlu : x < (l1.length : Int) := by have := HL.out; omega
      obtain ⟨ad, A2, c2, A3, c3, e1, hx0, hx1, hx2, hx3, hl2, hi2, hl3, hi3⟩ := at_T30 HR0.out x h0 hlt
      cases e1
      replace hx0 := (HB.out.cell (World.block_lt_of_cell? w _ hx0)).trans hx0
      replace hx1 := (HB.out.cell (World.block_lt_of_cell? w _ hx1)).trans hx1
      replace hx2 := (HB.out.cell (World.block_lt_of_cell? w _ hx2)).trans hx2
      replace hx3 := (HB.out.cell (World.block_lt_of_cell? w _ hx3)).trans hx3
      obtain ⟨ady, A2y, c2y, A3y, c3y, e1, hx0y, hx1y, hx2y, hx3y, hl2y, hi2y, hl3y, hi3y⟩ := at_T30 HR1.out x h0 hlu
      cases e1
      replace hx0y := (HB.out.cell (World.block_lt_of_cell? w _ hx0y)).trans hx0y
      replace hx1y := (HB.out.cell (World.block_lt_of_cell? w _ hx1y)).trans hx1y
      replace hx2y := (HB.out.cell (World.block_lt_of_cell? w _ hx2y)).trans hx2y
      replace hx3y := (HB.out.cell (World.block_lt_of_cell? w _ hx3y)).trans hx3y
      have hz0y := fun (o_ : Obj) => (((Below.refl wr.heap.size wr).alloc (Nat.le_refl _) o_).cell (World.block_lt_of_cell? wr _ hx0y)).trans hx0y
      have hz1y := fun (o_ : Obj) => (((Below.refl wr.heap.size wr).alloc (Nat.le_refl _) o_).cell (World.block_lt_of_cell? wr _ hx1y)).trans hx1y
      have hz2y := fun (o_ : Obj) => (((Below.refl wr.heap.size wr).alloc (Nat.le_refl _) o_).cell (World.block_lt_of_cell? wr _ hx2y)).trans hx2y
      have hz3y := fun (o_ : Obj) => (((Below.refl wr.heap.size wr).alloc (Nat.le_refl _) o_).cell (World.block_lt_of_cell? wr _ hx3y)).trans hx3y
      clear hx0y hx1y hx2y hx3y
      have H : ((p (rd_T30 l0 x) (rd_T30 l1 x)).bind fun b => if b = true then eqO p (l0.drop (x + 1).toNat) (l1.drop (x + 1).toNat) else some false) = some r := (eqO_at z30 z30 p l0 l1 x h0 hlt hlu).symm.trans HX.out
      obtain ⟨b, hb, H⟩ := Option.bind_eq_some_iff.1 H
      have hC := fun (W : World) (hW : Below w.heap.size w W) => HP.out W (rd_T30 l0 x) A2 c2 A3 c3 (rd_T30 l1 x) A2y c2y A3y c3y b hW (Kd.C_below hi2 hW) hl2 (Kd.C_below hi3 hW) hl3 (Kd.C_below hi2y hW) hl2y (Kd.C_below hi3y hW) hl3y hb
      have HC := Aside0.mk hC
      clear hC hb hi2 hl2 hi2y hl2y hi3 hl3 hi3y hl3y HX
      have c6b0 : decide (x < (l0.length : Int)) = true := decide_eq_true hlt
      have p115 : (0 ≤ x) = True := eq_true h0
      have q115 : (x < (l0.length : Int)) = True := eq_true hlt
      have q116 : (x < (l1.length : Int)) = True := eq_true hlu
      have HH0 := Aside0.mk h0
      have HK := Aside0.mk hk
      have HG := Aside0.mk hg
      have HLT := Aside0.mk hlt
      have W0 := Aside0.mk w0
      clear h0 hk hg hlt hlu w0
      cases b with
      | false =>
        replace H := Option.some.inj ((if_neg (by decide)).symm.trans H)
        subst H
        go_wp2_with (go_at_call 15; refine (HC.out _ (below_step HB.out (((Below.refl _ _).alloc (Nat.le_refl _) _).alloc (by simp) _))).mono ?_; rintro e w' ⟨rfl, hb'⟩)
        go_ret
        exact ⟨rfl, below_step (below_step HB.out (((Below.refl _ _).alloc (Nat.le_refl _) _).alloc (by simp) _)) hb'⟩
      | true =>
        replace H := (if_pos rfl).symm.trans H
        have HX := Aside0.mk H
        clear H
        go_wp2_with (go_at_call 15; refine (HC.out _ (below_step HB.out (((Below.refl _ _).alloc (Nat.le_refl _) _).alloc (by simp) _))).mono ?_; rintro e w' ⟨rfl, hb'⟩)
        go_roundg (l0.length - (x + 1).toNat)
        case measure => have := HG.out; have := HLT.out; have := HH0.out; omega
        case rel => exact ⟨x + 1, by have := HH0.out; omega, by have := HLT.out; omega, by omega, by rw [W0.out], ⟨below_step (below_step HB.out (((Below.refl _ _).alloc (Nat.le_refl _) _).alloc (by simp) _)) hb'⟩, HX⟩
    · have c6b0 : decide (x < (l0.length : Int)) = false := decide_eq_false hlt
      have H := HX.out
      rw [eqO_end p l0 _ x hlt] at H
      have H2 := Option.some.inj H
      subst H2
      clear H hlt HX
      go_wp2
      go_ret
      exact ⟨rfl, HB.out⟩

/-- What SameValue answers. -/
def impl_SameValue.f : Nat → Int → ByteArray → List S30 → List ByteArray → Int → ByteArray → List S30 → List ByteArray → Option Bool
  | 0, _, _, _, _, _, _, _, _ => none
  | k + 1, a0, a1, a2, a3, b0, b1, b2, b3 => if a0 = b0 then (if a1.toList = b1.toList then (slices_Equal_string_string.f k a3 b3).bind fun t => (if t = true then (sameO (fun x y => impl_SameValue.f k x.f0 x.f1 x.f2 x.f3 y.f0 y.f1 y.f2 y.f3) a2 b2) else some false) else some false) else some false
theorem impl_SameValue.mono : ∀ a0 a1 a2 a3 b0 b1 b2 b3 k, LeO (impl_SameValue.f k a0 a1 a2 a3 b0 b1 b2 b3) (impl_SameValue.f (k + 1) a0 a1 a2 a3 b0 b1 b2 b3) := by
  intro a0 a1 a2 a3 b0 b1 b2 b3 k
  induction k generalizing a0 a1 a2 a3 b0 b1 b2 b3 with
  | zero => exact LeO.none _
  | succ k ih =>
    rw [impl_SameValue.f, impl_SameValue.f]
    exact LeO.ite (LeO.ite (LeO.bind (slices_Equal_string_string.mono _ _ _) (fun _ => LeO.ite (sameO_le _ _ (fun x y => ih _ _ _ _ _ _ _ _) _ _) (LeO.refl _))) (LeO.refl _)) (LeO.refl _)
set_option maxHeartbeats 8000000 in
set_option maxRecDepth 100000 in
theorem impl_SameValue.calls (k : Nat) : ∀ (a0_0 : Int) (a0_1 : ByteArray) (A0_2 : Option Addr) (c0_2 : Nat) (l0_2 : List (S30)) (A0_3 : Option Addr) (c0_3 : Nat) (l0_3 : List ByteArray) (a1_0 : Int) (a1_1 : ByteArray) (A1_2 : Option Addr) (c1_2 : Nat) (l1_2 : List (S30)) (A1_3 : Option Addr) (c1_3 : Nat) (l1_3 : List ByteArray) (r : Bool) (w : World) (hr0_2 : Kd.C k30 w A0_2 l0_2.length l0_2) (hc0_2 : l0_2.length ≤ c0_2) (hr0_3 : Kd.C Kd.string w A0_3 l0_3.length l0_3) (hc0_3 : l0_3.length ≤ c0_3) (hr1_2 : Kd.C k30 w A1_2 l1_2.length l1_2) (hc1_2 : l1_2.length ≤ c1_2) (hr1_3 : Kd.C Kd.string w A1_3 l1_3.length l1_3) (hc1_3 : l1_3.length ≤ c1_3) (h : impl_SameValue.f k a0_0 a0_1 l0_2 l0_3 a1_0 a1_1 l1_2 l1_3 = some r),
    Calls Try.prog 15 #[.agg #[.int .i64 a0_0, .string a0_1, .slice A0_2 l0_2.length c0_2, .slice A0_3 l0_3.length c0_3], .agg #[.int .i64 a1_0, .string a1_1, .slice A1_2 l1_2.length c1_2, .slice A1_3 l1_3.length c1_3]] w fun e w' => e = .returned (.bool r) ∧ Below w.heap.size w w' := by
  induction k with
  | zero => intro _ _ _ _ _ _ _ _ _ _ _ _ _ _ _ _ _ _ _ _ _ _ _ _ _ _ h; exact absurd h (by simp [impl_SameValue.f])
  | succ k ih =>
  intro a0_0 a0_1 A0_2 c0_2 l0_2 A0_3 c0_3 l0_3 a1_0 a1_1 A1_2 c1_2 l1_2 A1_3 c1_3 l1_3 r w hr0_2 hc0_2 hr0_3 hc0_3 hr1_2 hc1_2 hr1_3 hc1_3 h
  rw [impl_SameValue.f] at h
  have HR02 := Aside0.mk hr0_2
  have HR03 := Aside0.mk hr0_3
  have HR12 := Aside0.mk hr1_2
  have HR13 := Aside0.mk hr1_3
  have HC03 := Aside0.mk hc0_3
  have HC13 := Aside0.mk hc1_3
  clear hr0_2 hr0_3 hr1_2 hr1_3 hc0_2 hc0_3 hc1_2 hc1_3
  by_cases d1 : a0_0 = a1_0
  case neg =>
    rw [if_neg d1] at h
    obtain rfl := Option.some.inj h
    have d1b : (a0_0 == a1_0) = false := by simpa using d1
    have d1c : (a0_0 != a1_0) = true := by simpa using d1
    clear h d1 ih HR02 HR03 HR12 HR13
    go_enter Try.func15, Try.ntmps15
    go_wp2
    go_ret
    exact ⟨rfl, (((Below.refl _ _).alloc (Nat.le_refl _) _).alloc (by simp) _)⟩
  rw [if_pos d1] at h
  subst d1
  by_cases d2 : a0_1.toList = a1_1.toList
  case neg =>
    rw [if_neg d2] at h
    obtain rfl := Option.some.inj h
    have d2b : (a0_1.toList == a1_1.toList) = false := beq_eq_false_iff_ne.mpr d2
    have d2c : (a0_1.toList != a1_1.toList) = true := bne_iff_ne.mpr d2
    clear h d2 ih HR02 HR03 HR12 HR13
    go_enter Try.func15, Try.ntmps15
    go_wp2
    go_ret
    exact ⟨rfl, (((Below.refl _ _).alloc (Nat.le_refl _) _).alloc (by simp) _)⟩
  rw [if_pos d2] at h
  have d2b : (a0_1.toList == a1_1.toList) = true := beq_iff_eq.mpr d2
  have d2c : (a0_1.toList != a1_1.toList) = false := bne_eq_false_iff_eq.mpr d2
  clear d2
  have HB := Aside0.mk (Below.refl w.heap.size w)
  obtain ⟨t, ht, h⟩ := Option.bind_eq_some_iff.1 h
  have HT := Aside0.mk ht
  clear ht
  have HI := Aside0.mk ih
  clear ih
  cases t with
  | false =>
    obtain rfl := Option.some.inj ((if_neg (by decide)).symm.trans h)
    clear h HI
    go_enter Try.func15, Try.ntmps15
    go_wp2_with (go_at_call 47; refine (slices_Equal_string_string.calls k _ _ l0_3 _ _ l1_3 false _ (Kd.C_below HR03.out (((Below.refl _ _).alloc (Nat.le_refl _) _).alloc (by simp) _)) HC03.out (Kd.C_below HR13.out (((Below.refl _ _).alloc (Nat.le_refl _) _).alloc (by simp) _)) HC13.out HT.out).mono ?_; rintro e w' ⟨rfl, nd, rfl⟩)
    go_ret
    exact ⟨rfl, (by repeat (first | (with_reducible first | exact HB.out | apply below_alloc | apply pw_below_drewN | apply below_drew1) | exact HB.out))⟩
  | true =>
    have H := Aside0.mk ((if_pos rfl).symm.trans h)
    clear h
    go_enter Try.func15, Try.ntmps15
    go_wp2_with (first | (go_at_call 47; refine (slices_Equal_string_string.calls k _ _ l0_3 _ _ l1_3 true _ (Kd.C_below HR03.out (((Below.refl _ _).alloc (Nat.le_refl _) _).alloc (by simp) _)) HC03.out (Kd.C_below HR13.out (((Below.refl _ _).alloc (Nat.le_refl _) _).alloc (by simp) _)) HC13.out HT.out).mono ?_; rintro e w' ⟨rfl, nd, rfl⟩) | (go_at_call 48; refine (impl_SameValue.same _ _ _ l0_2 _ _ l1_2 r _ (Kd.C_below HR02.out (by repeat (first | (with_reducible first | exact HB.out | apply below_alloc | apply pw_below_drewN | apply below_drew1) | exact HB.out))) (Kd.C_below HR12.out (by repeat (first | (with_reducible first | exact HB.out | apply below_alloc | apply pw_below_drewN | apply below_drew1) | exact HB.out))) (fun W x A2 c2 A3 c3 y A2y c2y A3y c3y b hW g1 g2 g3 g4 g5 g6 g7 g8 hb => HI.out _ _ _ _ _ _ _ _ _ _ _ _ _ _ _ _ b W g1 g2 g3 g4 g5 g6 g7 g8 hb) H.out).mono ?_; rintro e w'2 ⟨rfl, hb2⟩))
    go_ret
    exact ⟨rfl, below_step (by repeat (first | (with_reducible first | exact HB.out | apply below_alloc | apply pw_below_drewN | apply below_drew1) | exact HB.out)) hb2⟩

/-! ### impl_SameArgs: function 25 -/
set_option maxHeartbeats 8000000 in
set_option maxRecDepth 100000 in
theorem impl_SameArgs.same (p : S78 → S78 → Option Bool) (A0 : Option Addr) (c0 : Nat) (l0 : List S78) (A1 : Option Addr) (c1 : Nat) (l1 : List S78) (r : Bool) (w : World) (hr0 : Kd.C k78 w A0 l0.length l0) (hr1 : Kd.C k78 w A1 l1.length l1)
    (hp : ∀ (W : World) (x : S78) (A3 : Option Addr) (c3 : Nat) (A4 : Option Addr) (c4 : Nat) (y : S78) (A3y : Option Addr) (c3y : Nat) (A4y : Option Addr) (c4y : Nat) (b : Bool), Below w.heap.size w W → Kd.C k30 W A3 x.f1.f2.length x.f1.f2 → x.f1.f2.length ≤ c3 → Kd.C Kd.string W A4 x.f1.f3.length x.f1.f3 → x.f1.f3.length ≤ c4 → Kd.C k30 W A3y y.f1.f2.length y.f1.f2 → y.f1.f2.length ≤ c3y → Kd.C Kd.string W A4y y.f1.f3.length y.f1.f3 → y.f1.f3.length ≤ c4y → p x y = some b →
      Calls Try.prog 56 #[.agg #[.string x.f0, .int .i64 x.f1.f0, .string x.f1.f1, .slice A3 x.f1.f2.length c3, .slice A4 x.f1.f3.length c4], .agg #[.string y.f0, .int .i64 y.f1.f0, .string y.f1.f1, .slice A3y y.f1.f2.length c3y, .slice A4y y.f1.f3.length c4y]] W fun e w' => e = .returned (.bool b) ∧ Below W.heap.size W w')
    (h : sameO p l0 l1 = some r) :
    Calls Try.prog 55 #[.slice A0 l0.length c0, .slice A1 l1.length c1, .func (.func 56) #[] #[]] w fun e w' => e = .returned (.bool r) ∧ Below w.heap.size w w' := by
  have hlen := hr0.2.1
  have HR0 := Aside0.mk hr0
  have HR1 := Aside0.mk hr1
  clear hr0 hr1
  have HP := Aside0.mk hp
  clear hp
  unfold sameO at h
  by_cases hl : l0.length = l1.length
  case neg =>
    rw [if_neg hl] at h
    obtain rfl := Option.some.inj h
    clear h HP
    have e0 : ((l0.length : Int) == (l1.length : Int)) = false := by rw [beq_eq_false_iff_ne]; omega
    have e1 : ((l0.length : Int) != (l1.length : Int)) = true := by rw [bne_iff_ne]; omega
    have e2 : ((l0.length : Int) = (l1.length : Int)) = False := eq_false (by omega)
    have e3 : (l0.length = l1.length) = False := eq_false hl
    clear hl
    go_enter Try.func55, Try.ntmps55
    go_wp2
    go_ret
    exact ⟨rfl, Below.refl _ _⟩
  rw [if_pos hl] at h
  have HH := Aside0.mk h
  have HL := Aside0.mk hl
  clear h
  have e0 : ((l0.length : Int) == (l1.length : Int)) = true := by rw [beq_iff_eq]; omega
  have e1 : ((l0.length : Int) != (l1.length : Int)) = false := by rw [bne_eq_false_iff_eq]; omega
  have e2 : ((l0.length : Int) = (l1.length : Int)) = True := eq_true (by omega)
  have e3 : (l0.length = l1.length) = True := eq_true hl
  clear hl
  go_enter Try.func55, Try.ntmps55
  go_wp2
  go_loopg [7, 8, 9, 17] l0.length (fun gg _ _ _ s17 wr => ∃ x : Int, 0 ≤ x ∧ x ≤ l0.length ∧ l0.length - x.toNat ≤ gg ∧ s17 = .int .i64 x ∧ Aside0 (Below w.heap.size w wr) ∧ Aside0 (eqO p (l0.drop x.toNat) (l1.drop x.toNat) = some r))
  case atStart => exact ⟨0, Int.le_refl _, by omega, by omega, rfl, ⟨Below.refl _ w⟩, HH⟩
  case round =>
    clear HH e0 e1 e2 e3
    obtain ⟨x, h0, hk, hg, rfl, HB, HX⟩ := hrel
    by_cases hlt : x < (l0.length : Int)
    · have w0 : wrap64 (x + 1) = x + 1 := by unfold wrap64; omega
      have hlu : x < (l1.length : Int) := by have := HL.out; omega
      obtain ⟨ad, A3, c3, A4, c4, e1, hx0, hx1, hx2, hx3, hx4, hl3, hi3, hl4, hi4⟩ := at_T78 HR0.out x h0 hlt
      cases e1
      replace hx0 := (HB.out.cell (World.block_lt_of_cell? w _ hx0)).trans hx0
      replace hx1 := (HB.out.cell (World.block_lt_of_cell? w _ hx1)).trans hx1
      replace hx2 := (HB.out.cell (World.block_lt_of_cell? w _ hx2)).trans hx2
      replace hx3 := (HB.out.cell (World.block_lt_of_cell? w _ hx3)).trans hx3
      replace hx4 := (HB.out.cell (World.block_lt_of_cell? w _ hx4)).trans hx4
      obtain ⟨ady, A3y, c3y, A4y, c4y, e1, hx0y, hx1y, hx2y, hx3y, hx4y, hl3y, hi3y, hl4y, hi4y⟩ := at_T78 HR1.out x h0 hlu
      cases e1
      replace hx0y := (HB.out.cell (World.block_lt_of_cell? w _ hx0y)).trans hx0y
      replace hx1y := (HB.out.cell (World.block_lt_of_cell? w _ hx1y)).trans hx1y
      replace hx2y := (HB.out.cell (World.block_lt_of_cell? w _ hx2y)).trans hx2y
      replace hx3y := (HB.out.cell (World.block_lt_of_cell? w _ hx3y)).trans hx3y
      replace hx4y := (HB.out.cell (World.block_lt_of_cell? w _ hx4y)).trans hx4y
      have hz0y := fun (o_ : Obj) => (((Below.refl wr.heap.size wr).alloc (Nat.le_refl _) o_).cell (World.block_lt_of_cell? wr _ hx0y)).trans hx0y
      have hz1y := fun (o_ : Obj) => (((Below.refl wr.heap.size wr).alloc (Nat.le_refl _) o_).cell (World.block_lt_of_cell? wr _ hx1y)).trans hx1y
      have hz2y := fun (o_ : Obj) => (((Below.refl wr.heap.size wr).alloc (Nat.le_refl _) o_).cell (World.block_lt_of_cell? wr _ hx2y)).trans hx2y
      have hz3y := fun (o_ : Obj) => (((Below.refl wr.heap.size wr).alloc (Nat.le_refl _) o_).cell (World.block_lt_of_cell? wr _ hx3y)).trans hx3y
      have hz4y := fun (o_ : Obj) => (((Below.refl wr.heap.size wr).alloc (Nat.le_refl _) o_).cell (World.block_lt_of_cell? wr _ hx4y)).trans hx4y
      clear hx0y hx1y hx2y hx3y hx4y
      have H : ((p (rd_T78 l0 x) (rd_T78 l1 x)).bind fun b => if b = true then eqO p (l0.drop (x + 1).toNat) (l1.drop (x + 1).toNat) else some false) = some r := (eqO_at z78 z78 p l0 l1 x h0 hlt hlu).symm.trans HX.out
      obtain ⟨b, hb, H⟩ := Option.bind_eq_some_iff.1 H
      have hC := fun (W : World) (hW : Below w.heap.size w W) => HP.out W (rd_T78 l0 x) A3 c3 A4 c4 (rd_T78 l1 x) A3y c3y A4y c4y b hW (Kd.C_below hi3 hW) hl3 (Kd.C_below hi4 hW) hl4 (Kd.C_below hi3y hW) hl3y (Kd.C_below hi4y hW) hl4y hb
      have HC := Aside0.mk hC
      clear hC hb hi3 hl3 hi3y hl3y hi4 hl4 hi4y hl4y HX
      have c6b0 : decide (x < (l0.length : Int)) = true := decide_eq_true hlt
      have p115 : (0 ≤ x) = True := eq_true h0
      have q115 : (x < (l0.length : Int)) = True := eq_true hlt
      have q116 : (x < (l1.length : Int)) = True := eq_true hlu
      have HH0 := Aside0.mk h0
      have HK := Aside0.mk hk
      have HG := Aside0.mk hg
      have HLT := Aside0.mk hlt
      have W0 := Aside0.mk w0
      clear h0 hk hg hlt hlu w0
      cases b with
      | false =>
        replace H := Option.some.inj ((if_neg (by decide)).symm.trans H)
        subst H
        go_wp2_with (go_at_call 56; refine (HC.out _ (below_step HB.out (((Below.refl _ _).alloc (Nat.le_refl _) _).alloc (by simp) _))).mono ?_; rintro e w' ⟨rfl, hb'⟩)
        go_ret
        exact ⟨rfl, below_step (below_step HB.out (((Below.refl _ _).alloc (Nat.le_refl _) _).alloc (by simp) _)) hb'⟩
      | true =>
        replace H := (if_pos rfl).symm.trans H
        have HX := Aside0.mk H
        clear H
        go_wp2_with (go_at_call 56; refine (HC.out _ (below_step HB.out (((Below.refl _ _).alloc (Nat.le_refl _) _).alloc (by simp) _))).mono ?_; rintro e w' ⟨rfl, hb'⟩)
        go_roundg (l0.length - (x + 1).toNat)
        case measure => have := HG.out; have := HLT.out; have := HH0.out; omega
        case rel => exact ⟨x + 1, by have := HH0.out; omega, by have := HLT.out; omega, by omega, by rw [W0.out], ⟨below_step (below_step HB.out (((Below.refl _ _).alloc (Nat.le_refl _) _).alloc (by simp) _)) hb'⟩, HX⟩
    · have c6b0 : decide (x < (l0.length : Int)) = false := decide_eq_false hlt
      have H := HX.out
      rw [eqO_end p l0 _ x hlt] at H
      have H2 := Option.some.inj H
      subst H2
      clear H hlt HX
      go_wp2
      go_ret
      exact ⟨rfl, HB.out⟩

/-- What SameArgs asks of two arguments; what it answers. -/
def impl_SameArgs.p (k : Nat) (x y : S78) : Option Bool := if x.f0.toList = y.f0.toList then (impl_SameValue.f k x.f1.f0 x.f1.f1 x.f1.f2 x.f1.f3 y.f1.f0 y.f1.f1 y.f1.f2 y.f1.f3) else some false
def impl_SameArgs.f (k : Nat) (l0 l1 : List S78) : Option Bool := sameO (impl_SameArgs.p k) l0 l1
theorem impl_SameArgs.mono : ∀ a0 a1 k, LeO (impl_SameArgs.f k a0 a1) (impl_SameArgs.f (k + 1) a0 a1) := by
  intro a0 a1 k
  exact sameO_le _ _ (fun x y => LeO.ite (impl_SameValue.mono _ _ _ _ _ _ _ _ _) (LeO.refl _)) _ _
set_option maxHeartbeats 8000000 in
set_option maxRecDepth 100000 in
theorem impl_SameArgs.lit (k : Nat) (x : S78) (A3 : Option Addr) (c3 : Nat) (A4 : Option Addr) (c4 : Nat) (y : S78) (A3y : Option Addr) (c3y : Nat) (A4y : Option Addr) (c4y : Nat) (b : Bool) (w : World) (g1 : Kd.C k30 w A3 x.f1.f2.length x.f1.f2) (g2 : x.f1.f2.length ≤ c3) (g3 : Kd.C Kd.string w A4 x.f1.f3.length x.f1.f3) (g4 : x.f1.f3.length ≤ c4) (g5 : Kd.C k30 w A3y y.f1.f2.length y.f1.f2) (g6 : y.f1.f2.length ≤ c3y) (g7 : Kd.C Kd.string w A4y y.f1.f3.length y.f1.f3) (g8 : y.f1.f3.length ≤ c4y) (h : impl_SameArgs.p k x y = some b) :
    Calls Try.prog 56 #[.agg #[.string x.f0, .int .i64 x.f1.f0, .string x.f1.f1, .slice A3 x.f1.f2.length c3, .slice A4 x.f1.f3.length c4], .agg #[.string y.f0, .int .i64 y.f1.f0, .string y.f1.f1, .slice A3y y.f1.f2.length c3y, .slice A4y y.f1.f3.length c4y]] w fun e w' => e = .returned (.bool b) ∧ Below w.heap.size w w' := by
  unfold impl_SameArgs.p at h
  have HB := Aside0.mk (Below.refl w.heap.size w)
  by_cases c0 : x.f0.toList = y.f0.toList
  · rw [if_pos c0] at h
    have c0b : (x.f0.toList == y.f0.toList) = true := beq_iff_eq.mpr c0
    have c0c : (x.f0.toList != y.f0.toList) = false := bne_eq_false_iff_eq.mpr c0
    clear c0
    have HH := fun (W : World) (hW : Below w.heap.size w W) => impl_SameValue.calls k x.f1.f0 x.f1.f1 _ _ x.f1.f2 _ _ x.f1.f3 y.f1.f0 y.f1.f1 _ _ y.f1.f2 _ _ y.f1.f3 b W (Kd.C_below g1 hW) g2 (Kd.C_below g3 hW) g4 (Kd.C_below g5 hW) g6 (Kd.C_below g7 hW) g8 h
    have HC := Aside0.mk HH
    clear HH h g1 g2 g3 g4 g5 g6 g7 g8
    go_enter Try.func56, Try.ntmps56
    go_wp2_with (go_at_call 15; refine (HC.out _ (by repeat (first | (with_reducible first | exact HB.out | apply below_alloc | apply pw_below_drewN | apply below_drew1) | exact HB.out))).mono ?_; rintro e w' ⟨rfl, hb'⟩)
    go_ret
    exact ⟨rfl, below_step (by repeat (first | (with_reducible first | exact HB.out | apply below_alloc | apply pw_below_drewN | apply below_drew1) | exact HB.out)) hb'⟩
  · rw [if_neg c0] at h
    obtain rfl := Option.some.inj h
    have c0b : (x.f0.toList == y.f0.toList) = false := beq_eq_false_iff_ne.mpr c0
    have c0c : (x.f0.toList != y.f0.toList) = true := bne_iff_ne.mpr c0
    clear c0 h g1 g2 g3 g4 g5 g6 g7 g8
    go_enter Try.func56, Try.ntmps56
    go_wp2
    go_ret
    exact ⟨rfl, (by repeat (first | (with_reducible first | exact HB.out | apply below_alloc | apply pw_below_drewN | apply below_drew1) | exact HB.out))⟩
set_option maxHeartbeats 8000000 in
set_option maxRecDepth 100000 in
theorem impl_SameArgs.calls (k : Nat) (A0 : Option Addr) (c0 : Nat) (l0 : List S78) (A1 : Option Addr) (c1 : Nat) (l1 : List S78) (r : Bool) (w : World) (hr0 : Kd.C k78 w A0 l0.length l0) (hc0 : l0.length ≤ c0) (hr1 : Kd.C k78 w A1 l1.length l1) (hc1 : l1.length ≤ c1) (h : impl_SameArgs.f k l0 l1 = some r) :
    Calls Try.prog 25 #[.slice A0 l0.length c0, .slice A1 l1.length c1] w fun e w' => e = .returned (.bool r) ∧ Below w.heap.size w w' := by
  have HC := Aside0.mk (fun (W : World) (hW : Below w.heap.size w W) => impl_SameArgs.same (impl_SameArgs.p k) A0 c0 l0 A1 c1 l1 r W (Kd.C_below hr0 hW) (Kd.C_below hr1 hW) (fun W2 x A3 c3 A4 c4 y A3y c3y A4y c4y b _ g1 g2 g3 g4 g5 g6 g7 g8 hb => impl_SameArgs.lit k x A3 c3 A4 c4 y A3y c3y A4y c4y b W2 g1 g2 g3 g4 g5 g6 g7 g8 hb) h)
  clear hr0 hr1 h
  have HB := Aside0.mk (Below.refl w.heap.size w)
  go_enter Try.func25, Try.ntmps25
  go_wp2_with (go_at_call 55; refine (HC.out _ (by repeat (first | (with_reducible first | exact HB.out | apply below_alloc | apply pw_below_drewN | apply below_drew1) | exact HB.out))).mono ?_; rintro e w' ⟨rfl, hb'⟩)
  go_ret
  exact ⟨rfl, below_step (by repeat (first | (with_reducible first | exact HB.out | apply below_alloc | apply pw_below_drewN | apply below_drew1) | exact HB.out)) hb'⟩

/-! ### laws_eqStringS: function 18 -/
def laws_eqStringS.l0 : Nat → List ByteArray → List ByteArray → Int → Option (Bool)
  | 0, _, _, _ => none
  | k + 1, x0, x1, x5 => if x5 < (x0.length : Int) then (if 0 ≤ x5 then (if x5 < (x1.length : Int) then (if (rdOf ByteArray.empty x0 x5).toList = (rdOf ByteArray.empty x1 x5).toList then (laws_eqStringS.l0 k x0 x1 (wrap64 (x5 + 1))) else (some false)) else (none)) else (none)) else (some true)
def laws_eqStringS.f (k : Nat) (l0 : List ByteArray) (l1 : List ByteArray) : Option (Bool) := if (l0.length : Int) = (l1.length : Int) then (laws_eqStringS.l0 k l0 l1 0) else (some false)
theorem laws_eqStringS.mono_l : ∀ k, (∀ y0 y1 y2, LeO (laws_eqStringS.l0 k y0 y1 y2) (laws_eqStringS.l0 (k + 1) y0 y1 y2))
  | 0 => fun _ _ _ r h => by simp [laws_eqStringS.l0] at h
  | k + 1 => by
    have ih0 := laws_eqStringS.mono_l k
    · intro y0 y1 y2
      unfold laws_eqStringS.l0
      repeat' first
      | (with_reducible exact ih0 _ _ _)
      | (with_reducible exact LeO.refl _)
      | (with_reducible exact LeO.none _)
      | (with_reducible refine LeO.ite ?_ ?_)
      | (with_reducible refine LeO.bind ?_ (fun _ => ?_))
      | exact ih0 _ _ _
      | exact LeO.none _
      | refine LeO.ite ?_ ?_
      | refine LeO.bind ?_ (fun _ => ?_)
theorem laws_eqStringS.mono : ∀ a0 a1 k, LeO (laws_eqStringS.f k a0 a1) (laws_eqStringS.f (k + 1) a0 a1) := by
  intro a0 a1 k
  have ih0 := laws_eqStringS.mono_l k
  unfold laws_eqStringS.f
  repeat' first
      | (with_reducible exact ih0 _ _ _)
      | (with_reducible exact LeO.refl _)
      | (with_reducible exact LeO.none _)
      | (with_reducible refine LeO.ite ?_ ?_)
      | (with_reducible refine LeO.bind ?_ (fun _ => ?_))
      | exact ih0 _ _ _
      | exact LeO.none _
      | refine LeO.ite ?_ ?_
      | refine LeO.bind ?_ (fun _ => ?_)
set_option maxHeartbeats 8000000 in
set_option maxRecDepth 100000 in
theorem laws_eqStringS.calls (k : Nat) (A0 : Option Addr) (c0 : Nat) (l0 : List ByteArray) (A1 : Option Addr) (c1 : Nat) (l1 : List ByteArray) (r : Bool) (w : World) (hr0 : Kd.C Kd.string w A0 l0.length l0) (hc0 : l0.length ≤ c0) (hr1 : Kd.C Kd.string w A1 l1.length l1) (hc1 : l1.length ≤ c1) (h : laws_eqStringS.f k l0 l1 = some r) :
    Calls Try.prog 18 #[.slice A0 l0.length c0, .slice A1 l1.length c1] w fun e w' => e = .returned (.bool r) ∧ Drawn0 w w' := by
  have HR0 := Aside0.mk hr0
  have HC0 := Aside0.mk hc0
  clear hr0 hc0
  have HR1 := Aside0.mk hr1
  have HC1 := Aside0.mk hc1
  clear hr1 hc1
  have H : (if (l0.length : Int) = (l1.length : Int) then (laws_eqStringS.l0 k l0 l1 0) else (some false)) = some r := h
  clear h
  by_cases c3 : (l0.length : Int) = (l1.length : Int)
  · rw [if_pos c3] at H
    have c3b0 : ((l0.length : Int) == (l1.length : Int)) = true := beq_iff_eq.mpr c3
    have c3b1 : ((l0.length : Int) != (l1.length : Int)) = false := bne_eq_false_iff_eq.mpr c3
    have c3b2 : (l0.length == l1.length) = true := by first | simpa using c3 | (simp at c3 ⊢; omega)
    clear c3
    have H' := Aside0.mk H
    clear H
    go_enter Try.func18, Try.ntmps18
    go_wp2
    repeat (go_quiet (fail); try go_wp2)
    go_loopg [5] k (fun kq v5 w' => ∃ (x5_1 : Int), v5 = .int .i64 x5_1 ∧ Aside0 (laws_eqStringS.l0 kq l0 l1 x5_1 = some r) ∧ Aside0 (kq ≤ k) ∧ Drawn0 w w')
    case atStart => exact ⟨(0), (by first | rfl | (simp; done) | (simp [*]; done) | (simp [show ∀ l_ : List UInt8, (l_ != []) = !l_.isEmpty from fun l_ => by cases l_ <;> rfl, show ∀ l_ : List UInt8, (l_ == []) = l_.isEmpty from fun l_ => by cases l_ <;> rfl]; done)), H', ⟨Nat.le_refl _⟩, by repeat (first | exact Drawn0.refl _ | apply Drawn0.step)⟩
    case round =>
      clear H'
      try clear c1
      try clear p2
      try clear c3
      try clear c3b0
      try clear c3b1
      try clear c3b2
      obtain ⟨x5_1, rfl, HA, HK1, ⟨m1, rfl⟩⟩ := hrel
      cases gk with
      | zero => exact absurd HA.out (by simp [laws_eqStringS.l0])
      | succ k1 =>
        have H := HA.out
        clear HA
        simp only [laws_eqStringS.l0] at H
        by_cases c4 : x5_1 < (l0.length : Int)
        · rw [if_pos c4] at H
          have c4b0 : decide (x5_1 < (l0.length : Int)) = true := decide_eq_true c4
          clear c4
          by_cases c5 : 0 ≤ x5_1
          · rw [if_pos c5] at H
            have c5b0 : decide (0 ≤ x5_1) = true := decide_eq_true c5
            clear c5
            by_cases c6 : x5_1 < (l1.length : Int)
            · rw [if_pos c6] at H
              have c6b0 : decide (x5_1 < (l1.length : Int)) = true := decide_eq_true c6
              clear c6
              by_cases c7 : (rdOf ByteArray.empty l0 x5_1).toList = (rdOf ByteArray.empty l1 x5_1).toList
              · rw [if_pos c7] at H
                have c7b0 : ((rdOf ByteArray.empty l0 x5_1).toList == (rdOf ByteArray.empty l1 x5_1).toList) = true := beq_iff_eq.mpr c7
                have c7b1 : ((rdOf ByteArray.empty l0 x5_1).toList != (rdOf ByteArray.empty l1 x5_1).toList) = false := bne_eq_false_iff_eq.mpr c7
                clear c7
                have H' := Aside0.mk H
                clear H
                have p177 : 0 ≤ (x5_1 : Int) := of_decide_eq_true (by first | (with_reducible assumption) | assumption)
                have q177 : x5_1 < (l0.length : Int) := of_decide_eq_true (by first | (with_reducible assumption) | assumption)
                obtain ⟨ad177, e177, hx177_0⟩ := Kd.at_string HR0.out x5_1 p177 q177
                cases e177
                replace p177 := eq_true p177
                replace q177 := eq_true q177
                have p178 : 0 ≤ (x5_1 : Int) := of_decide_eq_true (by first | (with_reducible assumption) | assumption)
                have q178 : x5_1 < (l1.length : Int) := of_decide_eq_true (by first | (with_reducible assumption) | assumption)
                obtain ⟨ad178, e178, hx178_0⟩ := Kd.at_string HR1.out x5_1 p178 q178
                cases e178
                replace p178 := eq_true p178
                replace q178 := eq_true q178
                go_wp2
                repeat (go_quiet (fail); try go_wp2)
                go_roundg k1
                case measure => have := HK1.out; omega
                case rel => exact ⟨(wrap64 (x5_1 + 1)), (by first | rfl | (simp; done) | (simp [*]; done) | (simp [show ∀ l_ : List UInt8, (l_ != []) = !l_.isEmpty from fun l_ => by cases l_ <;> rfl, show ∀ l_ : List UInt8, (l_ == []) = l_.isEmpty from fun l_ => by cases l_ <;> rfl]; done)), H', ⟨by have := HK1.out; omega⟩, by repeat (first | exact Drawn0.refl _ | apply Drawn0.step)⟩
              · rw [if_neg c7] at H
                have c7b0 : ((rdOf ByteArray.empty l0 x5_1).toList == (rdOf ByteArray.empty l1 x5_1).toList) = false := beq_eq_false_iff_ne.mpr c7
                have c7b1 : ((rdOf ByteArray.empty l0 x5_1).toList != (rdOf ByteArray.empty l1 x5_1).toList) = true := bne_iff_ne.mpr c7
                obtain rfl := Option.some.inj H
                have p177 : 0 ≤ (x5_1 : Int) := of_decide_eq_true (by first | (with_reducible assumption) | assumption)
                have q177 : x5_1 < (l0.length : Int) := of_decide_eq_true (by first | (with_reducible assumption) | assumption)
                obtain ⟨ad177, e177, hx177_0⟩ := Kd.at_string HR0.out x5_1 p177 q177
                cases e177
                replace p177 := eq_true p177
                replace q177 := eq_true q177
                have p178 : 0 ≤ (x5_1 : Int) := of_decide_eq_true (by first | (with_reducible assumption) | assumption)
                have q178 : x5_1 < (l1.length : Int) := of_decide_eq_true (by first | (with_reducible assumption) | assumption)
                obtain ⟨ad178, e178, hx178_0⟩ := Kd.at_string HR1.out x5_1 p178 q178
                cases e178
                replace p178 := eq_true p178
                replace q178 := eq_true q178
                go_wp2
                repeat (go_quiet (fail); try go_wp2)
                go_ret
                exact ⟨by first | rfl | (simp; done) | (simp [*]; done) | (simp [show ∀ l_ : List UInt8, (l_ != []) = !l_.isEmpty from fun l_ => by cases l_ <;> rfl, show ∀ l_ : List UInt8, (l_ == []) = l_.isEmpty from fun l_ => by cases l_ <;> rfl]; done), by repeat (first | exact Drawn0.refl _ | apply Drawn0.step)⟩
            · rw [if_neg c6] at H
              exact absurd H (by simp)
          · rw [if_neg c5] at H
            exact absurd H (by simp)
        · rw [if_neg c4] at H
          have c4b0 : decide (x5_1 < (l0.length : Int)) = false := decide_eq_false c4
          clear c4
          obtain rfl := Option.some.inj H
          go_wp2
          repeat (go_quiet (fail); try go_wp2)
          go_ret
          exact ⟨by first | rfl | (simp; done) | (simp [*]; done) | (simp [show ∀ l_ : List UInt8, (l_ != []) = !l_.isEmpty from fun l_ => by cases l_ <;> rfl, show ∀ l_ : List UInt8, (l_ == []) = l_.isEmpty from fun l_ => by cases l_ <;> rfl]; done), by repeat (first | exact Drawn0.refl _ | apply Drawn0.step)⟩
  · rw [if_neg c3] at H
    have c3b0 : ((l0.length : Int) == (l1.length : Int)) = false := beq_eq_false_iff_ne.mpr c3
    have c3b1 : ((l0.length : Int) != (l1.length : Int)) = true := bne_iff_ne.mpr c3
    have c3b2 : (l0.length == l1.length) = false := by first | simpa using c3 | (simp at c3 ⊢; omega)
    obtain rfl := Option.some.inj H
    go_enter Try.func18, Try.ntmps18
    go_wp2
    repeat (go_quiet (fail); try go_wp2)
    go_ret
    exact ⟨by first | rfl | (simp; done) | (simp [*]; done) | (simp [show ∀ l_ : List UInt8, (l_ != []) = !l_.isEmpty from fun l_ => by cases l_ <;> rfl, show ∀ l_ : List UInt8, (l_ == []) = l_.isEmpty from fun l_ => by cases l_ <;> rfl]; done), by repeat (first | exact Drawn0.refl _ | apply Drawn0.step)⟩


end Go.Proofs.Ytkcomfmdcmjagaa.OFnExactSameArgs
