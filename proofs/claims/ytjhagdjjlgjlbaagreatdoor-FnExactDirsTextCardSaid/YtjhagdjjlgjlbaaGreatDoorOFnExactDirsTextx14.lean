/- The machine side of one law, written by a program. -/
import Derived.Test.YtjhagdjjlgjlbaaGreatDoorOFnExactDirsTextx0
import Derived.Test.YtjhagdjjlgjlbaaGreatDoorOFnExactDirsTextx13
namespace Go.Proofs.YtjhagdjjlgjlbaaGreatDoor.OFnExactDirsText
open Go.Proofs.YtjhagdjjlgjlbaaGreatDoor.GlU Go.Proofs.YtjhagdjjlgjlbaaGreatDoor.Ix
open Go.RowKit Go.Proofs.YtjhagdjjlgjlbaaGreatDoorW.PrintWords Go.Proofs.YtjhagdjjlgjlbaaGreatDoorW.PrintLast Go.Proofs.YtjhagdjjlgjlbaaGreatDoorW.PrintMore
attribute [local go_sem] max2_int min2_int max_two min_two max_three min_three max_four min_four
set_option linter.unusedVariables false
set_option linter.unusedSimpArgs false

mutual
def impl_Escaped.j0 : Nat → ByteArray → Bool → Option (ByteArray)
 | 0, _, _ => none
 | k + 1, x0, x14 => if x14 = true then (some (⟨#[]⟩ : ByteArray)) else (impl_Escaped.l0 k x0 (([34] : List Int)) (x0.size : Int) 0)
def impl_Escaped.l0 : Nat → ByteArray → List Int → Int → Int → Option (ByteArray)
 | 0, _, _, _, _ => none
 | k + 1, x0, x3, x17, x18 => if x18 < x17 then (if 0 ≤ x18 then (if x18 < (x0.size : Int) then ((strings_IndexByte.f (⟨#[34, 92, 8, 9, 10, 12, 13]⟩ : ByteArray) (bt x0 x18)).bind fun t401 => (if t401 ≥ 0 then (if 0 ≤ t401 then (if t401 < 7 then ((some (([92, bt (⟨#[34, 92, 98, 116, 110, 102, 114]⟩ : ByteArray) t401] : List Int) : List Int)).bind fun y402 => (if x3.length + y402.length < 140737488355328 then (impl_Escaped.l0 k x0 (x3 ++ y402) x17 (wrap64 (x18 + 1))) else (none))) else (none)) else (none)) else (if (bt x0 x18) < 32 then (if 0 ≤ ((bt x0 x18) / 16) then (if ((bt x0 x18) / 16) < 16 then (if 0 ≤ (Go.bits .and .u8 (bt x0 x18) 15) then (if (Go.bits .and .u8 (bt x0 x18) 15) < 16 then ((some (([92, 117, 48, 48, bt (⟨#[48, 49, 50, 51, 52, 53, 54, 55, 56, 57, 97, 98, 99, 100, 101, 102]⟩ : ByteArray) ((bt x0 x18) / 16), bt (⟨#[48, 49, 50, 51, 52, 53, 54, 55, 56, 57, 97, 98, 99, 100, 101, 102]⟩ : ByteArray) (Go.bits .and .u8 (bt x0 x18) 15)] : List Int) : List Int)).bind fun y408 => (if x3.length + y408.length < 140737488355328 then (impl_Escaped.l0 k x0 (x3 ++ y408) x17 (wrap64 (x18 + 1))) else (none))) else (none)) else (none)) else (none)) else (none)) else (if (bt x0 x18) = 127 then (if 0 ≤ ((bt x0 x18) / 16) then (if ((bt x0 x18) / 16) < 16 then (if 0 ≤ (Go.bits .and .u8 (bt x0 x18) 15) then (if (Go.bits .and .u8 (bt x0 x18) 15) < 16 then ((some (([92, 117, 48, 48, bt (⟨#[48, 49, 50, 51, 52, 53, 54, 55, 56, 57, 97, 98, 99, 100, 101, 102]⟩ : ByteArray) ((bt x0 x18) / 16), bt (⟨#[48, 49, 50, 51, 52, 53, 54, 55, 56, 57, 97, 98, 99, 100, 101, 102]⟩ : ByteArray) (Go.bits .and .u8 (bt x0 x18) 15)] : List Int) : List Int)).bind fun y414 => (if x3.length + y414.length < 140737488355328 then (impl_Escaped.l0 k x0 (x3 ++ y414) x17 (wrap64 (x18 + 1))) else (none))) else (none)) else (none)) else (none)) else (none)) else (if x3.length < 140737488355328 then (impl_Escaped.l0 k x0 (x3 ++ [bt x0 x18]) x17 (wrap64 (x18 + 1))) else (none)))))) else (none)) else (none)) else (if x3.length < 140737488355328 then (some (strOfNums (x3 ++ [34]))) else (none))
end
def impl_Escaped.f (k : Nat) (a0 : ByteArray) : Option (ByteArray) := (impl_TextOk.f a0).bind fun t394 => (if t394 = true then (impl_Escaped.j0 k a0 (decide ((a0.size : Int) > 200))) else (impl_Escaped.j0 k a0 true))
theorem impl_Escaped.mono_l : ∀ k, (∀ y0 y1, LeO (impl_Escaped.j0 k y0 y1) (impl_Escaped.j0 (k + 1) y0 y1)) ∧ (∀ y0 y1 y2 y3, LeO (impl_Escaped.l0 k y0 y1 y2 y3) (impl_Escaped.l0 (k + 1) y0 y1 y2 y3))
 | 0 => ⟨fun _ _ r h => by simp [impl_Escaped.j0] at h, fun _ _ _ _ r h => by simp [impl_Escaped.l0] at h⟩
 | k + 1 => by
  obtain ⟨ih0, ih1⟩ := impl_Escaped.mono_l k; refine ⟨?_, ?_⟩
  ·intro y0 y1; unfold impl_Escaped.j0
   repeat' first
   | (with_reducible first | exact ih0 _ _ | exact ih1 _ _ _ _ | exact LeO.refl _ | exact LeO.none _ | refine LeO.ite ?_ ?_ | refine LeO.bind ?_ (fun _ => ?_))
   | exact ih0 _ _ | exact ih1 _ _ _ _ | exact LeO.none _ | refine LeO.ite ?_ ?_ | refine LeO.bind ?_ (fun _ => ?_)
  ·intro y0 y1 y2 y3; unfold impl_Escaped.l0
   repeat' first
   | (with_reducible first | exact ih0 _ _ | exact ih1 _ _ _ _ | exact LeO.refl _ | exact LeO.none _ | refine LeO.ite ?_ ?_ | refine LeO.bind ?_ (fun _ => ?_))
   | exact ih0 _ _ | exact ih1 _ _ _ _ | exact LeO.none _ | refine LeO.ite ?_ ?_ | refine LeO.bind ?_ (fun _ => ?_)
theorem impl_Escaped.mono : ∀ a0 k, LeO (impl_Escaped.f k a0) (impl_Escaped.f (k + 1) a0) := by
 intro a0 k; obtain ⟨ih0, ih1⟩ := impl_Escaped.mono_l k; unfold impl_Escaped.f
 repeat' first
   | (with_reducible first | exact ih0 _ _ | exact ih1 _ _ _ _ | exact LeO.refl _ | exact LeO.none _ | refine LeO.ite ?_ ?_ | refine LeO.bind ?_ (fun _ => ?_))
   | exact ih0 _ _ | exact ih1 _ _ _ _ | exact LeO.none _ | refine LeO.ite ?_ ?_ | refine LeO.bind ?_ (fun _ => ?_)
def impl_Escaped.T13 : Bool × List (List Nat × List Nat) := (true, [([], []), ([], []), ([1], [1]), ([2], [2]), ([], []), ([4], [4]), ([5], [5]), ([3, 6], [3, 6]), ([0, 7], [0, 7]), ([8, 8, 0, 1, 2, 3, 4, 5, 6, 7, 8], [0, 8])])
def impl_Escaped.B13 : List Nat := [0, 0, 2, 6, 0, 16, 48, 126, 255, 511]
theorem impl_Escaped.tab13 : rtab .any (opsOf Tryz.f41 13) = impl_Escaped.T13 := by kernel_rfl
theorem impl_Escaped.bits13 : waitsOk impl_Escaped.T13.2 impl_Escaped.B13 = true := by kernel_rfl
set_option maxHeartbeats 8000000 in
set_option maxRecDepth 100000 in
theorem impl_Escaped.calls (k : Nat) (a0 : ByteArray) (r : ByteArray) (w : World) (hG : Gl w) (h : impl_Escaped.f k a0 = some r) :
  Calls Tryz.prog 41 #[.string a0] w fun e w' => e = .returned (.string r) ∧ Below w.heap.size w w' := by
 have HG := Aside0.mk hG; clear hG; have HB := Aside0.mk (Below.refl w.heap.size w); have H : ((impl_TextOk.f a0).bind fun t394 => (if t394 = true then (impl_Escaped.j0 k a0 (decide ((a0.size : Int) > 200))) else (impl_Escaped.j0 k a0 true))) = some r := h; clear h; have HC2 := Aside0.mk H; clear H
 go_enter Tryz.func41, Tryz.ntmps41
 go_upto_region 1 with (fail)
 go_cut [14] (fun v14 wc => ∃ (kq : Nat) (x14_1 : Bool), v14 = .bool x14_1 ∧ Aside0 (impl_Escaped.j0 kq a0 x14_1 = some r) ∧ Aside0 (kq ≤ k) ∧ Aside0 (Below w.heap.size w wc))
 case first =>
  have H := HC2.out; clear HC2; replace H := Option.bind_eq_some_iff.mp H; obtain ⟨t394, A30, H⟩ := H; replace H : (if t394 = true then (impl_Escaped.j0 k a0 (decide ((a0.size : Int) > 200))) else (impl_Escaped.j0 k a0 true)) = some r := H; have A3 := Aside0.mk A30; clear A30
  by_cases c4 : t394 = true
  ·subst c4
   have H1 : (impl_Escaped.j0 k a0 (decide ((a0.size : Int) > 200))) = some r := by rw [if_pos rfl] at H; exact H
   clear H; have H := H1; clear H1
   have H' := Aside0.mk H
   clear H
   go_wp2_with (first | ((with_reducible refine gate_callee (f := 53) rfl ?_); refine goesL_ (some 8) rfl rfl Tryz.func53 (by kernel_rfl) rfl #[.string a0] rfl mapA ?_; (with_reducible refine (impl_TextOk.calls a0 true _ (Gl.below HG.out (belB HB)) A3.out).mono ?_); rintro e w5 ⟨rfl, hb⟩; refine ⟨_, rfl, ?_⟩; replace HB := Aside0.mk (below_step (belB HB) hb); (try clear hb)))
   go_meet
   case rel => exact ⟨_, (decide ((a0.size : Int) > 200)), enA, H', ⟨by first | omega | exact Nat.le_refl _⟩, ⟨belB HB⟩⟩
  ·replace c4 := Bool.eq_false_iff.mpr c4; subst c4
   have H1 : (impl_Escaped.j0 k a0 true) = some r := by rw [if_neg (show ¬ (false = true) by decide)] at H; exact H
   clear H; have H := H1; clear H1
   have H' := Aside0.mk H
   clear H
   go_wp2_with (first | ((with_reducible refine gate_callee (f := 53) rfl ?_); refine goesL_ (some 8) rfl rfl Tryz.func53 (by kernel_rfl) rfl #[.string a0] rfl mapA ?_; (with_reducible refine (impl_TextOk.calls a0 false _ (Gl.below HG.out (belB HB)) A3.out).mono ?_); rintro e w6 ⟨rfl, hb⟩; refine ⟨_, rfl, ?_⟩; replace HB := Aside0.mk (below_step (belB HB) hb); (try clear hb)))
   go_meet
   case rel => exact ⟨_, (true), enA, H', ⟨by first | omega | exact Nat.le_refl _⟩, ⟨belB HB⟩⟩
 case rest =>
  clear HC2
  try clear p2
  try clear c4
  try clear c5
  obtain ⟨kq, x14_1, rfl, HA, HJ1, HB⟩ := hcut
  cases kq with
  | zero => exact absurd HA.out (by simp [impl_Escaped.j0])
  | succ kj1 =>
   have H := HA.out; clear HA
   simp only [impl_Escaped.j0] at H
   by_cases c7 : x14_1 = true
   ·subst c7
    have H1 : (some (⟨#[]⟩ : ByteArray)) = some r := by rw [if_pos rfl] at H; exact H
    clear H; have H := H1; clear H1; obtain rfl := Option.some.inj H
    go_wp2
    go_ret
    exact ⟨erA, belB HB⟩
   ·replace c7 := Bool.eq_false_iff.mpr c7; subst c7
    have H1 : (impl_Escaped.l0 kj1 a0 (([34] : List Int)) (a0.size : Int) 0) = some r := by rw [if_neg (show ¬ (false = true) by decide)] at H; exact H
    clear H; have H := H1; clear H1
    obtain ⟨y395, hy395⟩ : ∃ y_ : List Int, y_ = (([34] : List Int)) := ⟨_, rfl⟩
    replace H : (impl_Escaped.l0 kj1 a0 y395 (a0.size : Int) 0) = some r := reA H hy395; have Ny395 := Aside0.mk hy395; clear hy395
    have H' := Aside0.mk H
    clear H
    go_wp2_with (first | ((with_reducible refine gate_dst (N := 15) rfl ?_); (try (refine gate_guard (by rfl) ?_; dsimp only)); refine Kd.R_lit (Kd.int .u8) _ 5 ?hg (N := 15) ?hd (xs := ([34] : List Int)) (inner := [.int .u8 34]) (ok := fun _ => True) (okp := fun _ => True) ?hr ?hp (fun _ hk => hk) trivial (Below.refl _ _) (Nat.le_refl _) (by simp) ?_; (case hd => rfl); (case hg => rfl); (case hr => first | (go_simp; done) | (go_simp; rfl)); (case hp => exact (Reps.one (show Kd.M (Kd.int .u8) _ _ _ 34 [.int .u8 34] from rfl) (Reps.none _ _))); intro v396 w8 ho9 hb hg_ hnew_; clear hg_ hnew_; (first | rw [← Ny395.out] at ho9 | (simp only [Int.reduceToNat] at ho9; rw [← Ny395.out] at ho9)); have HO397 := Aside0.mk (Kd.R_lower ho9 (below_size (belB HB))); replace HB := Aside0.mk (below_step (belB HB) hb); clear hb ho9))
    go_loopg [3, 18] kj1 (fun kq v3 v18 w' => ∃ (x3_2 : List Int) (x18_2 : Int), v18 = .int .i64 x18_2 ∧ Aside0 (impl_Escaped.l0 kq a0 x3_2 (a0.size : Int) x18_2 = some r) ∧ Aside0 (kq ≤ kj1) ∧ Aside0 (Kd.R (Kd.int .u8) 5 w' w.heap.size (fun _ => True) v3 x3_2) ∧ Aside0 (Below w.heap.size w w'))
    case atStart => exact ⟨(y395), (0), enA, H', ⟨Nat.le_refl _⟩, ⟨kdB HO397⟩, ⟨belB HB⟩⟩
    case round =>
     clear H'
     try clear p2
     try clear c4
     try clear c5
     try clear c7
     try clear p2
     obtain ⟨x3_2, x18_2, rfl, HA, HK2, HO_3, HB⟩ := hrel
     cases gk with
     | zero => exact absurd HA.out (by simp [impl_Escaped.l0])
     | succ k2 =>
      have H := HA.out; clear HA
      simp only [impl_Escaped.l0] at H
      by_cases c10 : x18_2 < (a0.size : Int)
      ·rw [if_pos c10] at H; have c10b0 := decide_eq_true c10; clear c10
       by_cases c11 : 0 ≤ x18_2
       ·rw [if_pos c11] at H; have c11b0 := decide_eq_true c11; clear c11
        by_cases c12 : x18_2 < (a0.size : Int)
        ·rw [if_pos c12] at H; have c12b0 := decide_eq_true c12; clear c12; replace H := Option.bind_eq_some_iff.mp H; obtain ⟨t401, A140, H⟩ := H; replace H : (if t401 ≥ 0 then (if 0 ≤ t401 then (if t401 < 7 then ((some (([92, bt (⟨#[34, 92, 98, 116, 110, 102, 114]⟩ : ByteArray) t401] : List Int) : List Int)).bind fun y402 => (if x3_2.length + y402.length < 140737488355328 then (impl_Escaped.l0 k2 a0 (x3_2 ++ y402) (a0.size : Int) (wrap64 (x18_2 + 1))) else (none))) else (none)) else (none)) else (if (bt a0 x18_2) < 32 then (if 0 ≤ ((bt a0 x18_2) / 16) then (if ((bt a0 x18_2) / 16) < 16 then (if 0 ≤ (Go.bits .and .u8 (bt a0 x18_2) 15) then (if (Go.bits .and .u8 (bt a0 x18_2) 15) < 16 then ((some (([92, 117, 48, 48, bt (⟨#[48, 49, 50, 51, 52, 53, 54, 55, 56, 57, 97, 98, 99, 100, 101, 102]⟩ : ByteArray) ((bt a0 x18_2) / 16), bt (⟨#[48, 49, 50, 51, 52, 53, 54, 55, 56, 57, 97, 98, 99, 100, 101, 102]⟩ : ByteArray) (Go.bits .and .u8 (bt a0 x18_2) 15)] : List Int) : List Int)).bind fun y408 => (if x3_2.length + y408.length < 140737488355328 then (impl_Escaped.l0 k2 a0 (x3_2 ++ y408) (a0.size : Int) (wrap64 (x18_2 + 1))) else (none))) else (none)) else (none)) else (none)) else (none)) else (if (bt a0 x18_2) = 127 then (if 0 ≤ ((bt a0 x18_2) / 16) then (if ((bt a0 x18_2) / 16) < 16 then (if 0 ≤ (Go.bits .and .u8 (bt a0 x18_2) 15) then (if (Go.bits .and .u8 (bt a0 x18_2) 15) < 16 then ((some (([92, 117, 48, 48, bt (⟨#[48, 49, 50, 51, 52, 53, 54, 55, 56, 57, 97, 98, 99, 100, 101, 102]⟩ : ByteArray) ((bt a0 x18_2) / 16), bt (⟨#[48, 49, 50, 51, 52, 53, 54, 55, 56, 57, 97, 98, 99, 100, 101, 102]⟩ : ByteArray) (Go.bits .and .u8 (bt a0 x18_2) 15)] : List Int) : List Int)).bind fun y414 => (if x3_2.length + y414.length < 140737488355328 then (impl_Escaped.l0 k2 a0 (x3_2 ++ y414) (a0.size : Int) (wrap64 (x18_2 + 1))) else (none))) else (none)) else (none)) else (none)) else (none)) else (if x3_2.length < 140737488355328 then (impl_Escaped.l0 k2 a0 (x3_2 ++ [bt a0 x18_2]) (a0.size : Int) (wrap64 (x18_2 + 1))) else (none))))) = some r := H; have A14 := Aside0.mk A140; clear A140
         by_cases c15 : t401 ≥ 0
         ·rw [if_pos c15] at H; have c15b0 := decide_eq_true c15; clear c15
          by_cases c16 : 0 ≤ t401
          ·rw [if_pos c16] at H; have c16b0 := decide_eq_true c16; clear c16
           by_cases c17 : t401 < 7
           ·rw [if_pos c17] at H; have c17b0 := decide_eq_true c17; clear c17
            obtain ⟨y402, hy402⟩ : ∃ y_ : List Int, y_ = (([92, bt (⟨#[34, 92, 98, 116, 110, 102, 114]⟩ : ByteArray) t401] : List Int)) := ⟨_, rfl⟩
            replace H : (if x3_2.length + y402.length < 140737488355328 then (impl_Escaped.l0 k2 a0 (x3_2 ++ y402) (a0.size : Int) (wrap64 (x18_2 + 1))) else (none)) = some r := reA H hy402; have Ny402 := Aside0.mk hy402; clear hy402
            by_cases c19 : x3_2.length + y402.length < 140737488355328
            ·rw [if_pos c19] at H; have LMc19 := Aside0.mk c19; clear c19
             obtain ⟨y405, hy405⟩ : ∃ y_ : List Int, y_ = (x3_2 ++ y402) := ⟨_, rfl⟩
             replace H : (impl_Escaped.l0 k2 a0 y405 (a0.size : Int) (wrap64 (x18_2 + 1))) = some r := reA H hy405; have Ny405 := Aside0.mk hy405; clear hy405
             have H' := Aside0.mk H
             clear H; have p13 : 0 ≤ (x18_2 : Int) := odA; have q13 : x18_2 < (a0.size : Int) := odA; have hx13 := bt_at a0 x18_2; replace p13 := eq_true p13; replace q13 := eq_true q13
             go_wp2_with (first | ((with_reducible refine gate_callee (f := 54) rfl ?_); refine goesL_ (some 25) rfl rfl Tryz.func54 (by kernel_rfl) rfl #[.string (⟨#[34, 92, 8, 9, 10, 12, 13]⟩ : ByteArray), .int .u8 (bt a0 x18_2)] rfl mapA ?_; (with_reducible refine (strings_IndexByte.calls (⟨#[34, 92, 8, 9, 10, 12, 13]⟩ : ByteArray) (bt a0 x18_2) t401 _ A14.out).mono ?_); rintro e w' ⟨rfl, ⟨nd, rfl⟩⟩; refine ⟨_, rfl, ?_⟩; have p18 : 0 ≤ (t401 : Int) := odA; have q18 : t401 < (7 : Int) := odA; have hx18 := bt_at (⟨#[34, 92, 98, 116, 110, 102, 114]⟩ : ByteArray) t401; replace p18 := eq_true p18; replace q18 := eq_true q18) | ((with_reducible refine gate_dst (N := 36) rfl ?_); (try (refine gate_guard (by rfl) ?_; dsimp only)); refine Kd.R_lit (Kd.int .u8) _ 5 ?hg (N := 36) ?hd (xs := ([92, bt (⟨#[34, 92, 98, 116, 110, 102, 114]⟩ : ByteArray) t401] : List Int)) (inner := [.int .u8 92, .int .u8 (bt (⟨#[34, 92, 98, 116, 110, 102, 114]⟩ : ByteArray) t401)]) (ok := fun _ => True) (okp := fun _ => True) ?hr ?hp (fun _ hk => hk) trivial (Below.refl _ _) (Nat.le_refl _) (by simp) ?_; (case hd => rfl); (case hg => rfl); (case hr => first | (go_simp; done) | (go_simp; rfl)); (case hp => exact (Reps.one (show Kd.M (Kd.int .u8) _ _ _ 92 [.int .u8 92] from rfl) (Reps.one (show Kd.M (Kd.int .u8) _ _ _ (bt (⟨#[34, 92, 98, 116, 110, 102, 114]⟩ : ByteArray) t401) [.int .u8 (bt (⟨#[34, 92, 98, 116, 110, 102, 114]⟩ : ByteArray) t401)] from rfl) (Reps.none _ _)))); intro v403 w20 ho21 hb hg_ hnew_; clear hg_ hnew_; (first | rw [← Ny402.out] at ho21 | (simp only [Int.reduceToNat] at ho21; rw [← Ny402.out] at ho21)); have HO404 := Aside0.mk (Kd.R_lower (Kd.R_new' ho21 (Kd.R_lt (kdB HO_3))) (below_size (belB HB))); replace HO_3 := Aside0.mk (Kd.R_elder' (kdB HO_3) (Kd.R_base ho21) hb); replace HB := Aside0.mk (below_step (belB HB) hb); clear hb ho21; obtain ⟨Ao23, co23, eo23⟩ := Kd.R_slice HO404.out; subst eo23) | ((with_reducible refine gate_builtin (b := .append) (xs := #[.tmp 33, .tmp 36]) rfl ?_); (try (refine gate_guard (by rfl) ?_; dsimp only)); at_builtin; refine Kd.R_append_rows (Kd.int .u8) (w0 := w) w.heap.size rfl (.tmp 33) (.tmp 36) 34 5 (.int .u8 0) 1 rfl Tryz.underlying34 info5 rfl (by decide) (by omega) u3 x3_2 y402 _ _ _ (fun k_ => some k_ ≠ (.slice Ao23 y402.length co23 : Value).ownBlock) (fun _ => False) rfl rfl ?aO ?aR (fun _ _ h => h) (fun _ h => h.elim) ?aF ?aB ?aS ?aL ?_; (case aR => repeat (first | exact (Kd.R_reads' HO404.out).2.2 | (with_reducible refine Kd.C_alloc ?_ _) | (with_reducible refine Kd.C_drewN ?_ _) | (with_reducible refine Kd.C_drew ?_))); (case aB => exact (belB HB)); (case aF => exact (fun k_ hk => Kd.fresh' (Kd.R_lt (kdB HO404)) k_ hk)); (case aO => exact (by (with_reducible repeat (first | apply Kd.R_alloc | apply Kd.R_drewN | apply Kd.R_drew)); exact Kd.R_mono HO_3.out (fun _ hk => hk.2))); (case aS => exact (below_size (belB HB))); (case aL => have := LMc19.out; omega); intro v406 w22 ho hb hg hat; rw [← Ny405.out] at ho; have HO407 := Aside0.mk (ho); replace HO404 := Aside0.mk (Kd.R_after (ok := (fun _ => True)) (kdB HO404) hg hat); replace HB := Aside0.mk (hb); clear HO_3; clear ho hb hg hat))
             go_roundg k2
             case measure => have := HJ1.out; have := HK2.out; omega
             case rel => exact ⟨(y405), (wrap64 (x18_2 + 1)), enA, H', ⟨by have := HJ1.out; have := HK2.out; omega⟩, ⟨by (with_reducible repeat (first | apply Kd.R_alloc | apply Kd.R_drewN | apply Kd.R_drew)); exact Kd.R_mono HO407.out (fun _ hk => trivial)⟩, ⟨belB HB⟩⟩
            ·rw [if_neg c19] at H
             exact absurd H (by simp)
           ·rw [if_neg c17] at H
            exact absurd H (by simp)
          ·rw [if_neg c16] at H
           exact absurd H (by simp)
         ·rw [if_neg c15] at H; have c15b0 := decide_eq_false c15; clear c15
          by_cases c24 : (bt a0 x18_2) < 32
          ·rw [if_pos c24] at H; have c24b0 := decide_eq_true c24; clear c24
           obtain ⟨ji25, hji25⟩ : ∃ j_ : Int, ((bt a0 x18_2) / 16) = j_ := ⟨_, rfl⟩
           replace H : (if 0 ≤ (ji25) then (if (ji25) < 16 then (if 0 ≤ (Go.bits .and .u8 (bt a0 x18_2) 15) then (if (Go.bits .and .u8 (bt a0 x18_2) 15) < 16 then ((some (([92, 117, 48, 48, bt (⟨#[48, 49, 50, 51, 52, 53, 54, 55, 56, 57, 97, 98, 99, 100, 101, 102]⟩ : ByteArray) (ji25), bt (⟨#[48, 49, 50, 51, 52, 53, 54, 55, 56, 57, 97, 98, 99, 100, 101, 102]⟩ : ByteArray) (Go.bits .and .u8 (bt a0 x18_2) 15)] : List Int) : List Int)).bind fun y408 => (if x3_2.length + y408.length < 140737488355328 then (impl_Escaped.l0 k2 a0 (x3_2 ++ y408) (a0.size : Int) (wrap64 (x18_2 + 1))) else (none))) else (none)) else (none)) else (none)) else (none)) = some r := by first | (rw [hji25] at H; exact H) | (simp only [hji25] at H ⊢; exact H)
           (try rw [hji25] at A14)
           by_cases c26 : 0 ≤ (ji25)
           ·rw [if_pos c26] at H; have c26b0 := decide_eq_true c26; clear c26
            by_cases c27 : (ji25) < 16
            ·rw [if_pos c27] at H; have c27b0 := decide_eq_true c27; clear c27
             by_cases c29 : 0 ≤ (Go.bits .and .u8 (bt a0 x18_2) 15)
             ·rw [if_pos c29] at H; have c29b0 := decide_eq_true c29; clear c29
              by_cases c30 : (Go.bits .and .u8 (bt a0 x18_2) 15) < 16
              ·rw [if_pos c30] at H; have c30b0 := decide_eq_true c30; clear c30
               obtain ⟨y408, hy408⟩ : ∃ y_ : List Int, y_ = (([92, 117, 48, 48, bt (⟨#[48, 49, 50, 51, 52, 53, 54, 55, 56, 57, 97, 98, 99, 100, 101, 102]⟩ : ByteArray) (ji25), bt (⟨#[48, 49, 50, 51, 52, 53, 54, 55, 56, 57, 97, 98, 99, 100, 101, 102]⟩ : ByteArray) (Go.bits .and .u8 (bt a0 x18_2) 15)] : List Int)) := ⟨_, rfl⟩
               replace H : (if x3_2.length + y408.length < 140737488355328 then (impl_Escaped.l0 k2 a0 (x3_2 ++ y408) (a0.size : Int) (wrap64 (x18_2 + 1))) else (none)) = some r := reA H hy408; have Ny408 := Aside0.mk hy408; clear hy408
               by_cases c32 : x3_2.length + y408.length < 140737488355328
               ·rw [if_pos c32] at H; have LMc32 := Aside0.mk c32; clear c32
                obtain ⟨y411, hy411⟩ : ∃ y_ : List Int, y_ = (x3_2 ++ y408) := ⟨_, rfl⟩
                replace H : (impl_Escaped.l0 k2 a0 y411 (a0.size : Int) (wrap64 (x18_2 + 1))) = some r := reA H hy411; have Ny411 := Aside0.mk hy411; clear hy411
                have H' := Aside0.mk H
                clear H; have p13 : 0 ≤ (x18_2 : Int) := odA; have q13 : x18_2 < (a0.size : Int) := odA; have hx13 := bt_at a0 x18_2; replace p13 := eq_true p13; replace q13 := eq_true q13
                try go_wp2_with (first | ((with_reducible refine gate_callee (f := 54) rfl ?_); refine goesL_ (some 25) rfl rfl Tryz.func54 (by kernel_rfl) rfl #[.string (⟨#[34, 92, 8, 9, 10, 12, 13]⟩ : ByteArray), .int .u8 (bt a0 x18_2)] rfl mapA ?_; (with_reducible refine (strings_IndexByte.calls (⟨#[34, 92, 8, 9, 10, 12, 13]⟩ : ByteArray) (bt a0 x18_2) t401 _ A14.out).mono ?_); rintro e w' ⟨rfl, ⟨nd, rfl⟩⟩; refine ⟨_, rfl, ?_⟩))
                (try (rw [drewN_self wr]; generalize hq_ : World.drewN wr _ = wr; have n0_ : Aside0 (Kd.R (Kd.int .u8) 5 wr w.heap.size (fun _ => True) u3 x3_2) := ⟨by rw [← hq_]; exact (kdB HO_3)⟩; have n1_ : Aside0 (Below w.heap.size w wr) := ⟨by rw [← hq_]; exact (belB HB)⟩; clear HO_3 HB hq_; have HO_3 := n0_; have HB := n1_; clear n0_ n1_))
                replace HO_3 := Aside0.mk (Kd.R_drew HO_3.out); replace HB := Aside0.mk (below_drew1 HB.out); have p28 : 0 ≤ ((ji25) : Int) := odA; have q28 : (ji25) < (16 : Int) := odA; have hx28 := bt_at (⟨#[48, 49, 50, 51, 52, 53, 54, 55, 56, 57, 97, 98, 99, 100, 101, 102]⟩ : ByteArray) (ji25); replace p28 := eq_true p28; replace q28 := eq_true q28; have p31 : 0 ≤ ((Go.bits .and .u8 (bt a0 x18_2) 15) : Int) := odA; have q31 : (Go.bits .and .u8 (bt a0 x18_2) 15) < (16 : Int) := odA; have hx31 := bt_at (⟨#[48, 49, 50, 51, 52, 53, 54, 55, 56, 57, 97, 98, 99, 100, 101, 102]⟩ : ByteArray) (Go.bits .and .u8 (bt a0 x18_2) 15); replace p31 := eq_true p31; replace q31 := eq_true q31
                refine start_ (n := 10) (S := fun w' => True) (ds := []) #[false, false, false, false, false, false, false, false, false, false] (by kernel_rfl) rfl rfl trivial (fun hHeld => ?_); refine with_tabW impl_Escaped.tab13 impl_Escaped.bits13 (fun HT_ HW_ => ?_)
                generalize wr.drew = w33 at HO_3 HB hHeld ⊢
                refine pure_ (i := 0) (N := some 45) (v := ?_) (a' := ?_) #[true, false, false, false, false, false, false, false, false, false] rfl rfl (any_of HT_.out (by kernel_rfl)) (fun _ _ _ h => h) (Or.inl ⟨by rfl, ?_⟩) ?_ ?_
                rotate_left
                ·intro w'; go_simp
                 with_reducible rfl
                rotate_left
                ·exact putA
                refine pure_ (i := 1) (N := some 46) (v := ?_) (a' := ?_) #[true, true, false, false, false, false, false, false, false, false] rfl rfl (any_of HT_.out (by kernel_rfl)) (fun _ _ _ h => h) (Or.inl ⟨by rfl, ?_⟩) ?_ ?_
                rotate_left
                ·intro w'; go_simp
                 with_reducible rfl
                rotate_left
                ·exact putA
                refine pure_ (i := 2) (N := some 47) (v := ?_) (a' := ?_) #[true, true, true, false, false, false, false, false, false, false] rfl rfl (any_of HT_.out (by kernel_rfl)) (fun _ _ _ h => h) (Or.inl ⟨by rfl, ?_⟩) ?_ ?_
                rotate_left
                ·intro w'; go_simp
                 with_reducible rfl
                rotate_left
                ·exact putA
                refine pure_ (i := 4) (N := some 49) (v := ?_) (a' := ?_) #[true, true, true, false, true, false, false, false, false, false] rfl rfl (any_of HT_.out (by kernel_rfl)) (fun _ _ _ h => h) (Or.inl ⟨by rfl, ?_⟩) ?_ ?_
                rotate_left
                ·intro w'; go_simp
                 with_reducible rfl
                rotate_left
                ·exact putA
                refine pure_ (i := 5) (N := some 50) (v := ?_) (a' := ?_) #[true, true, true, false, true, true, false, false, false, false] rfl rfl (any_of HT_.out (by kernel_rfl)) (fun _ _ _ h => h) (Or.inl ⟨by rfl, ?_⟩) ?_ ?_
                rotate_left
                ·intro w'; go_simp
                 with_reducible rfl
                rotate_left
                ·exact putA
                refine take_ (i := 3) (N := some 48) (v := ?_) (a' := ?_) #[true, true, true, true, true, true, false, false, false, false] rfl rfl (take_ofW HT_.out HW_.out (by kernel_rfl)) (fun _ _ _ h => h) (Or.inl ⟨by rfl, ?_⟩) hHeld ?_ ?_
                rotate_left
                ·intro w' _; go_simp
                 with_reducible rfl
                rotate_left
                ·exact putA
                refine take_ (i := 6) (N := some 51) (v := ?_) (a' := ?_) #[true, true, true, true, true, true, true, false, false, false] rfl rfl (take_ofW HT_.out HW_.out (by kernel_rfl)) (fun _ _ _ h => h) (Or.inl ⟨by rfl, ?_⟩) hHeld ?_ ?_
                rotate_left
                ·intro w' _; go_simp
                 with_reducible rfl
                rotate_left
                ·exact putA
                refine one_ (i := 7) (N := some 52) #[true, true, true, true, true, true, true, true, false, false] rfl rfl (one_of HT_.out (by kernel_rfl)) (by decide) (fun K hK => ?_)
                refine Kd.R_lit_step (Kd.int .u8) _ 5 ?hg (N := 52) ?hd (xs := ([92, 117, 48, 48, bt (⟨#[48, 49, 50, 51, 52, 53, 54, 55, 56, 57, 97, 98, 99, 100, 101, 102]⟩ : ByteArray) (ji25), bt (⟨#[48, 49, 50, 51, 52, 53, 54, 55, 56, 57, 97, 98, 99, 100, 101, 102]⟩ : ByteArray) (Go.bits .and .u8 (bt a0 x18_2) 15)] : List Int)) (inner := [.int .u8 92, .int .u8 117, .int .u8 48, .int .u8 48, .int .u8 (bt (⟨#[48, 49, 50, 51, 52, 53, 54, 55, 56, 57, 97, 98, 99, 100, 101, 102]⟩ : ByteArray) (ji25)), .int .u8 (bt (⟨#[48, 49, 50, 51, 52, 53, 54, 55, 56, 57, 97, 98, 99, 100, 101, 102]⟩ : ByteArray) (Go.bits .and .u8 (bt a0 x18_2) 15))]) (ok := fun _ => True) (okp := fun _ => True) ?hr ?hp (fun _ hk => hk) trivial (Below.refl _ _) (Nat.le_refl _) (by simp) ?_; (case hd => rfl); (case hg => rfl); (case hr => first | (go_simp; done) | (go_simp; rfl)); (case hp => exact (Reps.one (show Kd.M (Kd.int .u8) _ _ _ 92 [.int .u8 92] from rfl) (Reps.one (show Kd.M (Kd.int .u8) _ _ _ 117 [.int .u8 117] from rfl) (Reps.one (show Kd.M (Kd.int .u8) _ _ _ 48 [.int .u8 48] from rfl) (Reps.one (show Kd.M (Kd.int .u8) _ _ _ 48 [.int .u8 48] from rfl) (Reps.one (show Kd.M (Kd.int .u8) _ _ _ (bt (⟨#[48, 49, 50, 51, 52, 53, 54, 55, 56, 57, 97, 98, 99, 100, 101, 102]⟩ : ByteArray) (ji25)) [.int .u8 (bt (⟨#[48, 49, 50, 51, 52, 53, 54, 55, 56, 57, 97, 98, 99, 100, 101, 102]⟩ : ByteArray) (ji25))] from rfl) (Reps.one (show Kd.M (Kd.int .u8) _ _ _ (bt (⟨#[48, 49, 50, 51, 52, 53, 54, 55, 56, 57, 97, 98, 99, 100, 101, 102]⟩ : ByteArray) (Go.bits .and .u8 (bt a0 x18_2) 15)) [.int .u8 (bt (⟨#[48, 49, 50, 51, 52, 53, 54, 55, 56, 57, 97, 98, 99, 100, 101, 102]⟩ : ByteArray) (Go.bits .and .u8 (bt a0 x18_2) 15))] from rfl) (Reps.none _ _))))))))
                intro v409 w34 ho35 hb hg_ hnew_; clear hg_ hnew_
                (first | rw [← Ny408.out] at ho35 | (simp only [Int.reduceToNat] at ho35; rw [← Ny408.out] at ho35))
                have HO410 := Aside0.mk (Kd.R_lower (Kd.R_new' ho35 (Kd.R_lt (kdB HO_3))) (below_size (belB HB))); replace HO_3 := Aside0.mk (Kd.R_elder' (kdB HO_3) (Kd.R_base ho35) hb); replace HB := Aside0.mk (below_step (belB HB) hb); clear hb ho35; obtain ⟨Ao37, co37, eo37⟩ := Kd.R_slice HO410.out
                (first | subst eo37 | (injection eo37 with f1_ f2_ f3_; have f4_ := f1_.symm; have f5_ := f3_.symm; clear f1_ f2_ f3_; subst f4_; subst f5_))
                refine hK.out _ _ trivial (fun hHeld => ?_); clear hK K; refine norm_ (a' := ?_) ?_ ?_; rotate_left
                ·show Act.put _ (some 52) _ = _
                 simp only [Act.put, List.setIfInBounds_toArray, List.set_cons_zero, List.set_cons_succ, i64_w, i32_w]
                 rfl
                refine one_ (i := 8) (N := some 53) #[true, true, true, true, true, true, true, true, true, false] rfl rfl (one_of HT_.out (by kernel_rfl)) (by decide) (fun K hK => ?_)
                refine Kd.R_append_rows_step (Kd.int .u8) (w0 := w) w.heap.size (by rfl) (.tmp 45) (.tmp 52) 34 5 (.int .u8 0) 1 rfl Tryz.underlying34 info5 rfl (by decide) (by omega) u3 x3_2 y408 _ _ _ (fun k_ => some k_ ≠ (.slice Ao37 y408.length co37 : Value).ownBlock) (fun _ => False) rfl rfl ?aO ?aR (fun _ _ h => h) (fun _ h => h.elim) ?aF ?aB ?aS ?aL ?_
                (case aR => repeat (first | exact (Kd.R_reads' HO410.out).2.2 | (with_reducible refine Kd.C_alloc ?_ _) | (with_reducible refine Kd.C_drewN ?_ _) | (with_reducible refine Kd.C_drew ?_)))
                (case aB => exact (belB HB))
                (case aF => exact (fun k_ hk => Kd.fresh' (Kd.R_lt (kdB HO410)) k_ hk))
                (case aO => exact (by (with_reducible repeat (first | apply Kd.R_alloc | apply Kd.R_drewN | apply Kd.R_drew)); exact Kd.R_mono HO_3.out (fun _ hk => hk.2)))
                (case aS => exact (below_size (belB HB)))
                (case aL => have := LMc32.out; omega)
                intro v412 w36 ho hb hg hat; rw [← Ny411.out] at ho; have HO413 := Aside0.mk (ho); replace HO410 := Aside0.mk (Kd.R_after (ok := (fun _ => True)) (kdB HO410) hg hat); replace HB := Aside0.mk (hb); clear HO_3; clear ho hb hg hat; refine hK.out _ _ trivial (fun hHeld => ?_); clear hK K; refine norm_ (a' := ?_) ?_ ?_; rotate_left
                ·show Act.put _ (some 53) _ = _
                 simp only [Act.put, List.setIfInBounds_toArray, List.set_cons_zero, List.set_cons_succ, i64_w, i32_w]
                 rfl
                refine pure_ (i := 9) (N := some 3) (v := ?_) (a' := ?_) #[true, true, true, true, true, true, true, true, true, true] rfl rfl (any_of HT_.out (by kernel_rfl)) (fun _ _ _ h => h) (Or.inl ⟨by rfl, ?_⟩) ?_ ?_
                rotate_left
                ·intro w'; go_simp
                 with_reducible rfl
                rotate_left
                ·exact putA
                refine done_ (done_of HT_.out (by kernel_rfl)) ?_
                try go_wp2
                go_roundg k2
                case measure => have := HJ1.out; have := HK2.out; omega
                case rel => exact ⟨(y411), (wrap64 (x18_2 + 1)), enA, (by first | exact H' | (subst hji25; exact H')), ⟨by have := HJ1.out; have := HK2.out; omega⟩, ⟨by (with_reducible repeat (first | apply Kd.R_alloc | apply Kd.R_drewN | apply Kd.R_drew)); exact Kd.R_mono HO413.out (fun _ hk => trivial)⟩, ⟨belB HB⟩⟩
               ·rw [if_neg c32] at H
                exact absurd H (by simp)
              ·rw [if_neg c30] at H
               exact absurd H (by simp)
             ·rw [if_neg c29] at H
              exact absurd H (by simp)
            ·rw [if_neg c27] at H
             exact absurd H (by simp)
           ·rw [if_neg c26] at H
            exact absurd H (by simp)
          ·rw [if_neg c24] at H; have c24b0 := decide_eq_false c24; clear c24
           by_cases c38 : (bt a0 x18_2) = 127
           ·rw [if_pos c38] at H; have c38b0 := beq_iff_eq.mpr c38; have c38b1 := bne_eq_false_iff_eq.mpr c38; clear c38
            obtain ⟨ji39, hji39⟩ : ∃ j_ : Int, ((bt a0 x18_2) / 16) = j_ := ⟨_, rfl⟩
            replace H : (if 0 ≤ (ji39) then (if (ji39) < 16 then (if 0 ≤ (Go.bits .and .u8 (bt a0 x18_2) 15) then (if (Go.bits .and .u8 (bt a0 x18_2) 15) < 16 then ((some (([92, 117, 48, 48, bt (⟨#[48, 49, 50, 51, 52, 53, 54, 55, 56, 57, 97, 98, 99, 100, 101, 102]⟩ : ByteArray) (ji39), bt (⟨#[48, 49, 50, 51, 52, 53, 54, 55, 56, 57, 97, 98, 99, 100, 101, 102]⟩ : ByteArray) (Go.bits .and .u8 (bt a0 x18_2) 15)] : List Int) : List Int)).bind fun y414 => (if x3_2.length + y414.length < 140737488355328 then (impl_Escaped.l0 k2 a0 (x3_2 ++ y414) (a0.size : Int) (wrap64 (x18_2 + 1))) else (none))) else (none)) else (none)) else (none)) else (none)) = some r := by first | (rw [hji39] at H; exact H) | (simp only [hji39] at H ⊢; exact H)
            (try rw [hji39] at A14)
            by_cases c40 : 0 ≤ (ji39)
            ·rw [if_pos c40] at H; have c40b0 := decide_eq_true c40; clear c40
             by_cases c41 : (ji39) < 16
             ·rw [if_pos c41] at H; have c41b0 := decide_eq_true c41; clear c41
              by_cases c43 : 0 ≤ (Go.bits .and .u8 (bt a0 x18_2) 15)
              ·rw [if_pos c43] at H; have c43b0 := decide_eq_true c43; clear c43
               by_cases c44 : (Go.bits .and .u8 (bt a0 x18_2) 15) < 16
               ·rw [if_pos c44] at H; have c44b0 := decide_eq_true c44; clear c44
                obtain ⟨y414, hy414⟩ : ∃ y_ : List Int, y_ = (([92, 117, 48, 48, bt (⟨#[48, 49, 50, 51, 52, 53, 54, 55, 56, 57, 97, 98, 99, 100, 101, 102]⟩ : ByteArray) (ji39), bt (⟨#[48, 49, 50, 51, 52, 53, 54, 55, 56, 57, 97, 98, 99, 100, 101, 102]⟩ : ByteArray) (Go.bits .and .u8 (bt a0 x18_2) 15)] : List Int)) := ⟨_, rfl⟩
                replace H : (if x3_2.length + y414.length < 140737488355328 then (impl_Escaped.l0 k2 a0 (x3_2 ++ y414) (a0.size : Int) (wrap64 (x18_2 + 1))) else (none)) = some r := reA H hy414; have Ny414 := Aside0.mk hy414; clear hy414
                by_cases c46 : x3_2.length + y414.length < 140737488355328
                ·rw [if_pos c46] at H; have LMc46 := Aside0.mk c46; clear c46
                 obtain ⟨y417, hy417⟩ : ∃ y_ : List Int, y_ = (x3_2 ++ y414) := ⟨_, rfl⟩
                 replace H : (impl_Escaped.l0 k2 a0 y417 (a0.size : Int) (wrap64 (x18_2 + 1))) = some r := reA H hy417; have Ny417 := Aside0.mk hy417; clear hy417
                 have H' := Aside0.mk H
                 clear H; have p13 : 0 ≤ (x18_2 : Int) := odA; have q13 : x18_2 < (a0.size : Int) := odA; have hx13 := bt_at a0 x18_2; replace p13 := eq_true p13; replace q13 := eq_true q13
                 try go_wp2_with (first | ((with_reducible refine gate_callee (f := 54) rfl ?_); refine goesL_ (some 25) rfl rfl Tryz.func54 (by kernel_rfl) rfl #[.string (⟨#[34, 92, 8, 9, 10, 12, 13]⟩ : ByteArray), .int .u8 (bt a0 x18_2)] rfl mapA ?_; (with_reducible refine (strings_IndexByte.calls (⟨#[34, 92, 8, 9, 10, 12, 13]⟩ : ByteArray) (bt a0 x18_2) t401 _ A14.out).mono ?_); rintro e w' ⟨rfl, ⟨nd, rfl⟩⟩; refine ⟨_, rfl, ?_⟩))
                 (try (rw [drewN_self wr]; generalize hq_ : World.drewN wr _ = wr; have n0_ : Aside0 (Kd.R (Kd.int .u8) 5 wr w.heap.size (fun _ => True) u3 x3_2) := ⟨by rw [← hq_]; exact (kdB HO_3)⟩; have n1_ : Aside0 (Below w.heap.size w wr) := ⟨by rw [← hq_]; exact (belB HB)⟩; clear HO_3 HB hq_; have HO_3 := n0_; have HB := n1_; clear n0_ n1_))
                 replace HO_3 := Aside0.mk (Kd.R_drew HO_3.out); replace HB := Aside0.mk (below_drew1 HB.out); have p42 : 0 ≤ ((ji39) : Int) := odA; have q42 : (ji39) < (16 : Int) := odA; have hx42 := bt_at (⟨#[48, 49, 50, 51, 52, 53, 54, 55, 56, 57, 97, 98, 99, 100, 101, 102]⟩ : ByteArray) (ji39); replace p42 := eq_true p42; replace q42 := eq_true q42; have p45 : 0 ≤ ((Go.bits .and .u8 (bt a0 x18_2) 15) : Int) := odA; have q45 : (Go.bits .and .u8 (bt a0 x18_2) 15) < (16 : Int) := odA; have hx45 := bt_at (⟨#[48, 49, 50, 51, 52, 53, 54, 55, 56, 57, 97, 98, 99, 100, 101, 102]⟩ : ByteArray) (Go.bits .and .u8 (bt a0 x18_2) 15); replace p45 := eq_true p45; replace q45 := eq_true q45
                 refine start_ (n := 10) (S := fun w' => True) (ds := []) #[false, false, false, false, false, false, false, false, false, false] (by kernel_rfl) rfl rfl trivial (fun hHeld => ?_); refine with_tabW impl_Escaped.tab13 impl_Escaped.bits13 (fun HT_ HW_ => ?_)
                 generalize wr.drew = w47 at HO_3 HB hHeld ⊢
                 refine pure_ (i := 0) (N := some 45) (v := ?_) (a' := ?_) #[true, false, false, false, false, false, false, false, false, false] rfl rfl (any_of HT_.out (by kernel_rfl)) (fun _ _ _ h => h) (Or.inl ⟨by rfl, ?_⟩) ?_ ?_
                 rotate_left
                 ·intro w'; go_simp
                  with_reducible rfl
                 rotate_left
                 ·exact putA
                 refine pure_ (i := 1) (N := some 46) (v := ?_) (a' := ?_) #[true, true, false, false, false, false, false, false, false, false] rfl rfl (any_of HT_.out (by kernel_rfl)) (fun _ _ _ h => h) (Or.inl ⟨by rfl, ?_⟩) ?_ ?_
                 rotate_left
                 ·intro w'; go_simp
                  with_reducible rfl
                 rotate_left
                 ·exact putA
                 refine pure_ (i := 2) (N := some 47) (v := ?_) (a' := ?_) #[true, true, true, false, false, false, false, false, false, false] rfl rfl (any_of HT_.out (by kernel_rfl)) (fun _ _ _ h => h) (Or.inl ⟨by rfl, ?_⟩) ?_ ?_
                 rotate_left
                 ·intro w'; go_simp
                  with_reducible rfl
                 rotate_left
                 ·exact putA
                 refine pure_ (i := 4) (N := some 49) (v := ?_) (a' := ?_) #[true, true, true, false, true, false, false, false, false, false] rfl rfl (any_of HT_.out (by kernel_rfl)) (fun _ _ _ h => h) (Or.inl ⟨by rfl, ?_⟩) ?_ ?_
                 rotate_left
                 ·intro w'; go_simp
                  with_reducible rfl
                 rotate_left
                 ·exact putA
                 refine pure_ (i := 5) (N := some 50) (v := ?_) (a' := ?_) #[true, true, true, false, true, true, false, false, false, false] rfl rfl (any_of HT_.out (by kernel_rfl)) (fun _ _ _ h => h) (Or.inl ⟨by rfl, ?_⟩) ?_ ?_
                 rotate_left
                 ·intro w'; go_simp
                  with_reducible rfl
                 rotate_left
                 ·exact putA
                 refine take_ (i := 3) (N := some 48) (v := ?_) (a' := ?_) #[true, true, true, true, true, true, false, false, false, false] rfl rfl (take_ofW HT_.out HW_.out (by kernel_rfl)) (fun _ _ _ h => h) (Or.inl ⟨by rfl, ?_⟩) hHeld ?_ ?_
                 rotate_left
                 ·intro w' _; go_simp
                  with_reducible rfl
                 rotate_left
                 ·exact putA
                 refine take_ (i := 6) (N := some 51) (v := ?_) (a' := ?_) #[true, true, true, true, true, true, true, false, false, false] rfl rfl (take_ofW HT_.out HW_.out (by kernel_rfl)) (fun _ _ _ h => h) (Or.inl ⟨by rfl, ?_⟩) hHeld ?_ ?_
                 rotate_left
                 ·intro w' _; go_simp
                  with_reducible rfl
                 rotate_left
                 ·exact putA
                 refine one_ (i := 7) (N := some 52) #[true, true, true, true, true, true, true, true, false, false] rfl rfl (one_of HT_.out (by kernel_rfl)) (by decide) (fun K hK => ?_)
                 refine Kd.R_lit_step (Kd.int .u8) _ 5 ?hg (N := 52) ?hd (xs := ([92, 117, 48, 48, bt (⟨#[48, 49, 50, 51, 52, 53, 54, 55, 56, 57, 97, 98, 99, 100, 101, 102]⟩ : ByteArray) (ji39), bt (⟨#[48, 49, 50, 51, 52, 53, 54, 55, 56, 57, 97, 98, 99, 100, 101, 102]⟩ : ByteArray) (Go.bits .and .u8 (bt a0 x18_2) 15)] : List Int)) (inner := [.int .u8 92, .int .u8 117, .int .u8 48, .int .u8 48, .int .u8 (bt (⟨#[48, 49, 50, 51, 52, 53, 54, 55, 56, 57, 97, 98, 99, 100, 101, 102]⟩ : ByteArray) (ji39)), .int .u8 (bt (⟨#[48, 49, 50, 51, 52, 53, 54, 55, 56, 57, 97, 98, 99, 100, 101, 102]⟩ : ByteArray) (Go.bits .and .u8 (bt a0 x18_2) 15))]) (ok := fun _ => True) (okp := fun _ => True) ?hr ?hp (fun _ hk => hk) trivial (Below.refl _ _) (Nat.le_refl _) (by simp) ?_; (case hd => rfl); (case hg => rfl); (case hr => first | (go_simp; done) | (go_simp; rfl)); (case hp => exact (Reps.one (show Kd.M (Kd.int .u8) _ _ _ 92 [.int .u8 92] from rfl) (Reps.one (show Kd.M (Kd.int .u8) _ _ _ 117 [.int .u8 117] from rfl) (Reps.one (show Kd.M (Kd.int .u8) _ _ _ 48 [.int .u8 48] from rfl) (Reps.one (show Kd.M (Kd.int .u8) _ _ _ 48 [.int .u8 48] from rfl) (Reps.one (show Kd.M (Kd.int .u8) _ _ _ (bt (⟨#[48, 49, 50, 51, 52, 53, 54, 55, 56, 57, 97, 98, 99, 100, 101, 102]⟩ : ByteArray) (ji39)) [.int .u8 (bt (⟨#[48, 49, 50, 51, 52, 53, 54, 55, 56, 57, 97, 98, 99, 100, 101, 102]⟩ : ByteArray) (ji39))] from rfl) (Reps.one (show Kd.M (Kd.int .u8) _ _ _ (bt (⟨#[48, 49, 50, 51, 52, 53, 54, 55, 56, 57, 97, 98, 99, 100, 101, 102]⟩ : ByteArray) (Go.bits .and .u8 (bt a0 x18_2) 15)) [.int .u8 (bt (⟨#[48, 49, 50, 51, 52, 53, 54, 55, 56, 57, 97, 98, 99, 100, 101, 102]⟩ : ByteArray) (Go.bits .and .u8 (bt a0 x18_2) 15))] from rfl) (Reps.none _ _))))))))
                 intro v415 w48 ho49 hb hg_ hnew_; clear hg_ hnew_
                 (first | rw [← Ny414.out] at ho49 | (simp only [Int.reduceToNat] at ho49; rw [← Ny414.out] at ho49))
                 have HO416 := Aside0.mk (Kd.R_lower (Kd.R_new' ho49 (Kd.R_lt (kdB HO_3))) (below_size (belB HB))); replace HO_3 := Aside0.mk (Kd.R_elder' (kdB HO_3) (Kd.R_base ho49) hb); replace HB := Aside0.mk (below_step (belB HB) hb); clear hb ho49; obtain ⟨Ao51, co51, eo51⟩ := Kd.R_slice HO416.out
                 (first | subst eo51 | (injection eo51 with f1_ f2_ f3_; have f4_ := f1_.symm; have f5_ := f3_.symm; clear f1_ f2_ f3_; subst f4_; subst f5_))
                 refine hK.out _ _ trivial (fun hHeld => ?_); clear hK K; refine norm_ (a' := ?_) ?_ ?_; rotate_left
                 ·show Act.put _ (some 52) _ = _
                  simp only [Act.put, List.setIfInBounds_toArray, List.set_cons_zero, List.set_cons_succ, i64_w, i32_w]
                  rfl
                 refine one_ (i := 8) (N := some 53) #[true, true, true, true, true, true, true, true, true, false] rfl rfl (one_of HT_.out (by kernel_rfl)) (by decide) (fun K hK => ?_)
                 refine Kd.R_append_rows_step (Kd.int .u8) (w0 := w) w.heap.size (by rfl) (.tmp 45) (.tmp 52) 34 5 (.int .u8 0) 1 rfl Tryz.underlying34 info5 rfl (by decide) (by omega) u3 x3_2 y414 _ _ _ (fun k_ => some k_ ≠ (.slice Ao51 y414.length co51 : Value).ownBlock) (fun _ => False) rfl rfl ?aO ?aR (fun _ _ h => h) (fun _ h => h.elim) ?aF ?aB ?aS ?aL ?_
                 (case aR => repeat (first | exact (Kd.R_reads' HO416.out).2.2 | (with_reducible refine Kd.C_alloc ?_ _) | (with_reducible refine Kd.C_drewN ?_ _) | (with_reducible refine Kd.C_drew ?_)))
                 (case aB => exact (belB HB))
                 (case aF => exact (fun k_ hk => Kd.fresh' (Kd.R_lt (kdB HO416)) k_ hk))
                 (case aO => exact (by (with_reducible repeat (first | apply Kd.R_alloc | apply Kd.R_drewN | apply Kd.R_drew)); exact Kd.R_mono HO_3.out (fun _ hk => hk.2)))
                 (case aS => exact (below_size (belB HB)))
                 (case aL => have := LMc46.out; omega)
                 intro v418 w50 ho hb hg hat; rw [← Ny417.out] at ho; have HO419 := Aside0.mk (ho); replace HO416 := Aside0.mk (Kd.R_after (ok := (fun _ => True)) (kdB HO416) hg hat); replace HB := Aside0.mk (hb); clear HO_3; clear ho hb hg hat; refine hK.out _ _ trivial (fun hHeld => ?_); clear hK K; refine norm_ (a' := ?_) ?_ ?_; rotate_left
                 ·show Act.put _ (some 53) _ = _
                  simp only [Act.put, List.setIfInBounds_toArray, List.set_cons_zero, List.set_cons_succ, i64_w, i32_w]
                  rfl
                 refine pure_ (i := 9) (N := some 3) (v := ?_) (a' := ?_) #[true, true, true, true, true, true, true, true, true, true] rfl rfl (any_of HT_.out (by kernel_rfl)) (fun _ _ _ h => h) (Or.inl ⟨by rfl, ?_⟩) ?_ ?_
                 rotate_left
                 ·intro w'; go_simp
                  with_reducible rfl
                 rotate_left
                 ·exact putA
                 refine done_ (done_of HT_.out (by kernel_rfl)) ?_
                 try go_wp2
                 go_roundg k2
                 case measure => have := HJ1.out; have := HK2.out; omega
                 case rel => exact ⟨(y417), (wrap64 (x18_2 + 1)), enA, (by first | exact H' | (subst hji39; exact H')), ⟨by have := HJ1.out; have := HK2.out; omega⟩, ⟨by (with_reducible repeat (first | apply Kd.R_alloc | apply Kd.R_drewN | apply Kd.R_drew)); exact Kd.R_mono HO419.out (fun _ hk => trivial)⟩, ⟨belB HB⟩⟩
                ·rw [if_neg c46] at H
                 exact absurd H (by simp)
               ·rw [if_neg c44] at H
                exact absurd H (by simp)
              ·rw [if_neg c43] at H
               exact absurd H (by simp)
             ·rw [if_neg c41] at H
              exact absurd H (by simp)
            ·rw [if_neg c40] at H
             exact absurd H (by simp)
           ·rw [if_neg c38] at H; have c38b0 := beq_eq_false_iff_ne.mpr c38; have c38b1 := bne_iff_ne.mpr c38
            by_cases c52 : x3_2.length < 140737488355328
            ·rw [if_pos c52] at H; have LMc52 := Aside0.mk c52; clear c52
             obtain ⟨y420, hy420⟩ : ∃ y_ : List Int, y_ = (x3_2 ++ [bt a0 x18_2]) := ⟨_, rfl⟩
             replace H : (impl_Escaped.l0 k2 a0 y420 (a0.size : Int) (wrap64 (x18_2 + 1))) = some r := reA H hy420; have Ny420 := Aside0.mk hy420; clear hy420
             have H' := Aside0.mk H
             clear H; have p13 : 0 ≤ (x18_2 : Int) := odA; have q13 : x18_2 < (a0.size : Int) := odA; have hx13 := bt_at a0 x18_2; replace p13 := eq_true p13; replace q13 := eq_true q13
             go_wp2_with (first | ((with_reducible refine gate_callee (f := 54) rfl ?_); refine goesL_ (some 25) rfl rfl Tryz.func54 (by kernel_rfl) rfl #[.string (⟨#[34, 92, 8, 9, 10, 12, 13]⟩ : ByteArray), .int .u8 (bt a0 x18_2)] rfl mapA ?_; (with_reducible refine (strings_IndexByte.calls (⟨#[34, 92, 8, 9, 10, 12, 13]⟩ : ByteArray) (bt a0 x18_2) t401 _ A14.out).mono ?_); rintro e w' ⟨rfl, ⟨nd, rfl⟩⟩; refine ⟨_, rfl, ?_⟩) | ((with_reducible refine gate_builtin (b := .append) (xs := #[.tmp 26, .tmp 28]) rfl ?_); (try (refine gate_guard (by rfl) ?_; dsimp only)); at_builtin; refine Kd.R_append (Kd.int .u8) (w0 := w) w.heap.size rfl (.tmp 26) (.tmp 28) 34 5 (.int .u8 0) 1 rfl Tryz.underlying34 info5 rfl (by decide) (by omega) u3 x3_2 (bt a0 x18_2) [.int .u8 (bt a0 x18_2)] (fun _ => True) (fun _ => False) rfl rfl ?aP (fun _ hk => hk.elim) ?aF ?aO ?aB ?aS ?aL ?_; (case aP => exact rfl); (case aB => exact (belB HB)); (case aF => exact (fun _ _ => trivial)); (case aO => exact (kdB HO_3)); (case aS => exact (below_size (belB HB))); (case aL => have := LMc52.out; omega); intro v421 w53 ho hb hg hat; rw [← Ny420.out] at ho; have HO422 := Aside0.mk (ho); replace HB := Aside0.mk (hb); clear HO_3; clear ho hb hg hat))
             go_roundg k2
             case measure => have := HJ1.out; have := HK2.out; omega
             case rel => exact ⟨(y420), (wrap64 (x18_2 + 1)), enA, H', ⟨by have := HJ1.out; have := HK2.out; omega⟩, ⟨kdB HO422⟩, ⟨belB HB⟩⟩
            ·rw [if_neg c52] at H
             exact absurd H (by simp)
        ·rw [if_neg c12] at H
         exact absurd H (by simp)
       ·rw [if_neg c11] at H
        exact absurd H (by simp)
      ·rw [if_neg c10] at H; have c10b0 := decide_eq_false c10; clear c10
       by_cases c54 : x3_2.length < 140737488355328
       ·rw [if_pos c54] at H; have LMc54 := Aside0.mk c54; clear c54
        obtain ⟨y398, hy398⟩ : ∃ y_ : List Int, y_ = (x3_2 ++ [34]) := ⟨_, rfl⟩
        replace H : (some (strOfNums y398)) = some r := reA H hy398; have Ny398 := Aside0.mk hy398; clear hy398; obtain rfl := Option.some.inj H
        go_wp2_with (first | ((with_reducible refine gate_builtin (b := .append) (xs := #[.tmp 55, .tmp 56]) rfl ?_); (try (refine gate_guard (by rfl) ?_; dsimp only)); at_builtin; refine Kd.R_append (Kd.int .u8) (w0 := w) w.heap.size rfl (.tmp 55) (.tmp 56) 34 5 (.int .u8 0) 1 rfl Tryz.underlying34 info5 rfl (by decide) (by omega) u3 x3_2 34 [.int .u8 34] (fun _ => True) (fun _ => False) rfl rfl ?aP (fun _ hk => hk.elim) ?aF ?aO ?aB ?aS ?aL ?_; (case aP => exact rfl); (case aB => exact (belB HB)); (case aF => exact (fun _ _ => trivial)); (case aO => exact (kdB HO_3)); (case aS => exact (below_size (belB HB))); (case aL => have := LMc54.out; omega); intro v399 w55 ho hb hg hat; rw [← Ny398.out] at ho; have HO400 := Aside0.mk (ho); replace HB := Aside0.mk (hb); clear HO_3; clear ho hb hg hat; have hcv56 := own_string (P := Tryz.prog) Tryz.underlying34 Tryz.underlying5 Tryz.underlying9 (Kd.own_of_R HO400.out)))
        go_ret
        exact ⟨erA, belB HB⟩
       ·rw [if_neg c54] at H
        exact absurd H (by simp)

def impl_Word.f (a0 : ByteArray) : Option (Bool) := if a0.toList = ([116, 114, 117, 101] : List UInt8) then (some true) else (if a0.toList = ([102, 97, 108, 115, 101] : List UInt8) then (some true) else (some (a0.toList == ([110, 117, 108, 108] : List UInt8))))
set_option maxHeartbeats 8000000 in
set_option maxRecDepth 100000 in
theorem impl_Word.calls (a0 : ByteArray) (r : Bool) (w : World) (h : impl_Word.f a0 = some r) :
  Calls Tryz.prog 68 #[.string a0] w fun e w' => e = .returned (.bool r) ∧ Drawn0 w w' := by
 have H : (if a0.toList = ([116, 114, 117, 101] : List UInt8) then (some true) else (if a0.toList = ([102, 97, 108, 115, 101] : List UInt8) then (some true) else (some (a0.toList == ([110, 117, 108, 108] : List UInt8))))) = some r := h; clear h
 by_cases c2 : a0.toList = ([116, 114, 117, 101] : List UInt8)
 ·rw [if_pos c2] at H; have c2b0 := beq_iff_eq.mpr c2; have c2b1 := bne_eq_false_iff_eq.mpr c2; clear c2; obtain rfl := Option.some.inj H
  go_enter Tryz.func68, Tryz.ntmps68
  go_wp2
  go_ret
  exact ⟨enA, drA⟩
 ·rw [if_neg c2] at H; have c2b0 := beq_eq_false_iff_ne.mpr c2; have c2b1 := bne_iff_ne.mpr c2
  by_cases c3 : a0.toList = ([102, 97, 108, 115, 101] : List UInt8)
  ·rw [if_pos c3] at H; have c3b0 := beq_iff_eq.mpr c3; have c3b1 := bne_eq_false_iff_eq.mpr c3; clear c3; obtain rfl := Option.some.inj H
   go_enter Tryz.func68, Tryz.ntmps68
   go_wp2
   go_ret
   exact ⟨enA, drA⟩
  ·rw [if_neg c3] at H; have c3b0 := beq_eq_false_iff_ne.mpr c3; have c3b1 := bne_iff_ne.mpr c3; obtain rfl := Option.some.inj H
   go_enter Tryz.func68, Tryz.ntmps68
   go_wp2
   go_ret
   exact ⟨enA, drA⟩

end Go.Proofs.YtjhagdjjlgjlbaaGreatDoor.OFnExactDirsText
-- narrow
