/- The machine side of one law, written by a program. -/
import Derived.Test.YtjhagdjjlgjlbaaGreatDoorOFnExactDirsTextx0
import Derived.Test.YtjhagdjjlgjlbaaGreatDoorOFnExactDirsTextx3
namespace Go.Proofs.YtjhagdjjlgjlbaaGreatDoor.OFnExactDirsText
open Go.Proofs.YtjhagdjjlgjlbaaGreatDoor.GlU Go.Proofs.YtjhagdjjlgjlbaaGreatDoor.Ix
open Go.RowKit Go.Proofs.YtjhagdjjlgjlbaaGreatDoorW.PrintWords Go.Proofs.YtjhagdjjlgjlbaaGreatDoorW.PrintLast Go.Proofs.YtjhagdjjlgjlbaaGreatDoorW.PrintMore
attribute [local go_sem] max2_int min2_int max_two min_two max_three min_three max_four min_four
set_option linter.unusedVariables false
set_option linter.unusedSimpArgs false

def spec_l04Hex4.f (a0 : Int) : Option (ByteArray) := if 0 ≤ (Int.tmod (wrap64 (Int.tdiv a0 4096)) 16) then (if (Int.tmod (wrap64 (Int.tdiv a0 4096)) 16) < 16 then (if 0 ≤ (Int.tmod (wrap64 (Int.tdiv a0 256)) 16) then (if (Int.tmod (wrap64 (Int.tdiv a0 256)) 16) < 16 then (if 0 ≤ (Int.tmod (wrap64 (Int.tdiv a0 16)) 16) then (if (Int.tmod (wrap64 (Int.tdiv a0 16)) 16) < 16 then (if 0 ≤ (Int.tmod a0 16) then (if (Int.tmod a0 16) < 16 then (some (strOfNums (([bt (⟨#[48, 49, 50, 51, 52, 53, 54, 55, 56, 57, 97, 98, 99, 100, 101, 102]⟩ : ByteArray) (Int.tmod (wrap64 (Int.tdiv a0 4096)) 16), bt (⟨#[48, 49, 50, 51, 52, 53, 54, 55, 56, 57, 97, 98, 99, 100, 101, 102]⟩ : ByteArray) (Int.tmod (wrap64 (Int.tdiv a0 256)) 16), bt (⟨#[48, 49, 50, 51, 52, 53, 54, 55, 56, 57, 97, 98, 99, 100, 101, 102]⟩ : ByteArray) (Int.tmod (wrap64 (Int.tdiv a0 16)) 16), bt (⟨#[48, 49, 50, 51, 52, 53, 54, 55, 56, 57, 97, 98, 99, 100, 101, 102]⟩ : ByteArray) (Int.tmod a0 16)] : List Int)))) else (none)) else (none)) else (none)) else (none)) else (none)) else (none)) else (none)) else (none)
def spec_l04Hex4.T2 : Bool × List (List Nat × List Nat) := (true, [([], []), ([], []), ([1], [1]), ([2], [2]), ([0, 3], [0, 3]), ([], []), ([], []), ([6], [6]), ([7], [7]), ([5, 8], [5, 8]), ([], []), ([], []), ([11], [11]), ([12], [12]), ([10, 13], [10, 13]), ([], []), ([], []), ([16], [16]), ([15, 17], [15, 17]), ([4, 9, 14, 18], [4, 9, 14, 18]), ([19], [19]), ([20, 0, 1, 2, 3, 4, 5, 6, 7, 8, 9, 10, 11, 12, 13, 14, 15, 16, 17, 18, 19, 20], [20])])
def spec_l04Hex4.B2 : List Nat := [0, 0, 2, 6, 15, 0, 0, 64, 192, 480, 0, 0, 2048, 6144, 15360, 0, 0, 65536, 229376, 524287, 1048575, 2097151]
theorem spec_l04Hex4.tab2 : rtab .any (opsOf Tryz.f62 2) = spec_l04Hex4.T2 := by kernel_rfl
theorem spec_l04Hex4.bits2 : waitsOk spec_l04Hex4.T2.2 spec_l04Hex4.B2 = true := by kernel_rfl
set_option maxHeartbeats 8000000 in
set_option maxRecDepth 100000 in
theorem spec_l04Hex4.calls (a0 : Int) (r : ByteArray) (w : World) (h : spec_l04Hex4.f a0 = some r) :
  Calls Tryz.prog 62 #[.int .i64 a0] w fun e w' => e = .returned (.string r) ∧ Below w.heap.size w w' := by
 have HB := Aside0.mk (Below.refl w.heap.size w); have H : (if 0 ≤ (Int.tmod (wrap64 (Int.tdiv a0 4096)) 16) then (if (Int.tmod (wrap64 (Int.tdiv a0 4096)) 16) < 16 then (if 0 ≤ (Int.tmod (wrap64 (Int.tdiv a0 256)) 16) then (if (Int.tmod (wrap64 (Int.tdiv a0 256)) 16) < 16 then (if 0 ≤ (Int.tmod (wrap64 (Int.tdiv a0 16)) 16) then (if (Int.tmod (wrap64 (Int.tdiv a0 16)) 16) < 16 then (if 0 ≤ (Int.tmod a0 16) then (if (Int.tmod a0 16) < 16 then (some (strOfNums (([bt (⟨#[48, 49, 50, 51, 52, 53, 54, 55, 56, 57, 97, 98, 99, 100, 101, 102]⟩ : ByteArray) (Int.tmod (wrap64 (Int.tdiv a0 4096)) 16), bt (⟨#[48, 49, 50, 51, 52, 53, 54, 55, 56, 57, 97, 98, 99, 100, 101, 102]⟩ : ByteArray) (Int.tmod (wrap64 (Int.tdiv a0 256)) 16), bt (⟨#[48, 49, 50, 51, 52, 53, 54, 55, 56, 57, 97, 98, 99, 100, 101, 102]⟩ : ByteArray) (Int.tmod (wrap64 (Int.tdiv a0 16)) 16), bt (⟨#[48, 49, 50, 51, 52, 53, 54, 55, 56, 57, 97, 98, 99, 100, 101, 102]⟩ : ByteArray) (Int.tmod a0 16)] : List Int)))) else (none)) else (none)) else (none)) else (none)) else (none)) else (none)) else (none)) else (none)) = some r := h; clear h
 obtain ⟨ji2, hji2⟩ : ∃ j_ : Int, (Int.tmod (wrap64 (Int.tdiv a0 4096)) 16) = j_ := ⟨_, rfl⟩
 replace H : (if 0 ≤ (ji2) then (if (ji2) < 16 then (if 0 ≤ (Int.tmod (wrap64 (Int.tdiv a0 256)) 16) then (if (Int.tmod (wrap64 (Int.tdiv a0 256)) 16) < 16 then (if 0 ≤ (Int.tmod (wrap64 (Int.tdiv a0 16)) 16) then (if (Int.tmod (wrap64 (Int.tdiv a0 16)) 16) < 16 then (if 0 ≤ (Int.tmod a0 16) then (if (Int.tmod a0 16) < 16 then (some (strOfNums (([bt (⟨#[48, 49, 50, 51, 52, 53, 54, 55, 56, 57, 97, 98, 99, 100, 101, 102]⟩ : ByteArray) (ji2), bt (⟨#[48, 49, 50, 51, 52, 53, 54, 55, 56, 57, 97, 98, 99, 100, 101, 102]⟩ : ByteArray) (Int.tmod (wrap64 (Int.tdiv a0 256)) 16), bt (⟨#[48, 49, 50, 51, 52, 53, 54, 55, 56, 57, 97, 98, 99, 100, 101, 102]⟩ : ByteArray) (Int.tmod (wrap64 (Int.tdiv a0 16)) 16), bt (⟨#[48, 49, 50, 51, 52, 53, 54, 55, 56, 57, 97, 98, 99, 100, 101, 102]⟩ : ByteArray) (Int.tmod a0 16)] : List Int)))) else (none)) else (none)) else (none)) else (none)) else (none)) else (none)) else (none)) else (none)) = some r := by first | (rw [hji2] at H; exact H) | (simp only [hji2] at H ⊢; exact H)
 by_cases c3 : 0 ≤ (ji2)
 ·rw [if_pos c3] at H; have c3b0 := decide_eq_true c3; clear c3
  by_cases c4 : (ji2) < 16
  ·rw [if_pos c4] at H; have c4b0 := decide_eq_true c4; clear c4
   obtain ⟨ji6, hji6⟩ : ∃ j_ : Int, (Int.tmod (wrap64 (Int.tdiv a0 256)) 16) = j_ := ⟨_, rfl⟩
   replace H : (if 0 ≤ (ji6) then (if (ji6) < 16 then (if 0 ≤ (Int.tmod (wrap64 (Int.tdiv a0 16)) 16) then (if (Int.tmod (wrap64 (Int.tdiv a0 16)) 16) < 16 then (if 0 ≤ (Int.tmod a0 16) then (if (Int.tmod a0 16) < 16 then (some (strOfNums (([bt (⟨#[48, 49, 50, 51, 52, 53, 54, 55, 56, 57, 97, 98, 99, 100, 101, 102]⟩ : ByteArray) (ji2), bt (⟨#[48, 49, 50, 51, 52, 53, 54, 55, 56, 57, 97, 98, 99, 100, 101, 102]⟩ : ByteArray) (ji6), bt (⟨#[48, 49, 50, 51, 52, 53, 54, 55, 56, 57, 97, 98, 99, 100, 101, 102]⟩ : ByteArray) (Int.tmod (wrap64 (Int.tdiv a0 16)) 16), bt (⟨#[48, 49, 50, 51, 52, 53, 54, 55, 56, 57, 97, 98, 99, 100, 101, 102]⟩ : ByteArray) (Int.tmod a0 16)] : List Int)))) else (none)) else (none)) else (none)) else (none)) else (none)) else (none)) = some r := by first | (rw [hji6] at H; exact H) | (simp only [hji6] at H ⊢; exact H)
   by_cases c7 : 0 ≤ (ji6)
   ·rw [if_pos c7] at H; have c7b0 := decide_eq_true c7; clear c7
    by_cases c8 : (ji6) < 16
    ·rw [if_pos c8] at H; have c8b0 := decide_eq_true c8; clear c8
     obtain ⟨ji10, hji10⟩ : ∃ j_ : Int, (Int.tmod (wrap64 (Int.tdiv a0 16)) 16) = j_ := ⟨_, rfl⟩
     replace H : (if 0 ≤ (ji10) then (if (ji10) < 16 then (if 0 ≤ (Int.tmod a0 16) then (if (Int.tmod a0 16) < 16 then (some (strOfNums (([bt (⟨#[48, 49, 50, 51, 52, 53, 54, 55, 56, 57, 97, 98, 99, 100, 101, 102]⟩ : ByteArray) (ji2), bt (⟨#[48, 49, 50, 51, 52, 53, 54, 55, 56, 57, 97, 98, 99, 100, 101, 102]⟩ : ByteArray) (ji6), bt (⟨#[48, 49, 50, 51, 52, 53, 54, 55, 56, 57, 97, 98, 99, 100, 101, 102]⟩ : ByteArray) (ji10), bt (⟨#[48, 49, 50, 51, 52, 53, 54, 55, 56, 57, 97, 98, 99, 100, 101, 102]⟩ : ByteArray) (Int.tmod a0 16)] : List Int)))) else (none)) else (none)) else (none)) else (none)) = some r := by first | (rw [hji10] at H; exact H) | (simp only [hji10] at H ⊢; exact H)
     by_cases c11 : 0 ≤ (ji10)
     ·rw [if_pos c11] at H; have c11b0 := decide_eq_true c11; clear c11
      by_cases c12 : (ji10) < 16
      ·rw [if_pos c12] at H; have c12b0 := decide_eq_true c12; clear c12
       obtain ⟨ji14, hji14⟩ : ∃ j_ : Int, (Int.tmod a0 16) = j_ := ⟨_, rfl⟩
       replace H : (if 0 ≤ (ji14) then (if (ji14) < 16 then (some (strOfNums (([bt (⟨#[48, 49, 50, 51, 52, 53, 54, 55, 56, 57, 97, 98, 99, 100, 101, 102]⟩ : ByteArray) (ji2), bt (⟨#[48, 49, 50, 51, 52, 53, 54, 55, 56, 57, 97, 98, 99, 100, 101, 102]⟩ : ByteArray) (ji6), bt (⟨#[48, 49, 50, 51, 52, 53, 54, 55, 56, 57, 97, 98, 99, 100, 101, 102]⟩ : ByteArray) (ji10), bt (⟨#[48, 49, 50, 51, 52, 53, 54, 55, 56, 57, 97, 98, 99, 100, 101, 102]⟩ : ByteArray) (ji14)] : List Int)))) else (none)) else (none)) = some r := by first | (rw [hji14] at H; exact H) | (simp only [hji14] at H ⊢; exact H)
       by_cases c15 : 0 ≤ (ji14)
       ·rw [if_pos c15] at H; have c15b0 := decide_eq_true c15; clear c15
        by_cases c16 : (ji14) < 16
        ·rw [if_pos c16] at H; have c16b0 := decide_eq_true c16; clear c16
         obtain ⟨y136, hy136⟩ : ∃ y_ : List Int, y_ = (([bt (⟨#[48, 49, 50, 51, 52, 53, 54, 55, 56, 57, 97, 98, 99, 100, 101, 102]⟩ : ByteArray) (ji2), bt (⟨#[48, 49, 50, 51, 52, 53, 54, 55, 56, 57, 97, 98, 99, 100, 101, 102]⟩ : ByteArray) (ji6), bt (⟨#[48, 49, 50, 51, 52, 53, 54, 55, 56, 57, 97, 98, 99, 100, 101, 102]⟩ : ByteArray) (ji10), bt (⟨#[48, 49, 50, 51, 52, 53, 54, 55, 56, 57, 97, 98, 99, 100, 101, 102]⟩ : ByteArray) (ji14)] : List Int)) := ⟨_, rfl⟩
         replace H : (some (strOfNums y136)) = some r := reA H hy136; have Ny136 := Aside0.mk hy136; clear hy136; obtain rfl := Option.some.inj H
         go_enter Tryz.func62, Tryz.ntmps62
         try go_wp2
         replace HB := Aside0.mk (below_drew1 HB.out); have p5 : 0 ≤ ((ji2) : Int) := odA; have q5 : (ji2) < (16 : Int) := odA; have hx5 := bt_at (⟨#[48, 49, 50, 51, 52, 53, 54, 55, 56, 57, 97, 98, 99, 100, 101, 102]⟩ : ByteArray) (ji2); replace p5 := eq_true p5; replace q5 := eq_true q5; have p9 : 0 ≤ ((ji6) : Int) := odA; have q9 : (ji6) < (16 : Int) := odA; have hx9 := bt_at (⟨#[48, 49, 50, 51, 52, 53, 54, 55, 56, 57, 97, 98, 99, 100, 101, 102]⟩ : ByteArray) (ji6); replace p9 := eq_true p9; replace q9 := eq_true q9; have p13 : 0 ≤ ((ji10) : Int) := odA; have q13 : (ji10) < (16 : Int) := odA; have hx13 := bt_at (⟨#[48, 49, 50, 51, 52, 53, 54, 55, 56, 57, 97, 98, 99, 100, 101, 102]⟩ : ByteArray) (ji10); replace p13 := eq_true p13; replace q13 := eq_true q13; have p17 : 0 ≤ ((ji14) : Int) := odA; have q17 : (ji14) < (16 : Int) := odA; have hx17 := bt_at (⟨#[48, 49, 50, 51, 52, 53, 54, 55, 56, 57, 97, 98, 99, 100, 101, 102]⟩ : ByteArray) (ji14); replace p17 := eq_true p17; replace q17 := eq_true q17
         refine start_ (n := 22) (S := fun w' => True) (ds := []) #[false, false, false, false, false, false, false, false, false, false, false, false, false, false, false, false, false, false, false, false, false, false] (by kernel_rfl) rfl rfl trivial (fun hHeld => ?_); refine with_tabW spec_l04Hex4.tab2 spec_l04Hex4.bits2 (fun HT_ HW_ => ?_)
         generalize w.drew = w18 at HB hHeld ⊢
         refine pure_ (i := 0) (N := some 4) (v := ?_) (a' := ?_) #[true, false, false, false, false, false, false, false, false, false, false, false, false, false, false, false, false, false, false, false, false, false] rfl rfl (any_of HT_.out (by kernel_rfl)) (fun _ _ _ h => h) (Or.inl ⟨by rfl, ?_⟩) ?_ ?_
         rotate_left
         ·intro w'; go_simp
          with_reducible rfl
         rotate_left
         ·exact putA
         refine pure_ (i := 1) (N := some 5) (v := ?_) (a' := ?_) #[true, true, false, false, false, false, false, false, false, false, false, false, false, false, false, false, false, false, false, false, false, false] rfl rfl (any_of HT_.out (by kernel_rfl)) (fun _ _ _ h => h) (Or.inl ⟨by rfl, ?_⟩) ?_ ?_
         rotate_left
         ·intro w'; go_simp
          with_reducible rfl
         rotate_left
         ·exact putA
         refine pure_ (i := 2) (N := some 6) (v := ?_) (a' := ?_) #[true, true, true, false, false, false, false, false, false, false, false, false, false, false, false, false, false, false, false, false, false, false] rfl rfl (any_of HT_.out (by kernel_rfl)) (fun _ _ _ h => h) (Or.inl ⟨by rfl, ?_⟩) ?_ ?_
         rotate_left
         ·intro w'; go_simp
          with_reducible rfl
         rotate_left
         ·exact putA
         refine pure_ (i := 3) (N := some 7) (v := ?_) (a' := ?_) #[true, true, true, true, false, false, false, false, false, false, false, false, false, false, false, false, false, false, false, false, false, false] rfl rfl (any_of HT_.out (by kernel_rfl)) (fun _ _ _ h => h) (Or.inl ⟨by rfl, ?_⟩) ?_ ?_
         rotate_left
         ·intro w'; go_simp
          with_reducible rfl
         rotate_left
         ·exact putA
         refine pure_ (i := 5) (N := some 9) (v := ?_) (a' := ?_) #[true, true, true, true, false, true, false, false, false, false, false, false, false, false, false, false, false, false, false, false, false, false] rfl rfl (any_of HT_.out (by kernel_rfl)) (fun _ _ _ h => h) (Or.inl ⟨by rfl, ?_⟩) ?_ ?_
         rotate_left
         ·intro w'; go_simp
          with_reducible rfl
         rotate_left
         ·exact putA
         refine pure_ (i := 6) (N := some 10) (v := ?_) (a' := ?_) #[true, true, true, true, false, true, true, false, false, false, false, false, false, false, false, false, false, false, false, false, false, false] rfl rfl (any_of HT_.out (by kernel_rfl)) (fun _ _ _ h => h) (Or.inl ⟨by rfl, ?_⟩) ?_ ?_
         rotate_left
         ·intro w'; go_simp
          with_reducible rfl
         rotate_left
         ·exact putA
         refine pure_ (i := 7) (N := some 11) (v := ?_) (a' := ?_) #[true, true, true, true, false, true, true, true, false, false, false, false, false, false, false, false, false, false, false, false, false, false] rfl rfl (any_of HT_.out (by kernel_rfl)) (fun _ _ _ h => h) (Or.inl ⟨by rfl, ?_⟩) ?_ ?_
         rotate_left
         ·intro w'; go_simp
          with_reducible rfl
         rotate_left
         ·exact putA
         refine pure_ (i := 8) (N := some 12) (v := ?_) (a' := ?_) #[true, true, true, true, false, true, true, true, true, false, false, false, false, false, false, false, false, false, false, false, false, false] rfl rfl (any_of HT_.out (by kernel_rfl)) (fun _ _ _ h => h) (Or.inl ⟨by rfl, ?_⟩) ?_ ?_
         rotate_left
         ·intro w'; go_simp
          with_reducible rfl
         rotate_left
         ·exact putA
         refine pure_ (i := 10) (N := some 14) (v := ?_) (a' := ?_) #[true, true, true, true, false, true, true, true, true, false, true, false, false, false, false, false, false, false, false, false, false, false] rfl rfl (any_of HT_.out (by kernel_rfl)) (fun _ _ _ h => h) (Or.inl ⟨by rfl, ?_⟩) ?_ ?_
         rotate_left
         ·intro w'; go_simp
          with_reducible rfl
         rotate_left
         ·exact putA
         refine pure_ (i := 11) (N := some 15) (v := ?_) (a' := ?_) #[true, true, true, true, false, true, true, true, true, false, true, true, false, false, false, false, false, false, false, false, false, false] rfl rfl (any_of HT_.out (by kernel_rfl)) (fun _ _ _ h => h) (Or.inl ⟨by rfl, ?_⟩) ?_ ?_
         rotate_left
         ·intro w'; go_simp
          with_reducible rfl
         rotate_left
         ·exact putA
         refine pure_ (i := 12) (N := some 16) (v := ?_) (a' := ?_) #[true, true, true, true, false, true, true, true, true, false, true, true, true, false, false, false, false, false, false, false, false, false] rfl rfl (any_of HT_.out (by kernel_rfl)) (fun _ _ _ h => h) (Or.inl ⟨by rfl, ?_⟩) ?_ ?_
         rotate_left
         ·intro w'; go_simp
          with_reducible rfl
         rotate_left
         ·exact putA
         refine pure_ (i := 13) (N := some 17) (v := ?_) (a' := ?_) #[true, true, true, true, false, true, true, true, true, false, true, true, true, true, false, false, false, false, false, false, false, false] rfl rfl (any_of HT_.out (by kernel_rfl)) (fun _ _ _ h => h) (Or.inl ⟨by rfl, ?_⟩) ?_ ?_
         rotate_left
         ·intro w'; go_simp
          with_reducible rfl
         rotate_left
         ·exact putA
         refine pure_ (i := 15) (N := some 19) (v := ?_) (a' := ?_) #[true, true, true, true, false, true, true, true, true, false, true, true, true, true, false, true, false, false, false, false, false, false] rfl rfl (any_of HT_.out (by kernel_rfl)) (fun _ _ _ h => h) (Or.inl ⟨by rfl, ?_⟩) ?_ ?_
         rotate_left
         ·intro w'; go_simp
          with_reducible rfl
         rotate_left
         ·exact putA
         refine pure_ (i := 16) (N := some 20) (v := ?_) (a' := ?_) #[true, true, true, true, false, true, true, true, true, false, true, true, true, true, false, true, true, false, false, false, false, false] rfl rfl (any_of HT_.out (by kernel_rfl)) (fun _ _ _ h => h) (Or.inl ⟨by rfl, ?_⟩) ?_ ?_
         rotate_left
         ·intro w'; go_simp
          with_reducible rfl
         rotate_left
         ·exact putA
         refine pure_ (i := 17) (N := some 21) (v := ?_) (a' := ?_) #[true, true, true, true, false, true, true, true, true, false, true, true, true, true, false, true, true, true, false, false, false, false] rfl rfl (any_of HT_.out (by kernel_rfl)) (fun _ _ _ h => h) (Or.inl ⟨by rfl, ?_⟩) ?_ ?_
         rotate_left
         ·intro w'; go_simp
          with_reducible rfl
         rotate_left
         ·exact putA
         refine take_ (i := 4) (N := some 8) (v := ?_) (a' := ?_) #[true, true, true, true, true, true, true, true, true, false, true, true, true, true, false, true, true, true, false, false, false, false] rfl rfl (take_ofW HT_.out HW_.out (by kernel_rfl)) (fun _ _ _ h => h) (Or.inl ⟨by rfl, ?_⟩) hHeld ?_ ?_
         rotate_left
         ·intro w' _; go_simp
          with_reducible rfl
         rotate_left
         ·exact putA
         refine take_ (i := 9) (N := some 13) (v := ?_) (a' := ?_) #[true, true, true, true, true, true, true, true, true, true, true, true, true, true, false, true, true, true, false, false, false, false] rfl rfl (take_ofW HT_.out HW_.out (by kernel_rfl)) (fun _ _ _ h => h) (Or.inl ⟨by rfl, ?_⟩) hHeld ?_ ?_
         rotate_left
         ·intro w' _; go_simp
          with_reducible rfl
         rotate_left
         ·exact putA
         refine take_ (i := 14) (N := some 18) (v := ?_) (a' := ?_) #[true, true, true, true, true, true, true, true, true, true, true, true, true, true, true, true, true, true, false, false, false, false] rfl rfl (take_ofW HT_.out HW_.out (by kernel_rfl)) (fun _ _ _ h => h) (Or.inl ⟨by rfl, ?_⟩) hHeld ?_ ?_
         rotate_left
         ·intro w' _; go_simp
          with_reducible rfl
         rotate_left
         ·exact putA
         refine take_ (i := 18) (N := some 22) (v := ?_) (a' := ?_) #[true, true, true, true, true, true, true, true, true, true, true, true, true, true, true, true, true, true, true, false, false, false] rfl rfl (take_ofW HT_.out HW_.out (by kernel_rfl)) (fun _ _ _ h => h) (Or.inl ⟨by rfl, ?_⟩) hHeld ?_ ?_
         rotate_left
         ·intro w' _; go_simp
          with_reducible rfl
         rotate_left
         ·exact putA
         refine one_ (i := 19) (N := some 23) #[true, true, true, true, true, true, true, true, true, true, true, true, true, true, true, true, true, true, true, true, false, false] rfl rfl (one_of HT_.out (by kernel_rfl)) (by decide) (fun K hK => ?_)
         refine Kd.R_lit_step (Kd.int .u8) _ 5 ?hg (N := 23) ?hd (xs := ([bt (⟨#[48, 49, 50, 51, 52, 53, 54, 55, 56, 57, 97, 98, 99, 100, 101, 102]⟩ : ByteArray) (ji2), bt (⟨#[48, 49, 50, 51, 52, 53, 54, 55, 56, 57, 97, 98, 99, 100, 101, 102]⟩ : ByteArray) (ji6), bt (⟨#[48, 49, 50, 51, 52, 53, 54, 55, 56, 57, 97, 98, 99, 100, 101, 102]⟩ : ByteArray) (ji10), bt (⟨#[48, 49, 50, 51, 52, 53, 54, 55, 56, 57, 97, 98, 99, 100, 101, 102]⟩ : ByteArray) (ji14)] : List Int)) (inner := [.int .u8 (bt (⟨#[48, 49, 50, 51, 52, 53, 54, 55, 56, 57, 97, 98, 99, 100, 101, 102]⟩ : ByteArray) (ji2)), .int .u8 (bt (⟨#[48, 49, 50, 51, 52, 53, 54, 55, 56, 57, 97, 98, 99, 100, 101, 102]⟩ : ByteArray) (ji6)), .int .u8 (bt (⟨#[48, 49, 50, 51, 52, 53, 54, 55, 56, 57, 97, 98, 99, 100, 101, 102]⟩ : ByteArray) (ji10)), .int .u8 (bt (⟨#[48, 49, 50, 51, 52, 53, 54, 55, 56, 57, 97, 98, 99, 100, 101, 102]⟩ : ByteArray) (ji14))]) (ok := fun _ => True) (okp := fun _ => True) ?hr ?hp (fun _ hk => hk) trivial (Below.refl _ _) (Nat.le_refl _) (by simp) ?_; (case hd => rfl); (case hg => rfl); (case hr => first | (go_simp; done) | (go_simp; rfl)); (case hp => exact (Reps.one (show Kd.M (Kd.int .u8) _ _ _ (bt (⟨#[48, 49, 50, 51, 52, 53, 54, 55, 56, 57, 97, 98, 99, 100, 101, 102]⟩ : ByteArray) (ji2)) [.int .u8 (bt (⟨#[48, 49, 50, 51, 52, 53, 54, 55, 56, 57, 97, 98, 99, 100, 101, 102]⟩ : ByteArray) (ji2))] from rfl) (Reps.one (show Kd.M (Kd.int .u8) _ _ _ (bt (⟨#[48, 49, 50, 51, 52, 53, 54, 55, 56, 57, 97, 98, 99, 100, 101, 102]⟩ : ByteArray) (ji6)) [.int .u8 (bt (⟨#[48, 49, 50, 51, 52, 53, 54, 55, 56, 57, 97, 98, 99, 100, 101, 102]⟩ : ByteArray) (ji6))] from rfl) (Reps.one (show Kd.M (Kd.int .u8) _ _ _ (bt (⟨#[48, 49, 50, 51, 52, 53, 54, 55, 56, 57, 97, 98, 99, 100, 101, 102]⟩ : ByteArray) (ji10)) [.int .u8 (bt (⟨#[48, 49, 50, 51, 52, 53, 54, 55, 56, 57, 97, 98, 99, 100, 101, 102]⟩ : ByteArray) (ji10))] from rfl) (Reps.one (show Kd.M (Kd.int .u8) _ _ _ (bt (⟨#[48, 49, 50, 51, 52, 53, 54, 55, 56, 57, 97, 98, 99, 100, 101, 102]⟩ : ByteArray) (ji14)) [.int .u8 (bt (⟨#[48, 49, 50, 51, 52, 53, 54, 55, 56, 57, 97, 98, 99, 100, 101, 102]⟩ : ByteArray) (ji14))] from rfl) (Reps.none _ _))))))
         intro v137 w19 ho20 hb hg_ hnew_; clear hg_ hnew_
         (first | rw [← Ny136.out] at ho20 | (simp only [Int.reduceToNat] at ho20; rw [← Ny136.out] at ho20))
         have HO138 := Aside0.mk (Kd.R_lower ho20 (below_size (belB HB))); replace HB := Aside0.mk (below_step (belB HB) hb); clear hb ho20; refine hK.out _ _ trivial (fun hHeld => ?_); clear hK K; refine norm_ (a' := ?_) ?_ ?_; rotate_left
         ·show Act.put _ (some 23) _ = _
          simp only [Act.put, List.setIfInBounds_toArray, List.set_cons_zero, List.set_cons_succ, i64_w, i32_w]
          rfl
         refine one_ (i := 20) (N := some 24) #[true, true, true, true, true, true, true, true, true, true, true, true, true, true, true, true, true, true, true, true, true, false] rfl rfl (one_of HT_.out (by kernel_rfl)) (by decide) (fun K hK => ?_)
         have hcv21 := own_string (P := Tryz.prog) Tryz.underlying34 Tryz.underlying5 Tryz.underlying9 (Kd.own_of_R HO138.out)
         refine value_ (w1 := ?_) (v := ?_) (by rfl) rfl ?_ ?_
         rotate_left 2
         ·go_simp
          constructor
          ·rfl
          ·rfl
         clear hcv21; refine hK.out _ _ trivial (fun hHeld => ?_); clear hK K; refine norm_ (a' := ?_) ?_ ?_; rotate_left
         ·show Act.put _ (some 24) _ = _
          simp only [Act.put, List.setIfInBounds_toArray, List.set_cons_zero, List.set_cons_succ, i64_w, i32_w]
          rfl
         refine pure_ (i := 21) (N := some 2) (v := ?_) (a' := ?_) #[true, true, true, true, true, true, true, true, true, true, true, true, true, true, true, true, true, true, true, true, true, true] rfl rfl (any_of HT_.out (by kernel_rfl)) (fun _ _ _ h => h) (Or.inl ⟨by rfl, ?_⟩) ?_ ?_
         rotate_left
         ·intro w'; go_simp
          with_reducible rfl
         rotate_left
         ·exact putA
         refine done_ (done_of HT_.out (by kernel_rfl)) ?_
         try go_wp2
         go_ret
         exact ⟨by first | rfl | (simp [errW_none, errW_some] <;> rfl) | (simp only [← hji2, ← hji6, ← hji10, ← hji14]; first | rfl | (simp [errW_none, errW_some] <;> rfl)) | (simp [*, errW_none, errW_some] <;> rfl), belB HB⟩
        ·rw [if_neg c16] at H
         exact absurd H (by simp)
       ·rw [if_neg c15] at H
        exact absurd H (by simp)
      ·rw [if_neg c12] at H
       exact absurd H (by simp)
     ·rw [if_neg c11] at H
      exact absurd H (by simp)
    ·rw [if_neg c8] at H
     exact absurd H (by simp)
   ·rw [if_neg c7] at H
    exact absurd H (by simp)
  ·rw [if_neg c4] at H
   exact absurd H (by simp)
 ·rw [if_neg c3] at H
  exact absurd H (by simp)

mutual
def spec_Escaped.j0 : Nat → ByteArray → Bool → Option (ByteArray)
 | 0, _, _ => none
 | k + 1, x0, x13 => if x13 = true then (some (⟨#[]⟩ : ByteArray)) else (spec_Escaped.l0 k x0 (⟨#[34]⟩ : ByteArray) 0)
def spec_Escaped.l0 : Nat → ByteArray → ByteArray → Int → Option (ByteArray)
 | 0, _, _, _ => none
 | k + 1, x0, x3, x4 => if x4 < (x0.size : Int) then (if 0 ≤ x4 then (if (bt x0 x4) = 34 then (spec_Escaped.j2 k x0 x3 x4 (bt x0 x4) true) else (spec_Escaped.j2 k x0 x3 x4 (bt x0 x4) ((bt x0 x4) == 92))) else (none)) else (if x3.size + 1 ≤ 9223372036854775807 then (some (x3 ++ (⟨#[34]⟩ : ByteArray))) else (none))
def spec_Escaped.j2 : Nat → ByteArray → ByteArray → Int → Int → Bool → Option (ByteArray)
 | 0, _, _, _, _, _ => none
 | k + 1, x0, x3, x4, x5, x30 => if x30 = true then (if x3.size + 1 ≤ 9223372036854775807 then (if 0 ≤ x4 then (if x4 ≤ (wrap64 (x4 + 1)) then (if (wrap64 (x4 + 1)) ≤ (x0.size : Int) then (if (x3 ++ (⟨#[92]⟩ : ByteArray)).size + (x0.extract (x4 : Int).toNat ((wrap64 (x4 + 1)) : Int).toNat).size ≤ 9223372036854775807 then (spec_Escaped.l0 k x0 ((x3 ++ (⟨#[92]⟩ : ByteArray)) ++ (x0.extract (x4 : Int).toNat ((wrap64 (x4 + 1)) : Int).toNat)) (wrap64 (x4 + 1))) else (none)) else (none)) else (none)) else (none)) else (none)) else (if x5 = 8 then (if x3.size + 2 ≤ 9223372036854775807 then (spec_Escaped.l0 k x0 (x3 ++ (⟨#[92, 98]⟩ : ByteArray)) (wrap64 (x4 + 1))) else (none)) else (if x5 = 9 then (if x3.size + 2 ≤ 9223372036854775807 then (spec_Escaped.l0 k x0 (x3 ++ (⟨#[92, 116]⟩ : ByteArray)) (wrap64 (x4 + 1))) else (none)) else (if x5 = 10 then (if x3.size + 2 ≤ 9223372036854775807 then (spec_Escaped.l0 k x0 (x3 ++ (⟨#[92, 110]⟩ : ByteArray)) (wrap64 (x4 + 1))) else (none)) else (if x5 = 12 then (if x3.size + 2 ≤ 9223372036854775807 then (spec_Escaped.l0 k x0 (x3 ++ (⟨#[92, 102]⟩ : ByteArray)) (wrap64 (x4 + 1))) else (none)) else (if x5 = 13 then (if x3.size + 2 ≤ 9223372036854775807 then (spec_Escaped.l0 k x0 (x3 ++ (⟨#[92, 114]⟩ : ByteArray)) (wrap64 (x4 + 1))) else (none)) else (if x5 < 32 then (if x3.size + 2 ≤ 9223372036854775807 then ((spec_l04Hex4.f (wrap64 (x5))).bind fun t140 => (if (x3 ++ (⟨#[92, 117]⟩ : ByteArray)).size + t140.size ≤ 9223372036854775807 then (spec_Escaped.l0 k x0 ((x3 ++ (⟨#[92, 117]⟩ : ByteArray)) ++ t140) (wrap64 (x4 + 1))) else (none))) else (none)) else (if x5 = 127 then (if x3.size + 2 ≤ 9223372036854775807 then ((spec_l04Hex4.f (wrap64 (x5))).bind fun t141 => (if (x3 ++ (⟨#[92, 117]⟩ : ByteArray)).size + t141.size ≤ 9223372036854775807 then (spec_Escaped.l0 k x0 ((x3 ++ (⟨#[92, 117]⟩ : ByteArray)) ++ t141) (wrap64 (x4 + 1))) else (none))) else (none)) else (if 0 ≤ x4 then (if x4 ≤ (wrap64 (x4 + 1)) then (if (wrap64 (x4 + 1)) ≤ (x0.size : Int) then (if x3.size + (x0.extract (x4 : Int).toNat ((wrap64 (x4 + 1)) : Int).toNat).size ≤ 9223372036854775807 then (spec_Escaped.l0 k x0 (x3 ++ (x0.extract (x4 : Int).toNat ((wrap64 (x4 + 1)) : Int).toNat)) (wrap64 (x4 + 1))) else (none)) else (none)) else (none)) else (none)))))))))
end
def spec_Escaped.f (k : Nat) (a0 : ByteArray) : Option (ByteArray) := (spec_TextOk.f k a0).bind fun t139 => (if t139 = true then (spec_Escaped.j0 k a0 (decide ((a0.size : Int) > 200))) else (spec_Escaped.j0 k a0 true))
theorem spec_Escaped.mono_l : ∀ k, (∀ y0 y1, LeO (spec_Escaped.j0 k y0 y1) (spec_Escaped.j0 (k + 1) y0 y1)) ∧ (∀ y0 y1 y2, LeO (spec_Escaped.l0 k y0 y1 y2) (spec_Escaped.l0 (k + 1) y0 y1 y2)) ∧ (∀ y0 y1 y2 y3 y4, LeO (spec_Escaped.j2 k y0 y1 y2 y3 y4) (spec_Escaped.j2 (k + 1) y0 y1 y2 y3 y4))
 | 0 => ⟨fun _ _ r h => by simp [spec_Escaped.j0] at h, fun _ _ _ r h => by simp [spec_Escaped.l0] at h, fun _ _ _ _ _ r h => by simp [spec_Escaped.j2] at h⟩
 | k + 1 => by
  obtain ⟨ih0, ih1, ih2⟩ := spec_Escaped.mono_l k; refine ⟨?_, ?_, ?_⟩
  ·intro y0 y1; unfold spec_Escaped.j0
   repeat' first
   | (with_reducible first | exact ih0 _ _ | exact ih1 _ _ _ | exact ih2 _ _ _ _ _ | exact spec_TextOk.mono _ _ | exact LeO.refl _ | exact LeO.none _ | refine LeO.ite ?_ ?_ | refine LeO.bind ?_ (fun _ => ?_))
   | exact ih0 _ _ | exact ih1 _ _ _ | exact ih2 _ _ _ _ _ | exact spec_TextOk.mono _ _ | exact LeO.none _ | refine LeO.ite ?_ ?_ | refine LeO.bind ?_ (fun _ => ?_)
  ·intro y0 y1 y2; unfold spec_Escaped.l0
   repeat' first
   | (with_reducible first | exact ih0 _ _ | exact ih1 _ _ _ | exact ih2 _ _ _ _ _ | exact spec_TextOk.mono _ _ | exact LeO.refl _ | exact LeO.none _ | refine LeO.ite ?_ ?_ | refine LeO.bind ?_ (fun _ => ?_))
   | exact ih0 _ _ | exact ih1 _ _ _ | exact ih2 _ _ _ _ _ | exact spec_TextOk.mono _ _ | exact LeO.none _ | refine LeO.ite ?_ ?_ | refine LeO.bind ?_ (fun _ => ?_)
  ·intro y0 y1 y2 y3 y4; unfold spec_Escaped.j2
   repeat' first
   | (with_reducible first | exact ih0 _ _ | exact ih1 _ _ _ | exact ih2 _ _ _ _ _ | exact spec_TextOk.mono _ _ | exact LeO.refl _ | exact LeO.none _ | refine LeO.ite ?_ ?_ | refine LeO.bind ?_ (fun _ => ?_))
   | exact ih0 _ _ | exact ih1 _ _ _ | exact ih2 _ _ _ _ _ | exact spec_TextOk.mono _ _ | exact LeO.none _ | refine LeO.ite ?_ ?_ | refine LeO.bind ?_ (fun _ => ?_)
theorem spec_Escaped.mono : ∀ a0 k, LeO (spec_Escaped.f k a0) (spec_Escaped.f (k + 1) a0) := by
 intro a0 k; obtain ⟨ih0, ih1, ih2⟩ := spec_Escaped.mono_l k; unfold spec_Escaped.f
 repeat' first
   | (with_reducible first | exact ih0 _ _ | exact ih1 _ _ _ | exact ih2 _ _ _ _ _ | exact spec_TextOk.mono _ _ | exact LeO.refl _ | exact LeO.none _ | refine LeO.ite ?_ ?_ | refine LeO.bind ?_ (fun _ => ?_))
   | exact ih0 _ _ | exact ih1 _ _ _ | exact ih2 _ _ _ _ _ | exact spec_TextOk.mono _ _ | exact LeO.none _ | refine LeO.ite ?_ ?_ | refine LeO.bind ?_ (fun _ => ?_)
set_option maxHeartbeats 8000000 in
set_option maxRecDepth 100000 in
theorem spec_Escaped.calls (k : Nat) (a0 : ByteArray) (r : ByteArray) (w : World) (h : spec_Escaped.f k a0 = some r) :
  Calls Tryz.prog 48 #[.string a0] w fun e w' => e = .returned (.string r) ∧ Below w.heap.size w w' := by
 have HB := Aside0.mk (Below.refl w.heap.size w); have H : ((spec_TextOk.f k a0).bind fun t139 => (if t139 = true then (spec_Escaped.j0 k a0 (decide ((a0.size : Int) > 200))) else (spec_Escaped.j0 k a0 true))) = some r := h; clear h; have HC2 := Aside0.mk H; clear H
 go_enter Tryz.func48, Tryz.ntmps48
 go_upto_region 1 with (fail)
 go_cut [13] (fun v13 wc => ∃ (kq : Nat) (x13_1 : Bool), v13 = .bool x13_1 ∧ Aside0 (spec_Escaped.j0 kq a0 x13_1 = some r) ∧ Aside0 (kq ≤ k) ∧ Aside0 (Below w.heap.size w wc))
 case first =>
  have H := HC2.out; clear HC2; replace H := Option.bind_eq_some_iff.mp H; obtain ⟨t139, A30, H⟩ := H; replace H : (if t139 = true then (spec_Escaped.j0 k a0 (decide ((a0.size : Int) > 200))) else (spec_Escaped.j0 k a0 true)) = some r := H; have A3 := Aside0.mk A30; clear A30
  by_cases c4 : t139 = true
  ·subst c4
   have H1 : (spec_Escaped.j0 k a0 (decide ((a0.size : Int) > 200))) = some r := by rw [if_pos rfl] at H; exact H
   clear H; have H := H1; clear H1
   have H' := Aside0.mk H
   clear H
   go_wp2_with (first | ((with_reducible refine gate_callee (f := 61) rfl ?_); refine goesL_ (some 7) rfl rfl Tryz.func61 (by kernel_rfl) rfl #[.string a0] rfl mapA ?_; (with_reducible refine (spec_TextOk.calls k a0 true _ A3.out).mono ?_); rintro e w5 ⟨rfl, hb⟩; refine ⟨_, rfl, ?_⟩; replace HB := Aside0.mk (below_step (belB HB) hb); (try clear hb)))
   go_meet
   case rel => exact ⟨_, (decide ((a0.size : Int) > 200)), enA, H', ⟨by first | omega | exact Nat.le_refl _⟩, ⟨belB HB⟩⟩
  ·replace c4 := Bool.eq_false_iff.mpr c4; subst c4
   have H1 : (spec_Escaped.j0 k a0 true) = some r := by rw [if_neg (show ¬ (false = true) by decide)] at H; exact H
   clear H; have H := H1; clear H1
   have H' := Aside0.mk H
   clear H
   go_wp2_with (first | ((with_reducible refine gate_callee (f := 61) rfl ?_); refine goesL_ (some 7) rfl rfl Tryz.func61 (by kernel_rfl) rfl #[.string a0] rfl mapA ?_; (with_reducible refine (spec_TextOk.calls k a0 false _ A3.out).mono ?_); rintro e w6 ⟨rfl, hb⟩; refine ⟨_, rfl, ?_⟩; replace HB := Aside0.mk (below_step (belB HB) hb); (try clear hb)))
   go_meet
   case rel => exact ⟨_, (true), enA, H', ⟨by first | omega | exact Nat.le_refl _⟩, ⟨belB HB⟩⟩
 case rest =>
  clear HC2
  try clear p2
  try clear c4
  try clear c6
  obtain ⟨kq, x13_1, rfl, HA, HJ1, HB⟩ := hcut
  cases kq with
  | zero => exact absurd HA.out (by simp [spec_Escaped.j0])
  | succ kj1 =>
   have H := HA.out; clear HA
   simp only [spec_Escaped.j0] at H
   by_cases c7 : x13_1 = true
   ·subst c7
    have H1 : (some (⟨#[]⟩ : ByteArray)) = some r := by rw [if_pos rfl] at H; exact H
    clear H; have H := H1; clear H1; obtain rfl := Option.some.inj H
    go_wp2
    go_ret
    exact ⟨erA, belB HB⟩
   ·replace c7 := Bool.eq_false_iff.mpr c7; subst c7
    have H1 : (spec_Escaped.l0 kj1 a0 (⟨#[34]⟩ : ByteArray) 0) = some r := by rw [if_neg (show ¬ (false = true) by decide)] at H; exact H
    clear H; have H := H1; clear H1
    have H' := Aside0.mk H
    clear H
    go_wp2
    go_loopg [3, 4] kj1 (fun kq v3 v4 w' => ∃ (x3_2 : ByteArray) (x4_2 : Int), v3 = .string x3_2 ∧ v4 = .int .i64 x4_2 ∧ Aside0 (spec_Escaped.l0 kq a0 x3_2 x4_2 = some r) ∧ Aside0 (kq ≤ kj1) ∧ Aside0 (Below w.heap.size w w'))
    case atStart => exact ⟨((⟨#[34]⟩ : ByteArray)), (0), enA, enA, H', ⟨Nat.le_refl _⟩, ⟨belB HB⟩⟩
    case round =>
     clear H'
     try clear p2
     try clear c4
     try clear c6
     try clear c7
     try clear p2
     obtain ⟨x3_2, x4_2, rfl, rfl, HA, HK2, HB⟩ := hrel
     cases gk with
     | zero => exact absurd HA.out (by simp [spec_Escaped.l0])
     | succ k2 =>
      have H := HA.out; clear HA
      simp only [spec_Escaped.l0] at H
      by_cases c8 : x4_2 < (a0.size : Int)
      ·rw [if_pos c8] at H; have c8b0 := decide_eq_true c8; clear c8
       by_cases c9 : 0 ≤ x4_2
       ·rw [if_pos c9] at H; have c9b0 := decide_eq_true c9; clear c9; have HC11 := Aside0.mk H; clear H; have p10 : 0 ≤ (x4_2 : Int) := odA; have q10 : x4_2 < (a0.size : Int) := odA; have hx10 := bt_at a0 x4_2; replace p10 := eq_true p10; replace q10 := eq_true q10
        go_upto_region 9 with (fail)
        go_cut [30] (fun v30 wc => ∃ (kq : Nat) (x30_10 : Bool), v30 = .bool x30_10 ∧ Aside0 (spec_Escaped.j2 kq a0 x3_2 x4_2 (bt a0 x4_2) x30_10 = some r) ∧ Aside0 (kq ≤ k2) ∧ Aside0 (Below w.heap.size w wc))
        case first =>
         have H := HC11.out; clear HC11
         by_cases c12 : (bt a0 x4_2) = 34
         ·rw [if_pos c12] at H; have c12b0 := beq_iff_eq.mpr c12; have c12b1 := bne_eq_false_iff_eq.mpr c12; clear c12
          (first | rw [c12b0] | (simp only [i64_w, i32_w]; rw [c12b0]) | skip)
          have H' := Aside0.mk H
          clear H
          go_wp2
          go_meet
          case rel => exact ⟨_, (true), enA, H', ⟨by have := HJ1.out; have := HK2.out; first | omega | exact Nat.le_refl _⟩, ⟨belB HB⟩⟩
         ·rw [if_neg c12] at H; have c12b0 := beq_eq_false_iff_ne.mpr c12; have c12b1 := bne_iff_ne.mpr c12
          (first | rw [c12b0] | (simp only [i64_w, i32_w]; rw [c12b0]) | skip)
          have H' := Aside0.mk H
          clear H
          go_wp2
          go_meet
          case rel => exact ⟨_, (((bt a0 x4_2) == 92)), enA, H', ⟨by have := HJ1.out; have := HK2.out; first | omega | exact Nat.le_refl _⟩, ⟨belB HB⟩⟩
        case rest =>
         clear HC11
         try clear c1
         try clear p1
         try clear q1
         try clear hx1
         try clear p2
         try clear c4
         try clear c6
         try clear c7
         try clear c8
         try clear c8b0
         try clear c9
         try clear c9b0
         try clear p10
         try clear q10
         try clear hx10
         try clear c12
         try clear c12b0
         try clear c12b1
         try clear p10
         try clear p2
         try clear q10
         obtain ⟨kq, x30_10, rfl, HA, HJ10, HB⟩ := hcut
         cases kq with
         | zero => exact absurd HA.out (by simp [spec_Escaped.j2])
         | succ kj10 =>
          have H := HA.out; clear HA
          simp only [spec_Escaped.j2] at H
          by_cases c13 : x30_10 = true
          ·subst c13
           have H1 : (if x3_2.size + 1 ≤ 9223372036854775807 then (if 0 ≤ x4_2 then (if x4_2 ≤ (wrap64 (x4_2 + 1)) then (if (wrap64 (x4_2 + 1)) ≤ (a0.size : Int) then (if (x3_2 ++ (⟨#[92]⟩ : ByteArray)).size + (a0.extract (x4_2 : Int).toNat ((wrap64 (x4_2 + 1)) : Int).toNat).size ≤ 9223372036854775807 then (spec_Escaped.l0 kj10 a0 ((x3_2 ++ (⟨#[92]⟩ : ByteArray)) ++ (a0.extract (x4_2 : Int).toNat ((wrap64 (x4_2 + 1)) : Int).toNat)) (wrap64 (x4_2 + 1))) else (none)) else (none)) else (none)) else (none)) else (none)) = some r := by rw [if_pos rfl] at H; exact H
           clear H; have H := H1; clear H1
           by_cases c14 : x3_2.size + 1 ≤ 9223372036854775807
           ·rw [if_pos c14] at H; have c14b0 := eq_true c14; have c14b1 := decide_eq_true c14
            try have c14b2 : (9223372036854775807 < x3_2.size + 1) = False := eq_false (Nat.not_lt.2 c14)
            by_cases c15 : 0 ≤ x4_2
            ·rw [if_pos c15] at H; have c15b0 := eq_true c15; have c15b1 := decide_eq_true c15; clear c15
             by_cases c16 : x4_2 ≤ (wrap64 (x4_2 + 1))
             ·rw [if_pos c16] at H; have c16b0 := eq_true c16; have c16b1 := decide_eq_true c16
              by_cases c17 : (wrap64 (x4_2 + 1)) ≤ (a0.size : Int)
              ·rw [if_pos c17] at H; have c17b0 := eq_true c17; have c17b1 := decide_eq_true c17
               by_cases c18 : (x3_2 ++ (⟨#[92]⟩ : ByteArray)).size + (a0.extract (x4_2 : Int).toNat ((wrap64 (x4_2 + 1)) : Int).toNat).size ≤ 9223372036854775807
               ·rw [if_pos c18] at H; have c18b0 := eq_true c18; have c18b1 := decide_eq_true c18
                have c18n : x3_2.size + 1 + (a0.extract (x4_2 : Int).toNat ((wrap64 (x4_2 + 1)) : Int).toNat).size ≤ 9223372036854775807 := by have z_ := c18b1; simp only [decide_eq_true_eq, ByteArray.size_append] at z_; exact z_
                have c18n0 := eq_true c18n; have c18n1 : decide (x3_2.size + 1 + (a0.extract (x4_2 : Int).toNat ((wrap64 (x4_2 + 1)) : Int).toNat).size ≤ 9223372036854775807) = true := decide_eq_true c18n; have c18n2 : (9223372036854775807 < x3_2.size + 1 + (a0.extract (x4_2 : Int).toNat ((wrap64 (x4_2 + 1)) : Int).toNat).size) = False := eq_false (Nat.not_lt.2 c18n)
                try have c18b2 : (9223372036854775807 < (x3_2 ++ (⟨#[92]⟩ : ByteArray)).size + (a0.extract (x4_2 : Int).toNat ((wrap64 (x4_2 + 1)) : Int).toNat).size) = False := eq_false (Nat.not_lt.2 c18)
                have H' := Aside0.mk H
                clear H
                go_wp2
                go_roundg kj10
                case measure => have := HJ1.out; have := HK2.out; have := HJ10.out; omega
                case rel => exact ⟨((x3_2 ++ (⟨#[92]⟩ : ByteArray)) ++ (a0.extract (x4_2 : Int).toNat ((wrap64 (x4_2 + 1)) : Int).toNat)), (wrap64 (x4_2 + 1)), enA, enA, H', ⟨by have := HJ1.out; have := HK2.out; have := HJ10.out; omega⟩, ⟨belB HB⟩⟩
               ·rw [if_neg c18] at H
                exact absurd H (by simp)
              ·rw [if_neg c17] at H
               exact absurd H (by simp)
             ·rw [if_neg c16] at H
              exact absurd H (by simp)
            ·rw [if_neg c15] at H
             exact absurd H (by simp)
           ·rw [if_neg c14] at H
            exact absurd H (by simp)
          ·replace c13 := Bool.eq_false_iff.mpr c13; subst c13
           have H1 : (if (bt a0 x4_2) = 8 then (if x3_2.size + 2 ≤ 9223372036854775807 then (spec_Escaped.l0 kj10 a0 (x3_2 ++ (⟨#[92, 98]⟩ : ByteArray)) (wrap64 (x4_2 + 1))) else (none)) else (if (bt a0 x4_2) = 9 then (if x3_2.size + 2 ≤ 9223372036854775807 then (spec_Escaped.l0 kj10 a0 (x3_2 ++ (⟨#[92, 116]⟩ : ByteArray)) (wrap64 (x4_2 + 1))) else (none)) else (if (bt a0 x4_2) = 10 then (if x3_2.size + 2 ≤ 9223372036854775807 then (spec_Escaped.l0 kj10 a0 (x3_2 ++ (⟨#[92, 110]⟩ : ByteArray)) (wrap64 (x4_2 + 1))) else (none)) else (if (bt a0 x4_2) = 12 then (if x3_2.size + 2 ≤ 9223372036854775807 then (spec_Escaped.l0 kj10 a0 (x3_2 ++ (⟨#[92, 102]⟩ : ByteArray)) (wrap64 (x4_2 + 1))) else (none)) else (if (bt a0 x4_2) = 13 then (if x3_2.size + 2 ≤ 9223372036854775807 then (spec_Escaped.l0 kj10 a0 (x3_2 ++ (⟨#[92, 114]⟩ : ByteArray)) (wrap64 (x4_2 + 1))) else (none)) else (if (bt a0 x4_2) < 32 then (if x3_2.size + 2 ≤ 9223372036854775807 then ((spec_l04Hex4.f (wrap64 ((bt a0 x4_2)))).bind fun t140 => (if (x3_2 ++ (⟨#[92, 117]⟩ : ByteArray)).size + t140.size ≤ 9223372036854775807 then (spec_Escaped.l0 kj10 a0 ((x3_2 ++ (⟨#[92, 117]⟩ : ByteArray)) ++ t140) (wrap64 (x4_2 + 1))) else (none))) else (none)) else (if (bt a0 x4_2) = 127 then (if x3_2.size + 2 ≤ 9223372036854775807 then ((spec_l04Hex4.f (wrap64 ((bt a0 x4_2)))).bind fun t141 => (if (x3_2 ++ (⟨#[92, 117]⟩ : ByteArray)).size + t141.size ≤ 9223372036854775807 then (spec_Escaped.l0 kj10 a0 ((x3_2 ++ (⟨#[92, 117]⟩ : ByteArray)) ++ t141) (wrap64 (x4_2 + 1))) else (none))) else (none)) else (if 0 ≤ x4_2 then (if x4_2 ≤ (wrap64 (x4_2 + 1)) then (if (wrap64 (x4_2 + 1)) ≤ (a0.size : Int) then (if x3_2.size + (a0.extract (x4_2 : Int).toNat ((wrap64 (x4_2 + 1)) : Int).toNat).size ≤ 9223372036854775807 then (spec_Escaped.l0 kj10 a0 (x3_2 ++ (a0.extract (x4_2 : Int).toNat ((wrap64 (x4_2 + 1)) : Int).toNat)) (wrap64 (x4_2 + 1))) else (none)) else (none)) else (none)) else (none))))))))) = some r := by rw [if_neg (show ¬ (false = true) by decide)] at H; exact H
           clear H; have H := H1; clear H1
           by_cases c19 : (bt a0 x4_2) = 8
           ·rw [if_pos c19] at H; have c19b0 := beq_iff_eq.mpr c19; have c19b1 := bne_eq_false_iff_eq.mpr c19; clear c19
            by_cases c20 : x3_2.size + 2 ≤ 9223372036854775807
            ·rw [if_pos c20] at H; have c20b0 := eq_true c20; have c20b1 := decide_eq_true c20
             try have c20b2 : (9223372036854775807 < x3_2.size + 2) = False := eq_false (Nat.not_lt.2 c20)
             have H' := Aside0.mk H
             clear H
             go_wp2
             go_roundg kj10
             case measure => have := HJ1.out; have := HK2.out; have := HJ10.out; omega
             case rel => exact ⟨(x3_2 ++ (⟨#[92, 98]⟩ : ByteArray)), (wrap64 (x4_2 + 1)), enA, enA, H', ⟨by have := HJ1.out; have := HK2.out; have := HJ10.out; omega⟩, ⟨belB HB⟩⟩
            ·rw [if_neg c20] at H
             exact absurd H (by simp)
           ·rw [if_neg c19] at H; have c19b0 := beq_eq_false_iff_ne.mpr c19; have c19b1 := bne_iff_ne.mpr c19
            by_cases c21 : (bt a0 x4_2) = 9
            ·rw [if_pos c21] at H; have c21b0 := beq_iff_eq.mpr c21; have c21b1 := bne_eq_false_iff_eq.mpr c21; clear c21
             by_cases c22 : x3_2.size + 2 ≤ 9223372036854775807
             ·rw [if_pos c22] at H; have c22b0 := eq_true c22; have c22b1 := decide_eq_true c22
              try have c22b2 : (9223372036854775807 < x3_2.size + 2) = False := eq_false (Nat.not_lt.2 c22)
              have H' := Aside0.mk H
              clear H
              go_wp2
              go_roundg kj10
              case measure => have := HJ1.out; have := HK2.out; have := HJ10.out; omega
              case rel => exact ⟨(x3_2 ++ (⟨#[92, 116]⟩ : ByteArray)), (wrap64 (x4_2 + 1)), enA, enA, H', ⟨by have := HJ1.out; have := HK2.out; have := HJ10.out; omega⟩, ⟨belB HB⟩⟩
             ·rw [if_neg c22] at H
              exact absurd H (by simp)
            ·rw [if_neg c21] at H; have c21b0 := beq_eq_false_iff_ne.mpr c21; have c21b1 := bne_iff_ne.mpr c21
             by_cases c23 : (bt a0 x4_2) = 10
             ·rw [if_pos c23] at H; have c23b0 := beq_iff_eq.mpr c23; have c23b1 := bne_eq_false_iff_eq.mpr c23; clear c23
              by_cases c24 : x3_2.size + 2 ≤ 9223372036854775807
              ·rw [if_pos c24] at H; have c24b0 := eq_true c24; have c24b1 := decide_eq_true c24
               try have c24b2 : (9223372036854775807 < x3_2.size + 2) = False := eq_false (Nat.not_lt.2 c24)
               have H' := Aside0.mk H
               clear H
               go_wp2
               go_roundg kj10
               case measure => have := HJ1.out; have := HK2.out; have := HJ10.out; omega
               case rel => exact ⟨(x3_2 ++ (⟨#[92, 110]⟩ : ByteArray)), (wrap64 (x4_2 + 1)), enA, enA, H', ⟨by have := HJ1.out; have := HK2.out; have := HJ10.out; omega⟩, ⟨belB HB⟩⟩
              ·rw [if_neg c24] at H
               exact absurd H (by simp)
             ·rw [if_neg c23] at H; have c23b0 := beq_eq_false_iff_ne.mpr c23; have c23b1 := bne_iff_ne.mpr c23
              by_cases c25 : (bt a0 x4_2) = 12
              ·rw [if_pos c25] at H; have c25b0 := beq_iff_eq.mpr c25; have c25b1 := bne_eq_false_iff_eq.mpr c25; clear c25
               by_cases c26 : x3_2.size + 2 ≤ 9223372036854775807
               ·rw [if_pos c26] at H; have c26b0 := eq_true c26; have c26b1 := decide_eq_true c26
                try have c26b2 : (9223372036854775807 < x3_2.size + 2) = False := eq_false (Nat.not_lt.2 c26)
                have H' := Aside0.mk H
                clear H
                go_wp2
                go_roundg kj10
                case measure => have := HJ1.out; have := HK2.out; have := HJ10.out; omega
                case rel => exact ⟨(x3_2 ++ (⟨#[92, 102]⟩ : ByteArray)), (wrap64 (x4_2 + 1)), enA, enA, H', ⟨by have := HJ1.out; have := HK2.out; have := HJ10.out; omega⟩, ⟨belB HB⟩⟩
               ·rw [if_neg c26] at H
                exact absurd H (by simp)
              ·rw [if_neg c25] at H; have c25b0 := beq_eq_false_iff_ne.mpr c25; have c25b1 := bne_iff_ne.mpr c25
               by_cases c27 : (bt a0 x4_2) = 13
               ·rw [if_pos c27] at H; have c27b0 := beq_iff_eq.mpr c27; have c27b1 := bne_eq_false_iff_eq.mpr c27; clear c27
                by_cases c28 : x3_2.size + 2 ≤ 9223372036854775807
                ·rw [if_pos c28] at H; have c28b0 := eq_true c28; have c28b1 := decide_eq_true c28
                 try have c28b2 : (9223372036854775807 < x3_2.size + 2) = False := eq_false (Nat.not_lt.2 c28)
                 have H' := Aside0.mk H
                 clear H
                 go_wp2
                 go_roundg kj10
                 case measure => have := HJ1.out; have := HK2.out; have := HJ10.out; omega
                 case rel => exact ⟨(x3_2 ++ (⟨#[92, 114]⟩ : ByteArray)), (wrap64 (x4_2 + 1)), enA, enA, H', ⟨by have := HJ1.out; have := HK2.out; have := HJ10.out; omega⟩, ⟨belB HB⟩⟩
                ·rw [if_neg c28] at H
                 exact absurd H (by simp)
               ·rw [if_neg c27] at H; have c27b0 := beq_eq_false_iff_ne.mpr c27; have c27b1 := bne_iff_ne.mpr c27
                by_cases c29 : (bt a0 x4_2) < 32
                ·rw [if_pos c29] at H; have c29b0 := decide_eq_true c29; clear c29
                 by_cases c30 : x3_2.size + 2 ≤ 9223372036854775807
                 ·rw [if_pos c30] at H; have c30b0 := eq_true c30; have c30b1 := decide_eq_true c30
                  try have c30b2 : (9223372036854775807 < x3_2.size + 2) = False := eq_false (Nat.not_lt.2 c30)
                  replace H := Option.bind_eq_some_iff.mp H; obtain ⟨t140, A310, H⟩ := H; replace H : (if (x3_2 ++ (⟨#[92, 117]⟩ : ByteArray)).size + t140.size ≤ 9223372036854775807 then (spec_Escaped.l0 kj10 a0 ((x3_2 ++ (⟨#[92, 117]⟩ : ByteArray)) ++ t140) (wrap64 (x4_2 + 1))) else (none)) = some r := H; have A31 := Aside0.mk A310; clear A310
                  by_cases c32 : (x3_2 ++ (⟨#[92, 117]⟩ : ByteArray)).size + t140.size ≤ 9223372036854775807
                  ·rw [if_pos c32] at H; have c32b0 := eq_true c32; have c32b1 := decide_eq_true c32
                   have c32n : x3_2.size + 2 + t140.size ≤ 9223372036854775807 := by have z_ := c32b1; simp only [decide_eq_true_eq, ByteArray.size_append] at z_; exact z_
                   have c32n0 := eq_true c32n; have c32n1 : decide (x3_2.size + 2 + t140.size ≤ 9223372036854775807) = true := decide_eq_true c32n; have c32n2 : (9223372036854775807 < x3_2.size + 2 + t140.size) = False := eq_false (Nat.not_lt.2 c32n)
                   try have c32b2 : (9223372036854775807 < (x3_2 ++ (⟨#[92, 117]⟩ : ByteArray)).size + t140.size) = False := eq_false (Nat.not_lt.2 c32)
                   have H' := Aside0.mk H
                   clear H
                   go_wp2_with (first | ((with_reducible refine gate_callee (f := 62) rfl ?_); refine goesL_ (some 81) rfl rfl Tryz.func62 (by kernel_rfl) rfl #[.int .i64 (wrap64 ((bt a0 x4_2)))] rfl mapA ?_; (with_reducible refine (spec_l04Hex4.calls (wrap64 ((bt a0 x4_2))) t140 _ A31.out).mono ?_); rintro e w33 ⟨rfl, hb⟩; refine ⟨_, rfl, ?_⟩; replace HB := Aside0.mk (below_step (belB HB) hb); (try clear hb)))
                   go_roundg kj10
                   case measure => have := HJ1.out; have := HK2.out; have := HJ10.out; omega
                   case rel => exact ⟨((x3_2 ++ (⟨#[92, 117]⟩ : ByteArray)) ++ t140), (wrap64 (x4_2 + 1)), enA, enA, H', ⟨by have := HJ1.out; have := HK2.out; have := HJ10.out; omega⟩, ⟨belB HB⟩⟩
                  ·rw [if_neg c32] at H
                   exact absurd H (by simp)
                 ·rw [if_neg c30] at H
                  exact absurd H (by simp)
                ·rw [if_neg c29] at H; have c29b0 := decide_eq_false c29; clear c29
                 by_cases c34 : (bt a0 x4_2) = 127
                 ·rw [if_pos c34] at H; have c34b0 := beq_iff_eq.mpr c34; have c34b1 := bne_eq_false_iff_eq.mpr c34; clear c34
                  by_cases c35 : x3_2.size + 2 ≤ 9223372036854775807
                  ·rw [if_pos c35] at H; have c35b0 := eq_true c35; have c35b1 := decide_eq_true c35
                   try have c35b2 : (9223372036854775807 < x3_2.size + 2) = False := eq_false (Nat.not_lt.2 c35)
                   replace H := Option.bind_eq_some_iff.mp H; obtain ⟨t141, A360, H⟩ := H; replace H : (if (x3_2 ++ (⟨#[92, 117]⟩ : ByteArray)).size + t141.size ≤ 9223372036854775807 then (spec_Escaped.l0 kj10 a0 ((x3_2 ++ (⟨#[92, 117]⟩ : ByteArray)) ++ t141) (wrap64 (x4_2 + 1))) else (none)) = some r := H; have A36 := Aside0.mk A360; clear A360
                   by_cases c37 : (x3_2 ++ (⟨#[92, 117]⟩ : ByteArray)).size + t141.size ≤ 9223372036854775807
                   ·rw [if_pos c37] at H; have c37b0 := eq_true c37; have c37b1 := decide_eq_true c37
                    have c37n : x3_2.size + 2 + t141.size ≤ 9223372036854775807 := by have z_ := c37b1; simp only [decide_eq_true_eq, ByteArray.size_append] at z_; exact z_
                    have c37n0 := eq_true c37n; have c37n1 : decide (x3_2.size + 2 + t141.size ≤ 9223372036854775807) = true := decide_eq_true c37n; have c37n2 : (9223372036854775807 < x3_2.size + 2 + t141.size) = False := eq_false (Nat.not_lt.2 c37n)
                    try have c37b2 : (9223372036854775807 < (x3_2 ++ (⟨#[92, 117]⟩ : ByteArray)).size + t141.size) = False := eq_false (Nat.not_lt.2 c37)
                    have H' := Aside0.mk H
                    clear H
                    go_wp2_with (first | ((with_reducible refine gate_callee (f := 62) rfl ?_); refine goesL_ (some 81) rfl rfl Tryz.func62 (by kernel_rfl) rfl #[.int .i64 (wrap64 ((bt a0 x4_2)))] rfl mapA ?_; (with_reducible refine (spec_l04Hex4.calls (wrap64 ((bt a0 x4_2))) t141 _ A36.out).mono ?_); rintro e w38 ⟨rfl, hb⟩; refine ⟨_, rfl, ?_⟩; replace HB := Aside0.mk (below_step (belB HB) hb); (try clear hb)))
                    go_roundg kj10
                    case measure => have := HJ1.out; have := HK2.out; have := HJ10.out; omega
                    case rel => exact ⟨((x3_2 ++ (⟨#[92, 117]⟩ : ByteArray)) ++ t141), (wrap64 (x4_2 + 1)), enA, enA, H', ⟨by have := HJ1.out; have := HK2.out; have := HJ10.out; omega⟩, ⟨belB HB⟩⟩
                   ·rw [if_neg c37] at H
                    exact absurd H (by simp)
                  ·rw [if_neg c35] at H
                   exact absurd H (by simp)
                 ·rw [if_neg c34] at H; have c34b0 := beq_eq_false_iff_ne.mpr c34; have c34b1 := bne_iff_ne.mpr c34
                  by_cases c39 : 0 ≤ x4_2
                  ·rw [if_pos c39] at H; have c39b0 := eq_true c39; have c39b1 := decide_eq_true c39; clear c39
                   by_cases c40 : x4_2 ≤ (wrap64 (x4_2 + 1))
                   ·rw [if_pos c40] at H; have c40b0 := eq_true c40; have c40b1 := decide_eq_true c40
                    by_cases c41 : (wrap64 (x4_2 + 1)) ≤ (a0.size : Int)
                    ·rw [if_pos c41] at H; have c41b0 := eq_true c41; have c41b1 := decide_eq_true c41
                     by_cases c42 : x3_2.size + (a0.extract (x4_2 : Int).toNat ((wrap64 (x4_2 + 1)) : Int).toNat).size ≤ 9223372036854775807
                     ·rw [if_pos c42] at H; have c42b0 := eq_true c42; have c42b1 := decide_eq_true c42
                      try have c42b2 : (9223372036854775807 < x3_2.size + (a0.extract (x4_2 : Int).toNat ((wrap64 (x4_2 + 1)) : Int).toNat).size) = False := eq_false (Nat.not_lt.2 c42)
                      have H' := Aside0.mk H
                      clear H
                      go_wp2
                      go_roundg kj10
                      case measure => have := HJ1.out; have := HK2.out; have := HJ10.out; omega
                      case rel => exact ⟨(x3_2 ++ (a0.extract (x4_2 : Int).toNat ((wrap64 (x4_2 + 1)) : Int).toNat)), (wrap64 (x4_2 + 1)), enA, enA, H', ⟨by have := HJ1.out; have := HK2.out; have := HJ10.out; omega⟩, ⟨belB HB⟩⟩
                     ·rw [if_neg c42] at H
                      exact absurd H (by simp)
                    ·rw [if_neg c41] at H
                     exact absurd H (by simp)
                   ·rw [if_neg c40] at H
                    exact absurd H (by simp)
                  ·rw [if_neg c39] at H
                   exact absurd H (by simp)
       ·rw [if_neg c9] at H
        exact absurd H (by simp)
      ·rw [if_neg c8] at H; have c8b0 := decide_eq_false c8; clear c8
       by_cases c43 : x3_2.size + 1 ≤ 9223372036854775807
       ·rw [if_pos c43] at H; have c43b0 := eq_true c43; have c43b1 := decide_eq_true c43
        try have c43b2 : (9223372036854775807 < x3_2.size + 1) = False := eq_false (Nat.not_lt.2 c43)
        obtain rfl := Option.some.inj H
        go_wp2
        go_ret
        exact ⟨erA, belB HB⟩
       ·rw [if_neg c43] at H
        exact absurd H (by simp)

end Go.Proofs.YtjhagdjjlgjlbaaGreatDoor.OFnExactDirsText
-- narrow
