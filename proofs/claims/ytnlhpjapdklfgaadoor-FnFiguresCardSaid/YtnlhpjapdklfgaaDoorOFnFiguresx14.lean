/- The machine side of one law, written by a program of this session out of Lean's print of the translation: for each Go function that is reached a plain Lean function and the proof that the call comes to just its answer; each under the condition that the plain function answers 'some'. -/
import Derived.Test.YtnlhpjapdklfgaaDoorOFnFiguresx0
import Derived.Test.YtnlhpjapdklfgaaDoorOFnFiguresx1
import Derived.Test.YtnlhpjapdklfgaaDoorOFnFiguresx2
import Derived.Test.YtnlhpjapdklfgaaDoorOFnFiguresx3
import Derived.Test.YtnlhpjapdklfgaaDoorOFnFiguresx4
import Derived.Test.YtnlhpjapdklfgaaDoorOFnFiguresx5
import Derived.Test.YtnlhpjapdklfgaaDoorOFnFiguresx6
import Derived.Test.YtnlhpjapdklfgaaDoorOFnFiguresx7
import Derived.Test.YtnlhpjapdklfgaaDoorOFnFiguresx8
import Derived.Test.YtnlhpjapdklfgaaDoorOFnFiguresx9
import Derived.Test.YtnlhpjapdklfgaaDoorOFnFiguresx10
import Derived.Test.YtnlhpjapdklfgaaDoorOFnFiguresx11
import Derived.Test.YtnlhpjapdklfgaaDoorOFnFiguresx12
import Derived.Test.YtnlhpjapdklfgaaDoorOFnFiguresx13
namespace Go.Proofs.YtnlhpjapdklfgaaDoor.OFnFigures
open Go.Proofs.YtnlhpjapdklfgaaDoor.GlE
open Go.RowKit Go.Proofs.YtnlhpjapdklfgaaDoorW.PrintWords Go.Proofs.YtnlhpjapdklfgaaDoorW.PrintLast Go.Proofs.YtnlhpjapdklfgaaDoorW.PrintMore
attribute [local go_sem] max2_int min2_int max_two min_two max_three min_three max_four min_four   -- for this text's walks alone
set_option linter.unusedVariables false
set_option linter.unusedSimpArgs false

set_option maxHeartbeats 8000000 in
set_option maxRecDepth 100000 in
theorem laws_FnFigures.calls (k : Nat) (A0 : Option Addr) (c0 : Nat) (l0 : List Int) (r : Bool) (w : World) (hr0 : Kd.C (Kd.int .u8) w A0 l0.length l0) (hc0 : l0.length ≤ c0) (hG : Gl w) (h : laws_FnFigures.f k l0 = some r) :
    Calls Tryd.prog 7 #[.slice A0 l0.length c0] w fun e w' => e = .returned (.bool r) ∧ Below w.heap.size w w' := by
  have H : ((laws_big.f l0).bind fun t154 => (if t154 = true then (some true) else ((spec_DrawPlaces.f k l0).bind fun t155 => (if 5 < (t155.length : Int) then ((impl_Decimal.f (rd t155 5)).bind fun t159 => (if 6 < (t155.length : Int) then (if 7 < (t155.length : Int) then ((some (([(rd t155 6) % 256, (rd t155 7) % 256] : List Int) : List Int)).bind fun y162 => (if t159.size + (strOfNums y162).size ≤ 9223372036854775807 then ((impl_Hex.f k (t159 ++ (strOfNums y162))).bind fun bt165 => ((impl_Unhex.f k bt165.1).bind fun bt167 => (if 0 < (t155.length : Int) then (if 1 < (t155.length : Int) then ((impl_Decimal.f (wrap64 ((wrap64 ((rd t155 0) * 10000)) + (rd t155 1)))).bind fun t171 => ((impl_ReadDecimal.f t171).bind fun bt172 => (if 2 < (t155.length : Int) then (if 3 < (t155.length : Int) then (if 4 < (t155.length : Int) then ((impl_Brought.f (wrap64 ((rd t155 2) - 5000)) (wrap64 (-(rd t155 3))) (rd t155 4)).bind fun t177 => (if bt165.2 = true then (if bt167.2 = true then (if bt167.1.toList = (t159 ++ (strOfNums y162)).toList then (if (bt165.1.size : Int) = (wrap64 (2 * ((t159 ++ (strOfNums y162)).size : Int))) then (if bt172.2 = true then (if bt172.1 = (wrap64 ((wrap64 ((rd t155 0) * 10000)) + (rd t155 1))) then (if t177 ≥ (wrap64 (-(rd t155 3))) then (if t177 ≤ (rd t155 4) then ((impl_Brought.f t177 (wrap64 (-(rd t155 3))) (rd t155 4)).bind fun t182 => (some (t182 == t177))) else (some false)) else (some false)) else (some false)) else (some false)) else (some false)) else (some false)) else (some false)) else (some false))) else (none)) else (none)) else (none)))) else (none)) else (none)))) else (none))) else (none)) else (none))) else (none))))) = some r := h
  clear h
  replace H := Option.bind_eq_some_iff.mp H
  obtain ⟨t154, A20, H⟩ := H
  first | (replace H : (if t154 = true then (some true) else ((spec_DrawPlaces.f k l0).bind fun t155 => (if 5 < (t155.length : Int) then ((impl_Decimal.f (rd t155 5)).bind fun t159 => (if 6 < (t155.length : Int) then (if 7 < (t155.length : Int) then ((some (([(rd t155 6) % 256, (rd t155 7) % 256] : List Int) : List Int)).bind fun y162 => (if t159.size + (strOfNums y162).size ≤ 9223372036854775807 then ((impl_Hex.f k (t159 ++ (strOfNums y162))).bind fun bt165 => ((impl_Unhex.f k bt165.1).bind fun bt167 => (if 0 < (t155.length : Int) then (if 1 < (t155.length : Int) then ((impl_Decimal.f (wrap64 ((wrap64 ((rd t155 0) * 10000)) + (rd t155 1)))).bind fun t171 => ((impl_ReadDecimal.f t171).bind fun bt172 => (if 2 < (t155.length : Int) then (if 3 < (t155.length : Int) then (if 4 < (t155.length : Int) then ((impl_Brought.f (wrap64 ((rd t155 2) - 5000)) (wrap64 (-(rd t155 3))) (rd t155 4)).bind fun t177 => (if bt165.2 = true then (if bt167.2 = true then (if bt167.1.toList = (t159 ++ (strOfNums y162)).toList then (if (bt165.1.size : Int) = (wrap64 (2 * ((t159 ++ (strOfNums y162)).size : Int))) then (if bt172.2 = true then (if bt172.1 = (wrap64 ((wrap64 ((rd t155 0) * 10000)) + (rd t155 1))) then (if t177 ≥ (wrap64 (-(rd t155 3))) then (if t177 ≤ (rd t155 4) then ((impl_Brought.f t177 (wrap64 (-(rd t155 3))) (rd t155 4)).bind fun t182 => (some (t182 == t177))) else (some false)) else (some false)) else (some false)) else (some false)) else (some false)) else (some false)) else (some false)) else (some false))) else (none)) else (none)) else (none)))) else (none)) else (none)))) else (none))) else (none)) else (none))) else (none)))) = some r := H) | (try dsimp only at H)
  by_cases c3 : t154 = true
  · rw [if_pos c3] at H
    exact laws_FnFigures.exit0 k A0 c0 l0 r w hr0 hc0 hG t154 A20 c3 H
  · rw [if_neg c3] at H
    replace H := Option.bind_eq_some_iff.mp H
    obtain ⟨t155, A40, H⟩ := H
    first | (replace H : (if 5 < (t155.length : Int) then ((impl_Decimal.f (rd t155 5)).bind fun t159 => (if 6 < (t155.length : Int) then (if 7 < (t155.length : Int) then ((some (([(rd t155 6) % 256, (rd t155 7) % 256] : List Int) : List Int)).bind fun y162 => (if t159.size + (strOfNums y162).size ≤ 9223372036854775807 then ((impl_Hex.f k (t159 ++ (strOfNums y162))).bind fun bt165 => ((impl_Unhex.f k bt165.1).bind fun bt167 => (if 0 < (t155.length : Int) then (if 1 < (t155.length : Int) then ((impl_Decimal.f (wrap64 ((wrap64 ((rd t155 0) * 10000)) + (rd t155 1)))).bind fun t171 => ((impl_ReadDecimal.f t171).bind fun bt172 => (if 2 < (t155.length : Int) then (if 3 < (t155.length : Int) then (if 4 < (t155.length : Int) then ((impl_Brought.f (wrap64 ((rd t155 2) - 5000)) (wrap64 (-(rd t155 3))) (rd t155 4)).bind fun t177 => (if bt165.2 = true then (if bt167.2 = true then (if bt167.1.toList = (t159 ++ (strOfNums y162)).toList then (if (bt165.1.size : Int) = (wrap64 (2 * ((t159 ++ (strOfNums y162)).size : Int))) then (if bt172.2 = true then (if bt172.1 = (wrap64 ((wrap64 ((rd t155 0) * 10000)) + (rd t155 1))) then (if t177 ≥ (wrap64 (-(rd t155 3))) then (if t177 ≤ (rd t155 4) then ((impl_Brought.f t177 (wrap64 (-(rd t155 3))) (rd t155 4)).bind fun t182 => (some (t182 == t177))) else (some false)) else (some false)) else (some false)) else (some false)) else (some false)) else (some false)) else (some false)) else (some false))) else (none)) else (none)) else (none)))) else (none)) else (none)))) else (none))) else (none)) else (none))) else (none)) = some r := H) | (try dsimp only at H)
    by_cases c5 : 5 < (t155.length : Int)
    · rw [if_pos c5] at H
      replace H := Option.bind_eq_some_iff.mp H
      obtain ⟨t159, A60, H⟩ := H
      first | (replace H : (if 6 < (t155.length : Int) then (if 7 < (t155.length : Int) then ((some (([(rd t155 6) % 256, (rd t155 7) % 256] : List Int) : List Int)).bind fun y162 => (if t159.size + (strOfNums y162).size ≤ 9223372036854775807 then ((impl_Hex.f k (t159 ++ (strOfNums y162))).bind fun bt165 => ((impl_Unhex.f k bt165.1).bind fun bt167 => (if 0 < (t155.length : Int) then (if 1 < (t155.length : Int) then ((impl_Decimal.f (wrap64 ((wrap64 ((rd t155 0) * 10000)) + (rd t155 1)))).bind fun t171 => ((impl_ReadDecimal.f t171).bind fun bt172 => (if 2 < (t155.length : Int) then (if 3 < (t155.length : Int) then (if 4 < (t155.length : Int) then ((impl_Brought.f (wrap64 ((rd t155 2) - 5000)) (wrap64 (-(rd t155 3))) (rd t155 4)).bind fun t177 => (if bt165.2 = true then (if bt167.2 = true then (if bt167.1.toList = (t159 ++ (strOfNums y162)).toList then (if (bt165.1.size : Int) = (wrap64 (2 * ((t159 ++ (strOfNums y162)).size : Int))) then (if bt172.2 = true then (if bt172.1 = (wrap64 ((wrap64 ((rd t155 0) * 10000)) + (rd t155 1))) then (if t177 ≥ (wrap64 (-(rd t155 3))) then (if t177 ≤ (rd t155 4) then ((impl_Brought.f t177 (wrap64 (-(rd t155 3))) (rd t155 4)).bind fun t182 => (some (t182 == t177))) else (some false)) else (some false)) else (some false)) else (some false)) else (some false)) else (some false)) else (some false)) else (some false))) else (none)) else (none)) else (none)))) else (none)) else (none)))) else (none))) else (none)) else (none)) = some r := H) | (try dsimp only at H)
      by_cases c7 : 6 < (t155.length : Int)
      · rw [if_pos c7] at H
        by_cases c8 : 7 < (t155.length : Int)
        · rw [if_pos c8] at H
          obtain ⟨y162, hy0_, H⟩ := Option.bind_eq_some_iff.mp H
          have hy162 := (Option.some.inj hy0_).symm
          clear hy0_
          replace H : (if t159.size + (strOfNums y162).size ≤ 9223372036854775807 then ((impl_Hex.f k (t159 ++ (strOfNums y162))).bind fun bt165 => ((impl_Unhex.f k bt165.1).bind fun bt167 => (if 0 < (t155.length : Int) then (if 1 < (t155.length : Int) then ((impl_Decimal.f (wrap64 ((wrap64 ((rd t155 0) * 10000)) + (rd t155 1)))).bind fun t171 => ((impl_ReadDecimal.f t171).bind fun bt172 => (if 2 < (t155.length : Int) then (if 3 < (t155.length : Int) then (if 4 < (t155.length : Int) then ((impl_Brought.f (wrap64 ((rd t155 2) - 5000)) (wrap64 (-(rd t155 3))) (rd t155 4)).bind fun t177 => (if bt165.2 = true then (if bt167.2 = true then (if bt167.1.toList = (t159 ++ (strOfNums y162)).toList then (if (bt165.1.size : Int) = (wrap64 (2 * ((t159 ++ (strOfNums y162)).size : Int))) then (if bt172.2 = true then (if bt172.1 = (wrap64 ((wrap64 ((rd t155 0) * 10000)) + (rd t155 1))) then (if t177 ≥ (wrap64 (-(rd t155 3))) then (if t177 ≤ (rd t155 4) then ((impl_Brought.f t177 (wrap64 (-(rd t155 3))) (rd t155 4)).bind fun t182 => (some (t182 == t177))) else (some false)) else (some false)) else (some false)) else (some false)) else (some false)) else (some false)) else (some false)) else (some false))) else (none)) else (none)) else (none)))) else (none)) else (none)))) else (none)) = some r := by first | (rw [hy162]; with_reducible exact H) | (have H2_ := (Option.bind_some _ _).symm.trans H; rw [hy162]; with_reducible exact H2_) | (have H2_ := (Option.bind_some _ _).symm.trans H; with_reducible exact H2_) | with_reducible exact H | (rw [hy162]; exact H) | exact H
          by_cases c9 : t159.size + (strOfNums y162).size ≤ 9223372036854775807
          · rw [if_pos c9] at H
            replace H := Option.bind_eq_some_iff.mp H
            obtain ⟨⟨t165, t166⟩, A100, H⟩ := H
            first | (replace H : ((impl_Unhex.f k t165).bind fun bt167 => (if 0 < (t155.length : Int) then (if 1 < (t155.length : Int) then ((impl_Decimal.f (wrap64 ((wrap64 ((rd t155 0) * 10000)) + (rd t155 1)))).bind fun t171 => ((impl_ReadDecimal.f t171).bind fun bt172 => (if 2 < (t155.length : Int) then (if 3 < (t155.length : Int) then (if 4 < (t155.length : Int) then ((impl_Brought.f (wrap64 ((rd t155 2) - 5000)) (wrap64 (-(rd t155 3))) (rd t155 4)).bind fun t177 => (if t166 = true then (if bt167.2 = true then (if bt167.1.toList = (t159 ++ (strOfNums y162)).toList then (if (t165.size : Int) = (wrap64 (2 * ((t159 ++ (strOfNums y162)).size : Int))) then (if bt172.2 = true then (if bt172.1 = (wrap64 ((wrap64 ((rd t155 0) * 10000)) + (rd t155 1))) then (if t177 ≥ (wrap64 (-(rd t155 3))) then (if t177 ≤ (rd t155 4) then ((impl_Brought.f t177 (wrap64 (-(rd t155 3))) (rd t155 4)).bind fun t182 => (some (t182 == t177))) else (some false)) else (some false)) else (some false)) else (some false)) else (some false)) else (some false)) else (some false)) else (some false))) else (none)) else (none)) else (none)))) else (none)) else (none))) = some r := H) | (try dsimp only at H)
            replace H := Option.bind_eq_some_iff.mp H
            obtain ⟨⟨t167, t168⟩, A110, H⟩ := H
            first | (replace H : (if 0 < (t155.length : Int) then (if 1 < (t155.length : Int) then ((impl_Decimal.f (wrap64 ((wrap64 ((rd t155 0) * 10000)) + (rd t155 1)))).bind fun t171 => ((impl_ReadDecimal.f t171).bind fun bt172 => (if 2 < (t155.length : Int) then (if 3 < (t155.length : Int) then (if 4 < (t155.length : Int) then ((impl_Brought.f (wrap64 ((rd t155 2) - 5000)) (wrap64 (-(rd t155 3))) (rd t155 4)).bind fun t177 => (if t166 = true then (if t168 = true then (if t167.toList = (t159 ++ (strOfNums y162)).toList then (if (t165.size : Int) = (wrap64 (2 * ((t159 ++ (strOfNums y162)).size : Int))) then (if bt172.2 = true then (if bt172.1 = (wrap64 ((wrap64 ((rd t155 0) * 10000)) + (rd t155 1))) then (if t177 ≥ (wrap64 (-(rd t155 3))) then (if t177 ≤ (rd t155 4) then ((impl_Brought.f t177 (wrap64 (-(rd t155 3))) (rd t155 4)).bind fun t182 => (some (t182 == t177))) else (some false)) else (some false)) else (some false)) else (some false)) else (some false)) else (some false)) else (some false)) else (some false))) else (none)) else (none)) else (none)))) else (none)) else (none)) = some r := H) | (try dsimp only at H)
            by_cases c12 : 0 < (t155.length : Int)
            · rw [if_pos c12] at H
              by_cases c13 : 1 < (t155.length : Int)
              · rw [if_pos c13] at H
                replace H := Option.bind_eq_some_iff.mp H
                obtain ⟨t171, A140, H⟩ := H
                first | (replace H : ((impl_ReadDecimal.f t171).bind fun bt172 => (if 2 < (t155.length : Int) then (if 3 < (t155.length : Int) then (if 4 < (t155.length : Int) then ((impl_Brought.f (wrap64 ((rd t155 2) - 5000)) (wrap64 (-(rd t155 3))) (rd t155 4)).bind fun t177 => (if t166 = true then (if t168 = true then (if t167.toList = (t159 ++ (strOfNums y162)).toList then (if (t165.size : Int) = (wrap64 (2 * ((t159 ++ (strOfNums y162)).size : Int))) then (if bt172.2 = true then (if bt172.1 = (wrap64 ((wrap64 ((rd t155 0) * 10000)) + (rd t155 1))) then (if t177 ≥ (wrap64 (-(rd t155 3))) then (if t177 ≤ (rd t155 4) then ((impl_Brought.f t177 (wrap64 (-(rd t155 3))) (rd t155 4)).bind fun t182 => (some (t182 == t177))) else (some false)) else (some false)) else (some false)) else (some false)) else (some false)) else (some false)) else (some false)) else (some false))) else (none)) else (none)) else (none))) = some r := H) | (try dsimp only at H)
                replace H := Option.bind_eq_some_iff.mp H
                obtain ⟨⟨t172, t173⟩, A150, H⟩ := H
                first | (replace H : (if 2 < (t155.length : Int) then (if 3 < (t155.length : Int) then (if 4 < (t155.length : Int) then ((impl_Brought.f (wrap64 ((rd t155 2) - 5000)) (wrap64 (-(rd t155 3))) (rd t155 4)).bind fun t177 => (if t166 = true then (if t168 = true then (if t167.toList = (t159 ++ (strOfNums y162)).toList then (if (t165.size : Int) = (wrap64 (2 * ((t159 ++ (strOfNums y162)).size : Int))) then (if t173 = true then (if t172 = (wrap64 ((wrap64 ((rd t155 0) * 10000)) + (rd t155 1))) then (if t177 ≥ (wrap64 (-(rd t155 3))) then (if t177 ≤ (rd t155 4) then ((impl_Brought.f t177 (wrap64 (-(rd t155 3))) (rd t155 4)).bind fun t182 => (some (t182 == t177))) else (some false)) else (some false)) else (some false)) else (some false)) else (some false)) else (some false)) else (some false)) else (some false))) else (none)) else (none)) else (none)) = some r := H) | (try dsimp only at H)
                by_cases c16 : 2 < (t155.length : Int)
                · rw [if_pos c16] at H
                  by_cases c17 : 3 < (t155.length : Int)
                  · rw [if_pos c17] at H
                    by_cases c18 : 4 < (t155.length : Int)
                    · rw [if_pos c18] at H
                      replace H := Option.bind_eq_some_iff.mp H
                      obtain ⟨t177, A190, H⟩ := H
                      first | (replace H : (if t166 = true then (if t168 = true then (if t167.toList = (t159 ++ (strOfNums y162)).toList then (if (t165.size : Int) = (wrap64 (2 * ((t159 ++ (strOfNums y162)).size : Int))) then (if t173 = true then (if t172 = (wrap64 ((wrap64 ((rd t155 0) * 10000)) + (rd t155 1))) then (if t177 ≥ (wrap64 (-(rd t155 3))) then (if t177 ≤ (rd t155 4) then ((impl_Brought.f t177 (wrap64 (-(rd t155 3))) (rd t155 4)).bind fun t182 => (some (t182 == t177))) else (some false)) else (some false)) else (some false)) else (some false)) else (some false)) else (some false)) else (some false)) else (some false)) = some r := H) | (try dsimp only at H)
                      by_cases c20 : t166 = true
                      · rw [if_pos c20] at H
                        by_cases c21 : t168 = true
                        · rw [if_pos c21] at H
                          by_cases c22 : t167.toList = (t159 ++ (strOfNums y162)).toList
                          · rw [if_pos c22] at H
                            by_cases c23 : (t165.size : Int) = (wrap64 (2 * ((t159 ++ (strOfNums y162)).size : Int)))
                            · rw [if_pos c23] at H
                              by_cases c24 : t173 = true
                              · rw [if_pos c24] at H
                                by_cases c25 : t172 = (wrap64 ((wrap64 ((rd t155 0) * 10000)) + (rd t155 1)))
                                · rw [if_pos c25] at H
                                  by_cases c26 : t177 ≥ (wrap64 (-(rd t155 3)))
                                  · rw [if_pos c26] at H
                                    by_cases c27 : t177 ≤ (rd t155 4)
                                    · rw [if_pos c27] at H
                                      replace H := Option.bind_eq_some_iff.mp H
                                      obtain ⟨t182, A280, H⟩ := H
                                      first | (replace H : (some (t182 == t177)) = some r := H) | (try dsimp only at H)
                                      exact laws_FnFigures.exit1 k A0 c0 l0 r w hr0 hc0 hG t154 A20 c3 t155 A40 c5 t159 A60 c7 c8 y162 hy162 c9 t165 t166 A100 t167 t168 A110 c12 c13 t171 A140 t172 t173 A150 c16 c17 c18 t177 A190 c20 c21 c22 c23 c24 c25 c26 c27 t182 A280 H
                                    · rw [if_neg c27] at H
                                      exact laws_FnFigures.exit2 k A0 c0 l0 r w hr0 hc0 hG t154 A20 c3 t155 A40 c5 t159 A60 c7 c8 y162 hy162 c9 t165 t166 A100 t167 t168 A110 c12 c13 t171 A140 t172 t173 A150 c16 c17 c18 t177 A190 c20 c21 c22 c23 c24 c25 c26 c27 H
                                  · rw [if_neg c26] at H
                                    exact laws_FnFigures.exit3 k A0 c0 l0 r w hr0 hc0 hG t154 A20 c3 t155 A40 c5 t159 A60 c7 c8 y162 hy162 c9 t165 t166 A100 t167 t168 A110 c12 c13 t171 A140 t172 t173 A150 c16 c17 c18 t177 A190 c20 c21 c22 c23 c24 c25 c26 H
                                · rw [if_neg c25] at H
                                  exact laws_FnFigures.exit4 k A0 c0 l0 r w hr0 hc0 hG t154 A20 c3 t155 A40 c5 t159 A60 c7 c8 y162 hy162 c9 t165 t166 A100 t167 t168 A110 c12 c13 t171 A140 t172 t173 A150 c16 c17 c18 t177 A190 c20 c21 c22 c23 c24 c25 H
                              · rw [if_neg c24] at H
                                exact laws_FnFigures.exit5 k A0 c0 l0 r w hr0 hc0 hG t154 A20 c3 t155 A40 c5 t159 A60 c7 c8 y162 hy162 c9 t165 t166 A100 t167 t168 A110 c12 c13 t171 A140 t172 t173 A150 c16 c17 c18 t177 A190 c20 c21 c22 c23 c24 H
                            · rw [if_neg c23] at H
                              exact laws_FnFigures.exit6 k A0 c0 l0 r w hr0 hc0 hG t154 A20 c3 t155 A40 c5 t159 A60 c7 c8 y162 hy162 c9 t165 t166 A100 t167 t168 A110 c12 c13 t171 A140 t172 t173 A150 c16 c17 c18 t177 A190 c20 c21 c22 c23 H
                          · rw [if_neg c22] at H
                            exact laws_FnFigures.exit7 k A0 c0 l0 r w hr0 hc0 hG t154 A20 c3 t155 A40 c5 t159 A60 c7 c8 y162 hy162 c9 t165 t166 A100 t167 t168 A110 c12 c13 t171 A140 t172 t173 A150 c16 c17 c18 t177 A190 c20 c21 c22 H
                        · rw [if_neg c21] at H
                          exact laws_FnFigures.exit8 k A0 c0 l0 r w hr0 hc0 hG t154 A20 c3 t155 A40 c5 t159 A60 c7 c8 y162 hy162 c9 t165 t166 A100 t167 t168 A110 c12 c13 t171 A140 t172 t173 A150 c16 c17 c18 t177 A190 c20 c21 H
                      · rw [if_neg c20] at H
                        exact laws_FnFigures.exit9 k A0 c0 l0 r w hr0 hc0 hG t154 A20 c3 t155 A40 c5 t159 A60 c7 c8 y162 hy162 c9 t165 t166 A100 t167 t168 A110 c12 c13 t171 A140 t172 t173 A150 c16 c17 c18 t177 A190 c20 H
                    · rw [if_neg c18] at H
                      exact absurd H (by simp)
                  · rw [if_neg c17] at H
                    exact absurd H (by simp)
                · rw [if_neg c16] at H
                  exact absurd H (by simp)
              · rw [if_neg c13] at H
                exact absurd H (by simp)
            · rw [if_neg c12] at H
              exact absurd H (by simp)
          · rw [if_neg c9] at H
            exact absurd H (by simp)
        · rw [if_neg c8] at H
          exact absurd H (by simp)
      · rw [if_neg c7] at H
        exact absurd H (by simp)
    · rw [if_neg c5] at H
      exact absurd H (by simp)
def laws_FnFigures.Pure : Prop := ∀ (l0 : List Int), l0.length ≤ maxLen → l0.length * 1 ≤ 140737488351232 → (∀ x ∈ l0, (Lit.int .u8 x).wf = true) → ∃ k, laws_FnFigures.f k l0 = some true
theorem laws_FnFigures.walk (P : laws_FnFigures.Pure) (a0 : Option Addr) (len0 cap0 : Nat) (z0 : List Int) (w : World) (hG : Gl w) (w0 : (a0 = none ∧ len0 = 0 ∧ cap0 = 0 ∧ z0 = []) ∨ ∃ x, a0 = some x ∧ len0 ≤ cap0 ∧ cap0 ≤ maxLen ∧ z0.length = cap0 ∧ (∀ i, i < z0.length → w.cell? (x.add i) = some (.int .u8 (z0.getD i 0))) ∧ ∀ n ∈ z0, (Lit.int .u8 n).wf = true) (y0 : len0 * 1 ≤ 140737488351232) :
    Calls Tryd.prog 7 #[.slice a0 len0 cap0] w fun e w' => e = .returned (.bool true) ∧ Below w.heap.size w w' := by
  obtain ⟨l0, rfl, hr0, hm0, hw0, hc0⟩ := ReadsInt.ofRowC w0
  obtain ⟨k, h⟩ := P l0 hm0 y0 hw0
  refine (laws_FnFigures.calls k _ _ l0 true w (Kd.C_of_reads (d := (0 : Int)) (h1 := fun _ => rfl) hr0) hc0 hG h).mono ?_
  rintro e w' ⟨rfl, hd⟩
  exact ⟨rfl, hd⟩

end Go.Proofs.YtnlhpjapdklfgaaDoor.OFnFigures
