/- The machine side of one law, written by a program of this session out of Lean's print of the translation: for each Go function that is reached a plain Lean function and the proof that the call comes to just its answer; each under the condition that the plain function answers 'some'. -/
import Derived.Test.YtnlhpjapdklfgaaDoorOFnNumbersx0
import Derived.Test.YtnlhpjapdklfgaaDoorOFnNumbersx1
import Derived.Test.YtnlhpjapdklfgaaDoorOFnNumbersx2
import Derived.Test.YtnlhpjapdklfgaaDoorOFnNumbersx3
namespace Go.Proofs.YtnlhpjapdklfgaaDoor.OFnNumbers
open Go.Proofs.YtnlhpjapdklfgaaDoor.GlE
open Go.RowKit Go.Proofs.YtnlhpjapdklfgaaDoorW.PrintWords Go.Proofs.YtnlhpjapdklfgaaDoorW.PrintLast Go.Proofs.YtnlhpjapdklfgaaDoorW.PrintMore
attribute [local go_sem] max2_int min2_int max_two min_two max_three min_three max_four min_four   -- for this text's walks alone
set_option linter.unusedVariables false
set_option linter.unusedSimpArgs false

/-! ### laws_FnNumbers: function 8 -/
def laws_FnNumbers.f (k : Nat) (l0 : List Int) : Option (Bool) := (laws_big.f l0).bind fun t187 => (if t187 = true then (some true) else ((spec_DrawPlaces.f k l0).bind fun t188 => (if 0 < (t188.length : Int) then ((spec_Decimal.f k (wrap64 ((rd t188 0) - 5000))).bind fun t192 => ((spec_DrawName.f k l0).bind fun t193 => ((impl_IntOk.f k t192).bind fun t194 => (if t194 = true then ((impl_FloatOk.f k t192).bind fun t195 => (if t195 = true then (some false) else ((impl_Fits32.f k t192).bind fun t196 => (if t196 = true then (if t192.size + 2 ≤ 9223372036854775807 then ((impl_FloatOk.f k (t192 ++ (⟨#[46, 53]⟩ : ByteArray))).bind fun t197 => (if t197 = true then (if t192.size + 1 ≤ 9223372036854775807 then (if 1 < (t188.length : Int) then ((spec_Decimal.f k (rd t188 1)).bind fun t199 => (if (t192 ++ (⟨#[101]⟩ : ByteArray)).size + t199.size ≤ 9223372036854775807 then ((impl_FloatOk.f k ((t192 ++ (⟨#[101]⟩ : ByteArray)) ++ t199)).bind fun t200 => (if t200 = true then (if t192.size + 4 ≤ 9223372036854775807 then (if 2 < (t188.length : Int) then ((spec_Decimal.f k (rd t188 2)).bind fun t202 => (if (t192 ++ (⟨#[46, 48, 69, 45]⟩ : ByteArray)).size + t202.size ≤ 9223372036854775807 then ((impl_FloatOk.f k ((t192 ++ (⟨#[46, 48, 69, 45]⟩ : ByteArray)) ++ t202)).bind fun t203 => (if t203 = true then ((impl_IntOk.f k (t192 ++ (⟨#[46]⟩ : ByteArray))).bind fun t204 => (if t204 = true then (some false) else ((impl_FloatOk.f k (t192 ++ (⟨#[46]⟩ : ByteArray))).bind fun t205 => (if t205 = true then (some false) else ((impl_FloatOk.f k (t192 ++ (⟨#[101]⟩ : ByteArray))).bind fun t206 => (if t206 = true then (some false) else ((impl_NameOk.f k t193).bind fun t207 => (if t207 = true then ((impl_IntOk.f k t193).bind fun t208 => (if t208 = true then (some false) else (if 1 + t193.size ≤ 9223372036854775807 then ((impl_NameOk.f k ((⟨#[49]⟩ : ByteArray) ++ t193)).bind fun t209 => (if t209 = true then (some false) else (if t193.size + 1 ≤ 9223372036854775807 then ((impl_NameOk.f k (t193 ++ (⟨#[45]⟩ : ByteArray))).bind fun t210 => (if t210 = true then (some false) else ((spec_Decimal.f k (wrap64 (100000 + (rd t188 0)))).bind fun t212 => (if 5 + t212.size ≤ 9223372036854775807 then ((impl_Fits32.f k ((⟨#[57, 57, 57, 57, 57]⟩ : ByteArray) ++ t212)).bind fun t213 => (some (!t213))) else (none))))) else (none)))) else (none)))) else (some false))))))))) else (some false))) else (none))) else (none)) else (none)) else (some false))) else (none))) else (none)) else (none)) else (some false))) else (none)) else (some false))))) else (some false))))) else (none))))
theorem laws_FnNumbers.mono : ∀ a0 k, LeO (laws_FnNumbers.f k a0) (laws_FnNumbers.f (k + 1) a0) := by
  intro a0 k
  unfold laws_FnNumbers.f
  repeat' first
      | (with_reducible exact impl_Fits32.mono _ _)
      | (with_reducible exact impl_FloatOk.mono _ _)
      | (with_reducible exact impl_IntOk.mono _ _)
      | (with_reducible exact impl_NameOk.mono _ _)
      | (with_reducible exact spec_Decimal.mono _ _)
      | (with_reducible exact spec_DrawName.mono _ _)
      | (with_reducible exact spec_DrawPlaces.mono _ _)
      | (with_reducible exact LeO.refl _)
      | (with_reducible exact LeO.none _)
      | (with_reducible refine LeO.ite ?_ ?_)
      | (with_reducible refine LeO.bind ?_ (fun _ => ?_))
      | exact impl_Fits32.mono _ _
      | exact impl_FloatOk.mono _ _
      | exact impl_IntOk.mono _ _
      | exact impl_NameOk.mono _ _
      | exact spec_Decimal.mono _ _
      | exact spec_DrawName.mono _ _
      | exact spec_DrawPlaces.mono _ _
      | exact LeO.none _
      | refine LeO.ite ?_ ?_
      | refine LeO.bind ?_ (fun _ => ?_)
end Go.Proofs.YtnlhpjapdklfgaaDoor.OFnNumbers
