/- The machine side of one law, written by a program of this session out of Lean's print of the translation: for each Go function that is reached a plain Lean function and the proof that the call comes to just its answer; each under the condition that the plain function answers 'some'. -/
import Derived.Test.YtkcomfmdcmjagaaOFnExactSameValuex0
import Derived.Test.YtkcomfmdcmjagaaOFnExactSameValuex1
import Derived.Test.YtkcomfmdcmjagaaOFnExactSameValuex2
import Derived.Test.YtkcomfmdcmjagaaOFnExactSameValuex3
import Derived.Test.YtkcomfmdcmjagaaOFnExactSameValuex4
import Derived.Test.YtkcomfmdcmjagaaOFnExactSameValuex5
import Derived.Test.YtkcomfmdcmjagaaOFnExactSameValuex6
import Derived.Test.YtkcomfmdcmjagaaOFnExactSameValuex7
import Derived.Test.YtkcomfmdcmjagaaOFnExactSameValuex8
import Derived.Test.YtkcomfmdcmjagaaOFnExactSameValuex9
import Derived.Test.YtkcomfmdcmjagaaOFnExactSameValuex10
import Derived.Test.YtkcomfmdcmjagaaOFnExactSameValuex11
namespace Go.Proofs.Ytkcomfmdcmjagaa.OFnExactSameValue
open Go.Proofs.Ytkcomfmdcmjagaa.Ix
open Go.RowKit Go.Proofs.YtkcomfmdcmjagaaW.PrintWords Go.Proofs.YtkcomfmdcmjagaaW.PrintLast Go.Proofs.YtkcomfmdcmjagaaW.PrintMore
attribute [local go_sem] max2_int min2_int max_two min_two max_three min_three max_four min_four   -- for this text's walks alone
set_option linter.unusedVariables false
set_option linter.unusedSimpArgs false

set_option maxHeartbeats 8000000 in
set_option maxRecDepth 100000 in
theorem laws_FnExactSameValue.calls (k : Nat) (a0_0 : Int) (a0_1 : ByteArray) (A0_2 : Option Addr) (c0_2 : Nat) (l0_2 : List (S25)) (A0_3 : Option Addr) (c0_3 : Nat) (l0_3 : List ByteArray) (a1_0 : Int) (a1_1 : ByteArray) (A1_2 : Option Addr) (c1_2 : Nat) (l1_2 : List (S25)) (A1_3 : Option Addr) (c1_3 : Nat) (l1_3 : List ByteArray) (r : Bool) (w : World) (hr0_2 : Kd.C k25 w A0_2 l0_2.length l0_2) (hc0_2 : l0_2.length ≤ c0_2) (hr0_3 : Kd.C Kd.string w A0_3 l0_3.length l0_3) (hc0_3 : l0_3.length ≤ c0_3) (hr1_2 : Kd.C k25 w A1_2 l1_2.length l1_2) (hc1_2 : l1_2.length ≤ c1_2) (hr1_3 : Kd.C Kd.string w A1_3 l1_3.length l1_3) (hc1_3 : l1_3.length ≤ c1_3) (h : laws_FnExactSameValue.f k a0_0 a0_1 l0_2 l0_3 a1_0 a1_1 l1_2 l1_3 = some r) :
    Calls Try.prog 4 #[.agg #[.int .i64 a0_0, .string a0_1, .slice A0_2 l0_2.length c0_2, .slice A0_3 l0_3.length c0_3], .agg #[.int .i64 a1_0, .string a1_1, .slice A1_2 l1_2.length c1_2, .slice A1_3 l1_3.length c1_3]] w fun e w' => e = .returned (.bool r) ∧ Below w.heap.size w w' := by
  have H : ((laws_szValue.f k a0_0 a0_1 l0_2 l0_3 1048576).bind fun t154 => (if t154 < 0 then (some true) else ((laws_szValue.f k a1_0 a1_1 l1_2 l1_3 t154).bind fun t155 => (if t155 < 0 then (some true) else ((laws_toValue.f k a0_0 a0_1 l0_2 l0_3).bind fun bt156 => ((laws_toValue.f k a1_0 a1_1 l1_2 l1_3).bind fun bt164 => ((spec_SameValue.f k bt156.1 bt156.2.1 bt156.2.2.1 bt156.2.2.2 bt164.1 bt164.2.1 bt164.2.2.1 bt164.2.2.2).bind fun t172 => ((laws_toValue.f k a0_0 a0_1 l0_2 l0_3).bind fun bt173 => ((laws_toValue.f k a1_0 a1_1 l1_2 l1_3).bind fun bt182 => ((impl_SameValue.f k bt173.1 bt173.2.1 bt173.2.2.1 bt173.2.2.2 bt182.1 bt182.2.1 bt182.2.2.1 bt182.2.2.2).bind fun t191 => (if (t191 != t172) = true then (some false) else ((laws_toValue.f k a0_0 a0_1 l0_2 l0_3).bind fun bt192 => ((laws_eqValue.f k bt173.1 bt173.2.1 bt173.2.2.1 bt173.2.2.2 bt192.1 bt192.2.1 bt192.2.2.1 bt192.2.2.2).bind fun t200 => (if t200 = true then ((laws_toValue.f k a1_0 a1_1 l1_2 l1_3).bind fun bt201 => ((laws_eqValue.f k bt182.1 bt182.2.1 bt182.2.2.1 bt182.2.2.2 bt201.1 bt201.2.1 bt201.2.2.1 bt201.2.2.2).bind fun t209 => (if t209 = true then (some true) else (some false)))) else (some false))))))))))))))) = some r := h
  clear h
  replace H := Option.bind_eq_some_iff.mp H
  obtain ⟨t154, A30, H⟩ := H
  first | (replace H : (if t154 < 0 then (some true) else ((laws_szValue.f k a1_0 a1_1 l1_2 l1_3 t154).bind fun t155 => (if t155 < 0 then (some true) else ((laws_toValue.f k a0_0 a0_1 l0_2 l0_3).bind fun bt156 => ((laws_toValue.f k a1_0 a1_1 l1_2 l1_3).bind fun bt164 => ((spec_SameValue.f k bt156.1 bt156.2.1 bt156.2.2.1 bt156.2.2.2 bt164.1 bt164.2.1 bt164.2.2.1 bt164.2.2.2).bind fun t172 => ((laws_toValue.f k a0_0 a0_1 l0_2 l0_3).bind fun bt173 => ((laws_toValue.f k a1_0 a1_1 l1_2 l1_3).bind fun bt182 => ((impl_SameValue.f k bt173.1 bt173.2.1 bt173.2.2.1 bt173.2.2.2 bt182.1 bt182.2.1 bt182.2.2.1 bt182.2.2.2).bind fun t191 => (if (t191 != t172) = true then (some false) else ((laws_toValue.f k a0_0 a0_1 l0_2 l0_3).bind fun bt192 => ((laws_eqValue.f k bt173.1 bt173.2.1 bt173.2.2.1 bt173.2.2.2 bt192.1 bt192.2.1 bt192.2.2.1 bt192.2.2.2).bind fun t200 => (if t200 = true then ((laws_toValue.f k a1_0 a1_1 l1_2 l1_3).bind fun bt201 => ((laws_eqValue.f k bt182.1 bt182.2.1 bt182.2.2.1 bt182.2.2.2 bt201.1 bt201.2.1 bt201.2.2.1 bt201.2.2.2).bind fun t209 => (if t209 = true then (some true) else (some false)))) else (some false)))))))))))))) = some r := H) | (try dsimp only at H)
  by_cases c4 : t154 < 0
  · rw [if_pos c4] at H
    exact laws_FnExactSameValue.exit0 k a0_0 a0_1 A0_2 c0_2 l0_2 A0_3 c0_3 l0_3 a1_0 a1_1 A1_2 c1_2 l1_2 A1_3 c1_3 l1_3 r w hr0_2 hc0_2 hr0_3 hc0_3 hr1_2 hc1_2 hr1_3 hc1_3 t154 A30 c4 H
  · rw [if_neg c4] at H
    replace H := Option.bind_eq_some_iff.mp H
    obtain ⟨t155, A100, H⟩ := H
    first | (replace H : (if t155 < 0 then (some true) else ((laws_toValue.f k a0_0 a0_1 l0_2 l0_3).bind fun bt156 => ((laws_toValue.f k a1_0 a1_1 l1_2 l1_3).bind fun bt164 => ((spec_SameValue.f k bt156.1 bt156.2.1 bt156.2.2.1 bt156.2.2.2 bt164.1 bt164.2.1 bt164.2.2.1 bt164.2.2.2).bind fun t172 => ((laws_toValue.f k a0_0 a0_1 l0_2 l0_3).bind fun bt173 => ((laws_toValue.f k a1_0 a1_1 l1_2 l1_3).bind fun bt182 => ((impl_SameValue.f k bt173.1 bt173.2.1 bt173.2.2.1 bt173.2.2.2 bt182.1 bt182.2.1 bt182.2.2.1 bt182.2.2.2).bind fun t191 => (if (t191 != t172) = true then (some false) else ((laws_toValue.f k a0_0 a0_1 l0_2 l0_3).bind fun bt192 => ((laws_eqValue.f k bt173.1 bt173.2.1 bt173.2.2.1 bt173.2.2.2 bt192.1 bt192.2.1 bt192.2.2.1 bt192.2.2.2).bind fun t200 => (if t200 = true then ((laws_toValue.f k a1_0 a1_1 l1_2 l1_3).bind fun bt201 => ((laws_eqValue.f k bt182.1 bt182.2.1 bt182.2.2.1 bt182.2.2.2 bt201.1 bt201.2.1 bt201.2.2.1 bt201.2.2.2).bind fun t209 => (if t209 = true then (some true) else (some false)))) else (some false)))))))))))) = some r := H) | (try dsimp only at H)
    by_cases c11 : t155 < 0
    · rw [if_pos c11] at H
      exact laws_FnExactSameValue.exit1 k a0_0 a0_1 A0_2 c0_2 l0_2 A0_3 c0_3 l0_3 a1_0 a1_1 A1_2 c1_2 l1_2 A1_3 c1_3 l1_3 r w hr0_2 hc0_2 hr0_3 hc0_3 hr1_2 hc1_2 hr1_3 hc1_3 t154 A30 c4 t155 A100 c11 H
    · rw [if_neg c11] at H
      replace H := Option.bind_eq_some_iff.mp H
      obtain ⟨⟨t156, t157, t158, t161⟩, A190, H⟩ := H
      first | (replace H : ((laws_toValue.f k a1_0 a1_1 l1_2 l1_3).bind fun bt164 => ((spec_SameValue.f k t156 t157 t158 t161 bt164.1 bt164.2.1 bt164.2.2.1 bt164.2.2.2).bind fun t172 => ((laws_toValue.f k a0_0 a0_1 l0_2 l0_3).bind fun bt173 => ((laws_toValue.f k a1_0 a1_1 l1_2 l1_3).bind fun bt182 => ((impl_SameValue.f k bt173.1 bt173.2.1 bt173.2.2.1 bt173.2.2.2 bt182.1 bt182.2.1 bt182.2.2.1 bt182.2.2.2).bind fun t191 => (if (t191 != t172) = true then (some false) else ((laws_toValue.f k a0_0 a0_1 l0_2 l0_3).bind fun bt192 => ((laws_eqValue.f k bt173.1 bt173.2.1 bt173.2.2.1 bt173.2.2.2 bt192.1 bt192.2.1 bt192.2.2.1 bt192.2.2.2).bind fun t200 => (if t200 = true then ((laws_toValue.f k a1_0 a1_1 l1_2 l1_3).bind fun bt201 => ((laws_eqValue.f k bt182.1 bt182.2.1 bt182.2.2.1 bt182.2.2.2 bt201.1 bt201.2.1 bt201.2.2.1 bt201.2.2.2).bind fun t209 => (if t209 = true then (some true) else (some false)))) else (some false)))))))))) = some r := H) | (try dsimp only at H)
      replace H := Option.bind_eq_some_iff.mp H
      obtain ⟨⟨t164, t165, t166, t169⟩, A200, H⟩ := H
      first | (replace H : ((spec_SameValue.f k t156 t157 t158 t161 t164 t165 t166 t169).bind fun t172 => ((laws_toValue.f k a0_0 a0_1 l0_2 l0_3).bind fun bt173 => ((laws_toValue.f k a1_0 a1_1 l1_2 l1_3).bind fun bt182 => ((impl_SameValue.f k bt173.1 bt173.2.1 bt173.2.2.1 bt173.2.2.2 bt182.1 bt182.2.1 bt182.2.2.1 bt182.2.2.2).bind fun t191 => (if (t191 != t172) = true then (some false) else ((laws_toValue.f k a0_0 a0_1 l0_2 l0_3).bind fun bt192 => ((laws_eqValue.f k bt173.1 bt173.2.1 bt173.2.2.1 bt173.2.2.2 bt192.1 bt192.2.1 bt192.2.2.1 bt192.2.2.2).bind fun t200 => (if t200 = true then ((laws_toValue.f k a1_0 a1_1 l1_2 l1_3).bind fun bt201 => ((laws_eqValue.f k bt182.1 bt182.2.1 bt182.2.2.1 bt182.2.2.2 bt201.1 bt201.2.1 bt201.2.2.1 bt201.2.2.2).bind fun t209 => (if t209 = true then (some true) else (some false)))) else (some false))))))))) = some r := H) | (try dsimp only at H)
      replace H := Option.bind_eq_some_iff.mp H
      obtain ⟨t172, A210, H⟩ := H
      first | (replace H : ((laws_toValue.f k a0_0 a0_1 l0_2 l0_3).bind fun bt173 => ((laws_toValue.f k a1_0 a1_1 l1_2 l1_3).bind fun bt182 => ((impl_SameValue.f k bt173.1 bt173.2.1 bt173.2.2.1 bt173.2.2.2 bt182.1 bt182.2.1 bt182.2.2.1 bt182.2.2.2).bind fun t191 => (if (t191 != t172) = true then (some false) else ((laws_toValue.f k a0_0 a0_1 l0_2 l0_3).bind fun bt192 => ((laws_eqValue.f k bt173.1 bt173.2.1 bt173.2.2.1 bt173.2.2.2 bt192.1 bt192.2.1 bt192.2.2.1 bt192.2.2.2).bind fun t200 => (if t200 = true then ((laws_toValue.f k a1_0 a1_1 l1_2 l1_3).bind fun bt201 => ((laws_eqValue.f k bt182.1 bt182.2.1 bt182.2.2.1 bt182.2.2.2 bt201.1 bt201.2.1 bt201.2.2.1 bt201.2.2.2).bind fun t209 => (if t209 = true then (some true) else (some false)))) else (some false)))))))) = some r := H) | (try dsimp only at H)
      replace H := Option.bind_eq_some_iff.mp H
      obtain ⟨⟨t173, t174, t175, t178⟩, A220, H⟩ := H
      first | (replace H : ((laws_toValue.f k a1_0 a1_1 l1_2 l1_3).bind fun bt182 => ((impl_SameValue.f k t173 t174 t175 t178 bt182.1 bt182.2.1 bt182.2.2.1 bt182.2.2.2).bind fun t191 => (if (t191 != t172) = true then (some false) else ((laws_toValue.f k a0_0 a0_1 l0_2 l0_3).bind fun bt192 => ((laws_eqValue.f k t173 t174 t175 t178 bt192.1 bt192.2.1 bt192.2.2.1 bt192.2.2.2).bind fun t200 => (if t200 = true then ((laws_toValue.f k a1_0 a1_1 l1_2 l1_3).bind fun bt201 => ((laws_eqValue.f k bt182.1 bt182.2.1 bt182.2.2.1 bt182.2.2.2 bt201.1 bt201.2.1 bt201.2.2.1 bt201.2.2.2).bind fun t209 => (if t209 = true then (some true) else (some false)))) else (some false))))))) = some r := H) | (try dsimp only at H)
      replace H := Option.bind_eq_some_iff.mp H
      obtain ⟨⟨t182, t183, t184, t187⟩, A230, H⟩ := H
      first | (replace H : ((impl_SameValue.f k t173 t174 t175 t178 t182 t183 t184 t187).bind fun t191 => (if (t191 != t172) = true then (some false) else ((laws_toValue.f k a0_0 a0_1 l0_2 l0_3).bind fun bt192 => ((laws_eqValue.f k t173 t174 t175 t178 bt192.1 bt192.2.1 bt192.2.2.1 bt192.2.2.2).bind fun t200 => (if t200 = true then ((laws_toValue.f k a1_0 a1_1 l1_2 l1_3).bind fun bt201 => ((laws_eqValue.f k t182 t183 t184 t187 bt201.1 bt201.2.1 bt201.2.2.1 bt201.2.2.2).bind fun t209 => (if t209 = true then (some true) else (some false)))) else (some false)))))) = some r := H) | (try dsimp only at H)
      replace H := Option.bind_eq_some_iff.mp H
      obtain ⟨t191, A240, H⟩ := H
      first | (replace H : (if (t191 != t172) = true then (some false) else ((laws_toValue.f k a0_0 a0_1 l0_2 l0_3).bind fun bt192 => ((laws_eqValue.f k t173 t174 t175 t178 bt192.1 bt192.2.1 bt192.2.2.1 bt192.2.2.2).bind fun t200 => (if t200 = true then ((laws_toValue.f k a1_0 a1_1 l1_2 l1_3).bind fun bt201 => ((laws_eqValue.f k t182 t183 t184 t187 bt201.1 bt201.2.1 bt201.2.2.1 bt201.2.2.2).bind fun t209 => (if t209 = true then (some true) else (some false)))) else (some false))))) = some r := H) | (try dsimp only at H)
      by_cases c25 : (t191 != t172) = true
      · rw [if_pos c25] at H
        exact laws_FnExactSameValue.exit2 k a0_0 a0_1 A0_2 c0_2 l0_2 A0_3 c0_3 l0_3 a1_0 a1_1 A1_2 c1_2 l1_2 A1_3 c1_3 l1_3 r w hr0_2 hc0_2 hr0_3 hc0_3 hr1_2 hc1_2 hr1_3 hc1_3 t154 A30 c4 t155 A100 c11 t156 t157 t158 t161 A190 t164 t165 t166 t169 A200 t172 A210 t173 t174 t175 t178 A220 t182 t183 t184 t187 A230 t191 A240 c25 H
      · rw [if_neg c25] at H
        replace H := Option.bind_eq_some_iff.mp H
        obtain ⟨⟨t192, t193, t194, t197⟩, A600, H⟩ := H
        first | (replace H : ((laws_eqValue.f k t173 t174 t175 t178 t192 t193 t194 t197).bind fun t200 => (if t200 = true then ((laws_toValue.f k a1_0 a1_1 l1_2 l1_3).bind fun bt201 => ((laws_eqValue.f k t182 t183 t184 t187 bt201.1 bt201.2.1 bt201.2.2.1 bt201.2.2.2).bind fun t209 => (if t209 = true then (some true) else (some false)))) else (some false))) = some r := H) | (try dsimp only at H)
        replace H := Option.bind_eq_some_iff.mp H
        obtain ⟨t200, A610, H⟩ := H
        first | (replace H : (if t200 = true then ((laws_toValue.f k a1_0 a1_1 l1_2 l1_3).bind fun bt201 => ((laws_eqValue.f k t182 t183 t184 t187 bt201.1 bt201.2.1 bt201.2.2.1 bt201.2.2.2).bind fun t209 => (if t209 = true then (some true) else (some false)))) else (some false)) = some r := H) | (try dsimp only at H)
        by_cases c62 : t200 = true
        · rw [if_pos c62] at H
          replace H := Option.bind_eq_some_iff.mp H
          obtain ⟨⟨t201, t202, t203, t206⟩, A630, H⟩ := H
          first | (replace H : ((laws_eqValue.f k t182 t183 t184 t187 t201 t202 t203 t206).bind fun t209 => (if t209 = true then (some true) else (some false))) = some r := H) | (try dsimp only at H)
          replace H := Option.bind_eq_some_iff.mp H
          obtain ⟨t209, A640, H⟩ := H
          first | (replace H : (if t209 = true then (some true) else (some false)) = some r := H) | (try dsimp only at H)
          by_cases c65 : t209 = true
          · rw [if_pos c65] at H
            exact laws_FnExactSameValue.exit3 k a0_0 a0_1 A0_2 c0_2 l0_2 A0_3 c0_3 l0_3 a1_0 a1_1 A1_2 c1_2 l1_2 A1_3 c1_3 l1_3 r w hr0_2 hc0_2 hr0_3 hc0_3 hr1_2 hc1_2 hr1_3 hc1_3 t154 A30 c4 t155 A100 c11 t156 t157 t158 t161 A190 t164 t165 t166 t169 A200 t172 A210 t173 t174 t175 t178 A220 t182 t183 t184 t187 A230 t191 A240 c25 t192 t193 t194 t197 A600 t200 A610 c62 t201 t202 t203 t206 A630 t209 A640 c65 H
          · rw [if_neg c65] at H
            exact laws_FnExactSameValue.exit4 k a0_0 a0_1 A0_2 c0_2 l0_2 A0_3 c0_3 l0_3 a1_0 a1_1 A1_2 c1_2 l1_2 A1_3 c1_3 l1_3 r w hr0_2 hc0_2 hr0_3 hc0_3 hr1_2 hc1_2 hr1_3 hc1_3 t154 A30 c4 t155 A100 c11 t156 t157 t158 t161 A190 t164 t165 t166 t169 A200 t172 A210 t173 t174 t175 t178 A220 t182 t183 t184 t187 A230 t191 A240 c25 t192 t193 t194 t197 A600 t200 A610 c62 t201 t202 t203 t206 A630 t209 A640 c65 H
        · rw [if_neg c62] at H
          exact laws_FnExactSameValue.exit5 k a0_0 a0_1 A0_2 c0_2 l0_2 A0_3 c0_3 l0_3 a1_0 a1_1 A1_2 c1_2 l1_2 A1_3 c1_3 l1_3 r w hr0_2 hc0_2 hr0_3 hc0_3 hr1_2 hc1_2 hr1_3 hc1_3 t154 A30 c4 t155 A100 c11 t156 t157 t158 t161 A190 t164 t165 t166 t169 A200 t172 A210 t173 t174 t175 t178 A220 t182 t183 t184 t187 A230 t191 A240 c25 t192 t193 t194 t197 A600 t200 A610 c62 H
end Go.Proofs.Ytkcomfmdcmjagaa.OFnExactSameValue
