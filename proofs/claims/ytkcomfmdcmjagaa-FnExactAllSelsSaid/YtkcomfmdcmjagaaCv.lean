/- The reference's AllSels: what comes back, of its own memory; under the conditions that it names. -/
import Derived.Test.YtkcomfmdcmjagaaCu
import Derived.Test.YtkcomfmdcmjagaaOFnExactAllSelsx9
namespace Go.Proofs.Ytkcomfmdcmjagaa.OFnExactAllSels
open Go.Proofs.Ytkcomfmdcmjagaa.Lay Go.Proofs.Ytkcomfmdcmjagaa.Mark
open Go.RowKit Go.Proofs.YtkcomfmdcmjagaaW.PrintWords Go.Proofs.YtkcomfmdcmjagaaW.PrintLast Go.Proofs.YtkcomfmdcmjagaaW.PrintMore
set_option linter.unusedVariables false
set_option linter.unusedSimpArgs false
set_option maxHeartbeats 4000000 in
set_option maxRecDepth 100000 in
theorem specAll (l : List S54) (v : Value) (w : World) (k : Nat) (hI : In w l.length (D.list dS l) v) (hl : l.length ≤ 1073741824) (hal : (aSs l).length ≤ 1073741824) (hk : spec_l11Copy.f k (aSs l) = some (aSs l)) :
    Calls Try.prog 33 #[v] w fun e w' => ∃ v', e = .returned v' ∧ Tr w' w.heap.size w'.heap.size (aSs l).length (D.list dS (aSs l)) v' ∧ Below w.heap.size w w' := by
  obtain ⟨A, cap, rfl, hn, hm⟩ := RowAt.sl hI.1
  have HN := Aside0.mk (below_alloc (Below.refl w.heap.size w) (.cells #[] 54))
  have HO := Aside0.mk (show Ob (w.alloc (.cells #[] 54)) w.heap.size ([] : List S54).length (.slice (some ⟨w.heap.size, 0, none⟩) 0 0) (D.list dS []) from
    ⟨⟨[], ⟨rfl, .inr ⟨w.heap.size, 0, #[], rfl, Nat.le_refl _, heap_alloc_new w _, Nat.le_refl _, Nat.zero_le _, rfl, rfl⟩⟩, rfl, fun b hb => by cases hb⟩⟩)
  have HR := Aside0.mk (RowAt.old hI.1 hI.2 HN.out)
  have HL := Aside0.mk hl
  have HAL := Aside0.mk hal
  have HK := Aside0.mk hk
  clear hI hl hal hk
  go_enter Try.func33, Try.ntmps33
  go_wp2_with (first
    | ((with_reducible refine gate_callee (f := 62) rfl ?_); refine goesL_ (some 5) rfl rfl Try.func62 (by kernel_rfl) rfl #[.slice A l.length cap, .slice (some ⟨w.heap.size, 0, none⟩) 0 0] rfl (by (try simp only [List.map_toArray, List.map_cons, List.map_nil]); first | done | rfl) ?_
       (with_reducible refine (l11All l _ _ w.heap.size [] _ HN.out.size HR.out.1 HR.out.2 HO.out (by simpa using HAL.out) HL.out).mono ?_)
       rintro e w2 ⟨A2, c2, rfl, hO2, hb2⟩
       refine ⟨_, rfl, ?_⟩
       rw [List.nil_append] at hO2 ⊢
       have HB := Aside0.mk (HN.out.trans hb2)
       obtain ⟨inner, ho, hc, _⟩ := hO2.ex
       have h8 := (row_of_own ho hc (fun h0 => by rw [List.eq_nil_of_length_eq_zero h0]; rfl)).1
       obtain ⟨A3, c3, e3, hl3, hC3⟩ := CS h8
       obtain ⟨rfl, -, rfl⟩ : A2 = A3 ∧ True ∧ c2 = c3 := by injection e3 with q1 q2 q3; exact ⟨q1, trivial, q3⟩
       have HC := Aside0.mk (And.intro hl3 hC3)
       clear hO2 hb2 ho hc h8 e3 hl3 hC3)
    | ((with_reducible refine gate_callee (f := 61) rfl ?_); refine goesL_ (some 6) rfl rfl Try.func61 (by kernel_rfl) rfl #[.slice A2 (aSs l).length c2] rfl (by (try simp only [List.map_toArray, List.map_cons, List.map_nil]); first | done | rfl) ?_
       (with_reducible refine (spec_l11Copy.calls k _ _ (aSs l) (aSs l) _ HC.out.2 HC.out.1 HK.out).mono ?_)
       rintro e w3 ⟨v3, rfl, hR3, hb3⟩
       refine ⟨_, rfl, ?_⟩
       have HT := Aside0.mk ((trS hR3).mono HB.out.size (Nat.le_refl _) (Nat.le_refl _))
       have HB3 := Aside0.mk (below_step HB.out hb3)
       clear hR3 hb3))
  go_ret
  exact ⟨v3, rfl, HT.out, HB3.out⟩
end Go.Proofs.Ytkcomfmdcmjagaa.OFnExactAllSels
