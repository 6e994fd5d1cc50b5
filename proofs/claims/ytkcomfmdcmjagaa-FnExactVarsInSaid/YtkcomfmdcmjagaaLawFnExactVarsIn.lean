/- For every value (a tree of values) within reach the program's VarsIn and the reference's list the same names; the value stays as it was, and the list that comes back lies apart from it. Strings are those that the form reads: of at most 140737488351232 bytes. -/
import Derived.Test.YtkcomfmdcmjagaaTree
import Derived.Test.YtkcomfmdcmjagaaRows
import Derived.Test.YtkcomfmdcmjagaaOFnExactVarsInx6
import Derived.Test.YtkcomfmdcmjagaaPureFnExactVarsIn
import Derived.WalkKit
import Derived.ProofKit
import Derived.OpenShut
import Derived.ShutString
import Derived.ChangeOld
import Derived.Below
import Derived.SizedLaws
import Derived.Lib.SmallJoins
import Derived.ChangeArms
import Derived.ChangeSlices
namespace Go.Proofs.Ytkcomfmdcmjagaa.fnExactVarsIn
open Go.ChangeShapes Go.WideShapes Go.ChangeAt Go.RowKit Go.Joins
open Go.ChangeMaps (open_string shut_string)
set_option linter.unusedVariables false
theorem own : ownKnob Try.prog.godebug = none := by kernel_rfl
theorem laidOut : laidOutB Try.prog = true := by kernel_rfl
open Go.Proofs.YtkcomfmdcmjagaaW.PrintWords Go.Proofs.Ytkcomfmdcmjagaa.OFnExactVarsIn Go.Proofs.Ytkcomfmdcmjagaa.Tree
set_option maxRecDepth 100000 in
theorem opens25 {H : Type} {enc : TypeId × Value → H} {W : World} {base : Nat} {spare : Nat → Bool} {held : Bool} (n : Nat) : Opens enc Try.prog W base spare held n 25 k25 Pure.OkV := by
  induction n using Nat.strongRecOn with
  | _ n ih =>
  have h := Opens.struct (enc := enc) (W := W) (base := base) (spare := spare) (held := held) (f := (fun x : S25 => (x.f0, x.f1, x.f2, x.f3))) (n := n) Try.underlying25 (by kernel_rfl) (fun m hm => (OpensF.pair rfl (by kernel_rfl) (Opens.int Try.underlying3) (OpensF.pair rfl (by kernel_rfl) (Opens.string Try.underlying9) (OpensF.pair rfl (by kernel_rfl) (Opens.slice Try.underlying22 (by kernel_rfl) (fun m_ hm_ => ih m_ (by omega)) (b := 72) (by kernel_rfl)) (OpensF.one rfl (by kernel_rfl) (Opens.slice Try.underlying23 (by kernel_rfl) (fun m_ hm_ => Opens.string Try.underlying9) (b := 16) (by kernel_rfl))))))) (fun z => (⟨z.1, z.2.1, z.2.2.1, z.2.2.2⟩ : S25)) (fun _ => rfl)
  refine h.imp (fun x cs hK => ?_) (fun x hB => Pure.OkV.mk _ hB.1 hB.2.1 hB.2.2.1.1 hB.2.2.1.2 hB.2.2.2.1 hB.2.2.2.2)
  obtain ⟨_, _, rfl, rfl, ⟨_, _, rfl, rfl, ⟨_, _, rfl, ⟨A2, c2, rfl, l2, g2⟩, ⟨A3, c3, rfl, l3, g3⟩⟩⟩⟩ := hK
  exact k25_mk W x l2 g2 l3 g3
set_option maxRecDepth 100000 in
theorem lifted (os : Os) (started : os.Started) (H : Type) (enc : TypeId × Value → H) :
    ReturnsInHanded {} Try.checked os 5 .any (Rows.fnExactVarsInSpec.pre6 enc Try.prog Try.f5 Rows.fnExactVarsInRow.domain false) (Rows.fnExactVarsInSpec.post enc Try.prog Try.f5 false true false false) := by
  refine returnsInHanded_of_change_sized (C := Try.checked) own started (by kernel_rfl) Try.func5
    (ChangeSpec.witness6 (enc := enc) (C := Try.checked) false ⟨#[], #[.agg #[.int .i64 0, .string ByteArray.empty, .slice none 0 0, .slice none 0 0]], []⟩ 8 (by kernel_rfl) (by kernel_rfl) (by kernel_rfl) (by kernel_rfl)) ?_
  intro W base args ds gs before hval0 hW hcnd hsz0 _
  have hsz : (DataW.weightsEach Try.prog (Try.f5.params.toList ++ Rows.fnExactVarsInSpec.plain.varTypes Try.prog) (ds ++ gs)).all (· ≤ reachBytes) = true := hsz0
  have hval : ∀ (j : Nat) t v, Try.f5.params[j]? = some t → args[j]? = some v → Value.okWide Try.prog W .any base t v := hval0
  have hW' := hW
  obtain ⟨p, q, hA0, hV, rfl, hfz, hnd⟩ := hW
  have hA : DataW.TrodAll enc Try.prog W 0 (fun _ => true) true Try.f5.params.toList args.toList ds p := hA0
  rw [Try.params5] at hA hval hsz
  obtain ⟨v0, vs0, d0, ds0, p0, q0, hargs, rfl, rfl, h0, r0⟩ := trodAll_cons hA
  obtain ⟨rfl, rfl, rfl⟩ := trodAll_nil r0
  obtain rfl : args = #[v0] := by cases args; simp_all
  obtain ⟨rfl, rfl⟩ := trodVars_none hV
  have k0 := h0
  have lt0 : ∀ x ∈ p0, x.block < W.heap.size := by obtain ⟨m, hm⟩ := k0; exact DataW.trod_lt m _ _ _ hm
  obtain ⟨fu0, hf0⟩ := h0
  have li0 : Light Try.prog 25 d0 := light_of hsz (j := 0) (t := 25) rfl rfl
  obtain ⟨cs0, rfl, z0⟩ := okWide_struct Try.underlying25 (hval 0 25 v0 rfl rfl)
  obtain ⟨x0, hK0, hO0⟩ := opens25 fu0 _ _ hf0 li0
  obtain ⟨A0_2, c0_2, A0_3, c0_3, e0, l0_2, g0_2, l0_3, g0_3⟩ := k25_open hK0
  obtain rfl : cs0 = #[.int .i64 x0.f0, .string x0.f1, .slice A0_2 x0.f2.length c0_2, .slice A0_3 x0.f3.length c0_3] := by
    apply Array.toList_inj.1
    simpa [Value.cells] using e0
  clear hA0 hval0 hsz0 hsz
  obtain ⟨k, hk⟩ := Pure.FnExactVarsIn x0 hO0
  refine (OFnExactVarsIn.laws_FnExactVarsIn.calls k x0.f0 x0.f1 A0_2 c0_2 x0.f2 A0_3 c0_3 x0.f3 true W g0_2 l0_2 g0_3 l0_3  hk).mono fun e W' ⟨he, bel⟩ => ?_
  subst he
  exact ⟨_, rfl, _, _, _, [], _, [], hW', trodAll_mk1 (shut_bool Try.underlying4 _), (trodAll_cons_mk (Below.trod laidOut (by kernel_rfl) (of_decide_eq_true (by kernel_rfl)) k0 bel lt0) trodAll_mk0), rfl, bel.frame _, fun h => by cases h⟩
theorem over : Rows.fnExactVarsInRow.holds Try.pinned (OpenSpec.ofChange Rows.fnExactVarsInSpec) :=
  OpenClaim.holds_of_wide 5 Try.f5 rfl rfl rfl rfl rfl rfl rfl ⟨rfl, rfl, rfl, rfl, rfl⟩ rfl rfl rfl rfl rfl (by kernel_rfl) Try.func5 (by kernel_rfl)
    (of_decide_eq_true (by kernel_rfl)) (by unfold Func.isWrapper; first | (rw [if_pos (by decide +kernel)]; kernel_rfl) | (rw [if_neg (by decide +kernel)]; exact ⟨rfl, rfl⟩))
    (fun os started H enc _ => lifted os started H enc)
theorem proved : Rows.FnExactVarsInSaid := over
end Go.Proofs.Ytkcomfmdcmjagaa.fnExactVarsIn
namespace Go.Proofs.Ytkcomfmdcmjagaa
/-- The row, under a short name, for the claim. -/
theorem fnExactVarsIn_holds : Rows.FnExactVarsInSaid := fnExactVarsIn.proved
end Go.Proofs.Ytkcomfmdcmjagaa
