/- For every list of selections (trees) within reach the program's AllSels and the reference's list the same selections; the list stays as it was, and what comes back lies apart from it. Strings are those that the form reads: of at most 140737488351232 bytes. -/
import Derived.Test.YtkcomfmdcmjagaaTreeFnExactAllSels
import Derived.Test.YtkcomfmdcmjagaaRows
import Derived.Test.YtkcomfmdcmjagaaCw
import Derived.Test.YtkcomfmdcmjagaaPureFnExactAllSels
import Derived.WalkKit
import Derived.ProofKit
import Derived.OpenShut
import Derived.ShutString
import Derived.ChangeOld
import Derived.Below
import Derived.SizedLaws
import Derived.Lib.SmallJoins
import Derived.ChangeArms
import Derived.ChangeSlices
namespace Go.Proofs.Ytkcomfmdcmjagaa.fnExactAllSels
open Go.ChangeShapes Go.WideShapes Go.ChangeAt Go.RowKit Go.Joins
open Go.ChangeMaps (open_string shut_string)
set_option linter.unusedVariables false
theorem own : ownKnob Try.prog.godebug = none := by kernel_rfl
theorem laidOut : laidOutB Try.prog = true := by kernel_rfl
open Go.Proofs.YtkcomfmdcmjagaaW.PrintWords Go.Proofs.Ytkcomfmdcmjagaa.OFnExactAllSels Go.Proofs.Ytkcomfmdcmjagaa.Tree
set_option maxRecDepth 100000 in
theorem opens25 {H : Type} {enc : TypeId × Value → H} {W : World} {base : Nat} {spare : Nat → Bool} {held : Bool} (n : Nat) : Opens enc Try.prog W base spare held n 25 k25 Pure.OkV := by
 induction n using Nat.strongRecOn with
 | _ n ih =>
 have h := Opens.struct (enc := enc) (W := W) (base := base) (spare := spare) (held := held) (f := (fun x : S25 => (x.f0, x.f1, x.f2, x.f3))) (n := n) Try.underlying25 (by kernel_rfl) (fun m hm => (OpensF.pair rfl (by kernel_rfl) (Opens.int Try.underlying3) (OpensF.pair rfl (by kernel_rfl) (Opens.string Try.underlying9) (OpensF.pair rfl (by kernel_rfl) (Opens.slice Try.underlying22 (by kernel_rfl) (fun m_ hm_ => ih m_ (by omega)) (b := 72) (by kernel_rfl)) (OpensF.one rfl (by kernel_rfl) (Opens.slice Try.underlying23 (by kernel_rfl) (fun m_ hm_ => Opens.string Try.underlying9) (b := 16) (by kernel_rfl))))))) (fun z => (⟨z.1, z.2.1, z.2.2.1, z.2.2.2⟩ : S25)) (fun _ => rfl)
 refine h.imp (fun x cs hK => ?_) (fun x hB => Pure.OkV.mk _ hB.1 hB.2.1 hB.2.2.1.1 hB.2.2.1.2 hB.2.2.2.1 hB.2.2.2.2)
 obtain ⟨_, _, rfl, rfl, ⟨_, _, rfl, rfl, ⟨_, _, rfl, ⟨A2, c2, rfl, l2, g2⟩, ⟨A3, c3, rfl, l3, g3⟩⟩⟩⟩ := hK
 exact k25_mk W x l2 g2 l3 g3
set_option maxRecDepth 100000 in
theorem opens76 {H : Type} {enc : TypeId × Value → H} {W : World} {base : Nat} {spare : Nat → Bool} {held : Bool} (n : Nat) : Opens enc Try.prog W base spare held n 76 k76 Pure.OkA := by
 have h := Opens.struct (enc := enc) (W := W) (base := base) (spare := spare) (held := held) (f := (fun x : S76 => (x.f0, x.f1))) (n := n) Try.underlying76 (by kernel_rfl) (fun m hm => (OpensF.pair rfl (by kernel_rfl) (Opens.string Try.underlying9) (OpensF.one rfl (by kernel_rfl) (opens25 _)))) (fun z => (⟨z.1, z.2⟩ : S76)) (fun _ => rfl)
 exact h.imp (fun x cs hK => hK) (fun x hB => Pure.OkA.mk _ hB.1 hB.2)
set_option maxRecDepth 100000 in
theorem opens93 {H : Type} {enc : TypeId × Value → H} {W : World} {base : Nat} {spare : Nat → Bool} {held : Bool} (n : Nat) : Opens enc Try.prog W base spare held n 93 k93 Pure.OkD := by
 have h := Opens.struct (enc := enc) (W := W) (base := base) (spare := spare) (held := held) (f := (fun x : S93 => (x.f0, x.f1))) (n := n) Try.underlying93 (by kernel_rfl) (fun m hm => (OpensF.pair rfl (by kernel_rfl) (Opens.string Try.underlying9) (OpensF.one rfl (by kernel_rfl) (Opens.slice Try.underlying39 (by kernel_rfl) (fun m_ hm_ => opens76 m_) (b := 88) (by kernel_rfl))))) (fun z => (⟨z.1, z.2⟩ : S93)) (fun _ => rfl)
 exact h.imp (fun x cs hK => hK) (fun x hB => Pure.OkD.mk _ hB.1 hB.2.1 hB.2.2)
set_option maxRecDepth 100000 in
theorem opens48 {H : Type} {enc : TypeId × Value → H} {W : World} {base : Nat} {spare : Nat → Bool} {held : Bool} (n : Nat) : Opens enc Try.prog W base spare held n 48 k48 Pure.OkS := by
 induction n using Nat.strongRecOn with
 | _ n ih =>
 have h := Opens.struct (enc := enc) (W := W) (base := base) (spare := spare) (held := held) (f := (fun x : S48 => (x.f0, x.f1, x.f2, x.f3, x.f4, x.f5, x.f6))) (n := n) Try.underlying48 (by kernel_rfl) (fun m hm => (OpensF.pair rfl (by kernel_rfl) (Opens.int Try.underlying3) (OpensF.pair rfl (by kernel_rfl) (Opens.string Try.underlying9) (OpensF.pair rfl (by kernel_rfl) (Opens.string Try.underlying9) (OpensF.pair rfl (by kernel_rfl) (Opens.string Try.underlying9) (OpensF.pair rfl (by kernel_rfl) (Opens.slice Try.underlying39 (by kernel_rfl) (fun m_ hm_ => opens76 m_) (b := 88) (by kernel_rfl)) (OpensF.pair rfl (by kernel_rfl) (Opens.slice Try.underlying45 (by kernel_rfl) (fun m_ hm_ => opens93 m_) (b := 40) (by kernel_rfl)) (OpensF.one rfl (by kernel_rfl) (Opens.slice Try.underlying46 (by kernel_rfl) (fun m_ hm_ => ih m_ (by omega)) (b := 128) (by kernel_rfl)))))))))) (fun z => (⟨z.1, z.2.1, z.2.2.1, z.2.2.2.1, z.2.2.2.2.1, z.2.2.2.2.2.1, z.2.2.2.2.2.2⟩ : S48)) (fun _ => rfl)
 refine h.imp (fun x cs hK => ?_) (fun x hB => Pure.OkS.mk _ hB.1 hB.2.1 hB.2.2.1 hB.2.2.2.1 hB.2.2.2.2.1.1 hB.2.2.2.2.1.2 hB.2.2.2.2.2.1.1 hB.2.2.2.2.2.1.2 hB.2.2.2.2.2.2.1 hB.2.2.2.2.2.2.2)
 obtain ⟨_, _, rfl, rfl, ⟨_, _, rfl, rfl, ⟨_, _, rfl, rfl, ⟨_, _, rfl, rfl, ⟨_, _, rfl, ⟨A4, c4, rfl, l4, g4⟩, ⟨_, _, rfl, ⟨A5, c5, rfl, l5, g5⟩, ⟨A6, c6, rfl, l6, g6⟩⟩⟩⟩⟩⟩⟩ := hK
 exact k48_mk W x l4 g4 l5 g5 l6 g6
set_option maxRecDepth 100000 in
theorem lifted (os : Os) (started : os.Started) (H : Type) (enc : TypeId × Value → H) :
  ReturnsInHanded {} Try.checked os 8 .any (Rows.fnExactAllSelsSpec.pre6 enc Try.prog Try.f8 Rows.fnExactAllSelsRow.domain false) (Rows.fnExactAllSelsSpec.post enc Try.prog Try.f8 false true false false) := by
 refine returnsInHanded_of_change_sized (C := Try.checked) own started (by kernel_rfl) Try.func8
  (ChangeSpec.witness6 (enc := enc) (C := Try.checked) false ⟨#[], #[.slice none 0 0], []⟩ 8 (by kernel_rfl) (by kernel_rfl) (by kernel_rfl) (by kernel_rfl)) ?_
 intro W base args ds gs before hval0 hW hcnd hsz0 _
 have hsz : (DataW.weightsEach Try.prog (Try.f8.params.toList ++ Rows.fnExactAllSelsSpec.plain.varTypes Try.prog) (ds ++ gs)).all (· ≤ reachBytes) = true := hsz0
 have hval : ∀ (j : Nat) t v, Try.f8.params[j]? = some t → args[j]? = some v → Value.okWide Try.prog W .any base t v := hval0
 have hW' := hW
 obtain ⟨p, q, hA0, hV, rfl, hfz, hnd⟩ := hW
 have hA : DataW.TrodAll enc Try.prog W 0 (fun _ => true) true Try.f8.params.toList args.toList ds p := hA0
 rw [Try.params8] at hA hval hsz
 obtain ⟨v0, vs0, d0, ds0, p0, q0, hargs, rfl, rfl, h0, r0⟩ := trodAll_cons hA
 obtain ⟨rfl, rfl, rfl⟩ := trodAll_nil r0
 obtain rfl : args = #[v0] := by cases args; simp_all
 obtain ⟨rfl, rfl⟩ := trodVars_none hV
 have k0 := h0
 have lt0 : ∀ x ∈ p0, x.block < W.heap.size := by obtain ⟨m, hm⟩ := k0; exact DataW.trod_lt m _ _ _ hm
 obtain ⟨fu0, hf0⟩ := h0
 have li0 : Light Try.prog 46 d0 := light_of hsz (j := 0) (t := 46) rfl rfl
 obtain ⟨a0, len0, cap0, rfl⟩ := okWide_slice Try.underlying46 (hval 0 46 v0 rfl rfl)
 obtain ⟨x0, ⟨A0, c0, e0, l0, g0⟩, hO0⟩ := Opens.slice Try.underlying46 (by kernel_rfl) (fun m_ hm_ => opens48 m_) (b := 128) (by kernel_rfl) _ _ hf0 li0
 obtain ⟨rfl, rfl, rfl⟩ : a0 = A0 ∧ len0 = x0.length ∧ cap0 = c0 := by simpa [Value.cells] using e0
 clear hA0 hval0 hsz0 hsz
 refine (OFnExactAllSels.laws_FnExactAllSels.calls a0 cap0 x0 W g0 l0 hO0.1 hO0.2).mono fun e W' ⟨he, bel⟩ => ?_
 subst he
 exact ⟨_, rfl, _, _, _, [], _, [], hW', trodAll_mk1 (shut_bool Try.underlying4 _), (trodAll_cons_mk (Below.trod laidOut (by kernel_rfl) (of_decide_eq_true (by kernel_rfl)) k0 bel lt0) trodAll_mk0), rfl, bel.frame _, fun h => by cases h⟩
theorem over : Rows.fnExactAllSelsRow.holds Try.pinned (OpenSpec.ofChange Rows.fnExactAllSelsSpec) :=
 OpenClaim.holds_of_wide 8 Try.f8 rfl rfl rfl rfl rfl rfl rfl ⟨rfl, rfl, rfl, rfl, rfl⟩ rfl rfl rfl rfl rfl (by kernel_rfl) Try.func8 (by kernel_rfl)
  (of_decide_eq_true (by kernel_rfl)) (by unfold Func.isWrapper; first | (rw [if_pos (by decide +kernel)]; kernel_rfl) | (rw [if_neg (by decide +kernel)]; exact ⟨rfl, rfl⟩))
  (fun os started H enc _ => lifted os started H enc)
theorem proved : Rows.FnExactAllSelsSaid := over
end Go.Proofs.Ytkcomfmdcmjagaa.fnExactAllSels
namespace Go.Proofs.Ytkcomfmdcmjagaa
/-- The row, under a short name, for the claim. -/
theorem fnExactAllSels_holds : Rows.FnExactAllSelsSaid := fnExactAllSels.proved
end Go.Proofs.Ytkcomfmdcmjagaa
-- narrow
