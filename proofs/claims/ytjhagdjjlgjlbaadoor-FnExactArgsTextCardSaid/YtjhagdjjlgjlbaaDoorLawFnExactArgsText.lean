/- For every list of arguments within reach the program's ArgsText and the reference's return the same text. Strings are those that the form reads: of at most 140737488351232 bytes. -/
import Derived.Test.YtjhagdjjlgjlbaaDoorTreeFnExactArgsText
import Derived.Test.YtjhagdjjlgjlbaaDoorRows
import Derived.Test.YtjhagdjjlgjlbaaDoorOFnExactArgsTextx18
import Derived.Test.YtjhagdjjlgjlbaaDoorPureFnExactArgsText
import Derived.WalkKit
import Derived.ProofKit
import Derived.OpenShut
import Derived.ShutString
import Derived.ChangeOld
import Derived.Below
import Derived.SizedLaws
import Derived.Lib.SmallJoins
import Derived.ChangeArms
import Derived.ChangeSlices
import Derived.LaidMore
import Derived.Lay
import Derived.SevenTiedAt
import Derived.Stop.Joined
import Derived.Lib.LaidU8
import Derived.Test.YtjhagdjjlgjlbaaDoorTie
import Derived.Test.YtjhagdjjlgjlbaaDoorCards
namespace Go.Proofs.YtjhagdjjlgjlbaaDoor.fnExactArgsText
open Go.ChangeShapes Go.WideShapes Go.ChangeAt Go.RowKit Go.Joins
open Go.ChangeMaps (open_string shut_string)
set_option linter.unusedVariables false
theorem own : ownKnob Tryd.prog.godebug = none := by kernel_rfl
theorem laidOut : laidOutB Tryd.prog = true := by kernel_rfl
open Go.Proofs.YtjhagdjjlgjlbaaDoorW.PrintWords Go.Proofs.YtjhagdjjlgjlbaaDoor.OFnExactArgsText Go.Proofs.YtjhagdjjlgjlbaaDoor.Tree
set_option maxRecDepth 100000 in
theorem opens32 {H : Type} {enc : TypeId × Value → H} {W : World} {base : Nat} {spare : Nat → Bool} {held : Bool} (n : Nat) : Opens enc Tryd.prog W base spare held n 32 k32 Pure.OkV := by
 induction n using Nat.strongRecOn with
 | _ n ih =>
 have h := Opens.struct (enc := enc) (W := W) (base := base) (spare := spare) (held := held) (f := (fun x : S32 => (x.f0, x.f1, x.f2, x.f3))) (n := n) Tryd.underlying32 (by kernel_rfl) (fun m hm => (OpensF.pair rfl (by kernel_rfl) (Opens.int Tryd.underlying3) (OpensF.pair rfl (by kernel_rfl) (Opens.string Tryd.underlying9) (OpensF.pair rfl (by kernel_rfl) (Opens.slice Tryd.underlying29 (by kernel_rfl) (fun m_ hm_ => ih m_ (by omega)) (b := 72) (by kernel_rfl)) (OpensF.one rfl (by kernel_rfl) (Opens.slice Tryd.underlying30 (by kernel_rfl) (fun m_ hm_ => Opens.string Tryd.underlying9) (b := 16) (by kernel_rfl))))))) (fun z => (⟨z.1, z.2.1, z.2.2.1, z.2.2.2⟩ : S32)) (fun _ => rfl)
 refine h.imp (fun x cs hK => ?_) (fun x hB => Pure.OkV.mk _ hB.1 hB.2.1 hB.2.2.1.1 hB.2.2.1.2 hB.2.2.2.1 hB.2.2.2.2)
 obtain ⟨_, _, rfl, rfl, ⟨_, _, rfl, rfl, ⟨_, _, rfl, ⟨A2, c2, rfl, l2, g2⟩, ⟨A3, c3, rfl, l3, g3⟩⟩⟩⟩ := hK
 exact k32_mk W x l2 g2 l3 g3
set_option maxRecDepth 100000 in
theorem opens68 {H : Type} {enc : TypeId × Value → H} {W : World} {base : Nat} {spare : Nat → Bool} {held : Bool} (n : Nat) : Opens enc Tryd.prog W base spare held n 68 k68 Pure.OkA := by
 have h := Opens.struct (enc := enc) (W := W) (base := base) (spare := spare) (held := held) (f := (fun x : S68 => (x.f0, x.f1))) (n := n) Tryd.underlying68 (by kernel_rfl) (fun m hm => (OpensF.pair rfl (by kernel_rfl) (Opens.string Tryd.underlying9) (OpensF.one rfl (by kernel_rfl) (opens32 _)))) (fun z => (⟨z.1, z.2⟩ : S68)) (fun _ => rfl)
 exact h.imp (fun x cs hK => hK) (fun x hB => Pure.OkA.mk _ hB.1 hB.2)
set_option maxRecDepth 100000 in
theorem lifted (os : Os) (started : os.Started) (H : Type) (enc : TypeId × Value → H) :
  ReturnsInHanded {} Tryd.checked os 8 .any (fun w args => (Rows.fnExactArgsTextSpec.pre enc Tryd.prog Tryd.f8 Rows.fnExactArgsTextRow.domain false w args ∧ laidMetH Tryd.prog Rows.fnExactArgsTextRow.laid w) ∧ sizedMet enc Tryd.prog Tryd.f8 (OpenSpec.ofChange Rows.fnExactArgsTextSpec) false w args)
   (Rows.fnExactArgsTextSpec.post enc Tryd.prog Tryd.f8 false true false false) := by
 refine GlU.change_and_shaped (C := Tryd.checked) (X := fun w _ => laidMetH Tryd.prog Rows.fnExactArgsTextRow.laid w) (fun _ _ _ hh h => h.of_heap hh) own started (by kernel_rfl) Tryd.func8
  (ChangeSpec.witness_shaped (enc := enc) (C := Tryd.checked) (os := os) (X := fun w _ => laidMetH Tryd.prog Rows.fnExactArgsTextRow.laid w) false (World.laidAll Tryd.prog os Rows.fnExactArgsTextRow.laid) #[.slice none 0 0] 8 (World.laidAll_os _ _ _)
   (World.shaped_of_ZipB (by kernel_rfl) (by kernel_rfl)) (by kernel_rfl) (by kernel_rfl) (by kernel_rfl)
   (by rw [MakeChecks.laidMetH_plain _ _ _ (by kernel_rfl)]; exact laidMet_laidAll _ (by kernel_rfl) (by kernel_rfl))) ?_
 intro W base args ds gs before hval0 hW hcnd hsz0 hL hsh _
 rw [MakeChecks.laidMetH_plain _ _ _ (by kernel_rfl)] at hL
 have hG : GlU.Gl W := GlU.Gl.of_laid (Lib.laidMet.reads hL (.tail _ (.head _))) (Lib.laidMet.reads hL (.head _)) hsh
 have hsz : (DataW.weightsEach Tryd.prog (Tryd.f8.params.toList ++ Rows.fnExactArgsTextSpec.plain.varTypes Tryd.prog) (ds ++ gs)).all (· ≤ reachBytes) = true := hsz0
 have hval : ∀ (j : Nat) t v, Tryd.f8.params[j]? = some t → args[j]? = some v → Value.okWide Tryd.prog W .any base t v := hval0
 have hW' := hW
 obtain ⟨p, q, hA0, hV, rfl, hfz, hnd⟩ := hW
 have hA : DataW.TrodAll enc Tryd.prog W 0 (fun _ => true) true Tryd.f8.params.toList args.toList ds p := hA0
 rw [Tryd.params8] at hA hval hsz
 obtain ⟨v0, vs0, d0, ds0, p0, q0, hargs, rfl, rfl, h0, r0⟩ := trodAll_cons hA
 obtain ⟨rfl, rfl, rfl⟩ := trodAll_nil r0
 obtain rfl : args = #[v0] := by cases args; simp_all
 obtain ⟨rfl, rfl⟩ := trodVars_none hV
 have k0 := h0
 have lt0 : ∀ x ∈ p0, x.block < W.heap.size := by obtain ⟨m, hm⟩ := k0; exact DataW.trod_lt m _ _ _ hm
 obtain ⟨fu0, hf0⟩ := h0
 have li0 : Light Tryd.prog 41 d0 := light_of hsz (j := 0) (t := 41) rfl rfl
 obtain ⟨a0, len0, cap0, rfl⟩ := okWide_slice Tryd.underlying41 (hval 0 41 v0 rfl rfl)
 obtain ⟨x0, ⟨A0, c0, e0, l0, g0⟩, hO0⟩ := Opens.slice Tryd.underlying41 (by kernel_rfl) (fun m_ hm_ => opens68 m_) (b := 88) (by kernel_rfl) _ _ hf0 li0
 obtain ⟨rfl, rfl, rfl⟩ : a0 = A0 ∧ len0 = x0.length ∧ cap0 = c0 := by simpa [Value.cells] using e0
 clear hA0 hval0 hsz0 hsz
 obtain ⟨k, hk⟩ := Pure.FnExactArgsText x0 hO0
 refine (OFnExactArgsText.laws_FnExactArgsText.calls k a0 cap0 x0 true W g0 l0 hG hk).mono fun e W' ⟨he, bel⟩ => ?_
 subst he
 exact ⟨_, rfl, _, _, _, [], _, [], hW', trodAll_mk1 (shut_bool Tryd.underlying4 _), (trodAll_cons_mk (Below.trod laidOut (by kernel_rfl) (of_decide_eq_true (by kernel_rfl)) k0 bel lt0) trodAll_mk0), rfl, bel.frame _, fun h => by cases h⟩
theorem over : Rows.fnExactArgsTextRow.holds Tryd.pinned (OpenSpec.ofChange Rows.fnExactArgsTextSpec) :=
 OpenClaim.holds_of_wide 8 Tryd.f8 rfl rfl rfl rfl rfl rfl rfl ⟨rfl, rfl, rfl, rfl, rfl⟩ rfl rfl rfl rfl rfl (by kernel_rfl) Tryd.func8 (by kernel_rfl)
  (of_decide_eq_true (by kernel_rfl)) (by unfold Func.isWrapper; first | (rw [if_pos (by decide +kernel)]; kernel_rfl) | (rw [if_neg (by decide +kernel)]; exact ⟨rfl, rfl⟩))
  (fun os started H enc _ => lifted os started H enc)
theorem proved : Rows.FnExactArgsTextSaid := over
theorem card_proved : Rows.FnExactArgsTextCardSaid :=
 Claim7.holds_tied_plain_at .later [] [.data, .pinned] true (true, "87c486163f7b28bb66976101a95f6ff38701e9e85f923a2d19945eebebacd50e") false proved (fun _ h => by cases h) (by kernel_rfl) (fun _ h => by cases h) fnExactArgsText_row_tie rfl ⟨rfl, rfl⟩ (by kernel_rfl) rfl
  (fun f fn hf hfn => by
   obtain rfl : f = 8 := Option.some.inj ((show Tryd.prog.funcNamed Tryd.f8.name = some 8 by kernel_rfl).symm.trans hf) |>.symm
   obtain rfl : fn = Tryd.f8 := (Option.some.inj (Tryd.func8.symm.trans hfn)).symm
   exact ⟨by kernel_rfl, fun j t ht => by
    rw [Tryd.params8] at ht
    have hm : t ∈ [41] := by simpa using Array.mem_of_getElem? ht
    have hall : ([41].all fun u => !Tryd.prog.wantsStandIn u) = true := by kernel_rfl
    exact (show Tryd.prog.wantsStandIn t = false by simpa using List.all_eq_true.1 hall t hm)⟩)
  (by kernel_rfl)
end Go.Proofs.YtjhagdjjlgjlbaaDoor.fnExactArgsText
namespace Go.Proofs.YtjhagdjjlgjlbaaDoor
/-- The row, under a short name, for the claim. -/
theorem fnExactArgsText_holds : Rows.FnExactArgsTextCardSaid := fnExactArgsText.card_proved
end Go.Proofs.YtjhagdjjlgjlbaaDoor
-- narrow
