/- For every value (a tree of values) within reach the program's ValueText and the reference's return the same text. Strings are those that the form reads: of at most 140737488351232 bytes. -/
import Derived.Test.YtjhagdjjlgjlbaaDoorTreeFnExactValueText
import Derived.Test.YtjhagdjjlgjlbaaDoorRows
import Derived.Test.YtjhagdjjlgjlbaaDoorOFnExactValueTextx14
import Derived.Test.YtjhagdjjlgjlbaaDoorPureFnExactValueText
import Derived.WalkKit
import Derived.ProofKit
import Derived.OpenShut
import Derived.ShutString
import Derived.ChangeOld
import Derived.Below
import Derived.SizedLaws
import Derived.Lib.SmallJoins
import Derived.ChangeArms
import Derived.ChangeSlices
import Derived.LaidMore
import Derived.Lay
import Derived.SevenTiedAt
import Derived.Stop.Joined
import Derived.Lib.LaidU8
import Derived.Test.YtjhagdjjlgjlbaaDoorTie
import Derived.Test.YtjhagdjjlgjlbaaDoorCards
namespace Go.Proofs.YtjhagdjjlgjlbaaDoor.fnExactValueText
open Go.ChangeShapes Go.WideShapes Go.ChangeAt Go.RowKit Go.Joins
open Go.ChangeMaps (open_string shut_string)
set_option linter.unusedVariables false
theorem own : ownKnob Tryd.prog.godebug = none := by kernel_rfl
theorem laidOut : laidOutB Tryd.prog = true := by kernel_rfl
open Go.Proofs.YtjhagdjjlgjlbaaDoorW.PrintWords Go.Proofs.YtjhagdjjlgjlbaaDoor.OFnExactValueText Go.Proofs.YtjhagdjjlgjlbaaDoor.Tree
set_option maxRecDepth 100000 in
theorem opens32 {H : Type} {enc : TypeId × Value → H} {W : World} {base : Nat} {spare : Nat → Bool} {held : Bool} (n : Nat) : Opens enc Tryd.prog W base spare held n 32 k32 Pure.OkV := by
 induction n using Nat.strongRecOn with
 | _ n ih =>
 have h := Opens.struct (enc := enc) (W := W) (base := base) (spare := spare) (held := held) (f := (fun x : S32 => (x.f0, x.f1, x.f2, x.f3))) (n := n) Tryd.underlying32 (by kernel_rfl) (fun m hm => (OpensF.pair rfl (by kernel_rfl) (Opens.int Tryd.underlying3) (OpensF.pair rfl (by kernel_rfl) (Opens.string Tryd.underlying9) (OpensF.pair rfl (by kernel_rfl) (Opens.slice Tryd.underlying29 (by kernel_rfl) (fun m_ hm_ => ih m_ (by omega)) (b := 72) (by kernel_rfl)) (OpensF.one rfl (by kernel_rfl) (Opens.slice Tryd.underlying30 (by kernel_rfl) (fun m_ hm_ => Opens.string Tryd.underlying9) (b := 16) (by kernel_rfl))))))) (fun z => (⟨z.1, z.2.1, z.2.2.1, z.2.2.2⟩ : S32)) (fun _ => rfl)
 refine h.imp (fun x cs hK => ?_) (fun x hB => Pure.OkV.mk _ hB.1 hB.2.1 hB.2.2.1.1 hB.2.2.1.2 hB.2.2.2.1 hB.2.2.2.2)
 obtain ⟨_, _, rfl, rfl, ⟨_, _, rfl, rfl, ⟨_, _, rfl, ⟨A2, c2, rfl, l2, g2⟩, ⟨A3, c3, rfl, l3, g3⟩⟩⟩⟩ := hK
 exact k32_mk W x l2 g2 l3 g3
set_option maxRecDepth 100000 in
theorem lifted (os : Os) (started : os.Started) (H : Type) (enc : TypeId × Value → H) :
  ReturnsInHanded {} Tryd.checked os 6 .any (fun w args => (Rows.fnExactValueTextSpec.pre enc Tryd.prog Tryd.f6 Rows.fnExactValueTextRow.domain false w args ∧ laidMetH Tryd.prog Rows.fnExactValueTextRow.laid w) ∧ sizedMet enc Tryd.prog Tryd.f6 (OpenSpec.ofChange Rows.fnExactValueTextSpec) false w args)
   (Rows.fnExactValueTextSpec.post enc Tryd.prog Tryd.f6 false true false false) := by
 refine GlU.change_and_shaped (C := Tryd.checked) (X := fun w _ => laidMetH Tryd.prog Rows.fnExactValueTextRow.laid w) (fun _ _ _ hh h => h.of_heap hh) own started (by kernel_rfl) Tryd.func6
  (ChangeSpec.witness_shaped (enc := enc) (C := Tryd.checked) (os := os) (X := fun w _ => laidMetH Tryd.prog Rows.fnExactValueTextRow.laid w) false (World.laidAll Tryd.prog os Rows.fnExactValueTextRow.laid) #[.agg #[.int .i64 0, .string ByteArray.empty, .slice none 0 0, .slice none 0 0]] 8 (World.laidAll_os _ _ _)
   (World.shaped_of_ZipB (by kernel_rfl) (by kernel_rfl)) (by kernel_rfl) (by kernel_rfl) (by kernel_rfl)
   (by rw [MakeChecks.laidMetH_plain _ _ _ (by kernel_rfl)]; exact laidMet_laidAll _ (by kernel_rfl) (by kernel_rfl))) ?_
 intro W base args ds gs before hval0 hW hcnd hsz0 hL hsh _
 rw [MakeChecks.laidMetH_plain _ _ _ (by kernel_rfl)] at hL
 have hG : GlU.Gl W := GlU.Gl.of_laid (Lib.laidMet.reads hL (.tail _ (.head _))) (Lib.laidMet.reads hL (.head _)) hsh
 have hsz : (DataW.weightsEach Tryd.prog (Tryd.f6.params.toList ++ Rows.fnExactValueTextSpec.plain.varTypes Tryd.prog) (ds ++ gs)).all (· ≤ reachBytes) = true := hsz0
 have hval : ∀ (j : Nat) t v, Tryd.f6.params[j]? = some t → args[j]? = some v → Value.okWide Tryd.prog W .any base t v := hval0
 have hW' := hW
 obtain ⟨p, q, hA0, hV, rfl, hfz, hnd⟩ := hW
 have hA : DataW.TrodAll enc Tryd.prog W 0 (fun _ => true) true Tryd.f6.params.toList args.toList ds p := hA0
 rw [Tryd.params6] at hA hval hsz
 obtain ⟨v0, vs0, d0, ds0, p0, q0, hargs, rfl, rfl, h0, r0⟩ := trodAll_cons hA
 obtain ⟨rfl, rfl, rfl⟩ := trodAll_nil r0
 obtain rfl : args = #[v0] := by cases args; simp_all
 obtain ⟨rfl, rfl⟩ := trodVars_none hV
 have k0 := h0
 have lt0 : ∀ x ∈ p0, x.block < W.heap.size := by obtain ⟨m, hm⟩ := k0; exact DataW.trod_lt m _ _ _ hm
 obtain ⟨fu0, hf0⟩ := h0
 have li0 : Light Tryd.prog 32 d0 := light_of hsz (j := 0) (t := 32) rfl rfl
 obtain ⟨cs0, rfl, z0⟩ := okWide_struct Tryd.underlying32 (hval 0 32 v0 rfl rfl)
 obtain ⟨x0, hK0, hO0⟩ := opens32 fu0 _ _ hf0 li0
 obtain ⟨A0_2, c0_2, A0_3, c0_3, e0, l0_2, g0_2, l0_3, g0_3⟩ := k32_open hK0
 obtain rfl : cs0 = #[.int .i64 x0.f0, .string x0.f1, .slice A0_2 x0.f2.length c0_2, .slice A0_3 x0.f3.length c0_3] := by
  apply Array.toList_inj.1
  simpa [Value.cells] using e0
 clear hA0 hval0 hsz0 hsz
 obtain ⟨k, hk⟩ := Pure.FnExactValueText x0 hO0
 refine (OFnExactValueText.laws_FnExactValueText.calls k x0.f0 x0.f1 A0_2 c0_2 x0.f2 A0_3 c0_3 x0.f3 true W g0_2 l0_2 g0_3 l0_3 hG hk).mono fun e W' ⟨he, bel⟩ => ?_
 subst he
 exact ⟨_, rfl, _, _, _, [], _, [], hW', trodAll_mk1 (shut_bool Tryd.underlying4 _), (trodAll_cons_mk (Below.trod laidOut (by kernel_rfl) (of_decide_eq_true (by kernel_rfl)) k0 bel lt0) trodAll_mk0), rfl, bel.frame _, fun h => by cases h⟩
theorem over : Rows.fnExactValueTextRow.holds Tryd.pinned (OpenSpec.ofChange Rows.fnExactValueTextSpec) :=
 OpenClaim.holds_of_wide 6 Tryd.f6 rfl rfl rfl rfl rfl rfl rfl ⟨rfl, rfl, rfl, rfl, rfl⟩ rfl rfl rfl rfl rfl (by kernel_rfl) Tryd.func6 (by kernel_rfl)
  (of_decide_eq_true (by kernel_rfl)) (by unfold Func.isWrapper; first | (rw [if_pos (by decide +kernel)]; kernel_rfl) | (rw [if_neg (by decide +kernel)]; exact ⟨rfl, rfl⟩))
  (fun os started H enc _ => lifted os started H enc)
theorem proved : Rows.FnExactValueTextSaid := over
theorem card_proved : Rows.FnExactValueTextCardSaid :=
 Claim7.holds_tied_plain_at .later [] [.data, .pinned] true (true, "87c486163f7b28bb66976101a95f6ff38701e9e85f923a2d19945eebebacd50e") false proved (fun _ h => by cases h) (by kernel_rfl) (fun _ h => by cases h) fnExactValueText_row_tie rfl ⟨rfl, rfl⟩ (by kernel_rfl) rfl
  (fun f fn hf hfn => by
   obtain rfl : f = 6 := Option.some.inj ((show Tryd.prog.funcNamed Tryd.f6.name = some 6 by kernel_rfl).symm.trans hf) |>.symm
   obtain rfl : fn = Tryd.f6 := (Option.some.inj (Tryd.func6.symm.trans hfn)).symm
   exact ⟨by kernel_rfl, fun j t ht => by
    rw [Tryd.params6] at ht
    have hm : t ∈ [32] := by simpa using Array.mem_of_getElem? ht
    have hall : ([32].all fun u => !Tryd.prog.wantsStandIn u) = true := by kernel_rfl
    exact (show Tryd.prog.wantsStandIn t = false by simpa using List.all_eq_true.1 hall t hm)⟩)
  (by kernel_rfl)
end Go.Proofs.YtjhagdjjlgjlbaaDoor.fnExactValueText
namespace Go.Proofs.YtjhagdjjlgjlbaaDoor
/-- The row, under a short name, for the claim. -/
theorem fnExactValueText_holds : Rows.FnExactValueTextCardSaid := fnExactValueText.card_proved
end Go.Proofs.YtjhagdjjlgjlbaaDoor
-- narrow
