/- For every list of directives within reach the program's DirsText and the reference's return the same text. Strings are those that the form reads: of at most 140737488351232 bytes. -/
import Derived.Test.YtjhagdjjlgjlbaaGreatDoorTreeFnExactDirsText
import Derived.Test.YtjhagdjjlgjlbaaGreatDoorRows
import Derived.Test.YtjhagdjjlgjlbaaGreatDoorOFnExactDirsTextx20
import Derived.Test.YtjhagdjjlgjlbaaGreatDoorPureFnExactDirsText
import Derived.WalkKit
import Derived.ProofKit
import Derived.OpenShut
import Derived.ShutString
import Derived.ChangeOld
import Derived.Below
import Derived.SizedLaws
import Derived.Lib.SmallJoins
import Derived.ChangeArms
import Derived.ChangeSlices
import Derived.LaidMore
import Derived.Lay
import Derived.SevenTiedAt
import Derived.Stop.Joined
import Derived.Lib.LaidU8
import Derived.Test.YtjhagdjjlgjlbaaGreatDoorTie
import Derived.Test.YtjhagdjjlgjlbaaGreatDoorCards
namespace Go.Proofs.YtjhagdjjlgjlbaaGreatDoor.fnExactDirsText
open Go.ChangeShapes Go.WideShapes Go.ChangeAt Go.RowKit Go.Joins
open Go.ChangeMaps (open_string shut_string)
set_option linter.unusedVariables false
theorem own : ownKnob Tryz.prog.godebug = none := by kernel_rfl
theorem laidOut : laidOutB Tryz.prog = true := by kernel_rfl
open Go.Proofs.YtjhagdjjlgjlbaaGreatDoorW.PrintWords Go.Proofs.YtjhagdjjlgjlbaaGreatDoor.OFnExactDirsText Go.Proofs.YtjhagdjjlgjlbaaGreatDoor.Tree
set_option maxRecDepth 100000 in
theorem opens61 {H : Type} {enc : TypeId × Value → H} {W : World} {base : Nat} {spare : Nat → Bool} {held : Bool} (n : Nat) : Opens enc Tryz.prog W base spare held n 61 k61 Pure.OkV := by
 induction n using Nat.strongRecOn with
 | _ n ih =>
 have h := Opens.struct (enc := enc) (W := W) (base := base) (spare := spare) (held := held) (f := (fun x : S61 => (x.f0, x.f1, x.f2, x.f3))) (n := n) Tryz.underlying61 (by kernel_rfl) (fun m hm => (OpensF.pair rfl (by kernel_rfl) (Opens.int Tryz.underlying3) (OpensF.pair rfl (by kernel_rfl) (Opens.string Tryz.underlying9) (OpensF.pair rfl (by kernel_rfl) (Opens.slice Tryz.underlying59 (by kernel_rfl) (fun m_ hm_ => ih m_ (by omega)) (b := 72) (by kernel_rfl)) (OpensF.one rfl (by kernel_rfl) (Opens.slice Tryz.underlying49 (by kernel_rfl) (fun m_ hm_ => Opens.string Tryz.underlying9) (b := 16) (by kernel_rfl))))))) (fun z => (⟨z.1, z.2.1, z.2.2.1, z.2.2.2⟩ : S61)) (fun _ => rfl)
 refine h.imp (fun x cs hK => ?_) (fun x hB => Pure.OkV.mk _ hB.1 hB.2.1 hB.2.2.1.1 hB.2.2.1.2 hB.2.2.2.1 hB.2.2.2.2)
 obtain ⟨_, _, rfl, rfl, ⟨_, _, rfl, rfl, ⟨_, _, rfl, ⟨A2, c2, rfl, l2, g2⟩, ⟨A3, c3, rfl, l3, g3⟩⟩⟩⟩ := hK
 exact k61_mk W x l2 g2 l3 g3
set_option maxRecDepth 100000 in
theorem opens63 {H : Type} {enc : TypeId × Value → H} {W : World} {base : Nat} {spare : Nat → Bool} {held : Bool} (n : Nat) : Opens enc Tryz.prog W base spare held n 63 k63 Pure.OkA := by
 have h := Opens.struct (enc := enc) (W := W) (base := base) (spare := spare) (held := held) (f := (fun x : S63 => (x.f0, x.f1))) (n := n) Tryz.underlying63 (by kernel_rfl) (fun m hm => (OpensF.pair rfl (by kernel_rfl) (Opens.string Tryz.underlying9) (OpensF.one rfl (by kernel_rfl) (opens61 _)))) (fun z => (⟨z.1, z.2⟩ : S63)) (fun _ => rfl)
 exact h.imp (fun x cs hK => hK) (fun x hB => Pure.OkA.mk _ hB.1 hB.2)
set_option maxRecDepth 100000 in
theorem opens32 {H : Type} {enc : TypeId × Value → H} {W : World} {base : Nat} {spare : Nat → Bool} {held : Bool} (n : Nat) : Opens enc Tryz.prog W base spare held n 32 k32 Pure.OkD := by
 have h := Opens.struct (enc := enc) (W := W) (base := base) (spare := spare) (held := held) (f := (fun x : S32 => (x.f0, x.f1))) (n := n) Tryz.underlying32 (by kernel_rfl) (fun m hm => (OpensF.pair rfl (by kernel_rfl) (Opens.string Tryz.underlying9) (OpensF.one rfl (by kernel_rfl) (Opens.slice Tryz.underlying30 (by kernel_rfl) (fun m_ hm_ => opens63 m_) (b := 88) (by kernel_rfl))))) (fun z => (⟨z.1, z.2⟩ : S32)) (fun _ => rfl)
 exact h.imp (fun x cs hK => hK) (fun x hB => Pure.OkD.mk _ hB.1 hB.2.1 hB.2.2)
set_option maxRecDepth 100000 in
theorem lifted (os : Os) (started : os.Started) (H : Type) (enc : TypeId × Value → H) :
  ReturnsInHanded {} Tryz.checked os 3 .any (fun w args => (Rows.fnExactDirsTextSpec.pre enc Tryz.prog Tryz.f3 Rows.fnExactDirsTextRow.domain false w args ∧ laidMetH Tryz.prog Rows.fnExactDirsTextRow.laid w) ∧ sizedMet enc Tryz.prog Tryz.f3 (OpenSpec.ofChange Rows.fnExactDirsTextSpec) false w args)
   (Rows.fnExactDirsTextSpec.post enc Tryz.prog Tryz.f3 false true false false) := by
 refine GlU.change_and_shaped (C := Tryz.checked) (X := fun w _ => laidMetH Tryz.prog Rows.fnExactDirsTextRow.laid w) (fun _ _ _ hh h => h.of_heap hh) own started (by kernel_rfl) Tryz.func3
  (ChangeSpec.witness_shaped (enc := enc) (C := Tryz.checked) (os := os) (X := fun w _ => laidMetH Tryz.prog Rows.fnExactDirsTextRow.laid w) false (World.laidAll Tryz.prog os Rows.fnExactDirsTextRow.laid) #[.slice none 0 0] 8 (World.laidAll_os _ _ _)
   (World.shaped_of_ZipB (by kernel_rfl) (by kernel_rfl)) (by kernel_rfl) (by kernel_rfl) (by kernel_rfl)
   (by rw [MakeChecks.laidMetH_plain _ _ _ (by kernel_rfl)]; exact laidMet_laidAll _ (by kernel_rfl) (by kernel_rfl))) ?_
 intro W base args ds gs before hval0 hW hcnd hsz0 hL hsh _
 rw [MakeChecks.laidMetH_plain _ _ _ (by kernel_rfl)] at hL
 have hG : GlU.Gl W := GlU.Gl.of_laid (Lib.laidMet.reads hL (.tail _ (.head _))) (Lib.laidMet.reads hL (.head _)) hsh
 have hsz : (DataW.weightsEach Tryz.prog (Tryz.f3.params.toList ++ Rows.fnExactDirsTextSpec.plain.varTypes Tryz.prog) (ds ++ gs)).all (· ≤ reachBytes) = true := hsz0
 have hval : ∀ (j : Nat) t v, Tryz.f3.params[j]? = some t → args[j]? = some v → Value.okWide Tryz.prog W .any base t v := hval0
 have hW' := hW
 obtain ⟨p, q, hA0, hV, rfl, hfz, hnd⟩ := hW
 have hA : DataW.TrodAll enc Tryz.prog W 0 (fun _ => true) true Tryz.f3.params.toList args.toList ds p := hA0
 rw [Tryz.params3] at hA hval hsz
 obtain ⟨v0, vs0, d0, ds0, p0, q0, hargs, rfl, rfl, h0, r0⟩ := trodAll_cons hA
 obtain ⟨rfl, rfl, rfl⟩ := trodAll_nil r0
 obtain rfl : args = #[v0] := by cases args; simp_all
 obtain ⟨rfl, rfl⟩ := trodVars_none hV
 have k0 := h0
 have lt0 : ∀ x ∈ p0, x.block < W.heap.size := by obtain ⟨m, hm⟩ := k0; exact DataW.trod_lt m _ _ _ hm
 obtain ⟨fu0, hf0⟩ := h0
 have li0 : Light Tryz.prog 22 d0 := light_of hsz (j := 0) (t := 22) rfl rfl
 obtain ⟨a0, len0, cap0, rfl⟩ := okWide_slice Tryz.underlying22 (hval 0 22 v0 rfl rfl)
 obtain ⟨x0, ⟨A0, c0, e0, l0, g0⟩, hO0⟩ := Opens.slice Tryz.underlying22 (by kernel_rfl) (fun m_ hm_ => opens32 m_) (b := 40) (by kernel_rfl) _ _ hf0 li0
 obtain ⟨rfl, rfl, rfl⟩ : a0 = A0 ∧ len0 = x0.length ∧ cap0 = c0 := by simpa [Value.cells] using e0
 clear hA0 hval0 hsz0 hsz
 obtain ⟨k, hk⟩ := Pure.FnExactDirsText x0 hO0
 refine (OFnExactDirsText.laws_FnExactDirsText.calls k a0 cap0 x0 true W g0 l0 hG hk).mono fun e W' ⟨he, bel⟩ => ?_
 subst he
 exact ⟨_, rfl, _, _, _, [], _, [], hW', trodAll_mk1 (shut_bool Tryz.underlying4 _), (trodAll_cons_mk (Below.trod laidOut (by kernel_rfl) (of_decide_eq_true (by kernel_rfl)) k0 bel lt0) trodAll_mk0), rfl, bel.frame _, fun h => by cases h⟩
theorem over : Rows.fnExactDirsTextRow.holds Tryz.pinned (OpenSpec.ofChange Rows.fnExactDirsTextSpec) :=
 OpenClaim.holds_of_wide 3 Tryz.f3 rfl rfl rfl rfl rfl rfl rfl ⟨rfl, rfl, rfl, rfl, rfl⟩ rfl rfl rfl rfl rfl (by kernel_rfl) Tryz.func3 (by kernel_rfl)
  (of_decide_eq_true (by kernel_rfl)) (by unfold Func.isWrapper; first | (rw [if_pos (by decide +kernel)]; kernel_rfl) | (rw [if_neg (by decide +kernel)]; exact ⟨rfl, rfl⟩))
  (fun os started H enc _ => lifted os started H enc)
theorem proved : Rows.FnExactDirsTextSaid := over
theorem card_proved : Rows.FnExactDirsTextCardSaid :=
 Claim7.holds_tied_plain_at .later [] [.data, .pinned] true (true, "6e66f22aa0bf4cdd82eac72960f1cb09034c5106f6ba829ac14a003741146dac") false proved (fun _ h => by cases h) (by kernel_rfl) (fun _ h => by cases h) fnExactDirsText_row_tie rfl ⟨rfl, rfl⟩ (by kernel_rfl) rfl
  (fun f fn hf hfn => by
   obtain rfl : f = 3 := Option.some.inj ((show Tryz.prog.funcNamed Tryz.f3.name = some 3 by kernel_rfl).symm.trans hf) |>.symm
   obtain rfl : fn = Tryz.f3 := (Option.some.inj (Tryz.func3.symm.trans hfn)).symm
   exact ⟨by kernel_rfl, fun j t ht => by
    rw [Tryz.params3] at ht
    have hm : t ∈ [22] := by simpa using Array.mem_of_getElem? ht
    have hall : ([22].all fun u => !Tryz.prog.wantsStandIn u) = true := by kernel_rfl
    exact (show Tryz.prog.wantsStandIn t = false by simpa using List.all_eq_true.1 hall t hm)⟩)
  (by kernel_rfl)
end Go.Proofs.YtjhagdjjlgjlbaaGreatDoor.fnExactDirsText
namespace Go.Proofs.YtjhagdjjlgjlbaaGreatDoor
/-- The row, under a short name, for the claim. -/
theorem fnExactDirsText_holds : Rows.FnExactDirsTextCardSaid := fnExactDirsText.card_proved
end Go.Proofs.YtjhagdjjlgjlbaaGreatDoor
-- narrow
