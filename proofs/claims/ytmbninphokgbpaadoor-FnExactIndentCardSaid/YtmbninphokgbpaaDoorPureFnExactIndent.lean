/- For every string of at most 140737488351232 bytes the program's Indent and the reference's return the same number (strings above 2^20 bytes are not asked by the law). -/
import Derived.Test.YtmbninphokgbpaaDoorOFnExactIndentx1
import Derived.Test.YtmbninphokgbpaaDoorBase
namespace Go.Proofs.YtmbninphokgbpaaDoor.Pure
open Go.RowKit Go.Proofs.YtmbninphokgbpaaDoor.OFnExactIndent Go.Proofs.YtmbninphokgbpaaDoorW.PrintWords Go.Proofs.YtmbninphokgbpaaDoorW.PrintLast Go.Proofs.YtmbninphokgbpaaDoorW.PrintMore Go.Proofs.YtmbninphokgbpaaDoor.Base
set_option linter.unusedVariables false
set_option linter.unusedSimpArgs false

def blB (x : Int) : Bool := x == 32 || x == 9
/-- How many blanks stand at the begin. -/
def indN (l : List Int) : Nat := (l.takeWhile blB).length
theorem indN_cons (x : Int) (r : List Int) : indN (x :: r) = if blB x = true then indN r + 1 else 0 := by
  unfold indN; rw [List.takeWhile_cons]; cases blB x <;> simp
theorem indN_le (l : List Int) : indN l ≤ l.length := (List.takeWhile_sublist blB).length_le
theorem trimLeft_len (l : List UInt8) : (Lib.trimLeftS l [32, 9]).length + indN (l.map fun b => (b.toNat : Int)) = l.length := by
  unfold Lib.trimLeftS
  induction l with
  | nil => rfl
  | cons b l ih =>
    have e : blB (b.toNat : Int) = ([32, 9] : List UInt8).contains b := by
      unfold blB
      rw [Bool.eq_iff_iff]
      simp only [Bool.or_eq_true, beq_iff_eq, List.contains_cons, List.contains_nil, Bool.or_false]
      constructor
      · rintro (h | h)
        · left; apply UInt8.toNat_inj.1; show b.toNat = 32; omega
        · right; apply UInt8.toNat_inj.1; show b.toNat = 9; omega
      · rintro (h | h)
        · left; subst h; rfl
        · right; subst h; rfl
    rw [List.dropWhile_cons, List.map_cons, indN_cons, e, List.length_cons]
    cases h : ([32, 9] : List UInt8).contains b with
    | true => simp only [if_true]; omega
    | false => simp

theorem impl_Indent.eq (s : ByteArray) (hs : s.size ≤ 140737488351232) : impl_Indent.f s = some ((indN (bytesOf s) : Nat) : Int) := by
  have h := trimLeft_len s.data.toList
  have hl : s.data.toList.length = s.size := by rw [Array.length_toList]; rfl
  have e : (⟨(Lib.trimLeftS s.data.toList [32, 9]).toArray⟩ : ByteArray).size = (Lib.trimLeftS s.data.toList [32, 9]).length := by
    show (Lib.trimLeftS s.data.toList [32, 9]).toArray.size = _; simp
  have hb : bytesOf s = s.data.toList.map fun b => (b.toNat : Int) := rfl
  unfold impl_Indent.f strings_TrimLeft.f
  rw [if_pos ⟨by omega, by decide, by decide⟩]
  show some (wrap64 ((s.size : Int) - ((⟨(Lib.trimLeftS s.data.toList [32, 9]).toArray⟩ : ByteArray).size : Int))) = _
  rw [e, hb, w64 (by omega) (by omega)]
  congr 1; omega

theorem spec_Indent.l0_ev (s : ByteArray) (hs : s.size ≤ 140737488351232) (n : Nat) : ∀ i : Int, 0 ≤ i → (s.size : Int) - i ≤ n → Ev (fun k => spec_Indent.l0 k s i) (i + indN (tl s i)) := by
  induction n with
  | zero =>
    intro i h0 hn
    apply Ev.succ; simp only [spec_Indent.l0]
    rw [tl_nil (by omega)]
    exact Ev.ite_neg (by omega) (Ev.done (by simp [indN]))
  | succ n ih =>
    intro i h0 hn
    apply Ev.succ; simp only [spec_Indent.l0]
    by_cases c : i < (s.size : Int)
    · have hE := ih (i + 1) (by omega) (by omega)
      rw [tl_cons h0 c, indN_cons, w64 (x := i + 1) (by omega) (by omega)]
      refine Ev.ite_pos c (Ev.ite_pos h0 ?_)
      by_cases d : bt s i = 32
      · rw [if_pos (by unfold blB; simp [d])]
        exact Ev.ite_pos d (hE.get (by omega))
      · refine Ev.ite_neg d ?_
        by_cases e : bt s i = 9
        · rw [if_pos (by unfold blB; simp [e])]
          exact Ev.ite_pos e (hE.get (by omega))
        · rw [if_neg (by unfold blB; simp [d, e])]
          exact Ev.ite_neg e (Ev.done (by omega))
    · rw [tl_nil (by omega)]
      exact Ev.ite_neg c (Ev.done (by simp [indN]))
theorem spec_Indent.ev (s : ByteArray) (hs : s.size ≤ 140737488351232) : Ev (fun k => spec_Indent.f k s) ((indN (bytesOf s) : Nat) : Int) := by
  unfold spec_Indent.f
  refine (spec_Indent.l0_ev s hs s.size 0 (by omega) (by omega)).get ?_
  rw [tl_zero]; omega

theorem FnExactIndent : laws_FnExactIndent.Pure := by
  intro s hs
  apply Ev.out
  unfold laws_FnExactIndent.f
  by_cases h : (s.size : Int) > 1048576
  · exact Ev.ite_pos h (Ev.done rfl)
  · exact Ev.ite_neg h ((spec_Indent.ev s hs).bind (Ev.bindc (impl_Indent.eq s hs) (Ev.ite_pos rfl (Ev.done rfl))))


end Go.Proofs.YtmbninphokgbpaaDoor.Pure
