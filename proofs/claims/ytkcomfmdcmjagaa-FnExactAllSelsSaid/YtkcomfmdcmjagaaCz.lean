/- Plain words: how much data there is in selections, and in all that they hold; no statement of the program is proved here. No conditions. -/
import Derived.Test.YtkcomfmdcmjagaaCv
import Derived.Test.YtkcomfmdcmjagaaHw
import Derived.Test.YtkcomfmdcmjagaaPureFnExactAllSels
namespace Go.Proofs.Ytkcomfmdcmjagaa.OFnExactAllSels
open Go.Proofs.Ytkcomfmdcmjagaa.Lay Go.Proofs.Ytkcomfmdcmjagaa.Mark Go.Proofs.Ytkcomfmdcmjagaa.Pure
open Go.RowKit Go.Proofs.YtkcomfmdcmjagaaW.PrintWords Go.Proofs.YtkcomfmdcmjagaaW.PrintLast Go.Proofs.YtkcomfmdcmjagaaW.PrintMore
set_option linter.unusedVariables false
set_option linter.unusedSimpArgs false
/-- Signs and places. -/
def wt : D → Nat
  | .int _ => 0
  | .str s => s.size
  | .row n c => n + wt c
  | .nil => 0
  | .cons h t => wt h + wt t
theorem wt_list {α : Type} (f : α → D) : ∀ l, wt (D.list f l) = (l.map fun x => wt (f x)).sum
  | [] => rfl
  | x :: l => by rw [D.list, wt, wt_list f l]; rfl
theorem fits_of_wt : ∀ d : D, wt d ≤ 1073741824 → d.fits
  | .int _, _ => trivial
  | .str _, _ => trivial
  | .row n c, h => by
    rw [wt] at h
    exact ⟨by omega, fits_of_wt c (by omega)⟩
  | .nil, _ => trivial
  | .cons a b, h => by
    rw [wt] at h
    exact ⟨fits_of_wt a (by omega), fits_of_wt b (by omega)⟩
theorem wt_texts (l : List ByteArray) : l.length + wt (D.list dT l) = totStrs l := by
  rw [wt_list]
  rfl
theorem wtV {x : S25} (hx : OkV x) : wt (dV (cv x)) = totV x := by
  induction hx with
  | mk x h0 h1 h2 h2' h3 h3' ih =>
    rw [cv_eq, dV_eq, totV_eq, ← wt_texts]
    simp only [wt, wt_list, List.length_map, List.map_map]
    rw [List.map_congr_left (f := (fun y => wt (dV y)) ∘ cv) (g := totV) (fun y hy => ih y hy)]
    omega
theorem wtA {x : S76} (hx : OkA x) : wt (dA (ca x)) = totA x := by
  obtain ⟨h0, h1⟩ := hx
  show x.f0.size + wt (dV (cv x.f1)) = _
  rw [wtV h1]
  rfl
theorem wtAs {l : List S76} (hl : ∀ y ∈ l, OkA y) : wt (D.list dA (l.map ca)) = (l.map totA).sum := by
  rw [wt_list, List.map_map, List.map_congr_left (f := (fun y => wt (dA y)) ∘ ca) (g := totA) (fun y hy => wtA (hl y hy))]
theorem wtD {x : S93} (hx : OkD x) : wt (dD (cd x)) = totD x := by
  obtain ⟨h0, h1, h1'⟩ := hx
  show x.f0.size + ((x.f1.map ca).length + wt (D.list dA (x.f1.map ca)) + 0) = _
  rw [wtAs h1', List.length_map]
  rfl
theorem wtDs {l : List S93} (hl : ∀ y ∈ l, OkD y) : wt (D.list dD (l.map cd)) = (l.map totD).sum := by
  rw [wt_list, List.map_map, List.map_congr_left (f := (fun y => wt (dD y)) ∘ cd) (g := totD) (fun y hy => wtD (hl y hy))]
theorem wtS {x : S48} (hx : OkS x) : wt (dS (csel x)) = totS x := by
  induction hx with
  | mk x h0 h1 h2 h3 h4 h4' h5 h5' h6 h6' ih =>
    rw [csel_eq, dS_eq, totS_eq]
    simp only [wt, List.length_map, wtAs h4', wtDs h5', totAs, totDs]
    rw [wt_list, List.map_map, List.map_congr_left (f := (fun y => wt (dS y)) ∘ csel) (g := totS) (fun y hy => ih y hy)]
    omega
theorem cnt_list {α : Type} {f : α → D} {c : Nat} (hc : c ≤ 4) : ∀ l : List α, (∀ y ∈ l, (f y).cnt ≤ c + 4 * wt (f y)) → (D.list f l).cnt ≤ 4 * (l.length + wt (D.list f l))
  | [], _ => Nat.zero_le _
  | x :: l, h => by
    have h1 := h x List.mem_cons_self
    have h2 := cnt_list hc l (fun y hy => h y (List.mem_cons_of_mem _ hy))
    simp only [D.list, D.cnt, wt, List.length_cons]
    omega
theorem cT (l : List ByteArray) : (D.list dT l).cnt ≤ 4 * (l.length + wt (D.list dT l)) := cnt_list (c := 1) (by decide) l (fun y _ => Nat.le_add_right 1 _)
theorem cV (x : S30) : (dV x).cnt ≤ 2 + 4 * wt (dV x) := by
  induction x using indV with
  | h x ih =>
    have h1 := cnt_list (f := dV) (c := 2) (by decide) x.f2 ih
    have h2 := cT x.f3
    rw [dV_eq]
    simp only [D.cnt, wt]
    omega
theorem cA (x : S78) : (dA x).cnt ≤ 3 + 4 * wt (dA x) := by
  have h1 := cV x.f1
  show 1 + (dV x.f1).cnt ≤ 3 + 4 * (x.f0.size + wt (dV x.f1))
  omega
theorem cAs (l : List S78) : (D.list dA l).cnt ≤ 4 * (l.length + wt (D.list dA l)) := cnt_list (c := 3) (by decide) l (fun y _ => cA y)
theorem cD (x : S95) : (dD x).cnt ≤ 1 + 4 * wt (dD x) := by
  have h1 := cAs x.f1
  show 1 + ((D.list dA x.f1).cnt + 0) ≤ 1 + 4 * (x.f0.size + (x.f1.length + wt (D.list dA x.f1) + 0))
  omega
theorem cDs (l : List S95) : (D.list dD l).cnt ≤ 4 * (l.length + wt (D.list dD l)) := cnt_list (c := 1) (by decide) l (fun y _ => cD y)
theorem cS (x : S54) : (dS x).cnt ≤ 4 + 4 * wt (dS x) := by
  induction x using indS with
  | h x ih =>
    have h1 := cAs x.f4
    have h2 := cDs x.f5
    have h3 := cnt_list (f := dS) (c := 4) (by decide) x.f6 ih
    rw [dS_eq]
    simp only [D.cnt, wt]
    omega
theorem cSs (l : List S54) : (D.list dS l).cnt ≤ 4 * (l.length + wt (D.list dS l)) := cnt_list (c := 4) (by decide) l (fun y _ => cS y)
theorem wt_sel (x : S54) : x.f6.length + wt (D.list dS x.f6) ≤ wt (dS x) := by
  rw [dS_eq]
  simp only [wt]
  omega
theorem all_len (l : List S54) : (aSs l).length ≤ l.length + wt (D.list dS l) := by
  induction l using indSs with
  | h l ih =>
    induction l with
    | nil => exact Nat.zero_le _
    | cons x l ihl =>
      have h1 := ih x List.mem_cons_self
      have h2 := ihl (fun y hy => ih y (List.mem_cons_of_mem _ hy))
      have h3 := wt_sel x
      rw [aSs, aS_eq]
      simp only [List.length_append, List.length_cons, D.list, wt]
      omega
theorem all_wt (l : List S54) : ∀ z ∈ aSs l, wt (dS z) ≤ wt (D.list dS l) := by
  induction l using indSs with
  | h l ih =>
    induction l with
    | nil => intro z hz; rw [aSs] at hz; cases hz
    | cons x l ihl =>
      intro z hz
      have h2 := ihl (fun y hy => ih y (List.mem_cons_of_mem _ hy))
      have h3 := wt_sel x
      rw [aSs, aS_eq] at hz
      simp only [D.list, wt]
      rcases List.mem_append.1 hz with hz | hz
      · rcases List.mem_cons.1 hz with rfl | hz
        · omega
        · have := ih x List.mem_cons_self z hz
          omega
      · have := h2 z hz
        omega
theorem all_ok (l : List S54) : (∀ y ∈ l, OkIS y) → ∀ z ∈ aSs l, OkIS z := by
  induction l using indSs with
  | h l ih =>
    induction l with
    | nil => intro _ z hz; rw [aSs] at hz; cases hz
    | cons x l ihl =>
      intro ho z hz
      have h2 := ihl (fun y hy => ih y (List.mem_cons_of_mem _ hy)) (fun y hy => ho y (List.mem_cons_of_mem _ hy))
      have hx := ho x List.mem_cons_self
      rw [aSs, aS_eq] at hz
      rcases List.mem_append.1 hz with hz | hz
      · rcases List.mem_cons.1 hz with rfl | hz
        · exact hx
        · refine ih x List.mem_cons_self ?_ z hz
          cases hx
          assumption
      · exact h2 z hz
theorem sum_le {α : Type} (f : α → Nat) (M : Nat) : ∀ l : List α, (∀ y ∈ l, f y ≤ M) → (l.map f).sum ≤ l.length * M
  | [], _ => Nat.zero_le _
  | x :: l, h => by
    have h1 := h x List.mem_cons_self
    have h2 := sum_le f M l (fun y hy => h y (List.mem_cons_of_mem _ hy))
    rw [List.map_cons, List.sum_cons, List.length_cons, Nat.add_mul, Nat.one_mul]
    omega
theorem fits_list {α : Type} {f : α → D} : ∀ {l : List α}, (∀ y ∈ l, (f y).fits) → (D.list f l).fits
  | [], _ => trivial
  | x :: l, h => ⟨h x List.mem_cons_self, fits_list (fun y hy => h y (List.mem_cons_of_mem _ hy))⟩
/-- The marks' texts. -/
theorem texts : ∃ T, TextC T := by
  obtain ⟨T, hT⟩ := marks
  refine ⟨T, fun a b w he h0 h1 => ?_⟩
  subst he
  obtain ⟨k, hk⟩ := (hT a h0 h1).out
  exact laws_markText.calls k a (T a) w hk
end Go.Proofs.Ytkcomfmdcmjagaa.OFnExactAllSels
