/- For every list of selections (trees) within reach the program's AllSels and the reference's return the same list, and what the program returned stays as it is written while the function is called again. -/
import Derived.Test.YtkcomfmdcmjagaaOFnExactAllSelsx10
import Derived.Test.YtkcomfmdcmjagaaBaseFnExactAllSels
import Derived.Test.YtkcomfmdcmjagaaOFnExactAllSelsx1
import Derived.Test.YtkcomfmdcmjagaaOFnExactAllSelsx2
import Derived.Test.YtkcomfmdcmjagaaOFnExactAllSelsx3
import Derived.Test.YtkcomfmdcmjagaaOFnExactAllSelsx4
import Derived.Test.YtkcomfmdcmjagaaOFnExactAllSelsx5
import Derived.Test.YtkcomfmdcmjagaaOFnExactAllSelsx6
import Derived.Test.YtkcomfmdcmjagaaOFnExactAllSelsx7
import Derived.Test.YtkcomfmdcmjagaaOFnExactAllSelsx8
import Derived.Test.YtkcomfmdcmjagaaOFnExactAllSelsx9
namespace Go.Proofs.Ytkcomfmdcmjagaa.Pure
open Go.RowKit Go.Proofs.Ytkcomfmdcmjagaa.OFnExactAllSels Go.Proofs.YtkcomfmdcmjagaaW.PrintWords Go.Proofs.YtkcomfmdcmjagaaW.PrintLast Go.Proofs.YtkcomfmdcmjagaaW.PrintMore Go.Proofs.Ytkcomfmdcmjagaa.Base Go.Proofs.Ytkcomfmdcmjagaa.Ix
set_option linter.unusedVariables false
set_option linter.unusedSimpArgs false

-- loops over lists, with rounds that suffice
theorem getD_of_lt {α : Type} (d : α) (l : List α) (j : Nat) (h : j < l.length) : l.getD j d = l[j] := by
 rw [List.getD_eq_getElem?_getD, List.getElem?_eq_getElem h]
 rfl
theorem getD_mem {α : Type} (d : α) (l : List α) (j : Nat) (h : j < l.length) : l.getD j d ∈ l := by
 rw [getD_of_lt d l j h]
 exact List.getElem_mem h
theorem drop_getD {α : Type} (d : α) (l : List α) (j : Nat) (h : j < l.length) : l.drop j = l.getD j d :: l.drop (j + 1) := by
 rw [getD_of_lt d l j h]
 exact List.drop_eq_getElem_cons h
theorem w64n {j n : Nat} (h : j < n) (hn : n ≤ 140737488351232) : wrap64 ((j : Int) + 1) = ((j + 1 : Nat) : Int) := by
 rw [w64 (by omega) (by omega)]
 rfl

/-- What is left of 'left' when n have been taken; below 0 where there was too little. -/
def SubL (left : Int) (n : Nat) (t : Int) : Prop := if (n : Int) ≤ left then t = left - n else t < 0

theorem loop_sz {α : Type} (d : α) (l : List α) (hn : l.length ≤ 140737488351232) {F : Nat → Int → Int → Option Int} {g : Nat → α → Int → Option Int} {c : α → Nat}
  (hF : ∀ k left i, F (k + 1) left i = if i < (l.length : Int) then (if 0 ≤ i then ((g k (l.getD i.toNat d) left).bind fun t => if t < 0 then some (-1) else F k t (wrap64 (i + 1))) else none) else some left)
  (hG : ∀ y ∈ l, ∀ left : Int, 0 ≤ left → left ≤ 1048576 → ∃ t, Ev (fun k => g k y left) t ∧ SubL left (c y) t) (m : Nat) :
  ∀ (j : Nat) (left : Int), l.length = j + m → 0 ≤ left → left ≤ 1048576 → ∃ t, Ev (fun k => F k left j) t ∧ SubL left (((l.drop j).map c).sum) t := by
 induction m with
 | zero =>
  intro j left hj h0 h1
  refine ⟨left, Ev.succ ?_, ?_⟩
  ·simp only [hF]
   exact Ev.ite_neg (by omega) (Ev.done rfl)
  ·rw [List.drop_eq_nil_of_le (by omega)]
   unfold SubL
   simp [h0]
 | succ m ih =>
  intro j left hj h0 h1
  have hjl : j < l.length := by omega
  obtain ⟨t, ht, hs⟩ := hG _ (getD_mem d l j hjl) left h0 h1
  rw [drop_getD d l j hjl, List.map_cons, List.sum_cons]
  by_cases hc : (c (l.getD j d) : Int) ≤ left
  ·unfold SubL at hs
   rw [if_pos hc] at hs
   obtain ⟨u, hu, hs2⟩ := ih (j + 1) t (by omega) (by omega) (by omega)
   refine ⟨u, Ev.succ ?_, ?_⟩
   ·simp only [hF]
    refine Ev.ite_pos (by omega) (Ev.ite_pos (by omega) (Ev.bind ht (Ev.ite_neg (by omega) ?_)))
    rw [w64n hjl hn]
    exact hu
   ·unfold SubL at hs2 ⊢
    split at hs2
    ·rw [if_pos (by omega)]; omega
    ·rw [if_neg (by omega)]; exact hs2
  ·unfold SubL at hs
   rw [if_neg hc] at hs
   refine ⟨-1, Ev.succ ?_, ?_⟩
   ·simp only [hF]
    exact Ev.ite_pos (by omega) (Ev.ite_pos (by omega) (Ev.bind ht (Ev.ite_pos hs (Ev.done rfl))))
   ·unfold SubL
    rw [if_neg (by omega)]
    omega

theorem loop_to {α β γ : Type} (d : α) (l : List α) (hn : l.length ≤ 140737488351232) {F : Nat → List γ → Int → Option (List γ)} {g : Nat → α → Option β} {mk : β → γ} {v : α → β}
  (hF : ∀ k acc i, F (k + 1) acc i = if i < (l.length : Int) then (if 0 ≤ i then ((g k (l.getD i.toNat d)).bind fun t => if i < (acc.length : Int) then F k (acc.set i.toNat (mk t)) (wrap64 (i + 1)) else none) else none) else some acc)
  (hG : ∀ y ∈ l, Ev (fun k => g k y) (v y)) (m : Nat) :
  ∀ (j : Nat) (acc : List γ), l.length = j + m → acc.length = l.length → Ev (fun k => F k acc j) (acc.take j ++ (l.drop j).map (fun y => mk (v y))) := by
 induction m with
 | zero =>
  intro j acc hj ha
  refine Ev.succ ?_
  simp only [hF]
  refine Ev.ite_neg (by omega) (Ev.done ?_)
  rw [List.drop_eq_nil_of_le (by omega), List.take_of_length_le (by omega)]
  simp
 | succ m ih =>
  intro j acc hj ha
  have hjl : j < l.length := by omega
  refine Ev.succ ?_
  simp only [hF]
  refine Ev.ite_pos (by omega) (Ev.ite_pos (by omega) (Ev.bind (hG _ (getD_mem d l j hjl)) (Ev.ite_pos (by omega) ?_)))
  rw [w64n hjl hn]
  refine (ih (j + 1) _ (by omega) (by rw [List.length_set]; exact ha)).get ?_
  rw [drop_getD d l j hjl, List.map_cons]
  rw [Int.toNat_natCast]
  have hja : j < acc.length := by omega
  rw [List.take_succ_eq_append_getElem (by rw [List.length_set]; omega), List.take_set_of_le (Nat.le_refl j), List.getElem_set_self]
  simp

def all2 {α β : Type} (e : α → β → Bool) : List α → List β → Bool
 | [], _ => true
 | x :: r, y :: s => e x y && all2 e r s
 | _ :: _, [] => false

theorem loop_eq {α β : Type} (d : α) (d' : β) (l : List α) (l' : List β) (hn : l.length ≤ 140737488351232) (hl : l.length = l'.length) {F : Nat → Int → Option Bool} {g : Nat → α → β → Option Bool} {e : α → β → Bool}
  (hF : ∀ k i, F (k + 1) i = if i < (l.length : Int) then (if 0 ≤ i then (if i < (l'.length : Int) then ((g k (l.getD i.toNat d) (l'.getD i.toNat d')).bind fun t => if t = true then F k (wrap64 (i + 1)) else some false) else none) else none) else some true)
  (hG : ∀ y ∈ l, ∀ z ∈ l', Ev (fun k => g k y z) (e y z)) (m : Nat) :
  ∀ (j : Nat), l.length = j + m → Ev (fun k => F k j) (all2 e (l.drop j) (l'.drop j)) := by
 induction m with
 | zero =>
  intro j hj
  refine Ev.succ ?_
  simp only [hF]
  refine Ev.ite_neg (by omega) (Ev.done ?_)
  rw [List.drop_eq_nil_of_le (by omega)]
  rfl
 | succ m ih =>
  intro j hj
  have hjl : j < l.length := by omega
  have hjl' : j < l'.length := by omega
  refine Ev.succ ?_
  simp only [hF]
  have hg := hG _ (getD_mem d l j hjl) _ (getD_mem d' l' j hjl')
  rw [drop_getD d l j hjl, drop_getD d' l' j hjl']
  rw [all2]
  cases h : e (l.getD j d) (l'.getD j d') with
  | true =>
   rw [h] at hg
   refine Ev.ite_pos (by omega) (Ev.ite_pos (by omega) (Ev.ite_pos (by omega) (Ev.bind hg (Ev.ite_pos rfl ?_))))
   rw [w64n hjl hn, Bool.true_and]
   exact ih (j + 1) (by omega)
  | false =>
   rw [h] at hg
   exact Ev.ite_pos (by omega) (Ev.ite_pos (by omega) (Ev.ite_pos (by omega) (Ev.bind hg (Ev.ite_neg (by decide) (Ev.done rfl)))))

theorem loop_all {α : Type} (d : α) (l : List α) (hn : l.length ≤ 140737488351232) {F : Nat → Int → Option Bool} {g : Nat → α → Option Bool} {e : α → Bool} {R : Bool}
  (hF : ∀ k i, F (k + 1) i = if i < (l.length : Int) then (if 0 ≤ i then ((g k (l.getD i.toNat d)).bind fun t => if t = true then F k (wrap64 (i + 1)) else some false) else none) else some R)
  (hG : ∀ y ∈ l, Ev (fun k => g k y) (e y)) (m : Nat) :
  ∀ (j : Nat), l.length = j + m → Ev (fun k => F k j) ((l.drop j).all e && R) := by
 induction m with
 | zero =>
  intro j hj
  refine Ev.succ ?_
  simp only [hF]
  refine Ev.ite_neg (by omega) (Ev.done ?_)
  rw [List.drop_eq_nil_of_le (by omega)]
  rfl
 | succ m ih =>
  intro j hj
  have hjl : j < l.length := by omega
  refine Ev.succ ?_
  simp only [hF]
  have hg := hG _ (getD_mem d l j hjl)
  rw [drop_getD d l j hjl, List.all_cons]
  cases h : e (l.getD j d) with
  | true =>
   rw [h] at hg
   refine Ev.ite_pos (by omega) (Ev.ite_pos (by omega) (Ev.bind hg (Ev.ite_pos rfl ?_)))
   rw [w64n hjl hn, Bool.true_and]
   exact ih (j + 1) (by omega)
  | false =>
   rw [h] at hg
   exact Ev.ite_pos (by omega) (Ev.ite_pos (by omega) (Ev.bind hg (Ev.ite_neg (by decide) (Ev.done rfl))))

theorem all2_refl {α : Type} (e : α → α → Bool) : ∀ (l : List α), (∀ y ∈ l, e y y = true) → all2 e l l = true
 | [], _ => rfl
 | x :: r, h => by
  rw [all2, h x List.mem_cons_self, all2_refl e r (fun y hy => h y (List.mem_cons_of_mem _ hy))]
  rfl

/-- A value within the reach. -/
inductive OkV : S25 → Prop
 | mk (x : S25) (h0 : (Lit.int .i64 x.f0).wf = true) (h1 : x.f1.size ≤ 140737488351232) (h2 : x.f2.length * 72 ≤ 140737488351232) (h2' : ∀ y ∈ x.f2, OkV y) (h3 : x.f3.length * 16 ≤ 140737488351232) (h3' : ∀ s ∈ x.f3, s.size ≤ 140737488351232) : OkV x
mutual
/-- The program's value of a law's. -/
def cv : S25 → S30
 | ⟨a, b, c, d⟩ => ⟨a, b, cvs c, d⟩
def cvs : List S25 → List S30
 | [] => []
 | x :: r => cv x :: cvs r
end
theorem cvs_map : ∀ l, cvs l = l.map cv
 | [] => by rw [cvs]; rfl
 | x :: r => by rw [cvs, cvs_map r]; rfl
theorem cv_eq (x : S25) : cv x = ⟨x.f0, x.f1, x.f2.map cv, x.f3⟩ := by
 cases x
 rw [cv, cvs_map]
/-- A value of the program within the reach. -/
inductive OkI : S30 → Prop
 | mk (x : S30) (h0 : (Lit.int .i64 x.f0).wf = true) (h1 : x.f1.size ≤ 140737488351232) (h2 : x.f2.length * 72 ≤ 140737488351232) (h2' : ∀ y ∈ x.f2, OkI y) (h3 : x.f3.length * 16 ≤ 140737488351232) (h3' : ∀ s ∈ x.f3, s.size ≤ 140737488351232) : OkI x
theorem OkV.cv {x : S25} (h : OkV x) : OkI (cv x) := by
 induction h with
 | mk x h0 h1 h2 h2' h3 h3' ih =>
  rw [cv_eq]
  refine ⟨_, h0, h1, ?_, ?_, h3, h3'⟩
  ·show (x.f2.map Pure.cv).length * 72 ≤ _
   rw [List.length_map]
   exact h2
  ·intro y hy
   obtain ⟨z, hz, rfl⟩ := List.mem_map.1 hy
   exact ih z hz
theorem eta30 (x : S30) : (⟨x.f0, x.f1, x.f2, x.f3⟩ : S30) = x := by cases x; rfl
def totStrs (l : List ByteArray) : Nat := l.length + (l.map (·.size)).sum
mutual
/-- How many signs and places a value holds. -/
def totV : S25 → Nat
 | ⟨_, b, c, d⟩ => b.size + (c.length + totVs c) + totStrs d
def totVs : List S25 → Nat
 | [] => 0
 | x :: r => totV x + totVs r
end
theorem totVs_sum : ∀ l, totVs l = (l.map totV).sum
 | [] => by rw [totVs]; rfl
 | x :: r => by rw [totVs, totVs_sum r]; rfl
theorem totV_eq (x : S25) : totV x = x.f1.size + (x.f2.length + (x.f2.map totV).sum) + totStrs x.f3 := by
 cases x
 rw [totV, totVs_sum]

theorem laws_szStringS.ev (l : List ByteArray) (h : l.length * 16 ≤ 140737488351232) (hs : ∀ s ∈ l, s.size ≤ 140737488351232) (left : Int) (h0 : 0 ≤ left) (h1 : left ≤ 1048576) :
  ∃ t, Ev (fun k => laws_szStringS.f k l left) t ∧ SubL left (totStrs l) t := by
 have hn : l.length ≤ 140737488351232 := by omega
 unfold laws_szStringS.f totStrs
 rw [w64 (x := left - (l.length : Int)) (by omega) (by omega)]
 by_cases hc : left - (l.length : Int) < 0
 ·refine ⟨-1, Ev.ite_pos hc (Ev.done rfl), ?_⟩
  unfold SubL
  rw [if_neg (by omega)]
  omega
 ·obtain ⟨t, ht, hs2⟩ := loop_sz ByteArray.empty l hn (F := fun k left i => laws_szStringS.l0 k l left i) (g := fun _ y left => some (wrap64 (left - (y.size : Int)))) (c := fun y => y.size)
   (fun k left i => by simp only [laws_szStringS.l0]; rfl)
   (fun y hy left h0 h1 => ⟨left - y.size, Ev.done (w64 (by have := hs y hy; omega) (by omega)), by unfold SubL; split <;> omega⟩) l.length 0 (left - (l.length : Int)) (by omega) (by omega) (by omega)
  refine ⟨t, Ev.ite_neg hc ht, ?_⟩
  rw [List.drop_zero] at hs2
  unfold SubL at hs2 ⊢
  split at hs2
  ·rw [if_pos (by omega)]; omega
  ·rw [if_neg (by omega)]; exact hs2

theorem laws_szValueS.evl (l : List S25) (h : l.length * 72 ≤ 140737488351232) (hs : ∀ y ∈ l, ∀ left : Int, 0 ≤ left → left ≤ 1048576 → ∃ t, Ev (fun k => laws_szValueS.p.f k y.f0 y.f1 y.f2 y.f3 left) t ∧ SubL left (totV y) t)
  (left : Int) (h0 : 0 ≤ left) (h1 : left ≤ 1048576) : ∃ t, Ev (fun k => laws_szValueS.f k l left) t ∧ SubL left (l.length + (l.map totV).sum) t := by
 have hn : l.length ≤ 140737488351232 := by omega
 have hw : wrap64 (left - (l.length : Int)) = left - (l.length : Int) := w64 (by omega) (by omega)
 by_cases hc : left - (l.length : Int) < 0
 ·refine ⟨-1, Ev.succ ?_, ?_⟩
  ·simp only [laws_szValueS.f, hw]
   exact Ev.ite_pos hc (Ev.done rfl)
  ·unfold SubL
   rw [if_neg (by omega)]
   omega
 ·obtain ⟨t, ht, hs2⟩ := loop_sz z25 l hn (F := fun k left i => laws_szValueS.l0 k l left i) (g := fun k y left => laws_szValueS.p.f k y.f0 y.f1 y.f2 y.f3 left) (c := totV)
   (fun k left i => by simp only [laws_szValueS.l0]; rfl) hs l.length 0 (left - (l.length : Int)) (by omega) (by omega) (by omega)
  refine ⟨t, Ev.succ ?_, ?_⟩
  ·simp only [laws_szValueS.f, hw]
   exact Ev.ite_neg hc ht
  ·rw [List.drop_zero] at hs2
   unfold SubL at hs2 ⊢
   split at hs2
   ·rw [if_pos (by omega)]; omega
   ·rw [if_neg (by omega)]; exact hs2
theorem laws_szValue.ev {x : S25} (hx : OkV x) : ∀ left : Int, 0 ≤ left → left ≤ 1048576 → ∃ t, Ev (fun k => laws_szValue.f k x.f0 x.f1 x.f2 x.f3 left) t ∧ SubL left (totV x) t := by
 unfold laws_szValue.f
 induction hx with
 | mk x h0 h1 h2 h2' h3 h3' ih =>
  intro left hl0 hl1
  have hw : wrap64 (left - (x.f1.size : Int)) = left - (x.f1.size : Int) := w64 (by omega) (by omega)
  by_cases hc : left - (x.f1.size : Int) < 0
  ·refine ⟨-1, Ev.succ ?_, ?_⟩
   ·simp only [laws_szValueS.p.f, laws_szValue.F, hw]
    exact Ev.ite_pos hc (Ev.done rfl)
   ·unfold SubL
    rw [totV_eq, if_neg (by omega)]
    omega
  ·obtain ⟨t, ht, hs⟩ := laws_szValueS.evl x.f2 h2 ih (left - (x.f1.size : Int)) (by omega) (by omega)
   by_cases hd : t < 0
   ·refine ⟨-1, Ev.succ ?_, ?_⟩
    ·simp only [laws_szValueS.p.f, laws_szValue.F, hw]
     exact Ev.ite_neg hc (Ev.bind ht (Ev.ite_pos hd (Ev.done rfl)))
    ·unfold SubL at hs ⊢
     rw [totV_eq]
     split at hs
     ·omega
     ·rw [if_neg (by omega)]; omega
   ·have ht2 : t = left - (x.f1.size : Int) - ((x.f2.length + (x.f2.map totV).sum : Nat) : Int) ∧ (((x.f2.length + (x.f2.map totV).sum : Nat) : Int)) ≤ left - (x.f1.size : Int) := by
     unfold SubL at hs
     split at hs
     ·exact ⟨hs, by assumption⟩
     ·omega
    obtain ⟨u, hu, hs2⟩ := laws_szStringS.ev x.f3 h3 h3' t (by omega) (by omega)
    by_cases he : u < 0
    ·refine ⟨-1, Ev.succ ?_, ?_⟩
     ·simp only [laws_szValueS.p.f, laws_szValue.F, hw]
      exact Ev.ite_neg hc (Ev.bind ht (Ev.ite_neg hd (Ev.bind hu (Ev.ite_pos he (Ev.done rfl)))))
     ·unfold SubL at hs2 ⊢
      rw [totV_eq]
      split at hs2
      ·omega
      ·rw [if_neg (by omega)]; omega
    ·refine ⟨u, Ev.succ ?_, ?_⟩
     ·simp only [laws_szValueS.p.f, laws_szValue.F, hw]
      exact Ev.ite_neg hc (Ev.bind ht (Ev.ite_neg hd (Ev.bind hu (Ev.ite_neg he (Ev.done rfl)))))
     ·unfold SubL at hs2 ⊢
      rw [totV_eq]
      split at hs2
      ·rw [if_pos (by omega)]; omega
      ·omega

theorem SubL.zero {left : Int} (h : 0 ≤ left) : SubL left 0 left := by unfold SubL; rw [if_pos (by omega)]; omega
theorem SubL.le {left t : Int} {n : Nat} (h : SubL left n t) (h0 : 0 ≤ left) : t ≤ left := by unfold SubL at h; split at h <;> omega
theorem SubL.stop {left t : Int} {n : Nat} (h : SubL left n t) (ht : t < 0) (m : Nat) : SubL left (n + m) (-1) := by
 unfold SubL at h ⊢
 split at h
 ·omega
 ·rw [if_neg (by omega)]; omega
theorem SubL.next {left t u : Int} {n m : Nat} (h : SubL left n t) (ht : ¬ t < 0) (h2 : SubL t m u) : SubL left (n + m) u := by
 unfold SubL at h h2 ⊢
 split at h
 ·split at h2
  ·rw [if_pos (by omega)]; omega
  ·rw [if_neg (by omega)]; exact h2
 ·omega
/-- What answers how much is left. -/
def Sz (g : Nat → Int → Option Int) (n : Nat) : Prop := ∀ left : Int, 0 ≤ left → left ≤ 1048576 → ∃ t, Ev (fun k => g k left) t ∧ SubL left n t
theorem Sz.end : Sz (fun _ x => some x) 0 := fun left h0 _ => ⟨left, Ev.done rfl, SubL.zero h0⟩
theorem Sz.succ {g : Nat → Int → Option Int} {n : Nat} (h : Sz (fun k x => g (k + 1) x) n) : Sz g n := fun left h0 h1 => by
 obtain ⟨t, ht, hs⟩ := h left h0 h1
 exact ⟨t, Ev.succ ht, hs⟩
theorem Sz.str (s : ByteArray) (hs : s.size ≤ 140737488351232) {g : Nat → Int → Option Int} {m : Nat} (h : Sz g m) : Sz (fun k x => if (wrap64 (x - (s.size : Int))) < 0 then some (-1) else g k (wrap64 (x - (s.size : Int)))) (s.size + m) := fun left h0 h1 => by
 have hw : wrap64 (left - (s.size : Int)) = left - (s.size : Int) := w64 (by omega) (by omega)
 have hq : SubL left s.size (left - (s.size : Int)) := by unfold SubL; split <;> omega
 by_cases hc : left - (s.size : Int) < 0
 ·exact ⟨-1, by simp only [hw]; exact Ev.ite_pos hc (Ev.done rfl), hq.stop hc m⟩
 ·obtain ⟨t, ht, hs⟩ := h (left - (s.size : Int)) (by omega) (by omega)
  exact ⟨t, by simp only [hw]; exact Ev.ite_neg hc ht, hq.next hc hs⟩
theorem Sz.bind {f g : Nat → Int → Option Int} {n m : Nat} (hf : Sz f n) (h : Sz g m) : Sz (fun k x => (f k x).bind fun t => if t < 0 then some (-1) else g k t) (n + m) := fun left h0 h1 => by
 obtain ⟨t, ht, hs⟩ := hf left h0 h1
 by_cases hc : t < 0
 ·exact ⟨-1, Ev.bind ht (Ev.ite_pos hc (Ev.done rfl)), hs.stop hc m⟩
 ·obtain ⟨u, hu, hs2⟩ := h t (by omega) (by have := hs.le h0; omega)
  exact ⟨u, Ev.bind ht (Ev.ite_neg hc hu), hs.next hc hs2⟩
theorem Sz.list {α : Type} (d : α) (l : List α) (hn : l.length ≤ 140737488351232) {F : Nat → Int → Int → Option Int} {g : Nat → α → Int → Option Int} {c : α → Nat}
  (hF : ∀ k left i, F (k + 1) left i = if i < (l.length : Int) then (if 0 ≤ i then ((g k (l.getD i.toNat d) left).bind fun t => if t < 0 then some (-1) else F k t (wrap64 (i + 1))) else none) else some left)
  (hG : ∀ y ∈ l, Sz (fun k x => g k y x) (c y)) : Sz (fun k x => if (wrap64 (x - (l.length : Int))) < 0 then some (-1) else F k (wrap64 (x - (l.length : Int))) 0) (l.length + (l.map c).sum) := fun left h0 h1 => by
 have hw : wrap64 (left - (l.length : Int)) = left - (l.length : Int) := w64 (by omega) (by omega)
 have hq : SubL left l.length (left - (l.length : Int)) := by unfold SubL; split <;> omega
 by_cases hc : left - (l.length : Int) < 0
 ·exact ⟨-1, by simp only [hw]; exact Ev.ite_pos hc (Ev.done rfl), hq.stop hc _⟩
 ·obtain ⟨t, ht, hs⟩ := loop_sz d l hn hF hG l.length 0 (left - (l.length : Int)) (by omega) (by omega) (by omega)
  rw [List.drop_zero] at hs
  exact ⟨t, by simp only [hw]; exact Ev.ite_neg hc ht, hq.next hc hs⟩
/-- A row made new and filled: each element's own. -/
theorem To.list {α β γ : Type} (d : α) (l : List α) (hn : l.length ≤ 140737488351232) {N : Nat} (hN : l.length ≤ N) (z : γ) {F : Nat → List γ → Int → Option (List γ)} {g : Nat → α → Option β} {mk : β → γ} {v : α → β} {c : α → γ}
  (hF : ∀ k acc i, F (k + 1) acc i = if i < (l.length : Int) then (if 0 ≤ i then ((g k (l.getD i.toNat d)).bind fun t => if i < (acc.length : Int) then F k (acc.set i.toNat (mk t)) (wrap64 (i + 1)) else none) else none) else some acc)
  (hG : ∀ y ∈ l, Ev (fun k => g k y) (v y)) (hc : ∀ y, mk (v y) = c y) :
  Ev (fun k => if 0 ≤ (l.length : Int) then (if ((l.length : Int) : Int).toNat ≤ N then F k (List.replicate ((l.length : Int) : Int).toNat z) 0 else none) else none) (l.map c) := by
 refine Ev.ite_pos (by omega) (Ev.ite_pos (by omega) ?_)
 refine (loop_to d l hn hF hG l.length 0 _ (by omega) (by simp)).get ?_
 rw [List.take_zero, List.drop_zero, List.nil_append]
 exact List.map_congr_left (fun y _ => hc y)
theorem Eq.loop {α : Type} (d : α) (l : List α) (hn : l.length ≤ 140737488351232) {F : Nat → Int → Option Bool} {g : Nat → α → Option Bool}
  (hF : ∀ k i, F (k + 1) i = if i < (l.length : Int) then (if 0 ≤ i then (if i < (l.length : Int) then ((g k (l.getD i.toNat d)).bind fun t => if t = true then F k (wrap64 (i + 1)) else some false) else none) else none) else some true)
  (hG : ∀ y ∈ l, Ev (fun k => g k y) true) : Ev (fun k => F k 0) true := by
 have key : ∀ (m j : Nat), l.length = j + m → Ev (fun k => F k j) true := by
  intro m
  induction m with
  | zero =>
   intro j hj
   refine Ev.succ ?_
   simp only [hF]
   exact Ev.ite_neg (by omega) (Ev.done rfl)
  | succ m ih =>
   intro j hj
   have hjl : j < l.length := by omega
   refine Ev.succ ?_
   simp only [hF]
   refine Ev.ite_pos (by omega) (Ev.ite_pos (by omega) (Ev.ite_pos (by omega) (Ev.bind (hG _ (getD_mem d l j hjl)) (Ev.ite_pos rfl ?_))))
   rw [w64n hjl hn]
   exact ih (j + 1) (by omega)
 exact key l.length 0 (by omega)
theorem Eq.list {α : Type} (d : α) (l : List α) (hn : l.length ≤ 140737488351232) {F : Nat → Int → Option Bool} {g : Nat → α → Option Bool}
  (hF : ∀ k i, F (k + 1) i = if i < (l.length : Int) then (if 0 ≤ i then (if i < (l.length : Int) then ((g k (l.getD i.toNat d)).bind fun t => if t = true then F k (wrap64 (i + 1)) else some false) else none) else none) else some true)
  (hG : ∀ y ∈ l, Ev (fun k => g k y) true) : Ev (fun k => if (l.length : Int) = (l.length : Int) then F k 0 else some false) true := Ev.ite_pos rfl (Eq.loop d l hn hF hG)

/-- An argument within the reach. -/
inductive OkA : S76 → Prop
 | mk (x : S76) (h0 : x.f0.size ≤ 140737488351232) (h1 : OkV x.f1) : OkA x
inductive OkIA : S78 → Prop
 | mk (x : S78) (h0 : x.f0.size ≤ 140737488351232) (h1 : OkI x.f1) : OkIA x
def ca (x : S76) : S78 := ⟨x.f0, cv x.f1⟩
theorem OkA.ca {x : S76} (h : OkA x) : OkIA (ca x) := by
 obtain ⟨h0, h1⟩ := h
 exact OkIA.mk _ h0 h1.cv
def totA (x : S76) : Nat := x.f0.size + totV x.f1
def OkAs (l : List S76) : Prop := l.length * 88 ≤ 140737488351232 ∧ ∀ y ∈ l, OkA y
def OkIAs (l : List S78) : Prop := l.length * 88 ≤ 140737488351232 ∧ ∀ y ∈ l, OkIA y
theorem OkAs.ca {l : List S76} (h : OkAs l) : OkIAs (l.map ca) := ⟨by rw [List.length_map]; exact h.1, fun y hy => by
 obtain ⟨z, hz, rfl⟩ := List.mem_map.1 hy
 exact (h.2 z hz).ca⟩

theorem laws_szArg.ev {x : S76} (hx : OkA x) : Sz (fun k left => laws_szArg.f k x.f0 x.f1.f0 x.f1.f1 x.f1.f2 x.f1.f3 left) (totA x) := by
 obtain ⟨h0, h1⟩ := hx
 unfold laws_szArg.f totA
 exact Sz.str x.f0 h0 (g := fun k t => (laws_szValue.f k x.f1.f0 x.f1.f1 x.f1.f2 x.f1.f3 t).bind fun t => if t < 0 then some (-1) else some t) (Sz.bind (g := fun _ t => some t) (laws_szValue.ev h1) Sz.end)

theorem laws_szArgS.ev {l : List S76} (hl : OkAs l) : Sz (fun k left => laws_szArgS.f k l left) (l.length + (l.map totA).sum) := by
 unfold laws_szArgS.f
 exact Sz.list z76 l (by have := hl.1; omega) (F := fun k left i => laws_szArgS.l0 k l left i) (g := fun k y left => laws_szArg.f k y.f0 y.f1.f0 y.f1.f1 y.f1.f2 y.f1.f3 left) (c := totA) (fun k left i => by simp only [laws_szArgS.l0]; rfl) (fun y hy => laws_szArg.ev (hl.2 y hy))

/-- A directive within the reach. -/
inductive OkD : S93 → Prop
 | mk (x : S93) (h0 : x.f0.size ≤ 140737488351232) (h1 : x.f1.length * 88 ≤ 140737488351232) (h1' : ∀ y ∈ x.f1, OkA y) : OkD x
inductive OkID : S95 → Prop
 | mk (x : S95) (h0 : x.f0.size ≤ 140737488351232) (h1 : x.f1.length * 88 ≤ 140737488351232) (h1' : ∀ y ∈ x.f1, OkIA y) : OkID x
def cd (x : S93) : S95 := ⟨x.f0, x.f1.map ca⟩
theorem OkD.cd {x : S93} (h : OkD x) : OkID (cd x) := by
 obtain ⟨h0, h1, h1'⟩ := h
 have := OkAs.ca ⟨h1, h1'⟩
 exact OkID.mk _ h0 this.1 this.2
def totAs (l : List S76) : Nat := l.length + (l.map totA).sum
def totD (x : S93) : Nat := x.f0.size + totAs x.f1
def totDs (l : List S93) : Nat := l.length + (l.map totD).sum
def OkDs (l : List S93) : Prop := l.length * 40 ≤ 140737488351232 ∧ ∀ y ∈ l, OkD y
def OkIDs (l : List S95) : Prop := l.length * 40 ≤ 140737488351232 ∧ ∀ y ∈ l, OkID y
theorem OkDs.cd {l : List S93} (h : OkDs l) : OkIDs (l.map cd) := ⟨by rw [List.length_map]; exact h.1, fun y hy => by
 obtain ⟨z, hz, rfl⟩ := List.mem_map.1 hy
 exact (h.2 z hz).cd⟩

theorem laws_szDir.ev {x : S93} (hx : OkD x) : Sz (fun k left => laws_szDir.f k x.f0 x.f1 left) (totD x) := by
 obtain ⟨h0, h1, h1'⟩ := hx
 unfold laws_szDir.f totD
 have e : Sz (fun k left => laws_szArgS.f k x.f1 left) (totAs x.f1) := laws_szArgS.ev ⟨h1, h1'⟩
 exact Sz.str x.f0 h0 (g := fun k t => (laws_szArgS.f k x.f1 t).bind fun t => if t < 0 then some (-1) else some t) (Sz.bind (n := totAs x.f1) (m := 0) (g := fun _ t => some t) e Sz.end)

theorem laws_szDirS.ev {l : List S93} (hl : OkDs l) : Sz (fun k left => laws_szDirS.f k l left) (totDs l) := by
 unfold laws_szDirS.f totDs
 exact Sz.list z93 l (by have := hl.1; omega) (F := fun k left i => laws_szDirS.l0 k l left i) (g := fun k y left => laws_szDir.f k y.f0 y.f1 left) (c := totD) (fun k left i => by simp only [laws_szDirS.l0]; rfl) (fun y hy => laws_szDir.ev (hl.2 y hy))

/-- A selection within the reach. -/
inductive OkS : S48 → Prop
 | mk (x : S48) (h0 : (Lit.int .i64 x.f0).wf = true) (h1 : x.f1.size ≤ 140737488351232) (h2 : x.f2.size ≤ 140737488351232) (h3 : x.f3.size ≤ 140737488351232) (h4 : x.f4.length * 88 ≤ 140737488351232) (h4' : ∀ y ∈ x.f4, OkA y)
   (h5 : x.f5.length * 40 ≤ 140737488351232) (h5' : ∀ y ∈ x.f5, OkD y) (h6 : x.f6.length * 128 ≤ 140737488351232) (h6' : ∀ y ∈ x.f6, OkS y) : OkS x
inductive OkIS : S54 → Prop
 | mk (x : S54) (h0 : (Lit.int .i64 x.f0).wf = true) (h1 : x.f1.size ≤ 140737488351232) (h2 : x.f2.size ≤ 140737488351232) (h3 : x.f3.size ≤ 140737488351232) (h4 : OkIAs x.f4)
   (h5 : OkIDs x.f5) (h6 : x.f6.length * 128 ≤ 140737488351232) (h6' : ∀ y ∈ x.f6, OkIS y) : OkIS x
mutual
def csel : S48 → S54
 | ⟨a, b, c, d, e, f, g⟩ => ⟨a, b, c, d, e.map ca, f.map cd, csels g⟩
def csels : List S48 → List S54
 | [] => []
 | x :: r => csel x :: csels r
end
theorem csels_map : ∀ l, csels l = l.map csel
 | [] => by rw [csels]; rfl
 | x :: r => by rw [csels, csels_map r]; rfl
theorem csel_eq (x : S48) : csel x = ⟨x.f0, x.f1, x.f2, x.f3, x.f4.map ca, x.f5.map cd, x.f6.map csel⟩ := by
 cases x
 rw [csel, csels_map]
theorem OkS.csel {x : S48} (h : OkS x) : OkIS (csel x) := by
 induction h with
 | mk x h0 h1 h2 h3 h4 h4' h5 h5' h6 h6' ih =>
  rw [csel_eq]
  refine ⟨_, h0, h1, h2, h3, OkAs.ca ⟨h4, h4'⟩, OkDs.cd ⟨h5, h5'⟩, ?_, ?_⟩
  ·show (x.f6.map Pure.csel).length * 128 ≤ _
   rw [List.length_map]
   exact h6
  ·intro y hy
   obtain ⟨z, hz, rfl⟩ := List.mem_map.1 hy
   exact ih z hz
theorem eta54 (x : S54) : (⟨x.f0, x.f1, x.f2, x.f3, x.f4, x.f5, x.f6⟩ : S54) = x := by cases x; rfl
mutual
def totS : S48 → Nat
 | ⟨_, b, c, d, e, f, g⟩ => b.size + (c.size + (d.size + (totAs e + (totDs f + ((g.length + totSs g) + 0)))))
def totSs : List S48 → Nat
 | [] => 0
 | x :: r => totS x + totSs r
end
theorem totSs_sum : ∀ l, totSs l = (l.map totS).sum
 | [] => by rw [totSs]; rfl
 | x :: r => by rw [totSs, totSs_sum r]; rfl
theorem totS_eq (x : S48) : totS x = x.f1.size + (x.f2.size + (x.f3.size + (totAs x.f4 + (totDs x.f5 + ((x.f6.length + (x.f6.map totS).sum) + 0))))) := by
 cases x
 rw [totS, totSs_sum]

theorem laws_szSelS.evl {l : List S48} (h : l.length * 128 ≤ 140737488351232) (hs : ∀ y ∈ l, Sz (fun k left => laws_szSelS.p.f k y.f0 y.f1 y.f2 y.f3 y.f4 y.f5 y.f6 left) (totS y)) : Sz (fun k left => laws_szSelS.f k l left) (l.length + (l.map totS).sum) := by
 refine Sz.succ ?_
 simp only [laws_szSelS.f]
 exact Sz.list z48 l (by omega) (F := fun k left i => laws_szSelS.l0 k l left i) (g := fun k y left => laws_szSelS.p.f k y.f0 y.f1 y.f2 y.f3 y.f4 y.f5 y.f6 left) (c := totS) (fun k left i => by simp only [laws_szSelS.l0]; rfl) hs
theorem laws_szSel.ev {x : S48} (hx : OkS x) : Sz (fun k left => laws_szSel.f k x.f0 x.f1 x.f2 x.f3 x.f4 x.f5 x.f6 left) (totS x) := by
 unfold laws_szSel.f
 induction hx with
 | mk x h0 h1 h2 h3 h4 h4' h5 h5' h6 h6' ih =>
  rw [totS_eq]
  refine Sz.succ ?_
  simp only [laws_szSelS.p.f, laws_szSel.F]
  have e6 := Sz.bind (g := fun _ t => some t) (laws_szSelS.evl h6 ih) Sz.end
  have e5 := Sz.bind (laws_szDirS.ev (l := x.f5) ⟨h5, h5'⟩) e6
  have e4 := Sz.bind (laws_szArgS.ev (l := x.f4) ⟨h4, h4'⟩) e5
  exact Sz.str x.f1 h1 (g := fun k b => if (wrap64 (b - (x.f2.size : Int))) < 0 then some (-1) else (if (wrap64 ((wrap64 (b - (x.f2.size : Int))) - (x.f3.size : Int))) < 0 then some (-1) else _)) (Sz.str x.f2 h2 (g := fun k b => if (wrap64 (b - (x.f3.size : Int))) < 0 then some (-1) else _) (Sz.str x.f3 h3 e4))

theorem laws_toStringS.ev (l : List ByteArray) (h : l.length * 16 ≤ 140737488351232) : Ev (fun k => laws_toStringS.f k l) l := by
 have hn : l.length ≤ 140737488351232 := by omega
 unfold laws_toStringS.f
 refine Ev.ite_pos (by omega) (Ev.ite_pos (by omega) ?_)
 refine (loop_to ByteArray.empty l hn (F := fun k acc i => laws_toStringS.l0 k l acc i) (g := fun _ y => some y) (mk := id) (v := id) (fun k acc i => by simp only [laws_toStringS.l0]; rfl) (fun y _ => Ev.done rfl) l.length 0 _ (by omega) (by simp)).get ?_
 simp

def tup30 (x : S30) : Int × ByteArray × List S30 × List ByteArray := (x.f0, x.f1, x.f2, x.f3)
theorem laws_toValueS.evl (l : List S25) (h : l.length * 72 ≤ 140737488351232) (hs : ∀ y ∈ l, Ev (fun k => laws_toValueS.p.f k y.f0 y.f1 y.f2 y.f3) (tup30 (cv y))) : Ev (fun k => laws_toValueS.f k l) (l.map cv) := by
 have hn : l.length ≤ 140737488351232 := by omega
 refine Ev.succ ?_
 simp only [laws_toValueS.f]
 refine Ev.ite_pos (by omega) (Ev.ite_pos (by omega) ?_)
 refine (loop_to z25 l hn (F := fun k acc i => laws_toValueS.l0 k l acc i) (g := fun k y => laws_toValueS.p.f k y.f0 y.f1 y.f2 y.f3) (mk := fun t => (⟨t.1, t.2.1, t.2.2.1, t.2.2.2⟩ : S30)) (v := fun y => tup30 (cv y)) (fun k acc i => by simp only [laws_toValueS.l0]; rfl) hs l.length 0 _ (by omega) (by simp)).get ?_
 rw [List.take_zero, List.drop_zero, List.nil_append]
 exact List.map_congr_left (fun y _ => eta30 (cv y))
theorem laws_toValue.ev {x : S25} (hx : OkV x) : Ev (fun k => laws_toValue.f k x.f0 x.f1 x.f2 x.f3) (tup30 (cv x)) := by
 unfold laws_toValue.f
 induction hx with
 | mk x h0 h1 h2 h2' h3 h3' ih =>
  refine Ev.succ ?_
  simp only [laws_toValueS.p.f, laws_toValue.F]
  refine Ev.bind (laws_toValueS.evl x.f2 h2 ih) (Ev.bind (laws_toStringS.ev x.f3 h3) (Ev.done ?_))
  rw [cv_eq]
  rfl

def tup78 (x : S78) : ByteArray × Int × ByteArray × List S30 × List ByteArray := (x.f0, x.f1.f0, x.f1.f1, x.f1.f2, x.f1.f3)
theorem laws_toArg.ev {x : S76} (hx : OkA x) : Ev (fun k => laws_toArg.f k x.f0 x.f1.f0 x.f1.f1 x.f1.f2 x.f1.f3) (tup78 (ca x)) := by
 obtain ⟨h0, h1⟩ := hx
 unfold laws_toArg.f
 exact Ev.bind (laws_toValue.ev h1) (Ev.done rfl)

theorem laws_toArgS.ev {l : List S76} (hl : OkAs l) : Ev (fun k => laws_toArgS.f k l) (l.map ca) := by
 unfold laws_toArgS.f
 have := hl.1
 exact To.list z76 l (by omega) (by omega) z78 (F := fun k acc i => laws_toArgS.l0 k l acc i) (g := fun k y => laws_toArg.f k y.f0 y.f1.f0 y.f1.f1 y.f1.f2 y.f1.f3) (mk := fun t => (⟨t.1, (⟨t.2.1, t.2.2.1, t.2.2.2.1, t.2.2.2.2⟩ : S30)⟩ : S78)) (v := fun y => tup78 (ca y)) (fun k acc i => by simp only [laws_toArgS.l0]; rfl) (fun y hy => laws_toArg.ev (hl.2 y hy)) (fun y => by
  show (⟨(ca y).f0, (⟨(ca y).f1.f0, (ca y).f1.f1, (ca y).f1.f2, (ca y).f1.f3⟩ : S30)⟩ : S78) = ca y
  rw [eta30])

theorem laws_toDir.ev {x : S93} (hx : OkD x) : Ev (fun k => laws_toDir.f k x.f0 x.f1) ((cd x).f0, (cd x).f1) := by
 obtain ⟨h0, h1, h1'⟩ := hx
 unfold laws_toDir.f
 exact Ev.bind (laws_toArgS.ev ⟨h1, h1'⟩) (Ev.done rfl)

theorem laws_toDirS.ev {l : List S93} (hl : OkDs l) : Ev (fun k => laws_toDirS.f k l) (l.map cd) := by
 unfold laws_toDirS.f
 have := hl.1
 exact To.list z93 l (by omega) (by omega) z95 (F := fun k acc i => laws_toDirS.l0 k l acc i) (g := fun k y => laws_toDir.f k y.f0 y.f1) (mk := fun t => (⟨t.1, t.2⟩ : S95)) (v := fun y => ((cd y).f0, (cd y).f1)) (fun k acc i => by simp only [laws_toDirS.l0]; rfl) (fun y hy => laws_toDir.ev (hl.2 y hy)) (fun y => rfl)

def tup54 (x : S54) : Int × ByteArray × ByteArray × ByteArray × List S78 × List S95 × List S54 := (x.f0, x.f1, x.f2, x.f3, x.f4, x.f5, x.f6)
theorem laws_toSelS.evl {l : List S48} (h : l.length * 128 ≤ 140737488351232) (hs : ∀ y ∈ l, Ev (fun k => laws_toSelS.p.f k y.f0 y.f1 y.f2 y.f3 y.f4 y.f5 y.f6) (tup54 (csel y))) : Ev (fun k => laws_toSelS.f k l) (l.map csel) := by
 refine Ev.succ ?_
 simp only [laws_toSelS.f]
 exact To.list z48 l (by omega) (by omega) z54 (F := fun k acc i => laws_toSelS.l0 k l acc i) (g := fun k y => laws_toSelS.p.f k y.f0 y.f1 y.f2 y.f3 y.f4 y.f5 y.f6) (mk := fun t => (⟨t.1, t.2.1, t.2.2.1, t.2.2.2.1, t.2.2.2.2.1, t.2.2.2.2.2.1, t.2.2.2.2.2.2⟩ : S54)) (v := fun y => tup54 (csel y)) (fun k acc i => by simp only [laws_toSelS.l0]; rfl) hs (fun y => eta54 (csel y))
theorem laws_toSel.ev {x : S48} (hx : OkS x) : Ev (fun k => laws_toSel.f k x.f0 x.f1 x.f2 x.f3 x.f4 x.f5 x.f6) (tup54 (csel x)) := by
 unfold laws_toSel.f
 induction hx with
 | mk x h0 h1 h2 h3 h4 h4' h5 h5' h6 h6' ih =>
  refine Ev.succ ?_
  simp only [laws_toSelS.p.f, laws_toSel.F]
  refine Ev.bind (laws_toArgS.ev (l := x.f4) ⟨h4, h4'⟩) (Ev.bind (laws_toDirS.ev (l := x.f5) ⟨h5, h5'⟩) (Ev.bind (laws_toSelS.evl h6 ih) (Ev.done ?_)))
  rw [csel_eq]
  rfl

theorem laws_eqStringS.refl (l : List ByteArray) (h : l.length * 16 ≤ 140737488351232) : Ev (fun k => laws_eqStringS.f k l l) true := by
 have hn : l.length ≤ 140737488351232 := by omega
 unfold laws_eqStringS.f
 refine Ev.ite_pos rfl ?_
 refine (loop_eq ByteArray.empty ByteArray.empty l l hn rfl (F := fun k i => laws_eqStringS.l0 k l l i) (g := fun _ y z => some (decide (y.toList = z.toList))) (e := fun y z => decide (y.toList = z.toList)) (fun k i => by
  simp only [laws_eqStringS.l0, Option.bind_some, decide_eq_true_eq]; try rfl) (fun y _ z _ => Ev.done rfl) l.length 0 (by omega)).get ?_
 rw [List.drop_zero]
 exact all2_refl _ l (fun y _ => decide_eq_true rfl)

theorem laws_eqValueS.refll (l : List S30) (h : l.length * 72 ≤ 140737488351232) (hs : ∀ y ∈ l, Ev (fun k => laws_eqValueS.p.f k y.f0 y.f1 y.f2 y.f3 y.f0 y.f1 y.f2 y.f3) true) : Ev (fun k => laws_eqValueS.f k l l) true := by
 have hn : l.length ≤ 140737488351232 := by omega
 refine Ev.succ ?_
 simp only [laws_eqValueS.f]
 refine Ev.ite_pos trivial ?_
 have key : ∀ (m j : Nat), l.length = j + m → Ev (fun k => laws_eqValueS.l0 k l l j) true := by
  intro m
  induction m with
  | zero =>
   intro j hj
   refine Ev.succ ?_
   simp only [laws_eqValueS.l0]
   exact Ev.ite_neg (by omega) (Ev.done rfl)
  | succ m ih =>
   intro j hj
   have hjl : j < l.length := by omega
   refine Ev.succ ?_
   simp only [laws_eqValueS.l0]
   refine Ev.ite_pos (by omega) (Ev.ite_pos (by omega) (Ev.ite_pos (by omega) (Ev.bind (hs _ (getD_mem z30 l j hjl)) (Ev.ite_pos rfl ?_))))
   rw [w64n hjl hn]
   exact ih (j + 1) (by omega)
 exact key l.length 0 (by omega)
theorem laws_eqValue.refl {x : S30} (hx : OkI x) : Ev (fun k => laws_eqValue.f k x.f0 x.f1 x.f2 x.f3 x.f0 x.f1 x.f2 x.f3) true := by
 unfold laws_eqValue.f
 induction hx with
 | mk x h0 h1 h2 h2' h3 h3' ih =>
  refine Ev.succ ?_
  simp only [laws_eqValueS.p.f, laws_eqValue.F]
  exact Ev.ite_pos trivial (Ev.ite_pos trivial (Ev.bind (laws_eqValueS.refll x.f2 h2 ih) (Ev.ite_pos rfl (Ev.bind (laws_eqStringS.refl x.f3 h3) (Ev.ite_pos rfl (Ev.done rfl))))))

theorem laws_eqArg.refl {x : S78} (hx : OkIA x) : Ev (fun k => laws_eqArg.f k x.f0 x.f1.f0 x.f1.f1 x.f1.f2 x.f1.f3 x.f0 x.f1.f0 x.f1.f1 x.f1.f2 x.f1.f3) true := by
 obtain ⟨h0, h1⟩ := hx
 unfold laws_eqArg.f
 exact Ev.ite_pos rfl (Ev.bind (laws_eqValue.refl h1) (Ev.ite_pos rfl (Ev.done rfl)))

theorem laws_eqArgS.refl {l : List S78} (hl : OkIAs l) : Ev (fun k => laws_eqArgS.f k l l) true := by
 unfold laws_eqArgS.f
 exact Eq.list z78 l (by have := hl.1; omega) (F := fun k i => laws_eqArgS.l0 k l l i) (g := fun k y => laws_eqArg.f k y.f0 y.f1.f0 y.f1.f1 y.f1.f2 y.f1.f3 y.f0 y.f1.f0 y.f1.f1 y.f1.f2 y.f1.f3) (fun k i => by simp only [laws_eqArgS.l0]; rfl) (fun y hy => laws_eqArg.refl (hl.2 y hy))

theorem laws_eqDir.refl {x : S95} (hx : OkID x) : Ev (fun k => laws_eqDir.f k x.f0 x.f1 x.f0 x.f1) true := by
 obtain ⟨h0, h1, h1'⟩ := hx
 unfold laws_eqDir.f
 exact Ev.ite_pos rfl (Ev.bind (laws_eqArgS.refl ⟨h1, h1'⟩) (Ev.ite_pos rfl (Ev.done rfl)))

theorem laws_eqDirS.refl {l : List S95} (hl : OkIDs l) : Ev (fun k => laws_eqDirS.f k l l) true := by
 unfold laws_eqDirS.f
 exact Eq.list z95 l (by have := hl.1; omega) (F := fun k i => laws_eqDirS.l0 k l l i) (g := fun k y => laws_eqDir.f k y.f0 y.f1 y.f0 y.f1) (fun k i => by simp only [laws_eqDirS.l0]; rfl) (fun y hy => laws_eqDir.refl (hl.2 y hy))

theorem laws_eqSelS.refll {l : List S54} (h : l.length * 128 ≤ 140737488351232) (hs : ∀ y ∈ l, Ev (fun k => laws_eqSelS.p.f k y.f0 y.f1 y.f2 y.f3 y.f4 y.f5 y.f6 y.f0 y.f1 y.f2 y.f3 y.f4 y.f5 y.f6) true) : Ev (fun k => laws_eqSelS.f k l l) true := by
 refine Ev.succ ?_
 simp only [laws_eqSelS.f]
 exact Ev.ite_pos trivial (Eq.loop z54 l (by omega) (F := fun k i => laws_eqSelS.l0 k l l i) (g := fun k y => laws_eqSelS.p.f k y.f0 y.f1 y.f2 y.f3 y.f4 y.f5 y.f6 y.f0 y.f1 y.f2 y.f3 y.f4 y.f5 y.f6) (fun k i => by simp only [laws_eqSelS.l0]; rfl) hs)
theorem laws_eqSel.refl {x : S54} (hx : OkIS x) : Ev (fun k => laws_eqSel.f k x.f0 x.f1 x.f2 x.f3 x.f4 x.f5 x.f6 x.f0 x.f1 x.f2 x.f3 x.f4 x.f5 x.f6) true := by
 unfold laws_eqSel.f
 induction hx with
 | mk x h0 h1 h2 h3 h4 h5 h6 h6' ih =>
  refine Ev.succ ?_
  simp only [laws_eqSelS.p.f, laws_eqSel.F]
  exact Ev.ite_pos trivial (Ev.ite_pos trivial (Ev.ite_pos trivial (Ev.ite_pos trivial (Ev.bind (laws_eqArgS.refl h4) (Ev.ite_pos rfl (Ev.bind (laws_eqDirS.refl h5) (Ev.ite_pos rfl (Ev.bind (laws_eqSelS.refll h6 ih) (Ev.ite_pos rfl (Ev.done rfl))))))))))

theorem spec_l07Copy.items (l : List S30) (hn : l.length * 72 ≤ 140737488351232) (a0 : Int) (a1 : ByteArray) (a3 : List ByteArray) (b0 : Int) (b1 : ByteArray) (b3 : List ByteArray)
  (hs : ∀ y ∈ l, Ev (fun k => spec_l07Copy.f k y.f0 y.f1 y.f2 y.f3) (y.f0, y.f1, y.f2, y.f3)) (m : Nat) : ∀ (j : Nat) (acc : List S30), l.length = j + m → acc.length = j → Ev (fun k => spec_l07Copy.l0 k j a0 a1 l a3 b0 b1 acc b3) (b0, b1, acc ++ l.drop j, b3) := by
 induction m with
 | zero =>
  intro j acc hj ha
  refine Ev.succ ?_
  simp only [spec_l07Copy.l0]
  refine Ev.ite_neg (by omega) (Ev.done ?_)
  rw [List.drop_eq_nil_of_le (by omega), List.append_nil]
 | succ m ih =>
  intro j acc hj ha
  have hjl : j < l.length := by omega
  refine Ev.succ ?_
  simp only [spec_l07Copy.l0]
  have e : rd_T30 l (j : Int) = l.getD j z30 := rfl
  rw [e]
  refine Ev.ite_pos (by omega) (Ev.ite_pos (by omega) (Ev.bind (hs _ (getD_mem z30 l j hjl)) (Ev.ite_pos (by omega) ?_)))
  rw [w64n hjl (by omega)]
  refine (ih (j + 1) _ (by omega) (by rw [List.length_append, List.length_singleton]; omega)).get ?_
  rw [drop_getD z30 l j hjl, List.append_assoc]
  simp only [eta30, List.singleton_append]
theorem spec_l07Copy.ev {x : S30} (hx : OkI x) : Ev (fun k => spec_l07Copy.f k x.f0 x.f1 x.f2 x.f3) (x.f0, x.f1, x.f2, x.f3) := by
 induction hx with
 | mk x h0 h1 h2 h2' h3 h3' ih =>
  refine Ev.succ ?_
  simp only [spec_l07Copy.f, Option.bind_some]
  refine Ev.ite_pos (by simp only [List.length_nil]; omega) ((spec_l07Copy.items x.f2 h2 x.f0 x.f1 x.f3 x.f0 x.f1 _ ih x.f2.length 0 [] (by omega) rfl).get ?_)
  simp

theorem eta78 (x : S78) : (⟨x.f0, ⟨x.f1.f0, x.f1.f1, x.f1.f2, x.f1.f3⟩⟩ : S78) = x := by
 cases x with
 | mk a b => cases b; rfl
theorem spec_l10Args.ev {l : List S78} (hl : OkIAs l) : Ev (fun k => spec_l10Args.f k l) l := by
 obtain ⟨hn, hs⟩ := hl
 have key : ∀ (m j : Nat) (acc : List S78), l.length = j + m → acc.length = j → Ev (fun k => spec_l10Args.l0 k l acc j) (acc ++ l.drop j) := by
  intro m
  induction m with
  | zero =>
   intro j acc hj ha
   refine Ev.succ ?_
   simp only [spec_l10Args.l0]
   refine Ev.ite_neg (by omega) (Ev.done ?_)
   rw [List.drop_eq_nil_of_le (by omega), List.append_nil]
  | succ m ih =>
   intro j acc hj ha
   have hjl : j < l.length := by omega
   have hy := hs _ (getD_mem z78 l j hjl)
   refine Ev.succ ?_
   simp only [spec_l10Args.l0]
   have e : rd_T78 l (j : Int) = l.getD j z78 := rfl
   rw [e]
   obtain ⟨q0, q1⟩ := hy
   refine Ev.ite_pos (by omega) (Ev.ite_pos (by omega) (Ev.bind (spec_l07Copy.ev q1) (Ev.ite_pos (by omega) ?_)))
   rw [w64n hjl (by omega)]
   refine (ih (j + 1) _ (by omega) (by rw [List.length_append, List.length_singleton]; omega)).get ?_
   rw [drop_getD z78 l j hjl, List.append_assoc]
   simp only [eta78, List.singleton_append]
 unfold spec_l10Args.f
 exact key l.length 0 [] (by omega) rfl

theorem eta95 (x : S95) : (⟨x.f0, x.f1⟩ : S95) = x := by cases x; rfl
theorem spec_l10Dirs.ev {l : List S95} (hl : OkIDs l) : Ev (fun k => spec_l10Dirs.f k l) l := by
 obtain ⟨hn, hs⟩ := hl
 have key : ∀ (m j : Nat) (acc : List S95), l.length = j + m → acc.length = j → Ev (fun k => spec_l10Dirs.l0 k l acc j) (acc ++ l.drop j) := by
  intro m
  induction m with
  | zero =>
   intro j acc hj ha
   refine Ev.succ ?_
   simp only [spec_l10Dirs.l0]
   refine Ev.ite_neg (by omega) (Ev.done ?_)
   rw [List.drop_eq_nil_of_le (by omega), List.append_nil]
  | succ m ih =>
   intro j acc hj ha
   have hjl : j < l.length := by omega
   have hy := hs _ (getD_mem z95 l j hjl)
   refine Ev.succ ?_
   simp only [spec_l10Dirs.l0]
   have e : rd_T95 l (j : Int) = l.getD j z95 := rfl
   rw [e]
   obtain ⟨q0, q1, q2⟩ := hy
   refine Ev.ite_pos (by omega) (Ev.ite_pos (by omega) (Ev.bind (spec_l10Args.ev ⟨q1, q2⟩) (Ev.ite_pos (by omega) ?_)))
   rw [w64n hjl (by omega)]
   refine (ih (j + 1) _ (by omega) (by rw [List.length_append, List.length_singleton]; omega)).get ?_
   rw [drop_getD z95 l j hjl, List.append_assoc]
   simp only [eta95, List.singleton_append]
 unfold spec_l10Dirs.f
 exact key l.length 0 [] (by omega) rfl

theorem OkIS.rows {x : S54} (h : OkIS x) : OkIAs x.f4 ∧ OkIDs x.f5 := by
 cases h
 exact ⟨by assumption, by assumption⟩
theorem spec_l11Copy.evl {l : List S54} (hn : l.length * 128 ≤ 140737488351232) (hs : ∀ y ∈ l, OkIS y ∧ Ev (fun k => spec_l11Copy.f k y.f6) y.f6) : Ev (fun k => spec_l11Copy.f k l) l := by
 have key : ∀ (m j : Nat) (acc : List S54), l.length = j + m → acc.length = j → Ev (fun k => spec_l11Copy.l0 k l acc j) (acc ++ l.drop j) := by
  intro m
  induction m with
  | zero =>
   intro j acc hj ha
   refine Ev.succ ?_
   simp only [spec_l11Copy.l0]
   refine Ev.ite_neg (by omega) (Ev.done ?_)
   rw [List.drop_eq_nil_of_le (by omega), List.append_nil]
  | succ m ih =>
   intro j acc hj ha
   have hjl : j < l.length := by omega
   obtain ⟨hy, hc⟩ := hs _ (getD_mem z54 l j hjl)
   refine Ev.succ ?_
   simp only [spec_l11Copy.l0]
   have e : rd_T54 l (j : Int) = l.getD j z54 := rfl
   rw [e]
   obtain ⟨q4, q5⟩ := hy.rows
   refine Ev.ite_pos (by omega) (Ev.ite_pos (by omega) (Ev.bind (spec_l10Args.ev q4) (Ev.bind (spec_l10Dirs.ev q5) (Ev.bind hc (Ev.ite_pos (by omega) ?_)))))
   rw [w64n hjl (by omega)]
   refine (ih (j + 1) _ (by omega) (by rw [List.length_append, List.length_singleton]; omega)).get ?_
   rw [drop_getD z54 l j hjl, List.append_assoc]
   simp only [eta54, List.singleton_append]
 refine Ev.succ ?_
 simp only [spec_l11Copy.f]
 exact key l.length 0 [] (by omega) rfl
theorem spec_l11Copy.evx {x : S54} (hx : OkIS x) : Ev (fun k => spec_l11Copy.f k x.f6) x.f6 := by
 induction hx with
 | mk x h0 h1 h2 h3 h4 h5 h6 h6' ih => exact spec_l11Copy.evl h6 (fun y hy => ⟨h6' y hy, ih y hy⟩)
theorem spec_l11Copy.ev {l : List S54} (hn : l.length * 128 ≤ 140737488351232) (hs : ∀ y ∈ l, OkIS y) : Ev (fun k => spec_l11Copy.f k l) l := spec_l11Copy.evl hn (fun y hy => ⟨hs y hy, spec_l11Copy.evx (hs y hy)⟩)

theorem laws_markText.evl : ∀ (n : Nat) (s : ByteArray), s.size + n ≤ 4611686018427387904 → ∃ t, Ev (fun k => laws_markText.l0 k (n : Int) s) t := by
 intro n
 induction n using Nat.strongRecOn with
 | _ n ih =>
  intro s hs
  by_cases h : n = 0
  ·subst h
   refine ⟨(⟨#[109]⟩ : ByteArray) ++ s, Ev.succ ?_⟩
   simp only [laws_markText.l0]
   exact Ev.ite_neg (by omega) (Ev.ite_pos (by omega) (Ev.done rfl))
  ·have hd : (Int.tdiv (n : Int) 10) = ((n / 10 : Nat) : Int) := by
    rw [Int.tdiv_eq_ediv_of_nonneg (by omega)]
    omega
   have hy : ∀ y : List Int, y.length = 1 → (strOfNums y).size = 1 := fun y hy => by
    have := bytesOf_length (strOfNums y)
    unfold strOfNums bytesOf at *
    simp only [List.length_map] at this
    rw [← this]
    simpa using hy
   obtain ⟨t, ht⟩ := ih (n / 10) (by omega) (strOfNums ([(wrap64 (48 + (Int.tmod (n : Int) 10))) % 256] : List Int) ++ s) (by rw [ByteArray.size_append, hy _ rfl]; omega)
   refine ⟨t, Ev.succ ?_⟩
   simp only [laws_markText.l0, Option.bind_some, hd]
   refine Ev.ite_pos (by omega) (Ev.ite_pos (by rw [hy _ rfl]; omega) ?_)
   rw [w64 (by omega) (by omega)]
   exact ht
theorem laws_markText.ev (a : Int) (h0 : 0 < a) (h1 : a ≤ 2305843009213693952) : ∃ t, Ev (fun k => laws_markText.f k a) t := by
 obtain ⟨n, rfl⟩ := Int.eq_ofNat_of_zero_le (Int.le_of_lt h0)
 obtain ⟨t, ht⟩ := laws_markText.evl n ⟨#[]⟩ (by show 0 + n ≤ _; omega)
 refine ⟨t, ?_⟩
 unfold laws_markText.f
 exact Ev.ite_neg (by omega) ht
/-- A text for each number: what the marks are. -/
def Marks (T : Int → ByteArray) : Prop := ∀ a : Int, 0 < a → a ≤ 2305843009213693952 → Ev (fun k => laws_markText.f k a) (T a)
theorem marks : ∃ T, Marks T := by
 have h : ∀ a : Int, ∃ t : ByteArray, 0 < a → a ≤ 2305843009213693952 → Ev (fun k => laws_markText.f k a) t := fun a => by
  by_cases h0 : 0 < a
  ·by_cases h1 : a ≤ 2305843009213693952
   ·obtain ⟨t, ht⟩ := laws_markText.ev a h0 h1
    exact ⟨t, fun _ _ => ht⟩
   ·exact ⟨⟨#[]⟩, fun _ h => absurd h h1⟩
  ·exact ⟨⟨#[]⟩, fun h => absurd h h0⟩
 obtain ⟨T, hT⟩ := Classical.skolem.1 h
 exact ⟨T, hT⟩
/-- The marks from a on. -/
def mks (T : Int → ByteArray) : Nat → Int → List ByteArray
 | 0, _ => []
 | n + 1, a => T a :: mks T n (a + 1)
theorem mks_length (T : Int → ByteArray) : ∀ n a, (mks T n a).length = n
 | 0, _ => rfl
 | n + 1, a => by rw [mks, List.length_cons, mks_length T n]

theorem laws_szSelS.all {l : List S48} (h : l.length * 128 ≤ 140737488351232) (ho : ∀ y ∈ l, OkS y) : Sz (fun k left => laws_szSelS.f k l left) (l.length + (l.map totS).sum) := laws_szSelS.evl h (fun y hy => laws_szSel.ev (ho y hy))
theorem laws_toSelS.all {l : List S48} (h : l.length * 128 ≤ 140737488351232) (ho : ∀ y ∈ l, OkS y) : Ev (fun k => laws_toSelS.f k l) (l.map csel) := laws_toSelS.evl h (fun y hy => laws_toSel.ev (ho y hy))
theorem laws_eqSelS.all {l : List S54} (h : l.length * 128 ≤ 140737488351232) (ho : ∀ y ∈ l, OkIS y) : Ev (fun k => laws_eqSelS.f k l l) true := laws_eqSelS.refll h (fun y hy => laws_eqSel.refl (ho y hy))


end Go.Proofs.Ytkcomfmdcmjagaa.Pure
-- narrow
