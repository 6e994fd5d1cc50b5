/- For every list of directives within reach the program's DirsText and the reference's return the same text. -/
import Derived.Test.YtjhagdjjlgjlbaaGreatDoorOFnExactDirsTextx20
import Derived.Test.YtjhagdjjlgjlbaaGreatDoorBaseFnExactDirsText
namespace Go.Proofs.YtjhagdjjlgjlbaaGreatDoor.Pure
open Go.RowKit Go.Proofs.YtjhagdjjlgjlbaaGreatDoor.OFnExactDirsText Go.Proofs.YtjhagdjjlgjlbaaGreatDoorW.PrintWords Go.Proofs.YtjhagdjjlgjlbaaGreatDoorW.PrintLast Go.Proofs.YtjhagdjjlgjlbaaGreatDoorW.PrintMore Go.Proofs.YtjhagdjjlgjlbaaGreatDoor.Base Go.Proofs.YtjhagdjjlgjlbaaGreatDoor.Ix
set_option linter.unusedVariables false
set_option linter.unusedSimpArgs false

theorem getD_of_lt {α : Type} (d : α) (l : List α) (j : Nat) (h : j < l.length) : l.getD j d = l[j] := by
 rw [List.getD_eq_getElem?_getD, List.getElem?_eq_getElem h]
 rfl
theorem getD_mem {α : Type} (d : α) (l : List α) (j : Nat) (h : j < l.length) : l.getD j d ∈ l := by
 rw [getD_of_lt d l j h]
 exact List.getElem_mem h
theorem drop_getD {α : Type} (d : α) (l : List α) (j : Nat) (h : j < l.length) : l.drop j = l.getD j d :: l.drop (j + 1) := by
 rw [getD_of_lt d l j h]
 exact List.drop_eq_getElem_cons h
theorem w64n {j n : Nat} (h : j < n) (hn : n ≤ 140737488351232) : wrap64 ((j : Int) + 1) = ((j + 1 : Nat) : Int) := by
 rw [w64 (by omega) (by omega)]
 rfl

/-- What is left of 'left' when n have been taken; below 0 where there was too little. -/
def SubL (left : Int) (n : Nat) (t : Int) : Prop := if (n : Int) ≤ left then t = left - n else t < 0

theorem loop_sz {α : Type} (d : α) (l : List α) (hn : l.length ≤ 140737488351232) {F : Nat → Int → Int → Option Int} {g : Nat → α → Int → Option Int} {c : α → Nat}
  (hF : ∀ k left i, F (k + 1) left i = if i < (l.length : Int) then (if 0 ≤ i then ((g k (l.getD i.toNat d) left).bind fun t => if t < 0 then some (-1) else F k t (wrap64 (i + 1))) else none) else some left)
  (hG : ∀ y ∈ l, ∀ left : Int, 0 ≤ left → left ≤ 1048576 → ∃ t, Ev (fun k => g k y left) t ∧ SubL left (c y) t) (m : Nat) :
  ∀ (j : Nat) (left : Int), l.length = j + m → 0 ≤ left → left ≤ 1048576 → ∃ t, Ev (fun k => F k left j) t ∧ SubL left (((l.drop j).map c).sum) t := by
 induction m with
 | zero =>
  intro j left hj h0 h1
  refine ⟨left, Ev.succ ?_, ?_⟩
  ·simp only [hF]
   exact Ev.ite_neg (by omega) (Ev.done rfl)
  ·rw [List.drop_eq_nil_of_le (by omega)]
   unfold SubL
   simp [h0]
 | succ m ih =>
  intro j left hj h0 h1
  have hjl : j < l.length := by omega
  obtain ⟨t, ht, hs⟩ := hG _ (getD_mem d l j hjl) left h0 h1
  rw [drop_getD d l j hjl, List.map_cons, List.sum_cons]
  by_cases hc : (c (l.getD j d) : Int) ≤ left
  ·unfold SubL at hs
   rw [if_pos hc] at hs
   obtain ⟨u, hu, hs2⟩ := ih (j + 1) t (by omega) (by omega) (by omega)
   refine ⟨u, Ev.succ ?_, ?_⟩
   ·simp only [hF]
    refine Ev.ite_pos (by omega) (Ev.ite_pos (by omega) (Ev.bind ht (Ev.ite_neg (by omega) ?_)))
    rw [w64n hjl hn]
    exact hu
   ·unfold SubL at hs2 ⊢
    split at hs2
    ·rw [if_pos (by omega)]; omega
    ·rw [if_neg (by omega)]; exact hs2
  ·unfold SubL at hs
   rw [if_neg hc] at hs
   refine ⟨-1, Ev.succ ?_, ?_⟩
   ·simp only [hF]
    exact Ev.ite_pos (by omega) (Ev.ite_pos (by omega) (Ev.bind ht (Ev.ite_pos hs (Ev.done rfl))))
   ·unfold SubL
    rw [if_neg (by omega)]
    omega

theorem loop_to {α β γ : Type} (d : α) (l : List α) (hn : l.length ≤ 140737488351232) {F : Nat → List γ → Int → Option (List γ)} {g : Nat → α → Option β} {mk : β → γ} {v : α → β}
  (hF : ∀ k acc i, F (k + 1) acc i = if i < (l.length : Int) then (if 0 ≤ i then ((g k (l.getD i.toNat d)).bind fun t => if i < (acc.length : Int) then F k (acc.set i.toNat (mk t)) (wrap64 (i + 1)) else none) else none) else some acc)
  (hG : ∀ y ∈ l, Ev (fun k => g k y) (v y)) (m : Nat) :
  ∀ (j : Nat) (acc : List γ), l.length = j + m → acc.length = l.length → Ev (fun k => F k acc j) (acc.take j ++ (l.drop j).map (fun y => mk (v y))) := by
 induction m with
 | zero =>
  intro j acc hj ha
  refine Ev.succ ?_
  simp only [hF]
  refine Ev.ite_neg (by omega) (Ev.done ?_)
  rw [List.drop_eq_nil_of_le (by omega), List.take_of_length_le (by omega)]
  simp
 | succ m ih =>
  intro j acc hj ha
  have hjl : j < l.length := by omega
  refine Ev.succ ?_
  simp only [hF]
  refine Ev.ite_pos (by omega) (Ev.ite_pos (by omega) (Ev.bind (hG _ (getD_mem d l j hjl)) (Ev.ite_pos (by omega) ?_)))
  rw [w64n hjl hn]
  refine (ih (j + 1) _ (by omega) (by rw [List.length_set]; exact ha)).get ?_
  rw [drop_getD d l j hjl, List.map_cons]
  rw [Int.toNat_natCast]
  have hja : j < acc.length := by omega
  rw [List.take_succ_eq_append_getElem (by rw [List.length_set]; omega), List.take_set_of_le (Nat.le_refl j), List.getElem_set_self]
  simp

def all2 {α β : Type} (e : α → β → Bool) : List α → List β → Bool
 | [], _ => true
 | x :: r, y :: s => e x y && all2 e r s
 | _ :: _, [] => false

theorem loop_eq {α β : Type} (d : α) (d' : β) (l : List α) (l' : List β) (hn : l.length ≤ 140737488351232) (hl : l.length = l'.length) {F : Nat → Int → Option Bool} {g : Nat → α → β → Option Bool} {e : α → β → Bool}
  (hF : ∀ k i, F (k + 1) i = if i < (l.length : Int) then (if 0 ≤ i then (if i < (l'.length : Int) then ((g k (l.getD i.toNat d) (l'.getD i.toNat d')).bind fun t => if t = true then F k (wrap64 (i + 1)) else some false) else none) else none) else some true)
  (hG : ∀ y ∈ l, ∀ z ∈ l', Ev (fun k => g k y z) (e y z)) (m : Nat) :
  ∀ (j : Nat), l.length = j + m → Ev (fun k => F k j) (all2 e (l.drop j) (l'.drop j)) := by
 induction m with
 | zero =>
  intro j hj
  refine Ev.succ ?_
  simp only [hF]
  refine Ev.ite_neg (by omega) (Ev.done ?_)
  rw [List.drop_eq_nil_of_le (by omega)]
  rfl
 | succ m ih =>
  intro j hj
  have hjl : j < l.length := by omega
  have hjl' : j < l'.length := by omega
  refine Ev.succ ?_
  simp only [hF]
  have hg := hG _ (getD_mem d l j hjl) _ (getD_mem d' l' j hjl')
  rw [drop_getD d l j hjl, drop_getD d' l' j hjl']
  rw [all2]
  cases h : e (l.getD j d) (l'.getD j d') with
  | true =>
   rw [h] at hg
   refine Ev.ite_pos (by omega) (Ev.ite_pos (by omega) (Ev.ite_pos (by omega) (Ev.bind hg (Ev.ite_pos rfl ?_))))
   rw [w64n hjl hn, Bool.true_and]
   exact ih (j + 1) (by omega)
  | false =>
   rw [h] at hg
   exact Ev.ite_pos (by omega) (Ev.ite_pos (by omega) (Ev.ite_pos (by omega) (Ev.bind hg (Ev.ite_neg (by decide) (Ev.done rfl)))))

theorem loop_all {α : Type} (d : α) (l : List α) (hn : l.length ≤ 140737488351232) {F : Nat → Int → Option Bool} {g : Nat → α → Option Bool} {e : α → Bool} {R : Bool}
  (hF : ∀ k i, F (k + 1) i = if i < (l.length : Int) then (if 0 ≤ i then ((g k (l.getD i.toNat d)).bind fun t => if t = true then F k (wrap64 (i + 1)) else some false) else none) else some R)
  (hG : ∀ y ∈ l, Ev (fun k => g k y) (e y)) (m : Nat) :
  ∀ (j : Nat), l.length = j + m → Ev (fun k => F k j) ((l.drop j).all e && R) := by
 induction m with
 | zero =>
  intro j hj
  refine Ev.succ ?_
  simp only [hF]
  refine Ev.ite_neg (by omega) (Ev.done ?_)
  rw [List.drop_eq_nil_of_le (by omega)]
  rfl
 | succ m ih =>
  intro j hj
  have hjl : j < l.length := by omega
  refine Ev.succ ?_
  simp only [hF]
  have hg := hG _ (getD_mem d l j hjl)
  rw [drop_getD d l j hjl, List.all_cons]
  cases h : e (l.getD j d) with
  | true =>
   rw [h] at hg
   refine Ev.ite_pos (by omega) (Ev.ite_pos (by omega) (Ev.bind hg (Ev.ite_pos rfl ?_)))
   rw [w64n hjl hn, Bool.true_and]
   exact ih (j + 1) (by omega)
  | false =>
   rw [h] at hg
   exact Ev.ite_pos (by omega) (Ev.ite_pos (by omega) (Ev.bind hg (Ev.ite_neg (by decide) (Ev.done rfl))))

theorem all2_refl {α : Type} (e : α → α → Bool) : ∀ (l : List α), (∀ y ∈ l, e y y = true) → all2 e l l = true
 | [], _ => rfl
 | x :: r, h => by
  rw [all2, h x List.mem_cons_self, all2_refl e r (fun y hy => h y (List.mem_cons_of_mem _ hy))]
  rfl

/-- A value within the reach. -/
inductive OkV : S61 → Prop
 | mk (x : S61) (h0 : (Lit.int .i64 x.f0).wf = true) (h1 : x.f1.size ≤ 140737488351232) (h2 : x.f2.length * 72 ≤ 140737488351232) (h2' : ∀ y ∈ x.f2, OkV y) (h3 : x.f3.length * 16 ≤ 140737488351232) (h3' : ∀ s ∈ x.f3, s.size ≤ 140737488351232) : OkV x
mutual
/-- The program's value of a law's. -/
def cv : S61 → S52
 | ⟨a, b, c, d⟩ => ⟨a, b, cvs c, d⟩
def cvs : List S61 → List S52
 | [] => []
 | x :: r => cv x :: cvs r
end
theorem cvs_map : ∀ l, cvs l = l.map cv
 | [] => by rw [cvs]; rfl
 | x :: r => by rw [cvs, cvs_map r]; rfl
theorem cv_eq (x : S61) : cv x = ⟨x.f0, x.f1, x.f2.map cv, x.f3⟩ := by
 cases x
 rw [cv, cvs_map]
/-- A value of the program within the reach. -/
inductive OkI : S52 → Prop
 | mk (x : S52) (h0 : (Lit.int .i64 x.f0).wf = true) (h1 : x.f1.size ≤ 140737488351232) (h2 : x.f2.length * 72 ≤ 140737488351232) (h2' : ∀ y ∈ x.f2, OkI y) (h3 : x.f3.length * 16 ≤ 140737488351232) (h3' : ∀ s ∈ x.f3, s.size ≤ 140737488351232) : OkI x
theorem OkV.cv {x : S61} (h : OkV x) : OkI (cv x) := by
 induction h with
 | mk x h0 h1 h2 h2' h3 h3' ih =>
  rw [cv_eq]
  refine ⟨_, h0, h1, ?_, ?_, h3, h3'⟩
  ·show (x.f2.map Pure.cv).length * 72 ≤ _
   rw [List.length_map]
   exact h2
  ·intro y hy
   obtain ⟨z, hz, rfl⟩ := List.mem_map.1 hy
   exact ih z hz
theorem eta52 (x : S52) : (⟨x.f0, x.f1, x.f2, x.f3⟩ : S52) = x := by cases x; rfl
def totStrs (l : List ByteArray) : Nat := l.length + (l.map (·.size)).sum
mutual
/-- How many signs and places a value holds. -/
def totV : S61 → Nat
 | ⟨_, b, c, d⟩ => b.size + (c.length + totVs c) + totStrs d
def totVs : List S61 → Nat
 | [] => 0
 | x :: r => totV x + totVs r
end
theorem totVs_sum : ∀ l, totVs l = (l.map totV).sum
 | [] => by rw [totVs]; rfl
 | x :: r => by rw [totVs, totVs_sum r]; rfl
theorem totV_eq (x : S61) : totV x = x.f1.size + (x.f2.length + (x.f2.map totV).sum) + totStrs x.f3 := by
 cases x
 rw [totV, totVs_sum]

theorem laws_szStringS.ev (l : List ByteArray) (h : l.length * 16 ≤ 140737488351232) (hs : ∀ s ∈ l, s.size ≤ 140737488351232) (left : Int) (h0 : 0 ≤ left) (h1 : left ≤ 1048576) :
  ∃ t, Ev (fun k => laws_szStringS.f k l left) t ∧ SubL left (totStrs l) t := by
 have hn : l.length ≤ 140737488351232 := by omega
 unfold laws_szStringS.f totStrs
 rw [w64 (x := left - (l.length : Int)) (by omega) (by omega)]
 by_cases hc : left - (l.length : Int) < 0
 ·refine ⟨-1, Ev.ite_pos hc (Ev.done rfl), ?_⟩
  unfold SubL
  rw [if_neg (by omega)]
  omega
 ·obtain ⟨t, ht, hs2⟩ := loop_sz ByteArray.empty l hn (F := fun k left i => laws_szStringS.l0 k l left i) (g := fun _ y left => some (wrap64 (left - (y.size : Int)))) (c := fun y => y.size)
   (fun k left i => by simp only [laws_szStringS.l0]; rfl)
   (fun y hy left h0 h1 => ⟨left - y.size, Ev.done (w64 (by have := hs y hy; omega) (by omega)), by unfold SubL; split <;> omega⟩) l.length 0 (left - (l.length : Int)) (by omega) (by omega) (by omega)
  refine ⟨t, Ev.ite_neg hc ht, ?_⟩
  rw [List.drop_zero] at hs2
  unfold SubL at hs2 ⊢
  split at hs2
  ·rw [if_pos (by omega)]; omega
  ·rw [if_neg (by omega)]; exact hs2

theorem laws_szValueS.evl (l : List S61) (h : l.length * 72 ≤ 140737488351232) (hs : ∀ y ∈ l, ∀ left : Int, 0 ≤ left → left ≤ 1048576 → ∃ t, Ev (fun k => laws_szValueS.p.f k y.f0 y.f1 y.f2 y.f3 left) t ∧ SubL left (totV y) t)
  (left : Int) (h0 : 0 ≤ left) (h1 : left ≤ 1048576) : ∃ t, Ev (fun k => laws_szValueS.f k l left) t ∧ SubL left (l.length + (l.map totV).sum) t := by
 have hn : l.length ≤ 140737488351232 := by omega
 have hw : wrap64 (left - (l.length : Int)) = left - (l.length : Int) := w64 (by omega) (by omega)
 by_cases hc : left - (l.length : Int) < 0
 ·refine ⟨-1, Ev.succ ?_, ?_⟩
  ·simp only [laws_szValueS.f, hw]
   exact Ev.ite_pos hc (Ev.done rfl)
  ·unfold SubL
   rw [if_neg (by omega)]
   omega
 ·obtain ⟨t, ht, hs2⟩ := loop_sz z61 l hn (F := fun k left i => laws_szValueS.l0 k l left i) (g := fun k y left => laws_szValueS.p.f k y.f0 y.f1 y.f2 y.f3 left) (c := totV)
   (fun k left i => by simp only [laws_szValueS.l0]; rfl) hs l.length 0 (left - (l.length : Int)) (by omega) (by omega) (by omega)
  refine ⟨t, Ev.succ ?_, ?_⟩
  ·simp only [laws_szValueS.f, hw]
   exact Ev.ite_neg hc ht
  ·rw [List.drop_zero] at hs2
   unfold SubL at hs2 ⊢
   split at hs2
   ·rw [if_pos (by omega)]; omega
   ·rw [if_neg (by omega)]; exact hs2
theorem laws_szValue.ev {x : S61} (hx : OkV x) : ∀ left : Int, 0 ≤ left → left ≤ 1048576 → ∃ t, Ev (fun k => laws_szValue.f k x.f0 x.f1 x.f2 x.f3 left) t ∧ SubL left (totV x) t := by
 unfold laws_szValue.f
 induction hx with
 | mk x h0 h1 h2 h2' h3 h3' ih =>
  intro left hl0 hl1
  have hw : wrap64 (left - (x.f1.size : Int)) = left - (x.f1.size : Int) := w64 (by omega) (by omega)
  by_cases hc : left - (x.f1.size : Int) < 0
  ·refine ⟨-1, Ev.succ ?_, ?_⟩
   ·simp only [laws_szValueS.p.f, laws_szValue.F, hw]
    exact Ev.ite_pos hc (Ev.done rfl)
   ·unfold SubL
    rw [totV_eq, if_neg (by omega)]
    omega
  ·obtain ⟨t, ht, hs⟩ := laws_szValueS.evl x.f2 h2 ih (left - (x.f1.size : Int)) (by omega) (by omega)
   by_cases hd : t < 0
   ·refine ⟨-1, Ev.succ ?_, ?_⟩
    ·simp only [laws_szValueS.p.f, laws_szValue.F, hw]
     exact Ev.ite_neg hc (Ev.bind ht (Ev.ite_pos hd (Ev.done rfl)))
    ·unfold SubL at hs ⊢
     rw [totV_eq]
     split at hs
     ·omega
     ·rw [if_neg (by omega)]; omega
   ·have ht2 : t = left - (x.f1.size : Int) - ((x.f2.length + (x.f2.map totV).sum : Nat) : Int) ∧ (((x.f2.length + (x.f2.map totV).sum : Nat) : Int)) ≤ left - (x.f1.size : Int) := by
     unfold SubL at hs
     split at hs
     ·exact ⟨hs, by assumption⟩
     ·omega
    obtain ⟨u, hu, hs2⟩ := laws_szStringS.ev x.f3 h3 h3' t (by omega) (by omega)
    by_cases he : u < 0
    ·refine ⟨-1, Ev.succ ?_, ?_⟩
     ·simp only [laws_szValueS.p.f, laws_szValue.F, hw]
      exact Ev.ite_neg hc (Ev.bind ht (Ev.ite_neg hd (Ev.bind hu (Ev.ite_pos he (Ev.done rfl)))))
     ·unfold SubL at hs2 ⊢
      rw [totV_eq]
      split at hs2
      ·omega
      ·rw [if_neg (by omega)]; omega
    ·refine ⟨u, Ev.succ ?_, ?_⟩
     ·simp only [laws_szValueS.p.f, laws_szValue.F, hw]
      exact Ev.ite_neg hc (Ev.bind ht (Ev.ite_neg hd (Ev.bind hu (Ev.ite_neg he (Ev.done rfl)))))
     ·unfold SubL at hs2 ⊢
      rw [totV_eq]
      split at hs2
      ·rw [if_pos (by omega)]; omega
      ·omega

theorem SubL.zero {left : Int} (h : 0 ≤ left) : SubL left 0 left := by unfold SubL; rw [if_pos (by omega)]; omega
theorem SubL.le {left t : Int} {n : Nat} (h : SubL left n t) (h0 : 0 ≤ left) : t ≤ left := by unfold SubL at h; split at h <;> omega
theorem SubL.stop {left t : Int} {n : Nat} (h : SubL left n t) (ht : t < 0) (m : Nat) : SubL left (n + m) (-1) := by
 unfold SubL at h ⊢
 split at h
 ·omega
 ·rw [if_neg (by omega)]; omega
theorem SubL.next {left t u : Int} {n m : Nat} (h : SubL left n t) (ht : ¬ t < 0) (h2 : SubL t m u) : SubL left (n + m) u := by
 unfold SubL at h h2 ⊢
 split at h
 ·split at h2
  ·rw [if_pos (by omega)]; omega
  ·rw [if_neg (by omega)]; exact h2
 ·omega
/-- What answers how much is left. -/
def Sz (g : Nat → Int → Option Int) (n : Nat) : Prop := ∀ left : Int, 0 ≤ left → left ≤ 1048576 → ∃ t, Ev (fun k => g k left) t ∧ SubL left n t
theorem Sz.end : Sz (fun _ x => some x) 0 := fun left h0 _ => ⟨left, Ev.done rfl, SubL.zero h0⟩
theorem Sz.succ {g : Nat → Int → Option Int} {n : Nat} (h : Sz (fun k x => g (k + 1) x) n) : Sz g n := fun left h0 h1 => by
 obtain ⟨t, ht, hs⟩ := h left h0 h1
 exact ⟨t, Ev.succ ht, hs⟩
theorem Sz.str (s : ByteArray) (hs : s.size ≤ 140737488351232) {g : Nat → Int → Option Int} {m : Nat} (h : Sz g m) : Sz (fun k x => if (wrap64 (x - (s.size : Int))) < 0 then some (-1) else g k (wrap64 (x - (s.size : Int)))) (s.size + m) := fun left h0 h1 => by
 have hw : wrap64 (left - (s.size : Int)) = left - (s.size : Int) := w64 (by omega) (by omega)
 have hq : SubL left s.size (left - (s.size : Int)) := by unfold SubL; split <;> omega
 by_cases hc : left - (s.size : Int) < 0
 ·exact ⟨-1, by simp only [hw]; exact Ev.ite_pos hc (Ev.done rfl), hq.stop hc m⟩
 ·obtain ⟨t, ht, hs⟩ := h (left - (s.size : Int)) (by omega) (by omega)
  exact ⟨t, by simp only [hw]; exact Ev.ite_neg hc ht, hq.next hc hs⟩
theorem Sz.bind {f g : Nat → Int → Option Int} {n m : Nat} (hf : Sz f n) (h : Sz g m) : Sz (fun k x => (f k x).bind fun t => if t < 0 then some (-1) else g k t) (n + m) := fun left h0 h1 => by
 obtain ⟨t, ht, hs⟩ := hf left h0 h1
 by_cases hc : t < 0
 ·exact ⟨-1, Ev.bind ht (Ev.ite_pos hc (Ev.done rfl)), hs.stop hc m⟩
 ·obtain ⟨u, hu, hs2⟩ := h t (by omega) (by have := hs.le h0; omega)
  exact ⟨u, Ev.bind ht (Ev.ite_neg hc hu), hs.next hc hs2⟩
theorem Sz.list {α : Type} (d : α) (l : List α) (hn : l.length ≤ 140737488351232) {F : Nat → Int → Int → Option Int} {g : Nat → α → Int → Option Int} {c : α → Nat}
  (hF : ∀ k left i, F (k + 1) left i = if i < (l.length : Int) then (if 0 ≤ i then ((g k (l.getD i.toNat d) left).bind fun t => if t < 0 then some (-1) else F k t (wrap64 (i + 1))) else none) else some left)
  (hG : ∀ y ∈ l, Sz (fun k x => g k y x) (c y)) : Sz (fun k x => if (wrap64 (x - (l.length : Int))) < 0 then some (-1) else F k (wrap64 (x - (l.length : Int))) 0) (l.length + (l.map c).sum) := fun left h0 h1 => by
 have hw : wrap64 (left - (l.length : Int)) = left - (l.length : Int) := w64 (by omega) (by omega)
 have hq : SubL left l.length (left - (l.length : Int)) := by unfold SubL; split <;> omega
 by_cases hc : left - (l.length : Int) < 0
 ·exact ⟨-1, by simp only [hw]; exact Ev.ite_pos hc (Ev.done rfl), hq.stop hc _⟩
 ·obtain ⟨t, ht, hs⟩ := loop_sz d l hn hF hG l.length 0 (left - (l.length : Int)) (by omega) (by omega) (by omega)
  rw [List.drop_zero] at hs
  exact ⟨t, by simp only [hw]; exact Ev.ite_neg hc ht, hq.next hc hs⟩
/-- A row made new and filled: each element's own. -/
theorem To.list {α β γ : Type} (d : α) (l : List α) (hn : l.length ≤ 140737488351232) {N : Nat} (hN : l.length ≤ N) (z : γ) {F : Nat → List γ → Int → Option (List γ)} {g : Nat → α → Option β} {mk : β → γ} {v : α → β} {c : α → γ}
  (hF : ∀ k acc i, F (k + 1) acc i = if i < (l.length : Int) then (if 0 ≤ i then ((g k (l.getD i.toNat d)).bind fun t => if i < (acc.length : Int) then F k (acc.set i.toNat (mk t)) (wrap64 (i + 1)) else none) else none) else some acc)
  (hG : ∀ y ∈ l, Ev (fun k => g k y) (v y)) (hc : ∀ y, mk (v y) = c y) :
  Ev (fun k => if 0 ≤ (l.length : Int) then (if ((l.length : Int) : Int).toNat ≤ N then F k (List.replicate ((l.length : Int) : Int).toNat z) 0 else none) else none) (l.map c) := by
 refine Ev.ite_pos (by omega) (Ev.ite_pos (by omega) ?_)
 refine (loop_to d l hn hF hG l.length 0 _ (by omega) (by simp)).get ?_
 rw [List.take_zero, List.drop_zero, List.nil_append]
 exact List.map_congr_left (fun y _ => hc y)
theorem Eq.loop {α : Type} (d : α) (l : List α) (hn : l.length ≤ 140737488351232) {F : Nat → Int → Option Bool} {g : Nat → α → Option Bool}
  (hF : ∀ k i, F (k + 1) i = if i < (l.length : Int) then (if 0 ≤ i then (if i < (l.length : Int) then ((g k (l.getD i.toNat d)).bind fun t => if t = true then F k (wrap64 (i + 1)) else some false) else none) else none) else some true)
  (hG : ∀ y ∈ l, Ev (fun k => g k y) true) : Ev (fun k => F k 0) true := by
 have key : ∀ (m j : Nat), l.length = j + m → Ev (fun k => F k j) true := by
  intro m
  induction m with
  | zero =>
   intro j hj
   refine Ev.succ ?_
   simp only [hF]
   exact Ev.ite_neg (by omega) (Ev.done rfl)
  | succ m ih =>
   intro j hj
   have hjl : j < l.length := by omega
   refine Ev.succ ?_
   simp only [hF]
   refine Ev.ite_pos (by omega) (Ev.ite_pos (by omega) (Ev.ite_pos (by omega) (Ev.bind (hG _ (getD_mem d l j hjl)) (Ev.ite_pos rfl ?_))))
   rw [w64n hjl hn]
   exact ih (j + 1) (by omega)
 exact key l.length 0 (by omega)
theorem Eq.list {α : Type} (d : α) (l : List α) (hn : l.length ≤ 140737488351232) {F : Nat → Int → Option Bool} {g : Nat → α → Option Bool}
  (hF : ∀ k i, F (k + 1) i = if i < (l.length : Int) then (if 0 ≤ i then (if i < (l.length : Int) then ((g k (l.getD i.toNat d)).bind fun t => if t = true then F k (wrap64 (i + 1)) else some false) else none) else none) else some true)
  (hG : ∀ y ∈ l, Ev (fun k => g k y) true) : Ev (fun k => if (l.length : Int) = (l.length : Int) then F k 0 else some false) true := Ev.ite_pos rfl (Eq.loop d l hn hF hG)

/-- An argument within the reach. -/
inductive OkA : S63 → Prop
 | mk (x : S63) (h0 : x.f0.size ≤ 140737488351232) (h1 : OkV x.f1) : OkA x
inductive OkIA : S54 → Prop
 | mk (x : S54) (h0 : x.f0.size ≤ 140737488351232) (h1 : OkI x.f1) : OkIA x
def ca (x : S63) : S54 := ⟨x.f0, cv x.f1⟩
theorem OkA.ca {x : S63} (h : OkA x) : OkIA (ca x) := by
 obtain ⟨h0, h1⟩ := h
 exact OkIA.mk _ h0 h1.cv
def totA (x : S63) : Nat := x.f0.size + totV x.f1
def OkAs (l : List S63) : Prop := l.length * 88 ≤ 140737488351232 ∧ ∀ y ∈ l, OkA y
def OkIAs (l : List S54) : Prop := l.length * 88 ≤ 140737488351232 ∧ ∀ y ∈ l, OkIA y
theorem OkAs.ca {l : List S63} (h : OkAs l) : OkIAs (l.map ca) := ⟨by rw [List.length_map]; exact h.1, fun y hy => by
 obtain ⟨z, hz, rfl⟩ := List.mem_map.1 hy
 exact (h.2 z hz).ca⟩

theorem laws_szArg.ev {x : S63} (hx : OkA x) : Sz (fun k left => laws_szArg.f k x.f0 x.f1.f0 x.f1.f1 x.f1.f2 x.f1.f3 left) (totA x) := by
 obtain ⟨h0, h1⟩ := hx
 unfold laws_szArg.f totA
 exact Sz.str x.f0 h0 (g := fun k t => (laws_szValue.f k x.f1.f0 x.f1.f1 x.f1.f2 x.f1.f3 t).bind fun t => if t < 0 then some (-1) else some t) (Sz.bind (g := fun _ t => some t) (laws_szValue.ev h1) Sz.end)

theorem laws_szArgS.ev {l : List S63} (hl : OkAs l) : Sz (fun k left => laws_szArgS.f k l left) (l.length + (l.map totA).sum) := by
 unfold laws_szArgS.f
 exact Sz.list z63 l (by have := hl.1; omega) (F := fun k left i => laws_szArgS.l0 k l left i) (g := fun k y left => laws_szArg.f k y.f0 y.f1.f0 y.f1.f1 y.f1.f2 y.f1.f3 left) (c := totA) (fun k left i => by simp only [laws_szArgS.l0]; rfl) (fun y hy => laws_szArg.ev (hl.2 y hy))

/-- A directive within the reach. -/
inductive OkD : S32 → Prop
 | mk (x : S32) (h0 : x.f0.size ≤ 140737488351232) (h1 : x.f1.length * 88 ≤ 140737488351232) (h1' : ∀ y ∈ x.f1, OkA y) : OkD x
inductive OkID : S38 → Prop
 | mk (x : S38) (h0 : x.f0.size ≤ 140737488351232) (h1 : x.f1.length * 88 ≤ 140737488351232) (h1' : ∀ y ∈ x.f1, OkIA y) : OkID x
def cd (x : S32) : S38 := ⟨x.f0, x.f1.map ca⟩
theorem OkD.cd {x : S32} (h : OkD x) : OkID (cd x) := by
 obtain ⟨h0, h1, h1'⟩ := h
 have := OkAs.ca ⟨h1, h1'⟩
 exact OkID.mk _ h0 this.1 this.2
def totAs (l : List S63) : Nat := l.length + (l.map totA).sum
def totD (x : S32) : Nat := x.f0.size + totAs x.f1
def totDs (l : List S32) : Nat := l.length + (l.map totD).sum
def OkDs (l : List S32) : Prop := l.length * 40 ≤ 140737488351232 ∧ ∀ y ∈ l, OkD y
def OkIDs (l : List S38) : Prop := l.length * 40 ≤ 140737488351232 ∧ ∀ y ∈ l, OkID y
theorem OkDs.cd {l : List S32} (h : OkDs l) : OkIDs (l.map cd) := ⟨by rw [List.length_map]; exact h.1, fun y hy => by
 obtain ⟨z, hz, rfl⟩ := List.mem_map.1 hy
 exact (h.2 z hz).cd⟩

theorem laws_szDir.ev {x : S32} (hx : OkD x) : Sz (fun k left => laws_szDir.f k x.f0 x.f1 left) (totD x) := by
 obtain ⟨h0, h1, h1'⟩ := hx
 unfold laws_szDir.f totD
 have e : Sz (fun k left => laws_szArgS.f k x.f1 left) (totAs x.f1) := laws_szArgS.ev ⟨h1, h1'⟩
 exact Sz.str x.f0 h0 (g := fun k t => (laws_szArgS.f k x.f1 t).bind fun t => if t < 0 then some (-1) else some t) (Sz.bind (n := totAs x.f1) (m := 0) (g := fun _ t => some t) e Sz.end)

theorem laws_szDirS.ev {l : List S32} (hl : OkDs l) : Sz (fun k left => laws_szDirS.f k l left) (totDs l) := by
 unfold laws_szDirS.f totDs
 exact Sz.list z32 l (by have := hl.1; omega) (F := fun k left i => laws_szDirS.l0 k l left i) (g := fun k y left => laws_szDir.f k y.f0 y.f1 left) (c := totD) (fun k left i => by simp only [laws_szDirS.l0]; rfl) (fun y hy => laws_szDir.ev (hl.2 y hy))

theorem spec_l03Figure.eq (x : Int) : spec_l03Figure.f x = some (figB x) := by
 unfold spec_l03Figure.f figB
 by_cases h : x ≥ 48
 ·rw [if_pos h]; congr 1; rw [Bool.eq_iff_iff]; simp only [decide_eq_true_eq, Bool.or_eq_true, beq_iff_eq, Bool.false_eq_true, true_iff, false_iff]; omega
 ·rw [if_neg h]; congr 1; rw [Bool.eq_iff_iff]; simp only [decide_eq_true_eq, Bool.or_eq_true, beq_iff_eq, Bool.false_eq_true, true_iff, false_iff]; omega

theorem spec_l03Letter.eq (x : Int) : spec_l03Letter.f x = some (lowB x || x == 95) := by
 unfold spec_l03Letter.f lowB
 by_cases h : x ≥ 97
 ·rw [if_pos h]
  by_cases h2 : x ≤ 122
  ·rw [if_pos h2]; congr 1; rw [Bool.eq_iff_iff]; simp only [decide_eq_true_eq, Bool.or_eq_true, beq_iff_eq, Bool.false_eq_true, true_iff, false_iff]; omega
  ·rw [if_neg h2, if_pos (by omega), if_neg (by omega)]; congr 1; rw [Bool.eq_iff_iff]; simp only [decide_eq_true_eq, Bool.or_eq_true, beq_iff_eq, Bool.false_eq_true, true_iff, false_iff]; omega
 ·rw [if_neg h]
  by_cases h2 : x ≥ 65
  ·rw [if_pos h2]
   by_cases h3 : x ≤ 90
   ·rw [if_pos h3]; congr 1; rw [Bool.eq_iff_iff]; simp only [decide_eq_true_eq, Bool.or_eq_true, beq_iff_eq, Bool.false_eq_true, true_iff, false_iff]; omega
   ·rw [if_neg h3]; congr 1; rw [Bool.eq_iff_iff]; simp only [decide_eq_true_eq, Bool.or_eq_true, beq_iff_eq, Bool.false_eq_true, true_iff, false_iff]; omega
  ·rw [if_neg h2]; congr 1; rw [Bool.eq_iff_iff]; simp only [decide_eq_true_eq, Bool.or_eq_true, beq_iff_eq, Bool.false_eq_true, true_iff, false_iff]; omega

theorem spec_NameOk.l0_ev (s : ByteArray) (hs : s.size ≤ 140737488351232) (n : Nat) : ∀ i : Int, 0 ≤ i → (s.size : Int) - i = n →
  Ev (fun k => spec_NameOk.l0 k s i) ((tl s i).all nameB) := by
 induction n with
 | zero =>
  intro i h0 hn
  apply Ev.succ; simp only [spec_NameOk.l0]
  rw [tl_nil (by omega)]
  exact Ev.ite_neg (by omega) (Ev.done rfl)
 | succ n ih =>
  intro i h0 hn
  have h1 : i < (s.size : Int) := by omega
  have ih := ih (i + 1) (by omega) (by omega)
  apply Ev.succ
  simp only [spec_NameOk.l0, h0, h1, if_true, spec_l03Letter.eq, spec_l03Figure.eq, Option.bind_some, w64 (x := i + 1) (by omega) (by omega)]
  rw [tl_cons h0 h1, List.all_cons]
  have e : nameB (bt s i) = ((lowB (bt s i) || bt s i == 95) || figB (bt s i)) := by unfold nameB; cases lowB (bt s i) <;> cases figB (bt s i) <;> simp
  rw [e]
  cases (lowB (bt s i) || bt s i == 95) <;> cases figB (bt s i) <;> simp <;> first | exact ih | exact Ev.done rfl
theorem spec_NameOk.ev (s : ByteArray) (hs : s.size ≤ 140737488351232) : Ev (fun k => spec_NameOk.f k s) (nameOkL (bytesOf s)) := by
 have hl := size_bytes s
 have hj : Ev (fun k => spec_NameOk.j0 k s true) false := by
  apply Ev.succ; simp only [spec_NameOk.j0, if_true]; exact Ev.done rfl
 unfold spec_NameOk.f
 by_cases h0 : (s.size : Int) = 0
 ·refine Ev.ite_pos h0 (hj.get ?_)
  unfold nameOkL; simp; omega
 ·refine Ev.ite_neg h0 ?_
  by_cases h1 : (s.size : Int) > 30
  ·refine Ev.ite_pos h1 (hj.get ?_)
   unfold nameOkL; simp; omega
  ·refine Ev.ite_neg h1 (Ev.ite_pos (by omega) ?_)
   simp only [spec_l03Figure.eq, Option.bind_some]
   have hl0 := spec_NameOk.l0_ev s hs s.size 0 (by omega) (by omega)
   have ht := tl_cons (s := s) (i := 0) (by omega) (by omega)
   rw [tl_zero] at ht hl0
   have hd : (bytesOf s).headD 0 = bt s 0 := by rw [ht]; rfl
   apply Ev.succ; simp only [spec_NameOk.j0]
   cases hf : figB (bt s 0) with
   | true => exact (Ev.done rfl).get (by unfold nameOkL; rw [hd, hf]; simp)
   | false =>
    simp only [Bool.false_eq_true, if_false]
    exact hl0.get (by unfold nameOkL; rw [hd, hf, hl]; simp; omega)

theorem spec_l01In.eq (x a b : Int) : spec_l01In.f x a b = some (decide (a ≤ x ∧ x ≤ b)) := by
 unfold spec_l01In.f
 by_cases h : x ≥ a
 ·rw [if_pos h]; congr 1; rw [Bool.eq_iff_iff]; simp only [decide_eq_true_eq]; omega
 ·rw [if_neg h]; congr 1; rw [Bool.eq_iff_iff]; simp only [decide_eq_true_eq, Bool.false_eq_true, false_iff]; omega

/-- The bytes of a scalar. -/
def runeL (n : Int) : List Int :=
 if n < 128 then [n] else if n < 2048 then [192 + n / 64, 128 + n % 64]
 else if n < 65536 then [224 + n / 4096, 128 + n / 64 % 64, 128 + n % 64]
 else [240 + n / 262144, 128 + n / 4096 % 64, 128 + n / 64 % 64, 128 + n % 64]
def scalB (n : Int) : Bool := decide (0 ≤ n ∧ n ≤ 1114111) && !decide (55296 ≤ n ∧ n ≤ 57343)
def runeTextL (n : Int) : ByteArray := if scalB n = true then strOfNums (runeL n) else (⟨#[]⟩ : ByteArray)
theorem spec_l02Scalar.eq (x : Int) : spec_l02Scalar.f x = some (scalB x) := by
 unfold spec_l02Scalar.f scalB
 simp only [spec_l01In.eq, Option.bind_some]
 cases decide (0 ≤ x ∧ x ≤ 1114111) <;> simp

theorem spec_RuneText.eq (n : Int) : spec_RuneText.f n = some (runeTextL n) := by
 unfold spec_RuneText.f runeTextL
 rw [spec_l02Scalar.eq]; simp only [Option.bind_some]
 cases hs : scalB n with
 | false => rfl
 | true =>
  have hr : 0 ≤ n ∧ n ≤ 1114111 := by unfold scalB at hs; simp only [Bool.and_eq_true, decide_eq_true_eq] at hs; exact hs.1
  have d1 : ∀ m : Int, 0 < m → Int.tdiv n m = n / m := fun m _ => Int.tdiv_eq_ediv_of_nonneg hr.1
  have d2 : ∀ a m : Int, 0 ≤ a → Int.tmod a m = a % m := fun a m h => Int.tmod_eq_emod_of_nonneg h
  rw [if_pos rfl, if_pos rfl]
  unfold runeL
  rw [d1 64 (by omega), d1 4096 (by omega), d1 262144 (by omega), d2 n 64 hr.1, w64 (x := n / 64) (by omega) (by omega), w64 (x := n / 4096) (by omega) (by omega), w64 (x := n / 262144) (by omega) (by omega), d2 (n / 64) 64 (by omega), d2 (n / 4096) 64 (by omega)]
  rw [w64 (x := 192 + n / 64) (by omega) (by omega), w64 (x := 128 + n % 64) (by omega) (by omega), w64 (x := 224 + n / 4096) (by omega) (by omega), w64 (x := 128 + n / 64 % 64) (by omega) (by omega), w64 (x := 240 + n / 262144) (by omega) (by omega), w64 (x := 128 + n / 4096 % 64) (by omega) (by omega)]
  by_cases c1 : n < 128
  ·rw [if_pos c1, if_pos c1]; congr 2; simp; omega
  ·rw [if_neg c1, if_neg c1]
   by_cases c2 : n < 2048
   ·rw [if_pos c2, if_pos c2]; congr 2; simp; omega
   ·rw [if_neg c2, if_neg c2]
    by_cases c3 : n < 65536
    ·rw [if_pos c3, if_pos c3]; congr 2; simp; omega
    ·rw [if_neg c3, if_neg c3]; congr 2; simp; omega

/-- The scalar at the begin of what is left (n bytes, the first four of them b0 .. b3), and how many bytes it takes; -1: none. -/
def decZ (n b0 b1 b2 b3 : Int) : Int × Int :=
 if n ≤ 0 then (-1, 0)
 else if b0 < 128 then (b0, 1)
 else if 194 ≤ b0 ∧ b0 < 224 ∧ 2 ≤ n ∧ 128 ≤ b1 ∧ b1 ≤ 191 then ((b0 - 192) * 64 + b1 - 128, 2)
 else if 224 ≤ b0 ∧ b0 < 240 ∧ 3 ≤ n ∧ 128 ≤ b1 ∧ b1 ≤ 191 ∧ 128 ≤ b2 ∧ b2 ≤ 191 ∧ 2048 ≤ ((b0 - 224) * 64 + b1 - 128) * 64 + b2 - 128 ∧ ¬ (55296 ≤ ((b0 - 224) * 64 + b1 - 128) * 64 + b2 - 128 ∧ ((b0 - 224) * 64 + b1 - 128) * 64 + b2 - 128 ≤ 57343) then (((b0 - 224) * 64 + b1 - 128) * 64 + b2 - 128, 3)
 else if 240 ≤ b0 ∧ b0 < 245 ∧ 4 ≤ n ∧ 128 ≤ b1 ∧ b1 ≤ 191 ∧ 128 ≤ b2 ∧ b2 ≤ 191 ∧ 128 ≤ b3 ∧ b3 ≤ 191 ∧ 65536 ≤ (((b0 - 240) * 64 + b1 - 128) * 64 + b2 - 128) * 64 + b3 - 128 ∧ (((b0 - 240) * 64 + b1 - 128) * 64 + b2 - 128) * 64 + b3 - 128 ≤ 1114111 then ((((b0 - 240) * 64 + b1 - 128) * 64 + b2 - 128) * 64 + b3 - 128, 4)
 else (-1, 0)
def decAt (s : ByteArray) (i : Int) : Int × Int := decZ ((s.size : Int) - i) (bt s i) (bt s (i + 1)) (bt s (i + 2)) (bt s (i + 3))
/-- Go's decoder's answer, as RuneAt tells it. -/
def asAt (d : Nat × Nat) : Int × Int := if d.1 = 65533 ∧ d.2 < 2 then (-1, 0) else ((d.1 : Int), (d.2 : Int))
theorem asAt_ok (a b : Nat) (h : ¬ (a = 65533 ∧ b < 2)) : asAt (a, b) = ((a : Int), (b : Int)) := by unfold asAt; rw [if_neg h]
theorem dec_go (n b0 b1 b2 b3 : Nat) (hn : 1 ≤ n) (h0 : b0 < 256) (h1 : b1 < 256) (h2 : b2 < 256) (h3 : b3 < 256) :
  asAt (Lib.decodeN n b0 b1 b2 b3) = decZ n b0 b1 b2 b3 := by
 by_cases c0 : b0 < 128
 ·have l : Lib.decodeN n b0 b1 b2 b3 = (b0, 1) := by unfold Lib.decodeN; rw [if_pos c0]
  have r : decZ n b0 b1 b2 b3 = ((b0 : Int), 1) := by unfold decZ; rw [if_neg (by omega), if_pos (by omega)]
  rw [l, r, asAt_ok _ _ (by omega)]; rfl
 by_cases k2 : b0 / 32 = 6 ∧ (1 < n ∧ b1 / 64 = 2)
 ·by_cases c : b0 % 32 * 64 + b1 % 64 ≥ 128
  ·have l : Lib.decodeN n b0 b1 b2 b3 = (b0 % 32 * 64 + b1 % 64, 2) := by unfold Lib.decodeN; rw [if_neg c0, if_pos k2, if_pos c]
   have r : decZ n b0 b1 b2 b3 = (((b0 : Int) - 192) * 64 + b1 - 128, 2) := by unfold decZ; rw [if_neg (by omega), if_neg (by omega), if_pos (by omega)]
   rw [l, r, asAt_ok _ _ (by omega)]
   refine Prod.ext ?_ ?_ <;> simp only [] <;> omega
  ·have l : Lib.decodeN n b0 b1 b2 b3 = (65533, 1) := by unfold Lib.decodeN; rw [if_neg c0, if_pos k2, if_neg c]
   have r : decZ n b0 b1 b2 b3 = (-1, 0) := by unfold decZ; rw [if_neg (by omega), if_neg (by omega), if_neg (by omega), if_neg (by omega), if_neg (by omega)]
   rw [l, r]; rfl
 by_cases k3 : b0 / 16 = 14 ∧ (1 < n ∧ b1 / 64 = 2) ∧ (2 < n ∧ b2 / 64 = 2)
 ·by_cases c : b0 % 16 * 4096 + b1 % 64 * 64 + b2 % 64 ≥ 2048 ∧ (b0 % 16 * 4096 + b1 % 64 * 64 + b2 % 64 < 55296 ∨ (57344 ≤ b0 % 16 * 4096 + b1 % 64 * 64 + b2 % 64 ∧ b0 % 16 * 4096 + b1 % 64 * 64 + b2 % 64 ≤ 1114111))
  ·have l : Lib.decodeN n b0 b1 b2 b3 = (b0 % 16 * 4096 + b1 % 64 * 64 + b2 % 64, 3) := by unfold Lib.decodeN; rw [if_neg c0, if_neg k2, if_pos k3, if_pos c]
   have r : decZ n b0 b1 b2 b3 = ((((b0 : Int) - 224) * 64 + b1 - 128) * 64 + b2 - 128, 3) := by unfold decZ; rw [if_neg (by omega), if_neg (by omega), if_neg (by omega), if_pos (by omega)]
   rw [l, r, asAt_ok _ _ (by omega)]
   refine Prod.ext ?_ ?_ <;> simp only [] <;> omega
  ·have l : Lib.decodeN n b0 b1 b2 b3 = (65533, 1) := by unfold Lib.decodeN; rw [if_neg c0, if_neg k2, if_pos k3, if_neg c]
   have r : decZ n b0 b1 b2 b3 = (-1, 0) := by unfold decZ; rw [if_neg (by omega), if_neg (by omega), if_neg (by omega), if_neg (by omega), if_neg (by omega)]
   rw [l, r]; rfl
 by_cases k4 : b0 / 8 = 30 ∧ (1 < n ∧ b1 / 64 = 2) ∧ (2 < n ∧ b2 / 64 = 2) ∧ (3 < n ∧ b3 / 64 = 2)
 ·by_cases c : b0 % 8 * 262144 + b1 % 64 * 4096 + b2 % 64 * 64 + b3 % 64 ≥ 65536 ∧ (b0 % 8 * 262144 + b1 % 64 * 4096 + b2 % 64 * 64 + b3 % 64 < 55296 ∨ (57344 ≤ b0 % 8 * 262144 + b1 % 64 * 4096 + b2 % 64 * 64 + b3 % 64 ∧ b0 % 8 * 262144 + b1 % 64 * 4096 + b2 % 64 * 64 + b3 % 64 ≤ 1114111))
  ·have l : Lib.decodeN n b0 b1 b2 b3 = (b0 % 8 * 262144 + b1 % 64 * 4096 + b2 % 64 * 64 + b3 % 64, 4) := by unfold Lib.decodeN; rw [if_neg c0, if_neg k2, if_neg k3, if_pos k4, if_pos c]
   have r : decZ n b0 b1 b2 b3 = (((((b0 : Int) - 240) * 64 + b1 - 128) * 64 + b2 - 128) * 64 + b3 - 128, 4) := by unfold decZ; rw [if_neg (by omega), if_neg (by omega), if_neg (by omega), if_neg (by omega), if_pos (by omega)]
   rw [l, r, asAt_ok _ _ (by omega)]
   refine Prod.ext ?_ ?_ <;> simp only [] <;> omega
  ·have l : Lib.decodeN n b0 b1 b2 b3 = (65533, 1) := by unfold Lib.decodeN; rw [if_neg c0, if_neg k2, if_neg k3, if_pos k4, if_neg c]
   have r : decZ n b0 b1 b2 b3 = (-1, 0) := by unfold decZ; rw [if_neg (by omega), if_neg (by omega), if_neg (by omega), if_neg (by omega), if_neg (by omega)]
   rw [l, r]; rfl
 have l : Lib.decodeN n b0 b1 b2 b3 = (65533, 1) := by unfold Lib.decodeN; rw [if_neg c0, if_neg k2, if_neg k3, if_neg k4]
 have r : decZ n b0 b1 b2 b3 = (-1, 0) := by unfold decZ; rw [if_neg (by omega), if_neg (by omega), if_neg (by omega), if_neg (by omega), if_neg (by omega)]
 rw [l, r]; rfl
theorem bt_get (s : ByteArray) (k : Nat) : (((s.get! k).toNat : Nat) : Int) = bt s k := by
 unfold bt
 by_cases h : k < s.size
 ·rw [dif_pos (by simpa using h)]
  have : s.get! k = s[k]'h := by
   show s.data[k]! = s.data[k]'h
   exact getElem!_pos s.data k h
  rw [this]; rfl
 ·rw [dif_neg (by simpa using h)]
  have : s.get! k = 0 := by
   show s.data[k]! = 0
   rw [getElem!_neg s.data k (by exact h)]; rfl
  rw [this]; rfl
theorem get_lt (s : ByteArray) (k : Nat) : (s.get! k).toNat < 256 := (s.get! k).toNat_lt
theorem decAt_out (s : ByteArray) (i : Int) (h1 : (s.size : Int) ≤ i) : decAt s i = (-1, 0) := by
 unfold decAt decZ; rw [if_pos (by omega)]
theorem runeText_size (n : Int) : ((runeTextL n).size : Int) = if scalB n = true then (if n < 128 then 1 else if n < 2048 then 2 else if n < 65536 then 3 else 4) else 0 := by
 unfold runeTextL
 by_cases h : scalB n = true
 ·rw [if_pos h, if_pos h, ← size_bytes]
  unfold strOfNums bytesOf runeL
  by_cases c1 : n < 128
  ·rw [if_pos c1, if_pos c1]; rfl
  ·rw [if_neg c1, if_neg c1]
   by_cases c2 : n < 2048
   ·rw [if_pos c2, if_pos c2]; rfl
   ·rw [if_neg c2, if_neg c2]
    by_cases c3 : n < 65536
    ·rw [if_pos c3, if_pos c3]; rfl
    ·rw [if_neg c3, if_neg c3]; rfl
 ·rw [if_neg h, if_neg h]; rfl
theorem rs2 (n : Int) : ((runeTextL n).size : Int) = 2 ↔ 128 ≤ n ∧ n < 2048 := by
 rw [runeText_size]
 by_cases h : scalB n = true
 ·rw [if_pos h]; repeat' split
  all_goals omega
 ·rw [if_neg h]
  constructor
  ·intro h; omega
  ·intro g; exfalso; apply h; unfold scalB; simp; omega
theorem rs3 (n : Int) : ((runeTextL n).size : Int) = 3 ↔ (2048 ≤ n ∧ n < 65536 ∧ ¬ (55296 ≤ n ∧ n ≤ 57343)) := by
 rw [runeText_size]
 by_cases h : scalB n = true
 ·have g := h
  unfold scalB at g; simp only [Bool.and_eq_true, decide_eq_true_eq, Bool.not_eq_true', decide_eq_false_iff_not] at g
  rw [if_pos h]; repeat' split
  all_goals omega
 ·rw [if_neg h]
  constructor
  ·intro h; omega
  ·intro g; exfalso; apply h; unfold scalB; simp; omega
theorem rs4 (n : Int) : ((runeTextL n).size : Int) = 4 ↔ (65536 ≤ n ∧ n ≤ 1114111) := by
 rw [runeText_size]
 by_cases h : scalB n = true
 ·have g := h
  unfold scalB at g; simp only [Bool.and_eq_true, decide_eq_true_eq, Bool.not_eq_true', decide_eq_false_iff_not] at g
  rw [if_pos h]; repeat' split
  all_goals omega
 ·rw [if_neg h]
  constructor
  ·intro h; omega
  ·intro g; exfalso; apply h; unfold scalB; simp; omega

theorem spec_RuneAt.last (s : ByteArray) (i m n : Int) : Ev (fun k => spec_RuneAt.l0 k s i m n m) (if ((runeTextL n).size : Int) = m then (n, m) else (-1, 0)) := by
 apply Ev.succ; simp only [spec_RuneAt.l0]
 refine Ev.ite_neg (by omega) (Ev.bindc (spec_RuneText.eq n) ?_)
 by_cases c : ((runeTextL n).size : Int) = m
 ·have e : (if ((runeTextL n).size : Int) = m then (n, m) else ((-1 : Int), (0 : Int))) = (n, m) := if_pos c
  rw [e]; exact Ev.ite_pos c (Ev.done rfl)
 ·have e : (if ((runeTextL n).size : Int) = m then (n, m) else ((-1 : Int), (0 : Int))) = (-1, 0) := if_neg c
  rw [e]; exact Ev.ite_neg c (Ev.done rfl)
theorem spec_RuneAt.step (s : ByteArray) (hs : s.size ≤ 140737488351232) (i m n j : Int) (r : Int × Int) (h0 : 0 ≤ i) (hj0 : 0 ≤ j) (hj : j < m) (hm : m ≤ 4) (hi : i + m ≤ (s.size : Int)) (hn : 0 ≤ n) (hn1 : n ≤ 1000000)
  (h : 128 ≤ bt s (i + j) → bt s (i + j) ≤ 191 → Ev (fun k => spec_RuneAt.l0 k s i m (n * 64 + bt s (i + j) - 128) (j + 1)) r) (hb : ¬ (128 ≤ bt s (i + j) ∧ bt s (i + j) ≤ 191) → r = (-1, 0)) :
  Ev (fun k => spec_RuneAt.l0 k s i m n j) r := by
 have hr := bt_range s (i + j)
 apply Ev.succ; simp only [spec_RuneAt.l0]
 rw [w64 (x := i + j) (by omega) (by omega), w64 (x := bt s (i + j)) (by omega) (by omega), w64 (x := n * 64) (by omega) (by omega), w64 (x := n * 64 + bt s (i + j)) (by omega) (by omega), w64 (x := n * 64 + bt s (i + j) - 128) (by omega) (by omega), w64 (x := j + 1) (by omega) (by omega)]
 refine Ev.ite_pos hj (Ev.ite_pos (by omega) (Ev.ite_pos (by omega) ?_))
 by_cases c1 : bt s (i + j) < 128
 ·rw [hb (by omega)]; exact Ev.ite_pos c1 (Ev.done rfl)
 ·refine Ev.ite_neg c1 ?_
  by_cases c2 : bt s (i + j) > 191
  ·rw [hb (by omega)]; exact Ev.ite_pos c2 (Ev.done rfl)
  ·exact Ev.ite_neg c2 (h (by omega) (by omega))
theorem spec_RuneAt.two (s : ByteArray) (hs : s.size ≤ 140737488351232) (i : Int) (h0 : 0 ≤ i) (h1 : i < (s.size : Int)) (hb : 194 ≤ bt s i ∧ bt s i < 224) : Ev (fun k => spec_RuneAt.j3 k s i 2 (bt s i - 192)) (decAt s i) := by
 apply Ev.succ; simp only [spec_RuneAt.j3]
 rw [w64 (x := i + 2) (by omega) (by omega)]
 have hD : decAt s i = if 2 ≤ (s.size : Int) - i ∧ 128 ≤ bt s (i + 1) ∧ bt s (i + 1) ≤ 191 then ((bt s i - 192) * 64 + bt s (i + 1) - 128, 2) else (-1, 0) := by
  unfold decAt decZ
  rw [if_neg (by omega), if_neg (by omega)]
  by_cases g : 2 ≤ (s.size : Int) - i ∧ 128 ≤ bt s (i + 1) ∧ bt s (i + 1) ≤ 191
  ·rw [if_pos ⟨hb.1, hb.2, g⟩, if_pos g]
  ·rw [if_neg (fun h => g h.2.2), if_neg (by omega), if_neg (by omega), if_neg g]
 by_cases c : i + 2 > (s.size : Int)
 ·rw [hD, if_neg (by omega)]; exact Ev.ite_pos c (Ev.done rfl)
 ·refine Ev.ite_neg c (spec_RuneAt.step s hs i 2 _ 1 _ h0 (by omega) (by omega) (by omega) (by omega) (by omega) (by omega) ?_ ?_)
  ·intro a1 a2
   rw [hD, if_pos (by omega)]
   refine (spec_RuneAt.last s i 2 _).get ?_
   rw [if_pos ((rs2 _).2 (by omega))]
  ·intro hn
   rw [hD, if_neg (by omega)]
theorem spec_RuneAt.three (s : ByteArray) (hs : s.size ≤ 140737488351232) (i : Int) (h0 : 0 ≤ i) (h1 : i < (s.size : Int)) (hb : 224 ≤ bt s i ∧ bt s i < 240) : Ev (fun k => spec_RuneAt.j3 k s i 3 (bt s i - 224)) (decAt s i) := by
 apply Ev.succ; simp only [spec_RuneAt.j3]
 rw [w64 (x := i + 3) (by omega) (by omega)]
 have hr1 := bt_range s (i + 1)
 have hr2 := bt_range s (i + 2)
 generalize hN : ((bt s i - 224) * 64 + bt s (i + 1) - 128) * 64 + bt s (i + 2) - 128 = N
 have hD : decAt s i = if 3 ≤ (s.size : Int) - i ∧ 128 ≤ bt s (i + 1) ∧ bt s (i + 1) ≤ 191 ∧ 128 ≤ bt s (i + 2) ∧ bt s (i + 2) ≤ 191 ∧ 2048 ≤ N ∧ ¬ (55296 ≤ N ∧ N ≤ 57343) then (N, 3) else (-1, 0) := by
  unfold decAt decZ
  rw [if_neg (by omega), if_neg (by omega), if_neg (by omega), hN]
  by_cases g : 3 ≤ (s.size : Int) - i ∧ 128 ≤ bt s (i + 1) ∧ bt s (i + 1) ≤ 191 ∧ 128 ≤ bt s (i + 2) ∧ bt s (i + 2) ≤ 191 ∧ 2048 ≤ N ∧ ¬ (55296 ≤ N ∧ N ≤ 57343)
  ·rw [if_pos ⟨hb.1, hb.2, g⟩, if_pos g]
  ·rw [if_neg (fun h => g h.2.2), if_neg (fun h => absurd h.1 (by omega)), if_neg g]
 by_cases c : i + 3 > (s.size : Int)
 ·rw [hD, if_neg (fun h => absurd h.1 (by omega))]; exact Ev.ite_pos c (Ev.done rfl)
 ·refine Ev.ite_neg c (spec_RuneAt.step s hs i 3 _ 1 _ h0 (by omega) (by omega) (by omega) (by omega) (by omega) (by omega) ?_ ?_)
  ·intro a1 a2
   refine spec_RuneAt.step s hs i 3 _ 2 _ h0 (by omega) (by omega) (by omega) (by omega) (by omega) (by omega) ?_ ?_
   ·intro a3 a4
    refine (spec_RuneAt.last s i 3 _).get ?_
    rw [hN, hD]
    by_cases g : 2048 ≤ N ∧ ¬ (55296 ≤ N ∧ N ≤ 57343)
    ·rw [if_pos ((rs3 N).2 ⟨g.1, by omega, g.2⟩), if_pos ⟨by omega, a1, a2, a3, a4, g⟩]
    ·rw [if_neg (fun h => g ⟨((rs3 N).1 h).1, ((rs3 N).1 h).2.2⟩), if_neg (fun h => g h.2.2.2.2.2)]
   ·intro hn
    rw [hD, if_neg (fun h => hn ⟨h.2.2.2.1, h.2.2.2.2.1⟩)]
  ·intro hn
   rw [hD, if_neg (fun h => hn ⟨h.2.1, h.2.2.1⟩)]
theorem spec_RuneAt.four (s : ByteArray) (hs : s.size ≤ 140737488351232) (i : Int) (h0 : 0 ≤ i) (h1 : i < (s.size : Int)) (hb : 240 ≤ bt s i ∧ bt s i < 245) : Ev (fun k => spec_RuneAt.j3 k s i 4 (bt s i - 240)) (decAt s i) := by
 apply Ev.succ; simp only [spec_RuneAt.j3]
 rw [w64 (x := i + 4) (by omega) (by omega)]
 have hr1 := bt_range s (i + 1)
 have hr2 := bt_range s (i + 2)
 have hr3 := bt_range s (i + 3)
 generalize hN : (((bt s i - 240) * 64 + bt s (i + 1) - 128) * 64 + bt s (i + 2) - 128) * 64 + bt s (i + 3) - 128 = N
 have hD : decAt s i = if 4 ≤ (s.size : Int) - i ∧ 128 ≤ bt s (i + 1) ∧ bt s (i + 1) ≤ 191 ∧ 128 ≤ bt s (i + 2) ∧ bt s (i + 2) ≤ 191 ∧ 128 ≤ bt s (i + 3) ∧ bt s (i + 3) ≤ 191 ∧ 65536 ≤ N ∧ N ≤ 1114111 then (N, 4) else (-1, 0) := by
  unfold decAt decZ
  rw [if_neg (by omega), if_neg (by omega), if_neg (by omega), if_neg (fun h => absurd h.2.1 (by omega)), hN]
  by_cases g : 4 ≤ (s.size : Int) - i ∧ 128 ≤ bt s (i + 1) ∧ bt s (i + 1) ≤ 191 ∧ 128 ≤ bt s (i + 2) ∧ bt s (i + 2) ≤ 191 ∧ 128 ≤ bt s (i + 3) ∧ bt s (i + 3) ≤ 191 ∧ 65536 ≤ N ∧ N ≤ 1114111
  ·rw [if_pos ⟨hb.1, hb.2, g⟩, if_pos g]
  ·rw [if_neg (fun h => g h.2.2), if_neg g]
 by_cases c : i + 4 > (s.size : Int)
 ·rw [hD, if_neg (fun h => absurd h.1 (by omega))]; exact Ev.ite_pos c (Ev.done rfl)
 ·refine Ev.ite_neg c (spec_RuneAt.step s hs i 4 _ 1 _ h0 (by omega) (by omega) (by omega) (by omega) (by omega) (by omega) ?_ ?_)
  ·intro a1 a2
   refine spec_RuneAt.step s hs i 4 _ 2 _ h0 (by omega) (by omega) (by omega) (by omega) (by omega) (by omega) ?_ ?_
   ·intro a3 a4
    refine spec_RuneAt.step s hs i 4 _ 3 _ h0 (by omega) (by omega) (by omega) (by omega) (by omega) (by omega) ?_ ?_
    ·intro a5 a6
     refine (spec_RuneAt.last s i 4 _).get ?_
     rw [hN, hD]
     by_cases g : 65536 ≤ N ∧ N ≤ 1114111
     ·rw [if_pos ((rs4 N).2 g), if_pos ⟨by omega, a1, a2, a3, a4, a5, a6, g⟩]
     ·rw [if_neg (fun h => g ((rs4 N).1 h)), if_neg (fun h => g h.2.2.2.2.2.2.2)]
    ·intro hn
     rw [hD, if_neg (fun h => hn ⟨h.2.2.2.2.2.1, h.2.2.2.2.2.2.1⟩)]
   ·intro hn
    rw [hD, if_neg (fun h => hn ⟨h.2.2.2.1, h.2.2.2.2.1⟩)]
  ·intro hn
   rw [hD, if_neg (fun h => hn ⟨h.2.1, h.2.2.1⟩)]
theorem spec_RuneAt.ev (s : ByteArray) (hs : s.size ≤ 140737488351232) (i : Int) : Ev (fun k => spec_RuneAt.f k s i) (if 0 ≤ i then decAt s i else (-1, 0)) := by
 unfold spec_RuneAt.f
 by_cases c0 : i < 0
 ·rw [if_neg (by omega)]
  refine Ev.ite_pos c0 ?_
  apply Ev.succ; simp only [spec_RuneAt.j0, if_true]; exact Ev.done rfl
 ·rw [if_pos (by omega)]
  refine Ev.ite_neg c0 ?_
  apply Ev.succ; simp only [spec_RuneAt.j0]
  by_cases c1 : i ≥ (s.size : Int)
  ·rw [decAt_out s i c1]; exact Ev.ite_pos (by simp; omega) (Ev.done rfl)
  ·have hr := bt_range s i
   rw [w64 (x := bt s i) (by omega) (by omega)]
   refine Ev.ite_neg (by simp; omega) (Ev.ite_pos (by omega) (Ev.ite_pos (by omega) ?_))
   by_cases c2 : bt s i < 128
   ·refine Ev.ite_pos c2 (Ev.done ?_)
    unfold decAt decZ; rw [if_neg (by omega), if_pos c2]
   ·refine Ev.ite_neg c2 ?_
    have w1 : wrap64 (bt s i - 192) = bt s i - 192 := w64 (by omega) (by omega)
    have w2 : wrap64 (bt s i - 224) = bt s i - 224 := w64 (by omega) (by omega)
    have w3 : wrap64 (bt s i - 240) = bt s i - 240 := w64 (by omega) (by omega)
    have hbad : ¬ (194 ≤ bt s i ∧ bt s i < 224) → ¬ (224 ≤ bt s i ∧ bt s i < 240) → ¬ (240 ≤ bt s i ∧ bt s i < 245) → decAt s i = (-1, 0) := by
     intro a b c
     unfold decAt decZ; rw [if_neg (by omega), if_neg c2, if_neg (by omega), if_neg (by omega), if_neg (by omega)]
    have hj2 : ¬ (194 ≤ bt s i ∧ bt s i < 224) → ∀ b, b = decide (224 ≤ bt s i ∧ bt s i < 240) → Ev (fun k => spec_RuneAt.j2 k s i (bt s i) b) (decAt s i) := by
     rintro g b rfl
     apply Ev.succ; simp only [spec_RuneAt.j2, w2, w3]
     by_cases d : 224 ≤ bt s i ∧ bt s i < 240
     ·exact Ev.ite_pos (by simp [d]) (spec_RuneAt.three s hs i (by omega) (by omega) d)
     ·refine Ev.ite_neg (by simpa using d) ?_
      by_cases d2 : bt s i ≥ 240
      ·refine Ev.ite_pos d2 ?_
       by_cases d3 : bt s i < 245
       ·exact Ev.ite_pos d3 (spec_RuneAt.four s hs i (by omega) (by omega) ⟨d2, d3⟩)
       ·rw [hbad g d (by omega)]; exact Ev.ite_neg d3 (Ev.done rfl)
      ·rw [hbad g d (by omega)]; exact Ev.ite_neg d2 (Ev.done rfl)
    have hj1 : ∀ b, b = decide (194 ≤ bt s i ∧ bt s i < 224) → Ev (fun k => spec_RuneAt.j1 k s i (bt s i) b) (decAt s i) := by
     rintro b rfl
     apply Ev.succ; simp only [spec_RuneAt.j1, w1]
     by_cases d : 194 ≤ bt s i ∧ bt s i < 224
     ·exact Ev.ite_pos (by simp [d]) (spec_RuneAt.two s hs i (by omega) (by omega) d)
     ·refine Ev.ite_neg (by simpa using d) ?_
      by_cases d2 : bt s i ≥ 224
      ·exact Ev.ite_pos d2 (hj2 d _ (by rw [Bool.eq_iff_iff]; simp; omega))
      ·exact Ev.ite_neg d2 (hj2 d _ (by rw [Bool.eq_iff_iff]; simp; omega))
    by_cases d : bt s i ≥ 194
    ·exact Ev.ite_pos d (hj1 _ (by rw [Bool.eq_iff_iff]; simp; omega))
    ·exact Ev.ite_neg d (hj1 _ (by rw [Bool.eq_iff_iff]; simp; omega))

def textOkS (s : ByteArray) : Bool := Lib.validD s.data.toList
theorem decAt_of (s : ByteArray) (i : Nat) (h : i < s.size) : asAt (Utf8.decode s i) = decAt s i := by
 rw [Lib.decode_at s i, dec_go _ _ _ _ _ (by omega) (get_lt _ _) (get_lt _ _) (get_lt _ _) (get_lt _ _)]
 unfold decAt
 rw [bt_get, bt_get, bt_get, bt_get]
 rw [show ((s.size - i : Nat) : Int) = (s.size : Int) - (i : Int) from by omega]; rfl
/-- What a step of the decoder comes to. -/
theorem dec_step (s : ByteArray) (i : Int) (h0 : 0 ≤ i) (h1 : i < (s.size : Int)) :
  (decAt s i = (-1, 0) ∧ Lib.validD (s.data.toList.drop i.toNat) = false) ∨
  (0 ≤ (decAt s i).1 ∧ 1 ≤ (decAt s i).2 ∧ (decAt s i).2 ≤ 4 ∧ i + (decAt s i).2 ≤ (s.size : Int) ∧ Lib.validD (s.data.toList.drop i.toNat) = Lib.validD (s.data.toList.drop (i + (decAt s i).2).toNat)) := by
 obtain ⟨p, rfl⟩ := Int.eq_ofNat_of_zero_le h0
 have hp : p < s.size := by omega
 have hl : s.data.toList.length = s.size := by rw [Array.length_toList]; rfl
 have hne : s.data.toList.drop p ≠ [] := by
  intro h; have := congrArg List.length h; rw [List.length_drop, hl] at this; simp at this; omega
 have hw := Lib.decodeL_width (s.data.toList.drop p)
 have hle := Lib.decodeL_le (s.data.toList.drop p) hne
 have hst := Lib.validD_step (s.data.toList.drop p) hne
 rw [Lib.decodeL_drop] at hw hle hst
 have ha := decAt_of s p hp
 have h4 : (Utf8.decode s p).2 ≤ 4 := by
  rw [Lib.decode_at]; unfold Lib.decodeN
  repeat' split
  all_goals (simp only []; omega)
 rw [List.length_drop, hl] at hle
 rw [Int.toNat_natCast]
 by_cases c : (Utf8.decode s p).1 = 65533 ∧ (Utf8.decode s p).2 = 1
 ·left
  rw [if_pos c] at hst
  refine ⟨?_, hst⟩
  rw [← ha]; unfold asAt; rw [if_pos ⟨c.1, by omega⟩]
 ·right
  rw [if_neg c] at hst
  have e : decAt s p = (((Utf8.decode s p).1 : Int), ((Utf8.decode s p).2 : Int)) := by
   rw [← ha]; unfold asAt; rw [if_neg (fun h => c ⟨h.1, by omega⟩)]
  rw [e]
  refine ⟨by simp only []; omega, by simp only []; omega, by simp only []; omega, by simp only []; omega, ?_⟩
  rw [hst, List.drop_drop]
  congr 2

theorem spec_TextOk.l0_ev (s : ByteArray) (hs : s.size ≤ 140737488351232) (n : Nat) : ∀ i : Int, 0 ≤ i → i ≤ (s.size : Int) → (s.size : Int) - i ≤ n →
  Ev (fun k => spec_TextOk.l0 k s i) (Lib.validD (s.data.toList.drop i.toNat)) := by
 induction n with
 | zero =>
  intro i h0 h2 hn
  apply Ev.succ; simp only [spec_TextOk.l0]
  refine Ev.ite_neg (by omega) (Ev.done ?_)
  rw [List.drop_eq_nil_of_le (by rw [Array.length_toList]; show s.size ≤ i.toNat; omega)]; rfl
 | succ n ih =>
  intro i h0 h2 hn
  by_cases h1 : i < (s.size : Int)
  ·have hd := spec_RuneAt.ev s hs i
   rw [if_pos h0] at hd
   apply Ev.succ; simp only [spec_TextOk.l0]
   refine Ev.ite_pos h1 (hd.bind ?_)
   rcases dec_step s i h0 h1 with ⟨e, hv⟩ | ⟨g1, g2, g3, g4, hv⟩
   ·rw [hv, e]; exact Ev.ite_pos (by simp) (Ev.done rfl)
   ·rw [hv, w64 (x := i + (decAt s i).2) (by omega) (by omega)]
    exact Ev.ite_neg (by omega) (ih _ (by omega) g4 (by omega))
  ·apply Ev.succ; simp only [spec_TextOk.l0]
   refine Ev.ite_neg h1 (Ev.done ?_)
   rw [List.drop_eq_nil_of_le (by rw [Array.length_toList]; show s.size ≤ i.toNat; omega)]; rfl
theorem spec_TextOk.ev (s : ByteArray) (hs : s.size ≤ 140737488351232) : Ev (fun k => spec_TextOk.f k s) (textOkS s) := by
 unfold spec_TextOk.f
 exact (spec_TextOk.l0_ev s hs s.size 0 (by omega) (by omega) (by omega)).get (by unfold textOkS; simp)

def hexD (n : Int) : Int := if n < 10 then 48 + n else 87 + n
theorem hexTab : ∀ n : Fin 16, bt (⟨#[48, 49, 50, 51, 52, 53, 54, 55, 56, 57, 97, 98, 99, 100, 101, 102]⟩ : ByteArray) (n.val : Int) = hexD (n.val : Int) := by decide +kernel
theorem hexTab_at {x : Int} (h0 : 0 ≤ x) (h1 : x < 16) : bt (⟨#[48, 49, 50, 51, 52, 53, 54, 55, 56, 57, 97, 98, 99, 100, 101, 102]⟩ : ByteArray) x = hexD x := by
 have := hexTab ⟨x.toNat, by omega⟩
 simp only at this
 rw [show ((x.toNat : Nat) : Int) = x from by omega] at this; exact this
theorem and15 : ∀ n : Fin 256, Go.bits .and .u8 (n.val : Int) 15 = (n.val : Int) % 16 := by decide +kernel
theorem and15_at {x : Int} (h0 : 0 ≤ x) (h1 : x ≤ 255) : Go.bits .and .u8 x 15 = x % 16 := by
 have := and15 ⟨x.toNat, by omega⟩
 simp only at this
 rw [show ((x.toNat : Nat) : Int) = x from by omega] at this; exact this

theorem spec_l04Hex4.low (x : Int) (h0 : 0 ≤ x) (h1 : x ≤ 255) : spec_l04Hex4.f x = some (strOfNums [48, 48, hexD (x / 16), hexD (x % 16)]) := by
 have t1 : ∀ m : Int, Int.tdiv x m = x / m := fun m => Int.tdiv_eq_ediv_of_nonneg h0
 have t2 : ∀ a m : Int, 0 ≤ a → Int.tmod a m = a % m := fun a m h => Int.tmod_eq_emod_of_nonneg h
 unfold spec_l04Hex4.f
 rw [t1, t1, t1, w64 (x := x / 4096) (by omega) (by omega), w64 (x := x / 256) (by omega) (by omega), w64 (x := x / 16) (by omega) (by omega), t2 _ _ (by omega), t2 _ _ (by omega), t2 _ _ (by omega), t2 _ _ (by omega)]
 have e1 : x / 4096 % 16 = 0 := by omega
 have e2 : x / 256 % 16 = 0 := by omega
 have e3 : x / 16 % 16 = x / 16 := by omega
 rw [e1, e2, e3, if_pos (by omega), if_pos (by omega), if_pos (by omega), if_pos (by omega), if_pos (by omega), if_pos (by omega), if_pos (by omega), if_pos (by omega), hexTab_at (x := 0) (by omega) (by omega), hexTab_at (x := x / 16) (by omega) (by omega), hexTab_at (x := x % 16) (by omega) (by omega)]
 rfl

theorem str_append (a b : List Int) : strOfNums a ++ strOfNums b = strOfNums (a ++ b) := by
 unfold strOfNums
 apply ByteArray.ext
 rw [ByteArray.data_append]; simp
theorem str_size (a : List Int) : (strOfNums a).size = a.length := by
 unfold strOfNums
 show (List.toArray _).size = _
 simp
theorem str_one (s : ByteArray) (i : Int) (h0 : 0 ≤ i) (h1 : i < (s.size : Int)) : s.extract i.toNat (i + 1).toNat = strOfNums [bt s i] := by
 apply bytes_inj
 have hr := bt_range s i
 rw [bytes_extract, bytes_strOfNums _ (by intro x hx; simp at hx; subst hx; exact hr)]
 have ht := tl_cons h0 h1
 unfold tl at ht
 rw [List.drop_take, ht, show (i + 1).toNat - i.toNat = 1 from by omega]; rfl

def escB (x : Int) : List Int :=
 if x = 34 ∨ x = 92 then [92, x] else if x = 8 then [92, 98] else if x = 9 then [92, 116] else if x = 10 then [92, 110] else if x = 12 then [92, 102] else if x = 13 then [92, 114]
 else if x < 32 ∨ x = 127 then [92, 117, 48, 48, hexD (x / 16), hexD (x % 16)] else [x]
def escL : List Int → List Int
 | [] => []
 | x :: r => escB x ++ escL r
def escS (s : ByteArray) : ByteArray := if textOkS s = true ∧ s.size ≤ 200 then strOfNums (34 :: escL (bytesOf s) ++ [34]) else (⟨#[]⟩ : ByteArray)
theorem escB_len (x : Int) : 1 ≤ (escB x).length ∧ (escB x).length ≤ 6 := by
 unfold escB; repeat' split
 all_goals simp

theorem spec_Escaped.l0_ev (s : ByteArray) (hs : s.size ≤ 200) (n : Nat) : ∀ (i : Int) (acc : List Int), 0 ≤ i → (s.size : Int) - i = n → acc.length ≤ 6 * i + 1 →
  Ev (fun k => spec_Escaped.l0 k s (strOfNums acc) i) (strOfNums (acc ++ escL (tl s i) ++ [34])) := by
 have q34 : (⟨#[34]⟩ : ByteArray) = strOfNums [34] := rfl
 have q92 : (⟨#[92]⟩ : ByteArray) = strOfNums [92] := rfl
 have q8 : (⟨#[92, 98]⟩ : ByteArray) = strOfNums [92, 98] := rfl
 have q9 : (⟨#[92, 116]⟩ : ByteArray) = strOfNums [92, 116] := rfl
 have q10 : (⟨#[92, 110]⟩ : ByteArray) = strOfNums [92, 110] := rfl
 have q12 : (⟨#[92, 102]⟩ : ByteArray) = strOfNums [92, 102] := rfl
 have q13 : (⟨#[92, 114]⟩ : ByteArray) = strOfNums [92, 114] := rfl
 have qu : (⟨#[92, 117]⟩ : ByteArray) = strOfNums [92, 117] := rfl
 induction n with
 | zero =>
  intro i acc h0 hn ha
  apply Ev.succ; simp only [spec_Escaped.l0, q34, str_append, str_size]
  rw [tl_nil (by omega)]
  exact Ev.ite_neg (by omega) (Ev.ite_pos (by omega) (Ev.done (by simp [escL])))
 | succ n ih =>
  intro i acc h0 hn ha
  have h1 : i < (s.size : Int) := by omega
  have hr := bt_range s i
  have w1 : wrap64 (i + 1) = i + 1 := w64 (by omega) (by omega)
  have hl := escB_len (bt s i)
  have next : ∀ b : List Int, b = escB (bt s i) → Ev (fun k => spec_Escaped.l0 k s (strOfNums (acc ++ b)) (i + 1)) (strOfNums (acc ++ escL (tl s i) ++ [34])) := by
   rintro b rfl
   refine (ih (i + 1) (acc ++ escB (bt s i)) (by omega) (by omega) (by simp; omega)).get ?_
   rw [tl_cons h0 h1]; simp [escL]
  have hone := str_one s i h0 h1
  have hj : ∀ b, b = decide (bt s i = 34 ∨ bt s i = 92) → Ev (fun k => spec_Escaped.j2 k s (strOfNums acc) i (bt s i) b) (strOfNums (acc ++ escL (tl s i) ++ [34])) := by
   rintro b rfl
   apply Ev.succ
   simp only [spec_Escaped.j2, w1, hone, q92, q8, q9, q10, q12, q13, qu, str_append, str_size, w64 (x := bt s i) (by omega) (by omega), spec_l04Hex4.low (bt s i) hr.1 hr.2, Option.bind_some]
   have key : escB (bt s i) = escB (bt s i) := rfl
   by_cases c : bt s i = 34 ∨ bt s i = 92
   ·refine Ev.ite_pos (by simp [c]) (Ev.ite_pos (by omega) (Ev.ite_pos h0 (Ev.ite_pos (by omega) (Ev.ite_pos (by omega) (Ev.ite_pos (by simp; omega) ?_)))))
    rw [List.append_assoc]; exact next _ (by unfold escB; rw [if_pos c]; rfl)
   refine Ev.ite_neg (by simpa using c) ?_
   by_cases c8 : bt s i = 8
   ·refine Ev.ite_pos c8 (Ev.ite_pos (by omega) (next _ ?_)); unfold escB; rw [if_neg c, if_pos c8]
   refine Ev.ite_neg c8 ?_
   by_cases c9 : bt s i = 9
   ·refine Ev.ite_pos c9 (Ev.ite_pos (by omega) (next _ ?_)); unfold escB; rw [if_neg c, if_neg c8, if_pos c9]
   refine Ev.ite_neg c9 ?_
   by_cases c10 : bt s i = 10
   ·refine Ev.ite_pos c10 (Ev.ite_pos (by omega) (next _ ?_)); unfold escB; rw [if_neg c, if_neg c8, if_neg c9, if_pos c10]
   refine Ev.ite_neg c10 ?_
   by_cases c12 : bt s i = 12
   ·refine Ev.ite_pos c12 (Ev.ite_pos (by omega) (next _ ?_)); unfold escB; rw [if_neg c, if_neg c8, if_neg c9, if_neg c10, if_pos c12]
   refine Ev.ite_neg c12 ?_
   by_cases c13 : bt s i = 13
   ·refine Ev.ite_pos c13 (Ev.ite_pos (by omega) (next _ ?_)); unfold escB; rw [if_neg c, if_neg c8, if_neg c9, if_neg c10, if_neg c12, if_pos c13]
   refine Ev.ite_neg c13 ?_
   by_cases c32 : bt s i < 32
   ·refine Ev.ite_pos c32 (Ev.ite_pos (by omega) (Ev.ite_pos (by simp; omega) ?_))
    rw [List.append_assoc]; refine next _ ?_; unfold escB; rw [if_neg c, if_neg c8, if_neg c9, if_neg c10, if_neg c12, if_neg c13, if_pos (Or.inl c32)]; rfl
   refine Ev.ite_neg c32 ?_
   by_cases c127 : bt s i = 127
   ·refine Ev.ite_pos c127 (Ev.ite_pos (by omega) (Ev.ite_pos (by simp; omega) ?_))
    rw [List.append_assoc]; refine next _ ?_; unfold escB; rw [if_neg c, if_neg c8, if_neg c9, if_neg c10, if_neg c12, if_neg c13, if_pos (Or.inr c127)]; rfl
   refine Ev.ite_neg c127 (Ev.ite_pos h0 (Ev.ite_pos (by omega) (Ev.ite_pos (by omega) (Ev.ite_pos (by simp; omega) (next _ ?_)))))
   unfold escB; rw [if_neg c, if_neg c8, if_neg c9, if_neg c10, if_neg c12, if_neg c13, if_neg (by omega)]
  apply Ev.succ; simp only [spec_Escaped.l0]
  refine Ev.ite_pos h1 (Ev.ite_pos h0 ?_)
  by_cases c : bt s i = 34
  ·exact Ev.ite_pos c (hj _ (by simp [c]))
  ·refine Ev.ite_neg c (hj _ ?_)
   rw [Bool.eq_iff_iff]; simp [c]
theorem spec_Escaped.ev (s : ByteArray) (hs : s.size ≤ 140737488351232) : Ev (fun k => spec_Escaped.f k s) (escS s) := by
 have hj : Ev (fun k => spec_Escaped.j0 k s true) (⟨#[]⟩ : ByteArray) := by
  apply Ev.succ; simp only [spec_Escaped.j0, if_true]; exact Ev.done rfl
 unfold spec_Escaped.f
 refine (spec_TextOk.ev s hs).bind ?_
 unfold escS
 cases ht : textOkS s with
 | false => exact Ev.ite_neg (by simp) (hj.get (by rw [if_neg (by simp)]))
 | true =>
  refine Ev.ite_pos rfl ?_
  by_cases c : s.size ≤ 200
  ·have e : decide ((s.size : Int) > 200) = false := decide_eq_false (by omega)
   rw [e, if_pos ⟨rfl, c⟩]
   apply Ev.succ; simp only [spec_Escaped.j0]
   have q34 : (⟨#[34]⟩ : ByteArray) = strOfNums [34] := rfl
   rw [q34]
   refine Ev.ite_neg (by simp) ((spec_Escaped.l0_ev s c s.size 0 [34] (by omega) (by omega) (by simp)).get ?_)
   rw [tl_zero]; rfl
  ·have e : decide ((s.size : Int) > 200) = true := decide_eq_true (by omega)
   rw [e, if_neg (fun h => c h.2)]; exact hj

/-- How many figures stand at the begin. -/
def runN (d : List Int) : Nat := (d.takeWhile figB).length
def digs (l : List Int) : List Int := if l.head? = some 45 then l.tail else l
def signN (l : List Int) : Int := if l.head? = some 45 then 1 else 0
/-- The place behind a whole number at the begin; 0: there is none. -/
def intEnd (l : List Int) : Int := if runN (digs l) = 0 then 0 else if (digs l).headD 0 = 48 ∧ 1 < runN (digs l) then 0 else signN l + runN (digs l)
def intOkL (l : List Int) : Bool := decide (l.length ≤ 40) && (digs l != [] && (digs l).all figB) && ((digs l) == [48] || (digs l).headD 0 != 48)
theorem runN_cons (x : Int) (d : List Int) : runN (x :: d) = if figB x = true then runN d + 1 else 0 := by
 unfold runN; rw [List.takeWhile_cons]; cases figB x <;> simp
theorem runN_le (d : List Int) : runN d ≤ d.length := by
 unfold runN
 exact (List.takeWhile_sublist figB).length_le
theorem runN_all (d : List Int) : d.all figB = true ↔ runN d = d.length := by
 induction d with
 | nil => simp [runN]
 | cons x d ih =>
  rw [runN_cons, List.all_cons]
  have := runN_le d
  cases h : figB x with
  | true => simp [ih]
  | false => simp
theorem digs_length (l : List Int) : signN l + (digs l).length = l.length := by
 unfold signN digs
 by_cases h : l.head? = some 45
 ·rw [if_pos h, if_pos h]
  cases l with
  | nil => simp at h
  | cons x r => simp; omega
 ·rw [if_neg h, if_neg h]; omega
theorem intOk_end (l : List Int) : intOkL l = (decide (l.length ≤ 40) && decide (0 < l.length) && (intEnd l == (l.length : Int))) := by
 have hd := digs_length l
 have hs : 0 ≤ signN l := by unfold signN; split <;> omega
 have hr := runN_le (digs l)
 have ha := runN_all (digs l)
 unfold intOkL intEnd
 rw [Bool.eq_iff_iff]
 simp only [Bool.and_eq_true, decide_eq_true_eq, Bool.or_eq_true, beq_iff_eq, bne_iff_ne, ne_eq]
 constructor
 ·rintro ⟨⟨h40, hne, hall⟩, h48⟩
  have hlen : 0 < (digs l).length := List.length_pos_iff.2 hne
  have hrun := ha.1 hall
  refine ⟨⟨h40, by omega⟩, ?_⟩
  rw [if_neg (by omega)]
  rw [if_neg ?_]
  ·omega
  ·rintro ⟨h1, h2⟩
   rcases h48 with h | h
   ·rw [h] at hrun h2; simp at hrun; omega
   ·exact h h1
 ·rintro ⟨⟨h40, h0⟩, he⟩
  by_cases c0 : runN (digs l) = 0
  ·rw [if_pos c0] at he; omega
  ·rw [if_neg c0] at he
   by_cases c1 : (digs l).headD 0 = 48 ∧ 1 < runN (digs l)
   ·rw [if_pos c1] at he; omega
   ·rw [if_neg c1] at he
    have hrun : runN (digs l) = (digs l).length := by omega
    refine ⟨⟨h40, ?_, ha.2 hrun⟩, ?_⟩
    ·intro h; rw [h] at c0; exact c0 rfl
    ·by_cases c48 : (digs l).headD 0 = 48
     ·left
      have : ¬ 1 < runN (digs l) := fun h => c1 ⟨c48, h⟩
      have h1 : (digs l).length = 1 := by omega
      obtain ⟨x, hx⟩ := List.length_eq_one_iff.1 h1
      rw [hx] at c48 ⊢
      simp only [List.headD_cons] at c48
      rw [c48]
     ·exact Or.inr c48

theorem spec_l03Run.l0_ev (s : ByteArray) (hs : s.size ≤ 140737488351232) (n : Nat) : ∀ i : Int, 0 ≤ i → i ≤ (s.size : Int) + 8 → (s.size : Int) - i ≤ n →
  Ev (fun k => spec_l03Run.l0 k s i) (i + runN (tl s i)) := by
 induction n with
 | zero =>
  intro i h0 h2 hn
  apply Ev.succ; simp only [spec_l03Run.l0]
  rw [tl_nil (by omega)]
  exact Ev.ite_neg (by omega) (Ev.done (by simp [runN]))
 | succ n ih =>
  intro i h0 h2 hn
  by_cases h1 : i < (s.size : Int)
  ·have ih := ih (i + 1) (by omega) (by omega) (by omega)
   apply Ev.succ
   simp only [spec_l03Run.l0, h0, h1, if_true, spec_l03Figure.eq, Option.bind_some, w64 (x := i + 1) (by omega) (by omega)]
   rw [tl_cons h0 h1, runN_cons]
   cases hf : figB (bt s i) with
   | true => exact Ev.ite_pos rfl (ih.get (by simp; omega))
   | false => exact Ev.ite_neg (by simp) (Ev.done (by simp))
  ·apply Ev.succ; simp only [spec_l03Run.l0]
   rw [tl_nil (by omega)]
   exact Ev.ite_neg h1 (Ev.done (by simp [runN]))
theorem spec_l03Run.ev (s : ByteArray) (hs : s.size ≤ 140737488351232) (i : Int) (h0 : 0 ≤ i) (h2 : i ≤ (s.size : Int) + 8) : Ev (fun k => spec_l03Run.f k s i) (i + runN (tl s i)) := by
 unfold spec_l03Run.f
 exact spec_l03Run.l0_ev s hs s.size i h0 h2 (by omega)

theorem spec_l03Int.part (s : ByteArray) (hs : s.size ≤ 140737488351232) (i : Int) (h0 : 0 ≤ i) (h2 : i ≤ 1) :
  Ev (fun k => (spec_l03Run.f k s i).bind fun t => if t = i then (some 0) else if 0 ≤ i then if i < (s.size : Int) then if bt s i = 48 then if t > wrap64 (i + 1) then some 0 else some t else some t else none else none)
   (if runN (tl s i) = 0 then 0 else if (tl s i).headD 0 = 48 ∧ 1 < runN (tl s i) then 0 else i + runN (tl s i)) := by
 refine (spec_l03Run.ev s hs i h0 (by omega)).bind ?_
 by_cases c0 : runN (tl s i) = 0
 ·rw [if_pos c0]; exact Ev.ite_pos (by omega) (Ev.done rfl)
 ·rw [if_neg c0]
  have h1 : i < (s.size : Int) := by
   by_cases h : i < (s.size : Int)
   ·exact h
   ·rw [tl_nil (by omega)] at c0; exact absurd rfl c0
  have hh : (tl s i).headD 0 = bt s i := by rw [tl_cons h0 h1]; rfl
  rw [hh, w64 (x := i + 1) (by omega) (by omega)]
  refine Ev.ite_neg (by omega) (Ev.ite_pos h0 (Ev.ite_pos h1 ?_))
  by_cases c1 : bt s i = 48
  ·refine Ev.ite_pos c1 ?_
   by_cases c2 : 1 < runN (tl s i)
   ·have e : (if bt s i = 48 ∧ 1 < runN (tl s i) then (0 : Int) else i + runN (tl s i)) = 0 := if_pos ⟨c1, c2⟩
    rw [e]; exact Ev.ite_pos (by omega) (Ev.done rfl)
   ·have e : (if bt s i = 48 ∧ 1 < runN (tl s i) then (0 : Int) else i + runN (tl s i)) = i + runN (tl s i) := if_neg (fun h => c2 h.2)
    rw [e]; exact Ev.ite_neg (by omega) (Ev.done rfl)
  ·have e : (if bt s i = 48 ∧ 1 < runN (tl s i) then (0 : Int) else i + runN (tl s i)) = i + runN (tl s i) := if_neg (fun h => c1 h.1)
   rw [e]; exact Ev.ite_neg c1 (Ev.done rfl)
theorem spec_l03Int.ev (s : ByteArray) (hs : s.size ≤ 140737488351232) : Ev (fun k => spec_l03Int.f k s) (intEnd (bytesOf s)) := by
 unfold spec_l03Int.f
 have p0 := spec_l03Int.part s hs 0 (by omega) (by omega)
 have p1 := spec_l03Int.part s hs 1 (by omega) (by omega)
 rw [tl_zero] at p0
 by_cases h : (s.size : Int) > 0
 ·refine Ev.ite_pos h (Ev.ite_pos h ?_)
  have ht := tl_cons (s := s) (i := 0) (by omega) h
  rw [tl_zero] at ht
  have e1 : (0 : Int) + 1 = 1 := rfl
  rw [e1] at ht
  apply Ev.succ; simp only [spec_l03Int.j0]
  by_cases c : bt s 0 = 45
  ·refine Ev.ite_pos (by simp [c]) ?_
   have hd : digs (bytesOf s) = tl s 1 := by unfold digs; rw [ht, c]; rfl
   have hg : signN (bytesOf s) = 1 := by unfold signN; rw [ht, c]; rfl
   have w2 : wrap64 ((1 : Int) + 1) = 1 + 1 := w64 (by omega) (by omega)
   rw [w2] at p1
   have p2 := p1.get (r := intEnd (bytesOf s)) (by unfold intEnd; rw [hd, hg])
   simpa using p2
  ·refine Ev.ite_neg (by simp [c]) ?_
   have hd : digs (bytesOf s) = bytesOf s := by unfold digs; rw [ht]; simp [c]
   have hg : signN (bytesOf s) = 0 := by unfold signN; rw [ht]; simp [c]
   exact p0.get (by unfold intEnd; rw [hd, hg])
 ·refine Ev.ite_neg h ?_
  have hz : bytesOf s = [] := List.length_eq_zero_iff.1 (by rw [size_bytes]; omega)
  apply Ev.succ; simp only [spec_l03Int.j0]
  refine Ev.ite_neg (by simp) ?_
  have hd : digs (bytesOf s) = bytesOf s := by unfold digs; rw [hz]; rfl
  have hg : signN (bytesOf s) = 0 := by unfold signN; rw [hz]; rfl
  exact p0.get (by unfold intEnd; rw [hd, hg])

theorem spec_IntOk.ev (s : ByteArray) (hs : s.size ≤ 140737488351232) : Ev (fun k => spec_IntOk.f k s) (intOkL (bytesOf s)) := by
 have hl := size_bytes s
 unfold spec_IntOk.f
 rw [intOk_end, hl]
 by_cases h : (s.size : Int) ≤ 40
 ·refine Ev.ite_pos h ?_
  by_cases h2 : (s.size : Int) > 0
  ·refine Ev.ite_pos h2 ((spec_l03Int.ev s hs).bind (Ev.done ?_))
   have e1 : decide (s.size ≤ 40) = true := decide_eq_true (by omega)
   have e2 : decide (0 < s.size) = true := decide_eq_true (by omega)
   rw [e1, e2]; simp
  ·refine Ev.ite_neg h2 (Ev.done ?_)
   have e2 : decide (0 < s.size) = false := decide_eq_false (by omega)
   rw [e2]; simp
 ·refine Ev.ite_neg h (Ev.done ?_)
  have e1 : decide (s.size ≤ 40) = false := decide_eq_false (by omega)
  rw [e1]; simp

/-- Where the first element is that p holds of; -1: nowhere. -/
def fstI (p : Int → Bool) : List Int → Int
 | [] => -1
 | x :: r => if p x = true then 0 else if fstI p r = -1 then -1 else fstI p r + 1
def isE (x : Int) : Bool := x == 101 || x == 69
theorem fstI_range (p : Int → Bool) (l : List Int) : -1 ≤ fstI p l ∧ fstI p l < l.length := by
 induction l with
 | nil => simp [fstI]
 | cons x r ih => simp only [fstI, List.length_cons]; split; omega; split <;> omega
theorem fstI_skip (p : Int → Bool) (a q : List Int) (h : ∀ x ∈ a, p x = false) : fstI p (a ++ q) = if fstI p q = -1 then -1 else fstI p q + a.length := by
 induction a with
 | nil => simp
 | cons x r ih =>
  have ih := ih fun y hy => h y (by simp [hy])
  have hq := fstI_range p q
  simp only [List.cons_append, fstI, h x (by simp), ih, List.length_cons]
  by_cases c : fstI p q = -1
  ·simp [c]
  ·rw [if_neg (by decide), if_neg c, if_neg (by omega), if_neg c]; omega
theorem fstI_none (p : Int → Bool) (a : List Int) (h : ∀ x ∈ a, p x = false) : fstI p a = -1 := by
 have := fstI_skip p a [] h
 rw [List.append_nil] at this
 rw [this]; rfl
theorem fstI_split (p : Int → Bool) (l : List Int) (h : 0 ≤ fstI p l) : ∃ x, p x = true ∧ l = l.take (fstI p l).toNat ++ x :: l.drop ((fstI p l).toNat + 1) ∧ ∀ y ∈ l.take (fstI p l).toNat, p y = false := by
 induction l with
 | nil => simp [fstI] at h
 | cons x r ih =>
  simp only [fstI] at h ⊢
  by_cases c : p x = true
  ·rw [if_pos c]; exact ⟨x, c, by simp, by simp⟩
  ·rw [if_neg c] at h ⊢
   by_cases d : fstI p r = -1
   ·rw [if_pos d] at h; omega
   ·rw [if_neg d]
    have hr := fstI_range p r
    obtain ⟨y, hy, hs, ha⟩ := ih (by omega)
    rw [show (fstI p r + 1).toNat = (fstI p r).toNat + 1 from by omega]
    refine ⟨y, hy, ?_, ?_⟩
    ·rw [List.take_succ_cons, List.drop_succ_cons, List.cons_append, ← hs]
    ·intro z hz
     rw [List.take_succ_cons] at hz
     rcases List.mem_cons.1 hz with rfl | hz
     ·simpa using c
     ·exact ha z hz
theorem indexByte_fst (l : List UInt8) (c : UInt8) : Lib.indexByte l c = fstI (· == (c.toNat : Int)) (l.map fun b => (b.toNat : Int)) := by
 induction l with
 | nil => rfl
 | cons b l ih =>
  have e : ((b.toNat : Int) == (c.toNat : Int)) = (b == c) := by
   rw [Bool.eq_iff_iff, beq_iff_eq, beq_iff_eq]
   constructor
   ·intro h; apply UInt8.toNat_inj.1; omega
   ·rintro rfl; rfl
  simp only [List.map_cons, fstI, e, ← ih, Lib.indexByte]
  cases h : (b == c) with
  | true => simp
  | false => simp
theorem indexAny_fst (l : List UInt8) : Lib.indexAny l [101, 69] = fstI isE (l.map fun b => (b.toNat : Int)) := by
 induction l with
 | nil => rfl
 | cons b l ih =>
  have e : isE (b.toNat : Int) = ([101, 69] : List UInt8).contains b := by
   unfold isE
   rw [Bool.eq_iff_iff]
   simp only [Bool.or_eq_true, beq_iff_eq, List.contains_cons, List.contains_nil, Bool.or_false]
   constructor
   ·rintro (h | h)
    ·left; apply UInt8.toNat_inj.1; show b.toNat = 101; omega
    ·right; apply UInt8.toNat_inj.1; show b.toNat = 69; omega
   ·rintro (h | h)
    ·left; subst h; rfl
    ·right; subst h; rfl
  simp only [List.map_cons, fstI, e, ← ih, Lib.indexAny]
  cases h : ([101, 69] : List UInt8).contains b with
  | true => simp
  | false => simp
/-- What a step of the decoder goes over. -/
theorem dec_over (s : ByteArray) (p : Nat) (hp : p < s.size) : (bt s p < 128 ∧ ((Utf8.decode s p).1 : Int) = bt s p ∧ (Utf8.decode s p).2 = 1) ∨
  (128 ≤ (Utf8.decode s p).1 ∧ 1 ≤ (Utf8.decode s p).2 ∧ p + (Utf8.decode s p).2 ≤ s.size ∧ ∀ j : Nat, j < (Utf8.decode s p).2 → 128 ≤ bt s ((p : Int) + j)) := by
 have hb : bt s p = ((s[p]'hp).toNat : Int) := by
  have := Go.Proofs.YtjhagdjjlgjlbaaGreatDoorW.PrintWords.bt_at s p (by simpa using hp)
  simp only [Int.toNat_natCast] at this
  exact this.symm
 by_cases c : (s[p]'hp).toNat < 128
 ·left
  have := decode_ascii s p hp c
  rw [this]
  exact ⟨by omega, by simp [hb], rfl⟩
 ·right
  have hh := Go.decode_high s p hp (by omega)
  have ha : asAt (Utf8.decode s p) = decAt s p := by
   rw [Lib.decode_at s p, dec_go _ _ _ _ _ (by omega) (get_lt _ _) (get_lt _ _) (get_lt _ _) (get_lt _ _)]
   unfold decAt
   rw [bt_get, bt_get, bt_get, bt_get]
   rw [show ((s.size - p : Nat) : Int) = (s.size : Int) - (p : Int) from by omega]; rfl
  refine ⟨hh.1, hh.2, ?_⟩
  by_cases c2 : (Utf8.decode s p).1 = 65533 ∧ (Utf8.decode s p).2 < 2
  ·refine ⟨by omega, fun j hj => ?_⟩
   rw [show j = 0 from by omega]
   simp only [Int.natCast_zero, Int.add_zero]
   omega
  ·unfold asAt at ha
   rw [if_neg c2] at ha
   generalize (Utf8.decode s p).1 = R at *
   generalize (Utf8.decode s p).2 = K at *
   unfold decAt decZ at ha
   have key : ∀ (a b : Int), ((R : Int), (K : Int)) = (a, b) → (R : Int) = a ∧ (K : Int) = b := fun a b h => Prod.mk.inj h
   split at ha
   ·have := key _ _ ha; omega
   ·split at ha
    ·omega
    ·split at ha
     ·rename_i h2
      have := key _ _ ha
      refine ⟨by omega, fun j hj => ?_⟩
      have hj2 : j = 0 ∨ j = 1 := by omega
      rcases hj2 with rfl | rfl
      ·simp only [Int.natCast_zero, Int.add_zero]; omega
      ·show 128 ≤ bt s ((p : Int) + 1); omega
     ·split at ha
      ·rename_i h2
       have := key _ _ ha
       refine ⟨by omega, fun j hj => ?_⟩
       have hj2 : j = 0 ∨ j = 1 ∨ j = 2 := by omega
       rcases hj2 with rfl | rfl | rfl
       ·simp only [Int.natCast_zero, Int.add_zero]; omega
       ·show 128 ≤ bt s ((p : Int) + 1); omega
       ·show 128 ≤ bt s ((p : Int) + 2); omega
      ·split at ha
       ·rename_i h2
        have := key _ _ ha
        refine ⟨by omega, fun j hj => ?_⟩
        have hj2 : j = 0 ∨ j = 1 ∨ j = 2 ∨ j = 3 := by omega
        rcases hj2 with rfl | rfl | rfl | rfl
        ·simp only [Int.natCast_zero, Int.add_zero]; omega
        ·show 128 ≤ bt s ((p : Int) + 1); omega
        ·show 128 ≤ bt s ((p : Int) + 2); omega
        ·show 128 ≤ bt s ((p : Int) + 3); omega
       ·have := key _ _ ha; omega
/-- Moved on over bytes that p does not hold of. -/
theorem fstI_over (s : ByteArray) (p : Int → Bool) (m : Nat) : ∀ i : Int, 0 ≤ i → i + m ≤ (s.size : Int) → (∀ j : Nat, j < m → p (bt s (i + j)) = false) → fstI p (tl s i) = if fstI p (tl s (i + m)) = -1 then -1 else fstI p (tl s (i + m)) + m := by
 induction m with
 | zero =>
  intro i h0 _ _
  simp only [Int.natCast_zero, Int.add_zero]
  split <;> omega
 | succ m ih =>
  intro i h0 h1 h
  have hx := h 0 (by omega)
  simp only [Int.natCast_zero, Int.add_zero] at hx
  have := ih (i + 1) (by omega) (by omega) (fun j hj => by
   have := h (j + 1) (by omega)
   rwa [show i + ((j + 1 : Nat) : Int) = i + 1 + j from by omega] at this)
  rw [tl_cons h0 (by omega), fstI, hx, this, show i + 1 + (m : Int) = i + ((m + 1 : Nat) : Int) from by omega]
  have hr := fstI_range p (tl s (i + ((m + 1 : Nat) : Int)))
  rw [if_neg (by decide)]
  by_cases c : fstI p (tl s (i + ((m + 1 : Nat) : Int))) = -1
  ·rw [if_pos c, if_pos rfl, if_pos c]
  ·rw [if_neg c, if_neg (by omega), if_neg c]; omega
theorem ixRun_eq (s : ByteArray) (n : Nat) : ∀ p : Nat, p ≤ s.size → s.size - p ≤ n → strings_IndexAny.ixRun s n p = if fstI isE (tl s (p : Int)) = -1 then -1 else fstI isE (tl s (p : Int)) + p := by
 induction n with
 | zero =>
  intro p hp hn
  rw [tl_nil (by omega)]; rfl
 | succ n ih =>
  intro p hp hn
  by_cases c : p < s.size
  ·rw [strings_IndexAny.ixRun, if_pos c]
   have hr0 := bt_range s p
   rcases dec_over s p c with ⟨hb, hR, hK⟩ | ⟨hR, hK, hle, hall⟩
   ·rw [hR, hK]
    have ht : tl s (p : Int) = bt s p :: tl s ((p : Int) + 1) := tl_cons (by omega) (by omega)
    by_cases e : isE (bt s p) = true
    ·have : (0 : Int) ≤ strings_IndexAny.ixR (bt s p) := by
      unfold isE at e; simp at e
      unfold strings_IndexAny.ixR
      rcases e with e | e <;> rw [e] <;> decide
     rw [if_pos this, ht, fstI, if_pos e, if_neg (by decide), Int.zero_add]
    ·have hne : ¬ (0 : Int) ≤ strings_IndexAny.ixR (bt s p) := by
      unfold isE at e; simp at e
      unfold strings_IndexAny.ixR
      rw [if_neg e.1, if_neg e.2]; decide
     have hi := ih (p + 1) (by omega) (by omega)
     have hr := fstI_range isE (tl s ((p : Int) + 1))
     rw [if_neg hne, hi, ht, fstI, if_neg e, show ((p + 1 : Nat) : Int) = (p : Int) + 1 from by omega]
     by_cases d : fstI isE (tl s ((p : Int) + 1)) = -1
     ·rw [if_pos d, if_pos d, if_pos rfl]
     ·rw [if_neg d, if_neg d, if_neg (by omega)]; omega
   ·have hne : ¬ (0 : Int) ≤ strings_IndexAny.ixR ((Utf8.decode s p).1 : Int) := by
     unfold strings_IndexAny.ixR
     rw [if_neg (by omega), if_neg (by omega)]; decide
    have hov := fstI_over s isE (Utf8.decode s p).2 (p : Int) (by omega) (by omega) (fun j hj => by
     have := hall j hj
     unfold isE; simp; omega)
    have hi := ih (p + (Utf8.decode s p).2) (by omega) (by omega)
    have hr := fstI_range isE (tl s ((p : Int) + ((Utf8.decode s p).2 : Int)))
    rw [if_neg hne, hi, hov, Int.natCast_add]
    by_cases d : fstI isE (tl s ((p : Int) + ((Utf8.decode s p).2 : Int))) = -1
    ·rw [if_pos d, if_pos d, if_pos rfl]
    ·rw [if_neg d, if_neg d, if_neg (by omega)]; omega
  ·rw [strings_IndexAny.ixRun, if_neg c, tl_nil (by omega)]; rfl
theorem strings_IndexAny.eq (s : ByteArray) (hs : s.size ≤ 100000) : strings_IndexAny.f s (⟨#[101, 69]⟩ : ByteArray) = some (fstI isE (bytesOf s)) := by
 unfold strings_IndexAny.f
 rw [if_pos rfl]
 by_cases c : s.size ≤ 8
 ·have hr := fstI_range isE (bytesOf s)
  rw [if_pos c, ixRun_eq s s.size 0 (by omega) (by omega), show ((0 : Nat) : Int) = 0 from rfl, tl_zero]
  congr 1; split <;> omega
 ·rw [if_neg c, if_pos (by omega), indexAny_fst]; rfl

/-- A list cut at its first element that p holds of. -/
def cutB (p : Int → Bool) (l : List Int) : List Int × Option (List Int) := if 0 ≤ fstI p l then (l.take (fstI p l).toNat, some (l.drop ((fstI p l).toNat + 1))) else (l, none)
def isDot (x : Int) : Bool := x == 46
def figsL (l : List Int) : Bool := l.all figB && (l != [])
def signOff (l : List Int) : List Int := if l.head? = some 43 ∨ l.head? = some 45 then l.tail else l
def frontOk (l : List Int) (e : Bool) : Bool := match cutB isDot l with | (w, some f) => intOkL w && figsL f | (w, none) => intOkL w && e
def floatL (l : List Int) : Bool := decide (l.length ≤ 40) && (match cutB isE l with | (f, some p) => figsL (signOff p) && frontOk f true | (f, none) => frontOk f false)
theorem cutB_none (p : Int → Bool) (l : List Int) (h : ∀ x ∈ l, p x = false) : cutB p l = (l, none) := by
 unfold cutB; rw [fstI_none p l h, if_neg (by decide)]
theorem cutB_at (p : Int → Bool) (a : List Int) (x : Int) (r : List Int) (h : ∀ y ∈ a, p y = false) (hx : p x = true) : cutB p (a ++ x :: r) = (a, some r) := by
 have e : fstI p (a ++ x :: r) = a.length := by
  have h0 : fstI p (x :: r) = 0 := by rw [fstI, if_pos hx]
  rw [fstI_skip p a _ h, h0, if_neg (by decide)]; omega
 unfold cutB
 rw [e, if_pos (by omega), Int.toNat_natCast, List.take_left]
 rw [List.drop_append, List.drop_eq_nil_of_le (by omega), show a.length + 1 - a.length = 1 from by omega]; rfl

def endB (q : List Int) : Bool := runN q != 0 && runN q == q.length
def expB : List Int → Bool
 | [] => true
 | x :: q => isE x && endB (signOff q)
def specL (l : List Int) : Bool :=
 decide (l.length ≤ 40) && (intEnd l != 0 && (intEnd l != (l.length : Int) && (match l.drop (intEnd l).toNat with
  | [] => true
  | x :: q => if x = 46 then runN q != 0 && expB (q.drop (runN q)) else expB (x :: q))))
theorem tl_len {s : ByteArray} {i : Int} (h0 : 0 ≤ i) (h1 : i ≤ (s.size : Int)) : ((tl s i).length : Int) = (s.size : Int) - i := by
 unfold tl; rw [List.length_drop, size_bytes]; omega
theorem spec_FloatOk.run (s : ByteArray) (hs : s.size ≤ 1000) (i : Int) (h0 : 0 ≤ i) (h1 : i ≤ (s.size : Int)) : Ev (fun k => (spec_l03Run.f k s i).bind fun t => if t = i then some false else some (t == (s.size : Int))) (endB (tl s i)) := by
 refine (spec_l03Run.ev s (by omega) i h0 (by omega)).bind ?_
 have hl := tl_len h0 h1
 have hr := runN_le (tl s i)
 unfold endB
 by_cases c : runN (tl s i) = 0
 ·rw [c]; exact Ev.ite_pos (by omega) (Ev.done rfl)
 ·refine Ev.ite_neg (by omega) (Ev.done ?_)
  have e : (runN (tl s i) != 0) = true := bne_iff_ne.2 c
  rw [e, Bool.true_and, Bool.eq_iff_iff, beq_iff_eq, beq_iff_eq]; omega
theorem spec_FloatOk.j3_ev (s : ByteArray) (hs : s.size ≤ 1000) (i : Int) (h0 : 0 ≤ i) (h1 : i ≤ (s.size : Int)) (b : Bool) (hb : b = decide ((tl s i).head? = some 43 ∨ (tl s i).head? = some 45)) : Ev (fun k => spec_FloatOk.j3 k s i b) (endB (signOff (tl s i))) := by
 subst hb
 apply Ev.succ; simp only [spec_FloatOk.j3]
 unfold signOff
 by_cases d : (tl s i).head? = some 43 ∨ (tl s i).head? = some 45
 ·have hi : i < (s.size : Int) := by
   rcases Int.lt_or_le i (s.size : Int) with h | h
   ·exact h
   ·rw [tl_nil h] at d; simp at d
  have e : (tl s i).tail = tl s (i + 1) := by rw [tl_cons h0 hi]; rfl
  rw [if_pos d, e, w64 (x := i + 1) (by omega) (by omega)]
  exact Ev.ite_pos (decide_eq_true d) (spec_FloatOk.run s hs (i + 1) (by omega) (by omega))
 ·rw [if_neg d]
  exact Ev.ite_neg (by simpa using d) (spec_FloatOk.run s hs i h0 h1)
theorem spec_FloatOk.j1_ev (s : ByteArray) (hs : s.size ≤ 1000) (i : Int) (h0 : 0 ≤ i) (h1 : i ≤ (s.size : Int)) : Ev (fun k => spec_FloatOk.j1 k s i) (expB (tl s i)) := by
 apply Ev.succ; simp only [spec_FloatOk.j1]
 by_cases c : i < (s.size : Int)
 ·have hj : ∀ b, b = isE (bt s i) → Ev (fun k => spec_FloatOk.j2 k s i b) (expB (tl s i)) := by
   rintro b rfl
   apply Ev.succ; simp only [spec_FloatOk.j2]
   rw [tl_cons h0 c, expB, w64 (x := i + 1) (by omega) (by omega)]
   cases he : isE (bt s i) with
   | false => exact Ev.ite_neg (by decide) (Ev.done (by rw [Bool.false_and]; exact beq_eq_false_iff_ne.2 (by omega)))
   | true =>
    rw [Bool.true_and]
    refine Ev.ite_pos (by first | rfl | trivial) ?_
    by_cases d : i + 1 < (s.size : Int)
    ·have hh : (tl s (i + 1)).head? = some (bt s (i + 1)) := by rw [tl_cons (by omega) d]; rfl
     refine Ev.ite_pos d (Ev.ite_pos (by omega) ?_)
     by_cases e : bt s (i + 1) = 43
     ·exact Ev.ite_pos e (spec_FloatOk.j3_ev s hs (i + 1) (by omega) (by omega) _ (by rw [hh, e]; simp))
     ·refine Ev.ite_neg e (spec_FloatOk.j3_ev s hs (i + 1) (by omega) (by omega) _ ?_)
      rw [hh, Bool.eq_iff_iff]; simp [e]
    ·refine Ev.ite_neg d (spec_FloatOk.j3_ev s hs (i + 1) (by omega) (by omega) _ ?_)
     rw [tl_nil (by omega)]; simp
  refine Ev.ite_pos c (Ev.ite_pos h0 ?_)
  by_cases e : bt s i = 101
  ·exact Ev.ite_pos e (hj _ (by rw [e]; rfl))
  ·refine Ev.ite_neg e (hj _ ?_)
   unfold isE
   rw [beq_eq_false_iff_ne.2 e, Bool.false_or]
 ·rw [tl_nil (by omega)]
  refine Ev.ite_neg c ?_
  apply Ev.succ; simp only [spec_FloatOk.j2]
  exact Ev.ite_neg (by decide) (Ev.done (beq_iff_eq.2 (by omega)))
theorem intEnd_range (l : List Int) : 0 ≤ intEnd l ∧ intEnd l ≤ l.length := by
 have h1 := digs_length l
 have h2 := runN_le (digs l)
 have h3 : 0 ≤ signN l := by unfold signN; split <;> omega
 unfold intEnd
 split
 ·omega
 ·split <;> omega
theorem spec_FloatOk.ev (s : ByteArray) (hs : s.size ≤ 140737488351232) : Ev (fun k => spec_FloatOk.f k s) (specL (bytesOf s)) := by
 unfold spec_FloatOk.f specL
 have hr := intEnd_range (bytesOf s)
 rw [size_bytes] at hr ⊢
 have hj : Ev (fun k => spec_FloatOk.j0 k s (intEnd (bytesOf s)) true) false := by
  apply Ev.succ; simp only [spec_FloatOk.j0]
  exact Ev.ite_pos (by first | rfl | trivial) (Ev.done rfl)
 refine (spec_l03Int.ev s hs).bind ?_
 by_cases c40 : (s.size : Int) > 40
 ·rw [decide_eq_false (show ¬ s.size ≤ 40 by omega)]
  exact Ev.ite_pos c40 hj
 rw [decide_eq_true (show s.size ≤ 40 by omega), Bool.true_and]
 refine Ev.ite_neg c40 ?_
 by_cases c0 : intEnd (bytesOf s) = 0
 ·rw [show (intEnd (bytesOf s) != 0) = false from bne_eq_false_iff_eq.2 c0]
  exact Ev.ite_pos c0 (by rw [Bool.false_and]; exact hj)
 rw [show (intEnd (bytesOf s) != 0) = true from bne_iff_ne.2 c0, Bool.true_and]
 refine Ev.ite_neg c0 ?_
 by_cases c1 : intEnd (bytesOf s) = (s.size : Int)
 ·rw [show (intEnd (bytesOf s) != (s.size : Int)) = false from bne_eq_false_iff_eq.2 c1, show (intEnd (bytesOf s) == (s.size : Int)) = true from beq_iff_eq.2 c1, Bool.false_and]
  exact hj
 rw [show (intEnd (bytesOf s) != (s.size : Int)) = true from bne_iff_ne.2 c1, show (intEnd (bytesOf s) == (s.size : Int)) = false from beq_eq_false_iff_ne.2 c1, Bool.true_and]
 generalize intEnd (bytesOf s) = a at *
 have e : (bytesOf s).drop a.toNat = tl s a := rfl
 rw [e, tl_cons (by omega) (by omega)]
 simp only
 apply Ev.succ; simp only [spec_FloatOk.j0]
 rw [w64 (x := a + 1) (by omega) (by omega)]
 refine Ev.ite_neg (by decide) (Ev.ite_pos (by omega) (Ev.ite_pos (by omega) ?_))
 by_cases d : bt s a = 46
 ·rw [if_pos d]
  refine Ev.ite_pos d ((spec_l03Run.ev s (by omega) (a + 1) (by omega) (by omega)).bind ?_)
  have hl := tl_len (s := s) (i := a + 1) (by omega) (by omega)
  have hrn := runN_le (tl s (a + 1))
  by_cases c : runN (tl s (a + 1)) = 0
  ·rw [c]; exact Ev.ite_pos (by omega) (Ev.done rfl)
  ·rw [show (runN (tl s (a + 1)) != 0) = true from bne_iff_ne.2 c, Bool.true_and]
   refine Ev.ite_neg (by omega) ((spec_FloatOk.j1_ev s (by omega) _ (by omega) (by omega)).get ?_)
   congr 1
   unfold tl
   rw [List.drop_drop]; congr 1; omega
 ·rw [if_neg d]
  refine Ev.ite_neg d ((spec_FloatOk.j1_ev s (by omega) a (by omega) (by omega)).get ?_)
  rw [tl_cons (by omega) (by omega)]

theorem Ev_ixO {α : Type} {p : Nat → α → Option Bool} {e : α → Bool} : ∀ (l : List α) (i : Int), 0 ≤ i → (∀ y ∈ l, Ev (fun k => p k y) (e y)) → ∃ r, Ev (fun k => ixO (p k) l i) r ∧ (decide (0 ≤ r)) = l.any e
 | [], i, _, _ => ⟨-1, Ev.done rfl, rfl⟩
 | x :: r, i, hi, h => by
  obtain ⟨t, ht, he⟩ := Ev_ixO r (i + 1) (by omega) (fun y hy => h y (List.mem_cons_of_mem _ hy))
  have hx := h x List.mem_cons_self
  cases hc : e x with
  | true =>
   refine ⟨i, ?_, ?_⟩
   ·simp only [ixO]
    rw [hc] at hx
    exact Ev.bind hx (Ev.ite_pos rfl (Ev.done rfl))
   ·rw [List.any_cons, hc]
    simp [hi]
  | false =>
   refine ⟨t, ?_, ?_⟩
   ·simp only [ixO]
    rw [hc] at hx
    exact Ev.bind hx (Ev.ite_neg (by decide) ht)
   ·rw [List.any_cons, hc, he]
    rfl
theorem Ev_anyO {α : Type} {p : Nat → α → Option Bool} {e : α → Bool} (l : List α) (h : ∀ y ∈ l, Ev (fun k => p k y) (e y)) : Ev (fun k => anyO (p k) l) (l.any e) := by
 obtain ⟨r, ⟨K, hr⟩, he⟩ := Ev_ixO l 0 (Int.le_refl _) h
 refine ⟨K, fun k hk => ?_⟩
 show (ixO (p k) l 0).map _ = _
 rw [show ixO (p k) l 0 = some r from hr k hk, ← he]
 rfl
theorem Ev_map {α β : Type} {g : Nat → Option α} {a : α} (f : α → β) (h : Ev g a) : Ev (fun k => (g k).map f) (f a) := by
 obtain ⟨K, h⟩ := h
 exact ⟨K, fun k hk => by show (g k).map f = _; rw [h k hk]; rfl⟩

/-- true, false, null. -/
def wordB (s : ByteArray) : Bool := if s.toList = ([116, 114, 117, 101] : List UInt8) then true else if s.toList = ([102, 97, 108, 115, 101] : List UInt8) then true else s.toList == ([110, 117, 108, 108] : List UInt8)
/-- Is a text right, at a kind that holds nothing else? -/
def leafB (q : Int) (s : ByteArray) : Bool := if q = 1 then nameOkL (bytesOf s) else if q = 2 then intOkL (bytesOf s) else if q = 3 then floatL (bytesOf s) else if q = 4 then ((escS s).toList != []) else if q = 5 then wordB s else if q = 6 then (nameOkL (bytesOf s) && !wordB s) else false
def nmB (s : ByteArray) : Bool := nameOkL (bytesOf s)
mutual
/-- Is a value right, with no more than n lists or objects one in the other? -/
def okV : S52 → Nat → Bool
 | ⟨a, b, c, d⟩, n => if a = 7 then (decide (d.length = 0) && (decide (0 < n) && (decide (b.toList = []) && okVs c (n - 1)))) else if a = 8 then (decide (d.length = c.length) && (d.all nmB && (decide (0 < n) && (decide (b.toList = []) && okVs c (n - 1))))) else (leafB a b && decide (c.length = 0 ∧ d.length = 0))
def okVs : List S52 → Nat → Bool
 | [], _ => true
 | x :: r, n => okV x n && okVs r n
end
theorem okVs_all : ∀ l n, okVs l n = l.all (fun x => okV x n)
 | [], _ => by rw [okVs]; rfl
 | x :: r, n => by rw [okVs, okVs_all r n]; rfl
theorem okV_eq (x : S52) (n : Nat) : okV x n = (if x.f0 = 7 then (decide (x.f3.length = 0) && (decide (0 < n) && (decide (x.f1.toList = []) && x.f2.all (fun y => okV y (n - 1))))) else if x.f0 = 8 then (decide (x.f3.length = x.f2.length) && (x.f3.all nmB && (decide (0 < n) && (decide (x.f1.toList = []) && x.f2.all (fun y => okV y (n - 1)))))) else (leafB x.f0 x.f1 && decide (x.f2.length = 0 ∧ x.f3.length = 0))) := by
 cases x
 rw [okV, okVs_all]
theorem wrap_less {d : Nat} (h : 0 < d) (hd : d ≤ 10) : wrap64 ((d : Int) - 1) = ((d - 1 : Nat) : Int) := by
 rw [w64 (by omega) (by omega)]
 omega

theorem figB_iff (x : Int) : figB x = true ↔ 48 ≤ x ∧ x ≤ 57 := by simp [figB]

theorem fig_not {x : Int} (h : figB x = true) : x ≠ 45 ∧ x ≠ 46 ∧ x ≠ 43 ∧ isE x = false := by
 rw [figB_iff] at h
 refine ⟨by omega, by omega, by omega, ?_⟩
 unfold isE; simp; omega
theorem numE {D : List Int} (h : ∀ x ∈ D, x = 45 ∨ figB x = true) : (∀ x ∈ D, isE x = false) ∧ (∀ x ∈ D, isDot x = false) := by
 constructor
 ·intro x hx
  rcases h x hx with rfl | hf
  ·decide
  ·exact (fig_not hf).2.2.2
 ·intro x hx
  rcases h x hx with rfl | hf
  ·decide
  ·unfold isDot; simp; exact (fig_not hf).2.1
theorem front_plain (D : List Int) (h : ∀ x ∈ D, isDot x = false) (e : Bool) : frontOk D e = (intOkL D && e) := by unfold frontOk; rw [cutB_none isDot D h]
theorem front_dot (D f : List Int) (h : ∀ x ∈ D, isDot x = false) (e : Bool) : frontOk (D ++ 46 :: f) e = (intOkL D && figsL f) := by unfold frontOk; rw [cutB_at isDot D 46 f h rfl]
theorem float_plain (D : List Int) (h : ∀ x ∈ D, isE x = false) : floatL D = (decide (D.length ≤ 40) && frontOk D false) := by unfold floatL; rw [cutB_none isE D h]
theorem float_exp (D p : List Int) (x : Int) (h : ∀ x ∈ D, isE x = false) (hx : isE x = true) : floatL (D ++ x :: p) = (decide ((D ++ x :: p).length ≤ 40) && (figsL (signOff p) && frontOk D true)) := by unfold floatL; rw [cutB_at isE D x p h hx]

theorem runN_append (d R : List Int) (h : d.all figB = true) : runN (d ++ R) = d.length + runN R := by
 induction d with
 | nil => simp
 | cons x r ih =>
  rw [List.all_cons, Bool.and_eq_true] at h
  rw [List.cons_append, runN_cons, if_pos h.1, ih h.2, List.length_cons]; omega
theorem runN_stop (R : List Int) (h : R = [] ∨ ∃ x q, R = x :: q ∧ figB x = false) : runN R = 0 := by
 rcases h with rfl | ⟨x, q, rfl, hx⟩
 ·rfl
 ·rw [runN_cons, hx]; simp
theorem runN_take (q : List Int) : (q.take (runN q)).all figB = true ∧ (q.drop (runN q) = [] ∨ ∃ x r, q.drop (runN q) = x :: r ∧ figB x = false) := by
 induction q with
 | nil => simp [runN]
 | cons x r ih =>
  rw [runN_cons]
  cases h : figB x with
  | true => simpa [h] using ih
  | false => simp [h]
theorem intOk_parts {w : List Int} (h : intOkL w = true) : w.length ≤ 40 ∧ digs w ≠ [] ∧ (digs w).all figB = true ∧ (digs w = [48] ∨ (digs w).headD 0 ≠ 48) ∧ w ≠ [] := by
 unfold intOkL at h
 simp only [Bool.and_eq_true, decide_eq_true_eq, Bool.or_eq_true, beq_iff_eq, bne_iff_ne, ne_eq] at h
 refine ⟨h.1.1, h.1.2.1, h.1.2.2, h.2, ?_⟩
 rintro rfl; exact h.1.2.1 rfl
theorem intEnd_app (w R : List Int) (h : intOkL w = true) (hR : R = [] ∨ ∃ x q, R = x :: q ∧ figB x = false) : intEnd (w ++ R) = w.length := by
 obtain ⟨h40, h1, h2, h3, h4⟩ := intOk_parts h
 have hl := digs_length w
 obtain ⟨x, r, rfl⟩ : ∃ x r, w = x :: r := by cases w with | nil => exact absurd rfl h4 | cons x r => exact ⟨x, r, rfl⟩
 have hd : digs ((x :: r) ++ R) = digs (x :: r) ++ R := by unfold digs; simp only [List.cons_append, List.head?_cons, List.tail_cons]; by_cases c : some x = some (45 : Int) <;> simp only [c, if_true, if_false] <;> rfl
 have hs : signN ((x :: r) ++ R) = signN (x :: r) := by unfold signN; rfl
 have hn : runN (digs ((x :: r) ++ R)) = (digs (x :: r)).length := by rw [hd, runN_append _ _ h2, runN_stop R hR]; omega
 have hlen : 0 < (digs (x :: r)).length := List.length_pos_iff.2 h1
 have hh : (digs (x :: r) ++ R).headD 0 = (digs (x :: r)).headD 0 := by cases hq : digs (x :: r) with | nil => exact absurd hq h1 | cons => rfl
 unfold intEnd
 rw [hn, hd, hs, hh, if_neg (by omega), if_neg (by
  rintro ⟨a, b⟩
  rcases h3 with h3 | h3
  ·rw [h3] at b; simp at b
  ·exact h3 a)]
 omega
/-- A number's begin, where there is one. -/
theorem intEnd_split (l : List Int) (h : intEnd l ≠ 0) (h40 : l.length ≤ 40) : ∃ w R, l = w ++ R ∧ intOkL w = true ∧ intEnd l = w.length ∧ (R = [] ∨ ∃ x q, R = x :: q ∧ figB x = false) := by
 have hl := digs_length l
 have hr := runN_le (digs l)
 obtain ⟨t1, t2⟩ := runN_take (digs l)
 have he := h
 unfold intEnd at h
 split at h
 ·exact absurd rfl h
 rename_i c0
 split at h
 ·exact absurd rfl h
 rename_i c1
 have hE : intEnd l = signN l + runN (digs l) := by unfold intEnd; rw [if_neg c0, if_neg c1]
 have hpre : ∃ s : List Int, l = s ++ digs l ∧ (s.length : Int) = signN l ∧ ∀ y, y ≠ [] → (∀ a, y.head? = some a → figB a = true) → digs (s ++ y) = y := by
  unfold signN digs
  cases l with
  | nil => exact ⟨[], rfl, by simp, fun y hy hh => by
    cases y with
    | nil => rfl
    | cons a y =>
     have := hh a rfl
     rw [if_neg (by simp; rintro rfl; exact absurd this (by decide))]; rfl⟩
  | cons x r =>
   by_cases d : x = 45
   ·refine ⟨[45], by rw [if_pos (by simp [d]), d]; rfl, by rw [if_pos (by simp [d])]; rfl, fun y _ _ => by rw [if_pos (by simp)]; rfl⟩
   ·refine ⟨[], by rw [if_neg (by simp [d])]; rfl, by rw [if_neg (by simp [d])]; rfl, fun y hy hh => ?_⟩
    cases y with
    | nil => rfl
    | cons a y =>
     have := hh a rfl
     rw [if_neg (by simp; rintro rfl; exact absurd this (by decide))]; rfl
 obtain ⟨s, hs1, hs2, hs3⟩ := hpre
 have hne : (digs l).take (runN (digs l)) ≠ [] := by
  intro hq
  have := congrArg List.length hq
  rw [List.length_take, List.length_nil] at this; omega
 have hhead : ∀ a, ((digs l).take (runN (digs l))).head? = some a → figB a = true := fun a ha => List.all_eq_true.1 t1 a (List.mem_of_mem_head? (by rw [ha]; rfl))
 have hdg := hs3 _ hne hhead
 refine ⟨s ++ (digs l).take (runN (digs l)), (digs l).drop (runN (digs l)), ?_, ?_, ?_, t2⟩
 ·conv => lhs; rw [hs1, ← List.take_append_drop (runN (digs l)) (digs l)]
  rw [List.append_assoc]
 ·have hlen : (s ++ (digs l).take (runN (digs l))).length ≤ 40 := by rw [List.length_append, List.length_take]; omega
  unfold intOkL
  rw [hdg, t1, decide_eq_true hlen]
  have hb : ((digs l).take (runN (digs l)) != []) = true := bne_iff_ne.2 hne
  rw [hb]
  simp only [Bool.true_and, Bool.or_eq_true, beq_iff_eq, bne_iff_ne, ne_eq]
  cases hq : digs l with
  | nil => rw [hq] at c0; exact absurd rfl c0
  | cons x r =>
   rw [hq] at c0 c1
   by_cases d : x = 48
   ·left
    subst d
    have : runN (48 :: r) = 1 := by
     have : ¬ 1 < runN (48 :: r) := fun h => c1 ⟨rfl, h⟩
     omega
    rw [this]; rfl
   ·right
    obtain ⟨m, hm⟩ : ∃ m, runN (x :: r) = m + 1 := ⟨runN (x :: r) - 1, by omega⟩
    rw [hm, List.take_succ_cons]; simpa using d
 ·rw [hE, List.length_append, List.length_take, Nat.min_eq_left hr]; omega
def FloatP (l : List Int) : Prop := ∃ w, intOkL w = true ∧ ((∃ f, figsL f = true ∧ l = w ++ 46 :: f) ∨ (∃ f x p, figsL f = true ∧ isE x = true ∧ figsL (signOff p) = true ∧ l = w ++ 46 :: (f ++ x :: p)) ∨ (∃ x p, isE x = true ∧ figsL (signOff p) = true ∧ l = w ++ x :: p))
theorem cutB_spec (p : Int → Bool) (l : List Int) : (cutB p l = (l, none) ∧ ∀ y ∈ l, p y = false) ∨ ∃ a x r, cutB p l = (a, some r) ∧ l = a ++ x :: r ∧ p x = true ∧ ∀ y ∈ a, p y = false := by
 have hr := fstI_range p l
 by_cases c : 0 ≤ fstI p l
 ·right
  obtain ⟨x, hx, hs, ha⟩ := fstI_split p l c
  refine ⟨_, x, _, ?_, hs, hx, ha⟩
  unfold cutB; rw [if_pos c]
 ·left
  refine ⟨by unfold cutB; rw [if_neg c], ?_⟩
  intro y hy
  rcases Bool.eq_false_or_eq_true (p y) with h | h
  ·exfalso
   clear hr
   induction l with
   | nil => cases hy
   | cons z r ih =>
    simp only [fstI] at c
    have hr2 := fstI_range p r
    split at c
    ·omega
    ·split at c
     ·rename_i hz hq
      rcases List.mem_cons.1 hy with rfl | hy
      ·exact hz h
      ·exact ih (by omega) hy
     ·omega
  ·exact h
theorem figs_parts {f : List Int} (h : figsL f = true) : f.all figB = true ∧ f ≠ [] := by
 unfold figsL at h; simpa using h
theorem int_signs {w : List Int} (h : intOkL w = true) : ∀ x ∈ w, x = 45 ∨ figB x = true := by
 obtain ⟨_, _, h2, _, _⟩ := intOk_parts h
 intro x hx
 unfold digs at h2
 split at h2
 ·rename_i hh
  cases w with
  | nil => cases hx
  | cons y r =>
   simp at hh
   rcases List.mem_cons.1 hx with rfl | hx
   ·left; exact hh
   ·right; exact List.all_eq_true.1 h2 x hx
 ·right; exact List.all_eq_true.1 h2 x hx
theorem figs_noE {f : List Int} (h : figsL f = true) : ∀ x ∈ f, isE x = false := fun x hx => (fig_not (List.all_eq_true.1 (figs_parts h).1 x hx)).2.2.2
theorem float_iff (l : List Int) : floatL l = true ↔ l.length ≤ 40 ∧ FloatP l := by
 constructor
 ·intro h
  unfold floatL at h
  rw [Bool.and_eq_true, decide_eq_true_eq] at h
  refine ⟨h.1, ?_⟩
  have h2 := h.2
  rcases cutB_spec isE l with ⟨e, hn⟩ | ⟨a, x, p, e, hl, hx, hn⟩
  ·rw [e] at h2
   simp only at h2
   unfold frontOk at h2
   rcases cutB_spec isDot l with ⟨e2, hn2⟩ | ⟨b, y, f, e2, hl2, hy, hn2⟩
   ·rw [e2] at h2; simp at h2
   ·rw [e2] at h2
    simp only [Bool.and_eq_true] at h2
    have hy46 : y = 46 := by unfold isDot at hy; simpa using hy
    exact ⟨b, h2.1, Or.inl ⟨f, h2.2, by rw [hl2, hy46]⟩⟩
  ·rw [e] at h2
   simp only [Bool.and_eq_true] at h2
   have h3 := h2.2
   unfold frontOk at h3
   rcases cutB_spec isDot a with ⟨e2, hn2⟩ | ⟨b, y, f, e2, hl2, hy, hn2⟩
   ·rw [e2] at h3
    simp only [Bool.and_true] at h3
    exact ⟨a, h3, Or.inr (Or.inr ⟨x, p, hx, h2.1, hl⟩)⟩
   ·rw [e2] at h3
    simp only [Bool.and_eq_true] at h3
    have hy46 : y = 46 := by unfold isDot at hy; simpa using hy
    exact ⟨b, h3.1, Or.inr (Or.inl ⟨f, x, p, h3.2, hx, h2.1, by rw [hl, hl2, hy46]; simp⟩)⟩
 ·rintro ⟨h40, w, hw, h⟩
  obtain ⟨wE, wD⟩ := numE (int_signs hw)
  rcases h with ⟨f, hf, rfl⟩ | ⟨f, x, p, hf, hx, hp, rfl⟩ | ⟨x, p, hx, hp, rfl⟩
  ·rw [float_plain _ (by
    intro y hy
    rcases List.mem_append.1 hy with hy | hy
    ·exact wE y hy
    ·rcases List.mem_cons.1 hy with rfl | hy
     ·decide
     ·exact figs_noE hf y hy), front_dot _ _ wD, hw, hf, decide_eq_true h40]; rfl
  ·have e : w ++ 46 :: (f ++ x :: p) = (w ++ 46 :: f) ++ x :: p := by simp
   rw [e] at h40 ⊢
   rw [float_exp _ _ x (by
    intro y hy
    rcases List.mem_append.1 hy with hy | hy
    ·exact wE y hy
    ·rcases List.mem_cons.1 hy with rfl | hy
     ·decide
     ·exact figs_noE hf y hy) hx, hp, front_dot _ _ wD, hw, hf, decide_eq_true h40]; rfl
  ·rw [float_exp _ _ x wE hx, hp, front_plain _ wD, hw, decide_eq_true h40]; rfl
theorem endB_figs (q : List Int) : endB q = figsL q := by
 have := runN_all q
 unfold endB figsL
 rw [Bool.eq_iff_iff]
 simp only [Bool.and_eq_true, bne_iff_ne, ne_eq, beq_iff_eq]
 constructor
 ·rintro ⟨a, b⟩
  refine ⟨this.2 b, ?_⟩
  rintro rfl; exact a rfl
 ·rintro ⟨a, b⟩
  have h1 := this.1 a
  have := List.length_pos_iff.2 b
  exact ⟨by omega, h1⟩
theorem isE_fig {x : Int} (h : isE x = true) : figB x = false ∧ x ≠ 46 := by
 unfold isE at h; simp at h
 rcases h with rfl | rfl <;> exact ⟨by decide, by decide⟩
theorem spec_iff (l : List Int) : specL l = true ↔ l.length ≤ 40 ∧ FloatP l := by
 constructor
 ·intro h
  unfold specL at h
  simp only [Bool.and_eq_true, decide_eq_true_eq, bne_iff_ne, ne_eq] at h
  obtain ⟨h40, h0, h1, h2⟩ := h
  refine ⟨h40, ?_⟩
  obtain ⟨w, R, hl, hw, hE, hR⟩ := intEnd_split l h0 h40
  have hdrop : l.drop (intEnd l).toNat = R := by rw [hE, Int.toNat_natCast, hl, List.drop_left]
  rw [hdrop] at h2
  have hexp : ∀ Q, Q ≠ [] → expB Q = true → ∃ x p, Q = x :: p ∧ isE x = true ∧ figsL (signOff p) = true := by
   intro Q hQ he
   cases Q with
   | nil => exact absurd rfl hQ
   | cons x p =>
    simp only [expB, Bool.and_eq_true, endB_figs] at he
    exact ⟨x, p, rfl, he.1, he.2⟩
  have hRne : R ≠ [] := by
   rintro rfl
   rw [List.append_nil] at hl
   apply h1; rw [hE, hl]
  cases R with
  | nil => exact absurd rfl hRne
  | cons x q =>
   simp only at h2
   by_cases d : x = 46
   ·rw [if_pos d, Bool.and_eq_true, bne_iff_ne] at h2
    obtain ⟨t1, t2⟩ := runN_take q
    have hrl := runN_le q
    have hf : figsL (q.take (runN q)) = true := by
     unfold figsL
     rw [t1]
     simp only [Bool.true_and, bne_iff_ne, ne_eq]
     intro hq
     have := congrArg List.length hq
     rw [List.length_take, List.length_nil] at this
     exact h2.1 (by omega)
    by_cases z : q.drop (runN q) = []
    ·refine ⟨w, hw, Or.inl ⟨q.take (runN q), hf, ?_⟩⟩
     have : q = q.take (runN q) := by conv => lhs; rw [← List.take_append_drop (runN q) q, z, List.append_nil]
     rw [hl, d, ← this]
    ·obtain ⟨y, p, hq, hy, hp⟩ := hexp _ z h2.2
     refine ⟨w, hw, Or.inr (Or.inl ⟨q.take (runN q), y, p, hf, hy, hp, ?_⟩)⟩
     rw [hl, d, ← hq, List.take_append_drop]
   ·rw [if_neg d] at h2
    obtain ⟨y, p, hq, hy, hp⟩ := hexp _ (by simp) h2
    exact ⟨w, hw, Or.inr (Or.inr ⟨y, p, hy, hp, by rw [hl, hq]⟩)⟩
 ·rintro ⟨h40, w, hw, h⟩
  have hwne := (intOk_parts hw).2.2.2.2
  have hwl := List.length_pos_iff.2 hwne
  have main : ∀ R, l = w ++ R → R ≠ [] → (∃ x q, R = x :: q ∧ figB x = false) → (match R with | [] => true | x :: q => if x = 46 then runN q != 0 && expB (q.drop (runN q)) else expB (x :: q)) = true → specL l = true := by
   intro R hl hR hx hm
   have hE : intEnd l = w.length := by rw [hl]; exact intEnd_app w R hw (Or.inr hx)
   have hRl := List.length_pos_iff.2 hR
   have hdrop : l.drop (intEnd l).toNat = R := by rw [hE, Int.toNat_natCast, hl, List.drop_left]
   unfold specL
   rw [hdrop, hm, decide_eq_true h40, hE, hl]
   simp only [Bool.true_and, Bool.and_true, Bool.and_eq_true, bne_iff_ne, ne_eq, List.length_append]
   constructor <;> omega
  rcases h with ⟨f, hf, hl⟩ | ⟨f, x, p, hf, hx, hp, hl⟩ | ⟨x, p, hx, hp, hl⟩
  ·obtain ⟨f1, f2⟩ := figs_parts hf
   refine main _ hl (by simp) ⟨46, f, rfl, by decide⟩ ?_
   have hr := (runN_all f).1 f1
   simp only [if_true]
   rw [hr, List.drop_length]
   have : f.length ≠ 0 := by have := List.length_pos_iff.2 f2; omega
   simp [expB, this, f2]
  ·obtain ⟨f1, f2⟩ := figs_parts hf
   refine main _ hl (by simp) ⟨46, _, rfl, by decide⟩ ?_
   have hr : runN (f ++ x :: p) = f.length := by rw [runN_append _ _ f1, runN_stop _ (Or.inr ⟨x, p, rfl, (isE_fig hx).1⟩)]; omega
   simp only [if_true]
   rw [hr, List.drop_left]
   have : f.length ≠ 0 := by have := List.length_pos_iff.2 f2; omega
   simp [expB, this, hx, endB_figs, hp, f2]
  ·refine main _ hl (by simp) ⟨x, p, rfl, (isE_fig hx).1⟩ ?_
   simp only
   rw [if_neg (isE_fig hx).2]
   simp [expB, hx, endB_figs, hp]

theorem spec_Word.eqB (s : ByteArray) : spec_Word.f s = some (wordB s) := by
 unfold spec_Word.f wordB
 split
 ·rfl
 ·split <;> rfl
/-- The text's own test: of lists and objects the text is empty. -/
def oneB (q : Int) (s : ByteArray) : Bool := if q = 7 ∨ q = 8 then decide (s.toList = []) else leafB q s
theorem spec_l07One.ev (q : Int) (s : ByteArray) (l : List S52) (m : List ByteArray) (hs : s.size ≤ 140737488351232) : Ev (fun k => spec_l07One.f k q s l m) (oneB q s) := by
 unfold spec_l07One.f oneB
 by_cases e7 : q = 7
 ·rw [if_pos (Or.inl e7)]
  refine Ev.ite_neg (by omega) (Ev.ite_neg (by omega) (Ev.ite_neg (by omega) (Ev.ite_neg (by omega) (Ev.ite_neg (by omega) (Ev.ite_neg (by omega) (Ev.ite_pos e7 (Ev.done ?_)))))))
  rw [Bool.eq_iff_iff, beq_iff_eq, decide_eq_true_eq]
 by_cases e8 : q = 8
 ·rw [if_pos (Or.inr e8)]
  refine Ev.ite_neg (by omega) (Ev.ite_neg (by omega) (Ev.ite_neg (by omega) (Ev.ite_neg (by omega) (Ev.ite_neg (by omega) (Ev.ite_neg (by omega) (Ev.ite_neg e7 (Ev.ite_pos e8 (Ev.done ?_))))))))
  rw [Bool.eq_iff_iff, beq_iff_eq, decide_eq_true_eq]
 rw [if_neg (show ¬ (q = 7 ∨ q = 8) by omega)]
 unfold leafB
 by_cases e1 : q = 1
 ·rw [if_pos e1]; exact Ev.ite_pos e1 (Ev.bind (spec_NameOk.ev s hs) (Ev.done rfl))
 rw [if_neg e1]; refine Ev.ite_neg e1 ?_
 by_cases e2 : q = 2
 ·rw [if_pos e2]; exact Ev.ite_pos e2 (Ev.bind (spec_IntOk.ev s hs) (Ev.done rfl))
 rw [if_neg e2]; refine Ev.ite_neg e2 ?_
 by_cases e3 : q = 3
 ·rw [if_pos e3, show floatL (bytesOf s) = specL (bytesOf s) from by rw [Bool.eq_iff_iff, float_iff, spec_iff]]; exact Ev.ite_pos e3 (Ev.bind (spec_FloatOk.ev s hs) (Ev.done rfl))
 rw [if_neg e3]; refine Ev.ite_neg e3 ?_
 by_cases e4 : q = 4
 ·rw [if_pos e4]; exact Ev.ite_pos e4 (Ev.bind (spec_Escaped.ev s hs) (Ev.done rfl))
 rw [if_neg e4]; refine Ev.ite_neg e4 ?_
 by_cases e5 : q = 5
 ·rw [if_pos e5]; exact Ev.ite_pos e5 (Ev.bindc (spec_Word.eqB s) (Ev.done rfl))
 rw [if_neg e5]; refine Ev.ite_neg e5 ?_
 by_cases e6 : q = 6
 ·rw [if_pos e6]
  refine Ev.ite_pos e6 ?_
  have hn := spec_NameOk.ev s hs
  cases hc : nameOkL (bytesOf s) with
  | true =>
   rw [hc] at hn
   exact Ev.bind hn (Ev.ite_pos rfl (Ev.bindc (spec_Word.eqB s) (Ev.done (by rw [Bool.true_and]))))
  | false =>
   rw [hc] at hn
   exact Ev.bind hn (Ev.ite_neg (by decide) (Ev.done rfl))
 rw [if_neg e6]; exact Ev.ite_neg e6 (Ev.ite_neg e7 (Ev.ite_neg e8 (Ev.done rfl)))
/-- Names and values in step. -/
def stepB (e : S52 → Bool) : List ByteArray → List S52 → Bool
 | s :: r, y :: t => nmB s && (e y && stepB e r t)
 | _, _ => true
theorem stepB_eq (e : S52 → Bool) : ∀ m l, m.length = l.length → stepB e m l = (m.all nmB && l.all e)
 | [], [], _ => rfl
 | [], _ :: _, h => by simp at h
 | _ :: _, [], h => by simp at h
 | s :: r, y :: t, h => by
  rw [stepB, stepB_eq e r t (by simpa using h), List.all_cons, List.all_cons]
  cases nmB s <;> cases e y <;> cases r.all nmB <;> rfl
theorem spec_l07Right.ev {x : S52} (hx : OkI x) : ∀ d : Nat, d ≤ 10 → Ev (fun k => spec_l07Right.f k x.f0 x.f1 x.f2 x.f3 (d : Int)) (okV x d) := by
 induction hx with
 | mk x h0 h1 h2 h2' h3 h3' ih =>
  intro d hd
  have hn2 : x.f2.length ≤ 140737488351232 := by omega
  have hn3 : x.f3.length ≤ 140737488351232 := by omega
  refine Ev.succ ?_
  simp only [spec_l07Right.f]
  rw [okV_eq]
  have bad : Ev (fun k => spec_l07Right.j1 k (d : Int) true x.f0 x.f1 x.f2 x.f3) false := Ev.succ (by simp only [spec_l07Right.j1]; exact Ev.ite_pos trivial (Ev.done rfl))
  have good : ∀ {r : Bool}, Ev (fun k => spec_l07Right.l0 k (d : Int) 0 x.f0 x.f1 x.f2 x.f3) r → ∀ b : Bool, Ev (fun k => spec_l07Right.j1 k (d : Int) b x.f0 x.f1 x.f2 x.f3) (!b && r) := by
   intro r hr b
   refine Ev.succ ?_
   simp only [spec_l07Right.j1]
   cases b with
   | true => exact Ev.ite_pos rfl (Ev.done rfl)
   | false => exact Ev.ite_neg (by decide) (hr.get (by rfl))
  have hone := spec_l07One.ev x.f0 x.f1 x.f2 x.f3 h1
  cases ho : oneB x.f0 x.f1 with
  | false =>
   rw [ho] at hone
   refine (Ev.bind hone (Ev.ite_neg (by decide) (Ev.done rfl))).get ?_
   unfold oneB at ho
   by_cases e7 : x.f0 = 7
   ·rw [if_pos (Or.inl e7)] at ho
    rw [if_pos e7, ho]; simp
   by_cases e8 : x.f0 = 8
   ·rw [if_pos (Or.inr e8)] at ho
    rw [if_neg e7, if_pos e8, ho]; simp
   rw [if_neg (show ¬ (x.f0 = 7 ∨ x.f0 = 8) by omega)] at ho
   rw [if_neg e7, if_neg e8, ho]; rfl
  | true =>
   rw [ho] at hone
   refine Ev.bind hone (Ev.ite_pos rfl ?_)
   unfold oneB at ho
   -- the loop over the items alone
   have items : x.f0 ≠ 8 → (x.f2 = [] ∨ 0 < d) → ∀ (m j : Nat), x.f2.length = j + m → Ev (fun k => spec_l07Right.l0 k (d : Int) j x.f0 x.f1 x.f2 x.f3) ((x.f2.drop j).all fun y => okV y (d - 1)) := by
    intro e8 hpos m
    induction m with
    | zero =>
     intro j hj
     refine Ev.succ ?_
     simp only [spec_l07Right.l0]
     refine Ev.ite_neg (by omega) (Ev.done ?_)
     rw [List.drop_eq_nil_of_le (by omega)]; rfl
    | succ m im =>
     intro j hj
     have hjl : j < x.f2.length := by omega
     have hd0 : 0 < d := hpos.resolve_left (fun h => by rw [h] at hjl; simp at hjl)
     refine Ev.succ ?_
     simp only [spec_l07Right.l0]
     refine Ev.ite_pos (by omega) (Ev.ite_neg e8 (Ev.ite_pos (by omega) ?_))
     rw [drop_getD z52 x.f2 j hjl, List.all_cons, wrap_less hd0 hd]
     have hy := ih _ (getD_mem z52 x.f2 j hjl) (d - 1) (by omega)
     cases hc : okV (x.f2.getD j z52) (d - 1) with
     | true =>
      rw [hc] at hy
      refine Ev.bind hy (Ev.ite_pos rfl ?_)
      rw [w64n hjl hn2, Bool.true_and]
      exact im (j + 1) (by omega)
     | false =>
      rw [hc] at hy
      exact Ev.bind hy (Ev.ite_neg (by decide) (Ev.done rfl))
   by_cases e7 : x.f0 = 7
   ·rw [if_pos (Or.inl e7), decide_eq_true_eq] at ho
    rw [if_pos e7, decide_eq_true ho, Bool.true_and]
    refine Ev.ite_pos e7 (Ev.succ ?_)
    simp only [spec_l07Right.j0]
    refine Ev.ite_pos trivial (Ev.ite_neg (by omega) ?_)
    by_cases hc : x.f3.length = 0
    ·rw [decide_eq_true hc, Bool.true_and]
     refine Ev.ite_neg (by omega) ?_
     by_cases h0' : 0 < d
     ·have hl := items (by omega) (Or.inr h0') x.f2.length 0 (by omega)
      rw [List.drop_zero] at hl
      refine (good hl ((d : Int) == 0)).get ?_
      rw [decide_eq_true h0', show ((d : Int) == 0) = false by rw [beq_eq_false_iff_ne]; omega]; rfl
     ·rw [decide_eq_false h0', Bool.false_and, show ((d : Int) == 0) = true by rw [beq_iff_eq]; omega]
      exact bad
    ·rw [decide_eq_false hc, Bool.false_and]
     exact Ev.ite_pos (by omega) bad
   by_cases e8 : x.f0 = 8
   ·rw [if_pos (Or.inr e8), decide_eq_true_eq] at ho
    rw [if_neg e7, if_pos e8, decide_eq_true ho, Bool.true_and]
    refine Ev.ite_neg e7 (Ev.succ ?_)
    simp only [spec_l07Right.j0]
    refine Ev.ite_pos (by rw [beq_iff_eq]; exact e8) (Ev.ite_pos e8 ?_)
    by_cases hc : x.f3.length = x.f2.length
    ·rw [decide_eq_true hc, Bool.true_and]
     refine Ev.ite_pos (by omega) ?_
     by_cases h0' : 0 < d
     ·have both : ∀ (m j : Nat), x.f2.length = j + m → Ev (fun k => spec_l07Right.l0 k (d : Int) j x.f0 x.f1 x.f2 x.f3) (stepB (fun y => okV y (d - 1)) (x.f3.drop j) (x.f2.drop j)) := by
       intro m
       induction m with
       | zero =>
        intro j hj
        refine Ev.succ ?_
        simp only [spec_l07Right.l0]
        refine Ev.ite_neg (by omega) (Ev.done ?_)
        rw [List.drop_eq_nil_of_le (show x.f3.length ≤ j by omega)]
        rfl
       | succ m im =>
        intro j hj
        have hjl : j < x.f2.length := by omega
        have hjm : j < x.f3.length := by omega
        refine Ev.succ ?_
        simp only [spec_l07Right.l0]
        refine Ev.ite_pos (by omega) (Ev.ite_pos e8 (Ev.ite_pos (by omega) (Ev.ite_pos (by omega) ?_)))
        rw [drop_getD z52 x.f2 j hjl, drop_getD ByteArray.empty x.f3 j hjm, stepB, wrap_less h0' hd]
        have hs := spec_NameOk.ev _ (h3' _ (getD_mem ByteArray.empty x.f3 j hjm))
        have hy := ih _ (getD_mem z52 x.f2 j hjl) (d - 1) (by omega)
        unfold nmB
        cases hq : nameOkL (bytesOf (x.f3.getD j ByteArray.empty)) with
        | false =>
         rw [hq] at hs
         exact Ev.bind hs (Ev.ite_neg (by decide) (Ev.done rfl))
        | true =>
         rw [hq] at hs
         refine Ev.bind hs (Ev.ite_pos rfl ?_)
         cases hc' : okV (x.f2.getD j z52) (d - 1) with
         | true =>
          rw [hc'] at hy
          refine Ev.bind hy (Ev.ite_pos rfl ?_)
          rw [w64n hjl hn2, Bool.true_and, Bool.true_and]
          exact im (j + 1) (by omega)
         | false =>
          rw [hc'] at hy
          exact Ev.bind hy (Ev.ite_neg (by decide) (Ev.done rfl))
      have hl := both x.f2.length 0 (by omega)
      rw [List.drop_zero, List.drop_zero, stepB_eq _ _ _ hc] at hl
      refine (good hl ((d : Int) == 0)).get ?_
      rw [decide_eq_true h0', show ((d : Int) == 0) = false by rw [beq_eq_false_iff_ne]; omega]; rfl
     ·rw [decide_eq_false h0', Bool.false_and, Bool.and_false, show ((d : Int) == 0) = true by rw [beq_iff_eq]; omega]
      exact bad
    ·rw [decide_eq_false hc, Bool.false_and]
     exact Ev.ite_neg (by omega) bad
   rw [if_neg (show ¬ (x.f0 = 7 ∨ x.f0 = 8) by omega)] at ho
   rw [if_neg e7, if_neg e8, ho, Bool.true_and]
   refine Ev.ite_neg e7 (Ev.succ ?_)
   simp only [spec_l07Right.j0]
   refine Ev.ite_neg (by rw [beq_iff_eq]; exact e8) ?_
   by_cases hl : x.f2.length = 0
   ·refine Ev.ite_neg (by omega) (Ev.ite_neg e8 ?_)
    by_cases hm : x.f3.length = 0
    ·rw [decide_eq_true (⟨hl, hm⟩ : x.f2.length = 0 ∧ x.f3.length = 0)]
     have hq := items e8 (Or.inl (List.length_eq_zero_iff.1 hl)) x.f2.length 0 (by omega)
     rw [List.drop_zero, List.length_eq_zero_iff.1 hl] at hq
     refine Ev.ite_neg (by omega) ((good (r := true) ?_ false).get rfl)
     rw [List.length_eq_zero_iff.1 hl]
     exact hq
    ·rw [decide_eq_false (fun h : x.f2.length = 0 ∧ x.f3.length = 0 => hm h.2)]
     exact Ev.ite_pos (by omega) bad
   ·rw [decide_eq_false (fun h : x.f2.length = 0 ∧ x.f3.length = 0 => hl h.1)]
    exact Ev.ite_pos (by omega) bad

theorem spec_ValueOk.ev {x : S52} (hx : OkI x) : Ev (fun k => spec_ValueOk.f k x.f0 x.f1 x.f2 x.f3) (okV x 10) := by
 unfold spec_ValueOk.f
 exact Ev.bind (spec_l07Right.ev hx 10 (by omega)) (Ev.done rfl)

theorem and_bind (a b c : Option Bool) : (a.bind fun t => if t = true then (b.bind fun u => if u = true then c else some false) else some false) = ((a.bind fun t => if t = true then b else some false).bind fun u => if u = true then c else some false) := by
 cases a with
 | none => rfl
 | some t => cases t <;> rfl
theorem Ev_and {a b : Nat → Option Bool} {x y : Bool} (ha : Ev a x) (hb : Ev b y) : Ev (fun k => (a k).bind fun t => if t = true then b k else some false) (x && y) := by
 cases x with
 | true => exact Ev.bind ha (Ev.ite_pos rfl (by rw [Bool.true_and]; exact hb))
 | false => exact Ev.bind ha (Ev.ite_neg (by decide) (Ev.done rfl))
theorem Ev_nand {a b : Nat → Option Bool} {x y : Bool} (ha : Ev a x) (hb : Ev b y) : Ev (fun k => (a k).bind fun t => if t = true then (b k).map (!·) else some true) (!(x && y)) := by
 cases x with
 | true => exact Ev.bind ha (Ev.ite_pos rfl (by rw [Bool.true_and]; exact Ev_map _ hb))
 | false => exact Ev.bind ha (Ev.ite_neg (by decide) (Ev.done rfl))
def okA (x : S54) : Bool := nmB x.f0 && okV x.f1 10

theorem spec_ArgsOk.ev {l : List S54} (hl : OkIAs l) : Ev (fun k => spec_ArgsOk.f k l) (l.all okA) := by
 have hn : l.length ≤ 140737488351232 := by have := hl.1; omega
 unfold spec_ArgsOk.f
 refine (loop_all z54 l hn (F := fun k i => spec_ArgsOk.l0 k l i) (g := fun k y => (spec_NameOk.f k y.f0).bind fun t => if t = true then spec_ValueOk.f k y.f1.f0 y.f1.f1 y.f1.f2 y.f1.f3 else some false) (e := okA) (R := true) (fun k i => by
  simp only [spec_ArgsOk.l0, and_bind]; rfl) (fun y hy => by
  obtain ⟨o0, o1⟩ := hl.2 y hy
  exact Ev_and (spec_NameOk.ev y.f0 o0) (spec_ValueOk.ev o1)) l.length 0 (by omega)).get ?_
 rw [List.drop_zero, Bool.and_true]

def okD (x : S38) : Bool := nmB x.f0 && x.f1.all okA

theorem spec_DirsOk.ev {l : List S38} (hl : OkIDs l) : Ev (fun k => spec_DirsOk.f k l) (l.all okD) := by
 have hn : l.length ≤ 140737488351232 := by have := hl.1; omega
 unfold spec_DirsOk.f
 refine (loop_all z38 l hn (F := fun k i => spec_DirsOk.l0 k l i) (g := fun k y => (spec_NameOk.f k y.f0).bind fun t => if t = true then spec_ArgsOk.f k y.f1 else some false) (e := okD) (R := true) (fun k i => by
  simp only [spec_DirsOk.l0, and_bind]; rfl) (fun y hy => by
  obtain ⟨o0, o1, o2⟩ := hl.2 y hy
  exact Ev_and (spec_NameOk.ev y.f0 o0) (spec_ArgsOk.ev ⟨o1, o2⟩)) l.length 0 (by omega)).get ?_
 rw [List.drop_zero, Bool.and_true]

/-- One behind the other, with ', ' between. -/
def segs : Bool → List (List Int) → List Int
 | _, [] => []
 | f, t :: r => (if f = true then [] else [44, 32]) ++ (t ++ segs false r)
mutual
/-- How a right value is written. -/
def say : S52 → List Int
 | ⟨a, b, c, d⟩ => if a = 1 then 36 :: bytesOf b else if a = 4 then bytesOf (escS b) else if a = 7 then 91 :: (segs true (sayItems false d c) ++ [93]) else if a = 8 then 123 :: (segs true (sayItems true d c) ++ [125]) else bytesOf b
def sayItems (q : Bool) : List ByteArray → List S52 → List (List Int)
 | _, [] => []
 | d, y :: r => ((if q = true then bytesOf (d.headD ByteArray.empty) ++ [58, 32] else []) ++ say y) :: sayItems q d.tail r
end
theorem say_eq (x : S52) : say x = (if x.f0 = 1 then 36 :: bytesOf x.f1 else if x.f0 = 4 then bytesOf (escS x.f1) else if x.f0 = 7 then 91 :: (segs true (sayItems false x.f3 x.f2) ++ [93]) else if x.f0 = 8 then 123 :: (segs true (sayItems true x.f3 x.f2) ++ [125]) else bytesOf x.f1) := by
 cases x
 rw [say]
def itemOf (q : Bool) (s : ByteArray) (y : S52) : List Int := (if q = true then bytesOf s ++ [58, 32] else []) ++ say y
theorem sayItems_nil (q : Bool) (d : List ByteArray) : sayItems q d [] = [] := by cases d <;> rw [sayItems]
theorem sayItems_cons (q : Bool) (d : List ByteArray) (y : S52) (r : List S52) : sayItems q d (y :: r) = itemOf q (d.headD ByteArray.empty) y :: sayItems q d.tail r := by
 rw [sayItems]
 rfl
theorem sayItems_drop (q : Bool) (d : List ByteArray) (c : List S52) (j : Nat) (h : j < c.length) : sayItems q (d.drop j) (c.drop j) = itemOf q (d.getD j ByteArray.empty) (c.getD j z52) :: sayItems q (d.drop (j + 1)) (c.drop (j + 1)) := by
 rw [drop_getD z52 c j h, sayItems_cons]
 have e1 : (d.drop j).headD ByteArray.empty = d.getD j ByteArray.empty := by
  rw [List.headD_eq_head?_getD, List.head?_drop, List.getD_eq_getElem?_getD]
 rw [e1, List.tail_drop]
theorem segs_len_mem : ∀ (f : Bool) (l : List (List Int)) (t : List Int), t ∈ l → t.length ≤ (segs f l).length
 | _, [], _, h => by cases h
 | f, u :: r, t, h => by
  rw [segs, List.length_append, List.length_append]
  rcases List.mem_cons.1 h with rfl | h
  ·omega
  ·have := segs_len_mem false r t h
   omega
theorem item_mem (q : Bool) : ∀ (c : List S52) (d : List ByteArray) (y : S52), y ∈ c → ∃ s, itemOf q s y ∈ sayItems q d c
 | [], _, _, h => by cases h
 | x :: r, d, y, h => by
  rw [sayItems_cons]
  rcases List.mem_cons.1 h with rfl | h
  ·exact ⟨_, List.mem_cons_self⟩
  ·obtain ⟨s, hs⟩ := item_mem q r d.tail y h
   exact ⟨s, List.mem_cons_of_mem _ hs⟩
theorem say_child {x y : S52} (hq : x.f0 = 7 ∨ x.f0 = 8) (hy : y ∈ x.f2) : (say y).length ≤ (say x).length := by
 have key : ∀ (q : Bool), (say y).length ≤ (segs true (sayItems q x.f3 x.f2)).length := by
  intro q
  obtain ⟨s, hs⟩ := item_mem q x.f2 x.f3 y hy
  have h1 := segs_len_mem true _ _ hs
  have h2 : (say y).length ≤ (itemOf q s y).length := by unfold itemOf; rw [List.length_append]; omega
  omega
 rw [say_eq x]
 rcases hq with h | h
 ·rw [if_neg (by omega), if_neg (by omega), if_pos h]
  have := key false
  simp only [List.length_cons, List.length_append, List.length_nil]
  omega
 ·rw [if_neg (by omega), if_neg (by omega), if_neg (by omega), if_pos h]
  have := key true
  simp only [List.length_cons, List.length_append, List.length_nil]
  omega
/-- A list of numbers that are bytes. -/
def ByteL (l : List Int) : Prop := ∀ v ∈ l, 0 ≤ v ∧ v ≤ 255
theorem ByteL.bytes (s : ByteArray) : ByteL (bytesOf s) := fun _ h => bytes_range h
theorem ByteL.app {a b : List Int} (ha : ByteL a) (hb : ByteL b) : ByteL (a ++ b) := fun v h => by
 rcases List.mem_append.1 h with h | h
 ·exact ha v h
 ·exact hb v h
theorem ByteL.segs : ∀ (f : Bool) (l : List (List Int)), (∀ t ∈ l, ByteL t) → ByteL (segs f l)
 | _, [], _ => fun v h => by cases h
 | f, t :: r, h => by
  rw [Pure.segs]
  refine ByteL.app ?_ (ByteL.app (h t List.mem_cons_self) (ByteL.segs false r (fun u hu => h u (List.mem_cons_of_mem _ hu))))
  cases f
  ·intro v hv
   simp at hv
   omega
  ·intro v hv
   simp at hv
theorem sayItems_bytes (q : Bool) : ∀ (c : List S52) (d : List ByteArray), (∀ y ∈ c, ByteL (say y)) → ∀ t ∈ sayItems q d c, ByteL t
 | [], d, _, t, h => by rw [sayItems_nil] at h; cases h
 | x :: r, d, hc, t, h => by
  rw [sayItems_cons] at h
  rcases List.mem_cons.1 h with rfl | h
  ·unfold itemOf
   refine ByteL.app ?_ (hc x List.mem_cons_self)
   cases q
   ·intro v hv; cases hv
   ·exact ByteL.app (ByteL.bytes _) (fun v hv => by simp at hv; omega)
  ·exact sayItems_bytes q r d.tail (fun y hy => hc y (List.mem_cons_of_mem _ hy)) t h
theorem say_bytes {x : S52} (hx : OkI x) : ByteL (say x) := by
 induction hx with
 | mk x h0 h1 h2 h2' h3 h3' ih =>
  rw [say_eq]
  have b1 : ∀ c : Int, 0 ≤ c → c ≤ 255 → ByteL [c] := fun c a b v hv => by
   rw [List.mem_singleton.1 hv]
   exact ⟨a, b⟩
  split
  ·exact ByteL.app (a := [36]) (b1 36 (by omega) (by omega)) (ByteL.bytes _)
  ·split
   ·exact ByteL.bytes _
   ·split
    ·exact ByteL.app (a := [91]) (b1 91 (by omega) (by omega)) (ByteL.app (ByteL.segs _ _ (sayItems_bytes _ _ _ ih)) (b1 93 (by omega) (by omega)))
    ·split
     ·exact ByteL.app (a := [123]) (b1 123 (by omega) (by omega)) (ByteL.app (ByteL.segs _ _ (sayItems_bytes _ _ _ ih)) (b1 125 (by omega) (by omega)))
     ·exact ByteL.bytes _
mutual
/-- How many signs and places a value of the program holds. -/
def totI : S52 → Nat
 | ⟨_, b, c, d⟩ => b.size + (c.length + totIs c) + totStrs d
def totIs : List S52 → Nat
 | [] => 0
 | x :: r => totI x + totIs r
end
theorem totI_eq (x : S52) : totI x = x.f1.size + (x.f2.length + totIs x.f2) + totStrs x.f3 := by
 cases x
 rw [totI]
theorem totIs_map : ∀ l : List S61, (∀ y ∈ l, totI (cv y) = totV y) → totIs (l.map cv) = (l.map totV).sum
 | [], _ => by rw [List.map_nil, totIs]; rfl
 | x :: r, h => by rw [List.map_cons, totIs, h x List.mem_cons_self, totIs_map r (fun y hy => h y (List.mem_cons_of_mem _ hy))]; rfl
theorem totI_cv {x : S61} (hx : OkV x) : totI (cv x) = totV x := by
 induction hx with
 | mk x h0 h1 h2 h2' h3 h3' ih =>
  rw [totI_eq, totV_eq, cv_eq]
  show x.f1.size + ((x.f2.map cv).length + totIs (x.f2.map cv)) + totStrs x.f3 = _
  rw [totIs_map x.f2 ih, List.length_map]
theorem escL_len : ∀ l : List Int, (escL l).length ≤ 6 * l.length
 | [] => by rw [escL]; simp
 | x :: r => by
  rw [escL, List.length_append, List.length_cons]
  have := (escB_len x).2
  have := escL_len r
  omega
theorem escS_size (s : ByteArray) : (escS s).size ≤ 1204 := by
 unfold escS
 split
 ·rename_i h
  rw [str_size]
  have := escL_len (bytesOf s)
  rw [size_bytes] at this
  simp only [List.length_append, List.length_cons, List.length_nil]
  have := h.2
  omega
 ·show 0 ≤ 1204
  omega
theorem escS_len (s : ByteArray) : (bytesOf (escS s)).length ≤ 1204 := by
 rw [size_bytes]
 exact escS_size s
theorem items_len (q : Bool) : ∀ (c : List S52) (d : List ByteArray) (f : Bool), (∀ y ∈ c, (say y).length ≤ 1204 + 1210 * totI y) → (segs f (sayItems q d c)).length ≤ 1208 * c.length + 1210 * totIs c + (d.map (·.size)).sum
 | [], d, f, _ => by rw [sayItems_nil, segs]; simp
 | x :: r, d, f, h => by
  rw [sayItems_cons, segs, List.length_append, List.length_append, totIs, List.length_cons]
  have h1 := h x List.mem_cons_self
  have h2 := items_len q r d.tail false (fun y hy => h y (List.mem_cons_of_mem _ hy))
  have h3 : (if f = true then ([] : List Int) else [44, 32]).length ≤ 2 := by cases f <;> simp
  have h4 : (itemOf q (d.headD ByteArray.empty) x).length ≤ (d.headD ByteArray.empty).size + 2 + (say x).length := by
   unfold itemOf
   cases q
   ·simp
   ·simp only [if_true, List.length_append, List.length_cons, List.length_nil, size_bytes]; omega
  have h5 : (d.headD ByteArray.empty).size + (d.tail.map (·.size)).sum ≤ (d.map (·.size)).sum := by
   cases d with
   | nil => simp
   | cons a d => simp
  omega
theorem say_len {x : S52} (hx : OkI x) : (say x).length ≤ 1204 + 1210 * totI x := by
 induction hx with
 | mk x h0 h1 h2 h2' h3 h3' ih =>
  have i1 := items_len false x.f2 x.f3 true ih
  have i2 := items_len true x.f2 x.f3 true ih
  have e0 := escS_len x.f1
  have e1 := size_bytes x.f1
  rw [say_eq, totI_eq]
  unfold totStrs
  split
  ·rw [List.length_cons]; omega
  ·split
   ·omega
   ·split
    ·simp only [List.length_cons, List.length_append, List.length_nil]; omega
    ·split
     ·simp only [List.length_cons, List.length_append, List.length_nil]; omega
     ·omega
/-- What a right value's own test gives of its parts. -/
theorem okV_parts {x : S52} {n : Nat} (h : okV x n = true) : (x.f0 = 7 ∧ x.f3.length = 0 ∧ 0 < n ∧ ∀ y ∈ x.f2, okV y (n - 1) = true) ∨ (x.f0 = 8 ∧ x.f3.length = x.f2.length ∧ 0 < n ∧ ∀ y ∈ x.f2, okV y (n - 1) = true) ∨ (x.f0 ≠ 7 ∧ x.f0 ≠ 8 ∧ x.f2 = []) := by
 rw [okV_eq] at h
 by_cases e7 : x.f0 = 7
 ·rw [if_pos e7] at h
  simp only [Bool.and_eq_true, decide_eq_true_eq, List.all_eq_true] at h
  exact Or.inl ⟨e7, h.1, h.2.1, h.2.2.2⟩
 rw [if_neg e7] at h
 by_cases e8 : x.f0 = 8
 ·rw [if_pos e8] at h
  simp only [Bool.and_eq_true, decide_eq_true_eq, List.all_eq_true] at h
  exact Or.inr (Or.inl ⟨e8, h.1, h.2.2.1, h.2.2.2.2⟩)
 rw [if_neg e8] at h
 simp only [Bool.and_eq_true, decide_eq_true_eq] at h
 exact Or.inr (Or.inr ⟨e7, e8, List.length_eq_zero_iff.1 h.2.1⟩)

theorem spec_l07Say.ev {x : S52} (hx : OkI x) : ∀ (n : Nat), okV x n = true → ∀ out : List Int, out.length + (say x).length < 140737488355000 → Ev (fun k => spec_l07Say.f k out x.f0 x.f1 x.f2 x.f3) (out ++ say x) := by
 induction hx with
 | mk x h0 h1 h2 h2' h3 h3' ih =>
  intro n hn out hb
  have hn2 : x.f2.length ≤ 140737488351232 := by omega
  refine Ev.succ ?_
  simp only [spec_l07Say.f]
  have hsay := say_eq x
  by_cases e1 : x.f0 = 1
  ·rw [if_pos e1] at hsay
   rw [hsay] at hb ⊢
   simp only [List.length_cons, size_bytes] at hb
   refine Ev.ite_pos e1 (Ev.ite_pos (by omega) (Ev.bindc rfl (Ev.ite_pos ?_ (Ev.done ?_))))
   ·simp only [List.length_append, List.length_cons, List.length_nil]; omega
   ·simp
  rw [if_neg e1] at hsay
  refine Ev.ite_neg e1 ?_
  by_cases e4 : x.f0 = 4
  ·rw [if_pos e4] at hsay
   rw [hsay] at hb ⊢
   rw [size_bytes] at hb
   exact Ev.ite_pos e4 (Ev.bind (spec_Escaped.ev x.f1 h1) (Ev.ite_pos (by omega) (Ev.done rfl)))
  rw [if_neg e4] at hsay
  refine Ev.ite_neg e4 ?_
  -- the loop
  have loop : ∀ (q : Bool) (shut : Int), (q = true ↔ x.f0 = 8) → (x.f0 = 7 ∨ x.f0 = 8) → (q = true → x.f3.length = x.f2.length) → (∀ y ∈ x.f2, okV y (n - 1) = true) → ∀ (m j : Nat) (o : List Int), x.f2.length = j + m → o.length + (segs (decide (j = 0)) (sayItems q (x.f3.drop j) (x.f2.drop j))).length + 1 < 140737488355000 →
    Ev (fun k => spec_l07Say.l0 k o shut j x.f0 x.f1 x.f2 x.f3) (o ++ (segs (decide (j = 0)) (sayItems q (x.f3.drop j) (x.f2.drop j)) ++ [shut])) := by
   intro q shut hq8 hq78 hlen hok m
   induction m with
   | zero =>
    intro j o hj hb'
    refine Ev.succ ?_
    simp only [spec_l07Say.l0]
    refine Ev.ite_neg (by omega) (Ev.ite_pos (by omega) (Ev.done ?_))
    rw [List.drop_eq_nil_of_le (show x.f2.length ≤ j by omega), sayItems_nil, segs]
    simp
   | succ m im =>
    intro j o hj hb'
    have hjl : j < x.f2.length := by omega
    rw [sayItems_drop q x.f3 x.f2 j hjl, segs] at hb' ⊢
    have hy := getD_mem z52 x.f2 j hjl
    have oky := hok _ hy
    have iy := ih _ hy (n - 1) oky
    have e1' : rd_T52 x.f2 (j : Int) = x.f2.getD j z52 := rfl
    have e2' : rdOf ByteArray.empty x.f3 (j : Int) = x.f3.getD j ByteArray.empty := rfl
    have im' := fun o => im (j + 1) o (by omega)
    rw [show decide (j + 1 = 0) = false by simp] at im'
    generalize hrest : segs false (sayItems q (x.f3.drop (j + 1)) (x.f2.drop (j + 1))) = rest at hb' im' ⊢
    generalize hyv : x.f2.getD j z52 = y at iy e1' hb' ⊢
    generalize hsv : x.f3.getD j ByteArray.empty = s at e2' hb' ⊢
    simp only [List.length_append] at hb'
    have item : ∀ o' : List Int, o'.length + (itemOf q s y).length + rest.length + 1 < 140737488355000 → Ev (fun k => if x.f0 = 8 then (if 0 ≤ (j : Int) then (if (j : Int) < (x.f3.length : Int) then (if o'.length + (rdOf ByteArray.empty x.f3 (j : Int)).size < 140737488355328 then ((some (o' ++ bytesOf (rdOf ByteArray.empty x.f3 (j : Int)) : List Int)).bind fun y220 => ((some (([58, 32] : List Int) : List Int)).bind fun y223 => (if y220.length + y223.length < 140737488355328 then ((spec_l07Say.f k (y220 ++ y223) ((rd_T52 x.f2 (j : Int)).f0) ((rd_T52 x.f2 (j : Int)).f1) ((rd_T52 x.f2 (j : Int)).f2) ((rd_T52 x.f2 (j : Int)).f3)).bind fun t230 => (spec_l07Say.l0 k t230 shut (wrap64 ((j : Int) + 1)) x.f0 x.f1 x.f2 x.f3)) else (none)))) else (none)) else (none)) else (none)) else (if 0 ≤ (j : Int) then ((spec_l07Say.f k o' ((rd_T52 x.f2 (j : Int)).f0) ((rd_T52 x.f2 (j : Int)).f1) ((rd_T52 x.f2 (j : Int)).f2) ((rd_T52 x.f2 (j : Int)).f3)).bind fun t234 => (spec_l07Say.l0 k t234 shut (wrap64 ((j : Int) + 1)) x.f0 x.f1 x.f2 x.f3)) else (none)))
      (o' ++ (itemOf q s y ++ (rest ++ [shut]))) := by
     intro o' ho'
     rw [e1', e2', w64n hjl hn2]
     by_cases e8 : x.f0 = 8
     ·have hq : q = true := hq8.2 e8
      subst hq
      have hl := hlen rfl
      unfold itemOf at ho' ⊢
      simp only [if_true, List.length_append, List.length_cons, List.length_nil, size_bytes] at ho'
      refine Ev.ite_pos e8 (Ev.ite_pos (by omega) (Ev.ite_pos (by omega) (Ev.ite_pos (by omega) (Ev.bindc rfl (Ev.bindc rfl (Ev.ite_pos ?_ ?_))))))
      ·simp only [List.length_append, List.length_cons, List.length_nil, size_bytes]; omega
      ·refine Ev.bind (iy _ (by simp only [List.length_append, List.length_cons, List.length_nil, size_bytes]; omega)) ?_
       refine (im' _ ?_).get ?_
       ·simp only [List.length_append, List.length_cons, List.length_nil, size_bytes]; omega
       ·simp
     ·have hq : q = false := by cases q with | false => rfl | true => exact absurd (hq8.1 rfl) e8
      subst hq
      unfold itemOf at ho' ⊢
      simp only [Bool.false_eq_true, if_false, List.nil_append] at ho' ⊢
      refine Ev.ite_neg e8 (Ev.ite_pos (by omega) ?_)
      refine Ev.bind (iy _ (by omega)) ?_
      refine (im' _ ?_).get ?_
      ·simp only [List.length_append]; omega
      ·simp
    refine Ev.succ ?_
    simp only [spec_l07Say.l0]
    refine Ev.ite_pos (by omega) ?_
    by_cases hj0 : j = 0
    ·subst hj0
     refine Ev.ite_neg (by omega) ?_
     simp only [decide_true, if_true, List.length_nil, List.nil_append] at hb' ⊢
     refine (item o (by omega)).get ?_
     simp
    ·rw [decide_eq_false hj0] at hb' ⊢
     simp only [Bool.false_eq_true, if_false, List.length_cons, List.length_nil] at hb' ⊢
     refine Ev.ite_pos (by omega) (Ev.bindc rfl (Ev.ite_pos (by simp only [List.length_cons, List.length_nil]; omega) (Ev.bindc rfl ?_)))
     refine (item _ (by simp only [List.length_append, List.length_cons, List.length_nil]; omega)).get ?_
     simp
  rcases okV_parts hn with ⟨e7, hl3, _, hok⟩ | ⟨e8, hl3, _, hok⟩ | ⟨e7, e8, hl2⟩
  ·rw [if_pos e7] at hsay
   rw [hsay] at hb ⊢
   refine Ev.ite_pos e7 (Ev.succ ?_)
   simp only [spec_l07Say.j0]
   refine Ev.ite_pos (by rw [beq_iff_eq]; exact e7) (Ev.ite_neg (by omega) (Ev.succ ?_))
   simp only [spec_l07Say.j1]
   simp only [List.length_cons, List.length_append, List.length_nil] at hb
   refine Ev.ite_pos (by omega) ?_
   refine (loop false 93 (by simp; omega) (Or.inl e7) (by simp) hok x.f2.length 0 _ (by omega) ?_).get ?_
   ·simp only [decide_true, List.drop_zero, List.length_append, List.length_cons, List.length_nil]; omega
   ·simp
  ·rw [if_neg (by omega), if_pos e8] at hsay
   rw [hsay] at hb ⊢
   refine Ev.ite_neg (by omega) (Ev.succ ?_)
   simp only [spec_l07Say.j0]
   refine Ev.ite_pos (by rw [beq_iff_eq]; exact e8) (Ev.ite_pos e8 (Ev.succ ?_))
   simp only [spec_l07Say.j1]
   simp only [List.length_cons, List.length_append, List.length_nil] at hb
   refine Ev.ite_pos (by omega) ?_
   refine (loop true 125 (by simp; omega) (Or.inr e8) (fun _ => hl3) hok x.f2.length 0 _ (by omega) ?_).get ?_
   ·simp only [decide_true, List.drop_zero, List.length_append, List.length_cons, List.length_nil]; omega
   ·simp
  ·rw [if_neg e7, if_neg e8] at hsay
   rw [hsay] at hb ⊢
   rw [size_bytes] at hb
   refine Ev.ite_neg e7 (Ev.succ ?_)
   simp only [spec_l07Say.j0]
   exact Ev.ite_neg (by rw [beq_iff_eq]; exact e8) (Ev.ite_pos (by omega) (Ev.done rfl))

def sayA (x : S54) : List Int := bytesOf x.f0 ++ ([58, 32] ++ say x.f1)
/-- How a list of arguments is written. -/
def sayAs (l : List S54) : List Int := if l = [] then [] else 40 :: (segs true (l.map sayA) ++ [41])
theorem sayA_bytes {x : S54} (hx : OkIA x) : ByteL (sayA x) := by
 obtain ⟨h0, h1⟩ := hx
 refine ByteL.app (ByteL.bytes _) (ByteL.app ?_ (say_bytes h1))
 intro v hv
 simp at hv
 omega
theorem sayAs_bytes {l : List S54} (hl : ∀ y ∈ l, OkIA y) : ByteL (sayAs l) := by
 unfold sayAs
 split
 ·intro v hv; cases hv
 ·refine ByteL.app (a := [40]) (fun v hv => by simp at hv; omega) (ByteL.app (ByteL.segs _ _ (fun t ht => ?_)) (fun v hv => by simp at hv; omega))
  obtain ⟨y, hy, rfl⟩ := List.mem_map.1 ht
  exact sayA_bytes (hl y hy)
theorem sayA_len {x : S63} (hx : OkA x) : (sayA (ca x)).length ≤ 1206 + 1210 * totA x := by
 obtain ⟨h0, h1⟩ := hx
 have h := say_len h1.cv
 rw [totI_cv h1] at h
 unfold sayA totA ca
 simp only [List.length_append, List.length_cons, List.length_nil, size_bytes]
 omega
theorem segsA_len : ∀ (l : List S63) (f : Bool), (∀ y ∈ l, OkA y) → (segs f ((l.map ca).map sayA)).length ≤ 1208 * l.length + 1210 * (l.map totA).sum
 | [], f, _ => by simp [segs]
 | x :: r, f, h => by
  have h1 := sayA_len (h x List.mem_cons_self)
  have h2 := segsA_len r false (fun y hy => h y (List.mem_cons_of_mem _ hy))
  have h3 : (if f = true then ([] : List Int) else [44, 32]).length ≤ 2 := by cases f <;> simp
  rw [List.map_cons, List.map_cons, segs, List.length_append, List.length_append, List.length_cons, List.map_cons, List.sum_cons]
  omega
theorem sayAs_len {l : List S63} (hl : ∀ y ∈ l, OkA y) : (sayAs (l.map ca)).length ≤ 2 + 1208 * l.length + 1210 * (l.map totA).sum := by
 have := segsA_len l true hl
 unfold sayAs
 split
 ·simp
 ·simp only [List.length_cons, List.length_append, List.length_nil]
  omega

theorem spec_l10Say.ev {l : List S54} (hl : OkIAs l) (hok : ∀ y ∈ l, okA y = true) (out : List Int) (hb : out.length + (sayAs l).length < 140737488354000) : Ev (fun k => spec_l10Say.f k out l) (out ++ sayAs l) := by
 unfold spec_l10Say.f
 have hn2 : l.length ≤ 140737488351232 := by have := hl.1; omega
 by_cases hnil : l = []
 ·subst hnil
  refine Ev.succ ?_
  simp only [spec_l10Say.l0]
  refine Ev.ite_neg (by simp) (Ev.ite_neg (by simp) (Ev.done ?_))
  simp [sayAs]
 have hpos : 0 < l.length := List.length_pos_iff.2 hnil
 have loop : ∀ (m j : Nat) (o : List Int), l.length = j + m → o.length + (segs (decide (j = 0)) ((l.drop j).map sayA)).length + (if j = 0 then 2 else 1) < 140737488355000 →
   Ev (fun k => spec_l10Say.l0 k o l j) (o ++ ((if j = 0 then [40] else []) ++ (segs (decide (j = 0)) ((l.drop j).map sayA) ++ [41]))) := by
  intro m
  induction m with
  | zero =>
   intro j o hj hb'
   refine Ev.succ ?_
   simp only [spec_l10Say.l0]
   refine Ev.ite_neg (by omega) (Ev.ite_pos (by omega) (Ev.ite_pos (by omega) (Ev.done ?_)))
   rw [List.drop_eq_nil_of_le (show l.length ≤ j by omega), if_neg (show ¬ j = 0 by omega)]
   simp [segs]
  | succ m im =>
   intro j o hj hb'
   have hjl : j < l.length := by omega
   rw [drop_getD z54 l j hjl, List.map_cons, segs] at hb' ⊢
   have hy := getD_mem z54 l j hjl
   have oky := hok _ hy
   obtain ⟨o0, o1⟩ := hl.2 _ hy
   have iy := spec_l07Say.ev o1 10 (by unfold okA at oky; simp only [Bool.and_eq_true] at oky; exact oky.2)
   have e1' : rd_T54 l (j : Int) = l.getD j z54 := rfl
   have im' := fun o => im (j + 1) o (by omega)
   rw [show decide (j + 1 = 0) = false by simp, if_neg (show ¬ (j + 1 = 0) by omega), if_neg (show ¬ (j + 1 = 0) by omega)] at im'
   generalize hrest : segs false ((l.drop (j + 1)).map sayA) = rest at hb' im' ⊢
   generalize hyv : l.getD j z54 = y at iy e1' hb' o0 ⊢
   simp only [List.length_append] at hb'
   have item : ∀ o' : List Int, o'.length + (sayA y).length + rest.length + 1 < 140737488355000 → Ev (fun k => if 0 ≤ (j : Int) then (if o'.length + ((rd_T54 l (j : Int)).f0).size < 140737488355328 then ((some (o' ++ bytesOf ((rd_T54 l (j : Int)).f0) : List Int)).bind fun y321 => ((some (([58, 32] : List Int) : List Int)).bind fun y324 => (if y321.length + y324.length < 140737488355328 then ((spec_l07Say.f k (y321 ++ y324) ((rd_T54 l (j : Int)).f1.f0) ((rd_T54 l (j : Int)).f1.f1) ((rd_T54 l (j : Int)).f1.f2) ((rd_T54 l (j : Int)).f1.f3)).bind fun t331 => (spec_l10Say.l0 k t331 l (wrap64 ((j : Int) + 1)))) else (none)))) else (none)) else (none))
     (o' ++ (sayA y ++ (rest ++ [41]))) := by
    intro o' ho'
    rw [e1', w64n hjl hn2]
    unfold sayA at ho' ⊢
    simp only [List.length_append, List.length_cons, List.length_nil, size_bytes] at ho'
    refine Ev.ite_pos (by omega) (Ev.ite_pos (by omega) (Ev.bindc rfl (Ev.bindc rfl (Ev.ite_pos ?_ ?_))))
    ·simp only [List.length_append, List.length_cons, List.length_nil, size_bytes]; omega
    ·refine Ev.bind (iy _ (by simp only [List.length_append, List.length_cons, List.length_nil, size_bytes]; omega)) ?_
     refine (im' _ ?_).get ?_
     ·simp only [List.length_append, List.length_cons, List.length_nil, size_bytes]; omega
     ·simp
   refine Ev.succ ?_
   simp only [spec_l10Say.l0]
   refine Ev.ite_pos (by omega) ?_
   by_cases hj0 : j = 0
   ·subst hj0
    refine Ev.ite_pos (by omega) (Ev.ite_pos (by omega) (Ev.bindc rfl ?_))
    simp only [decide_true, if_true, List.length_nil, List.nil_append] at hb' ⊢
    refine (item (o ++ [40]) (by simp only [List.length_append, List.length_cons, List.length_nil]; omega)).get ?_
    simp
   ·rw [decide_eq_false hj0] at hb' ⊢
    rw [if_neg hj0] at hb'
    simp only [Bool.false_eq_true, if_false, List.length_cons, List.length_nil] at hb' ⊢
    refine Ev.ite_neg (by omega) (Ev.bindc rfl (Ev.ite_pos (by simp only [List.length_cons, List.length_nil]; omega) (Ev.bindc rfl ?_)))
    refine (item _ (by simp only [List.length_append, List.length_cons, List.length_nil]; omega)).get ?_
    rw [if_neg hj0]
    simp
 have hs : sayAs l = 40 :: (segs true (l.map sayA) ++ [41]) := if_neg hnil
 rw [hs] at hb ⊢
 simp only [List.length_cons, List.length_append, List.length_nil] at hb
 refine (loop l.length 0 out (by omega) (by simp only [decide_true, if_true, List.drop_zero]; omega)).get ?_
 simp

/-- How directives are written. -/
def sayD (x : S38) : List Int := [32, 64] ++ (bytesOf x.f0 ++ sayAs x.f1)
def sayDs : List S38 → List Int
 | [] => []
 | x :: r => sayD x ++ sayDs r
theorem sayD_len {x : S32} (hx : OkD x) : (sayD (cd x)).length ≤ 4 + 1210 * totD x := by
 obtain ⟨h0, h1, h1'⟩ := hx
 have h := sayAs_len h1'
 unfold sayD totD totAs cd
 simp only [List.length_append, List.length_cons, List.length_nil, size_bytes]
 omega
theorem sayDs_len : ∀ (l : List S32), (∀ y ∈ l, OkD y) → (sayDs (l.map cd)).length ≤ 1210 * totDs l
 | [], _ => by simp [sayDs]
 | x :: r, h => by
  have h1 := sayD_len (h x List.mem_cons_self)
  have h2 := sayDs_len r (fun y hy => h y (List.mem_cons_of_mem _ hy))
  unfold totDs at h2 ⊢
  rw [List.map_cons, sayDs, List.length_append, List.length_cons, List.map_cons, List.sum_cons]
  omega
theorem sayDs_mem : ∀ (l : List S38) (y : S38), y ∈ l → (sayD y).length ≤ (sayDs l).length
 | [], _, h => by cases h
 | x :: r, y, h => by
  rw [sayDs, List.length_append]
  rcases List.mem_cons.1 h with rfl | h
  ·omega
  ·have := sayDs_mem r y h
   omega

theorem spec_l10SayDirs.ev {l : List S38} (hl : OkIDs l) (hok : ∀ y ∈ l, okD y = true) (out : List Int) (hb : out.length + (sayDs l).length < 140737488353000) : Ev (fun k => spec_l10SayDirs.f k out l) (out ++ sayDs l) := by
 unfold spec_l10SayDirs.f
 have hn2 : l.length ≤ 140737488351232 := by have := hl.1; omega
 have loop : ∀ (m j : Nat) (o : List Int), l.length = j + m → o.length + (sayDs (l.drop j)).length < 140737488353000 → Ev (fun k => spec_l10SayDirs.l0 k o l j) (o ++ sayDs (l.drop j)) := by
  intro m
  induction m with
  | zero =>
   intro j o hj hb'
   refine Ev.succ ?_
   simp only [spec_l10SayDirs.l0]
   refine Ev.ite_neg (by omega) (Ev.done ?_)
   rw [List.drop_eq_nil_of_le (show l.length ≤ j by omega), sayDs, List.append_nil]
  | succ m im =>
   intro j o hj hb'
   have hjl : j < l.length := by omega
   rw [drop_getD z38 l j hjl, sayDs] at hb' ⊢
   have hy := getD_mem z38 l j hjl
   have oky := hok _ hy
   obtain ⟨o0, o1, o2⟩ := hl.2 _ hy
   have iy := fun o => spec_l10Say.ev (l := (l.getD j z38).f1) ⟨o1, o2⟩ (by unfold okD at oky; simp only [Bool.and_eq_true, List.all_eq_true] at oky; exact oky.2) o
   have e1' : rd_T38 l (j : Int) = l.getD j z38 := rfl
   have im' := fun o => im (j + 1) o (by omega)
   generalize hrest : sayDs (l.drop (j + 1)) = rest at hb' im' ⊢
   generalize hyv : l.getD j z38 = y at iy e1' hb' o0 ⊢
   unfold sayD at hb' ⊢
   simp only [List.length_append, List.length_cons, List.length_nil, size_bytes] at hb'
   refine Ev.succ ?_
   simp only [spec_l10SayDirs.l0]
   rw [e1', w64n hjl hn2]
   refine Ev.ite_pos (by omega) (Ev.bindc rfl (Ev.ite_pos (by simp only [List.length_cons, List.length_nil]; omega) (Ev.bindc rfl (Ev.ite_pos (by omega) (Ev.ite_pos (by simp only [List.length_append, List.length_cons, List.length_nil]; omega) ?_)))))
   refine Ev.bind (iy _ (by simp only [List.length_append, List.length_cons, List.length_nil, size_bytes]; omega)) ?_
   refine (im' _ ?_).get ?_
   ·simp only [List.length_append, List.length_cons, List.length_nil, size_bytes]; omega
   ·simp
 exact (loop l.length 0 out (by omega) (by rw [List.drop_zero]; omega)).get (by rw [List.drop_zero])

theorem spec_DirsText.ev {l : List S38} (hl : OkIDs l) (hb : (sayDs l).length < 10000000000) : Ev (fun k => spec_DirsText.f k l) (if l.all okD = true then strOfNums (sayDs l) else (⟨#[]⟩ : ByteArray)) := by
 unfold spec_DirsText.f
 have ho := spec_DirsOk.ev hl
 cases hc : l.all okD with
 | true =>
  rw [hc] at ho
  refine Ev.bind ho (Ev.ite_pos rfl (Ev.bind (spec_l10SayDirs.ev hl (List.all_eq_true.1 hc) [] (by simp only [List.length_nil]; omega)) (Ev.done ?_)))
  rw [List.nil_append]
  rfl
 | false =>
  rw [hc] at ho
  exact Ev.bind ho (Ev.ite_neg (by decide) (Ev.done rfl))

theorem laws_toStringS.ev (l : List ByteArray) (h : l.length * 16 ≤ 140737488351232) : Ev (fun k => laws_toStringS.f k l) l := by
 have hn : l.length ≤ 140737488351232 := by omega
 unfold laws_toStringS.f
 refine Ev.ite_pos (by omega) (Ev.ite_pos (by omega) ?_)
 refine (loop_to ByteArray.empty l hn (F := fun k acc i => laws_toStringS.l0 k l acc i) (g := fun _ y => some y) (mk := id) (v := id) (fun k acc i => by simp only [laws_toStringS.l0]; rfl) (fun y _ => Ev.done rfl) l.length 0 _ (by omega) (by simp)).get ?_
 simp

def tup52 (x : S52) : Int × ByteArray × List S52 × List ByteArray := (x.f0, x.f1, x.f2, x.f3)
theorem laws_toValueS.evl (l : List S61) (h : l.length * 72 ≤ 140737488351232) (hs : ∀ y ∈ l, Ev (fun k => laws_toValueS.p.f k y.f0 y.f1 y.f2 y.f3) (tup52 (cv y))) : Ev (fun k => laws_toValueS.f k l) (l.map cv) := by
 have hn : l.length ≤ 140737488351232 := by omega
 refine Ev.succ ?_
 simp only [laws_toValueS.f]
 refine Ev.ite_pos (by omega) (Ev.ite_pos (by omega) ?_)
 refine (loop_to z61 l hn (F := fun k acc i => laws_toValueS.l0 k l acc i) (g := fun k y => laws_toValueS.p.f k y.f0 y.f1 y.f2 y.f3) (mk := fun t => (⟨t.1, t.2.1, t.2.2.1, t.2.2.2⟩ : S52)) (v := fun y => tup52 (cv y)) (fun k acc i => by simp only [laws_toValueS.l0]; rfl) hs l.length 0 _ (by omega) (by simp)).get ?_
 rw [List.take_zero, List.drop_zero, List.nil_append]
 exact List.map_congr_left (fun y _ => eta52 (cv y))
theorem laws_toValue.ev {x : S61} (hx : OkV x) : Ev (fun k => laws_toValue.f k x.f0 x.f1 x.f2 x.f3) (tup52 (cv x)) := by
 unfold laws_toValue.f
 induction hx with
 | mk x h0 h1 h2 h2' h3 h3' ih =>
  refine Ev.succ ?_
  simp only [laws_toValueS.p.f, laws_toValue.F]
  refine Ev.bind (laws_toValueS.evl x.f2 h2 ih) (Ev.bind (laws_toStringS.ev x.f3 h3) (Ev.done ?_))
  rw [cv_eq]
  rfl

def tup54 (x : S54) : ByteArray × Int × ByteArray × List S52 × List ByteArray := (x.f0, x.f1.f0, x.f1.f1, x.f1.f2, x.f1.f3)
theorem laws_toArg.ev {x : S63} (hx : OkA x) : Ev (fun k => laws_toArg.f k x.f0 x.f1.f0 x.f1.f1 x.f1.f2 x.f1.f3) (tup54 (ca x)) := by
 obtain ⟨h0, h1⟩ := hx
 unfold laws_toArg.f
 exact Ev.bind (laws_toValue.ev h1) (Ev.done rfl)

theorem laws_toArgS.ev {l : List S63} (hl : OkAs l) : Ev (fun k => laws_toArgS.f k l) (l.map ca) := by
 unfold laws_toArgS.f
 have := hl.1
 exact To.list z63 l (by omega) (by omega) z54 (F := fun k acc i => laws_toArgS.l0 k l acc i) (g := fun k y => laws_toArg.f k y.f0 y.f1.f0 y.f1.f1 y.f1.f2 y.f1.f3) (mk := fun t => (⟨t.1, (⟨t.2.1, t.2.2.1, t.2.2.2.1, t.2.2.2.2⟩ : S52)⟩ : S54)) (v := fun y => tup54 (ca y)) (fun k acc i => by simp only [laws_toArgS.l0]; rfl) (fun y hy => laws_toArg.ev (hl.2 y hy)) (fun y => by
  show (⟨(ca y).f0, (⟨(ca y).f1.f0, (ca y).f1.f1, (ca y).f1.f2, (ca y).f1.f3⟩ : S52)⟩ : S54) = ca y
  rw [eta52])

theorem laws_toDir.ev {x : S32} (hx : OkD x) : Ev (fun k => laws_toDir.f k x.f0 x.f1) ((cd x).f0, (cd x).f1) := by
 obtain ⟨h0, h1, h1'⟩ := hx
 unfold laws_toDir.f
 exact Ev.bind (laws_toArgS.ev ⟨h1, h1'⟩) (Ev.done rfl)

theorem laws_toDirS.ev {l : List S32} (hl : OkDs l) : Ev (fun k => laws_toDirS.f k l) (l.map cd) := by
 unfold laws_toDirS.f
 have := hl.1
 exact To.list z32 l (by omega) (by omega) z38 (F := fun k acc i => laws_toDirS.l0 k l acc i) (g := fun k y => laws_toDir.f k y.f0 y.f1) (mk := fun t => (⟨t.1, t.2⟩ : S38)) (v := fun y => ((cd y).f0, (cd y).f1)) (fun k acc i => by simp only [laws_toDirS.l0]; rfl) (fun y hy => laws_toDir.ev (hl.2 y hy)) (fun y => rfl)

theorem impl_in.eq (x a b : Int) : impl_in.f x a b = some (decide (a ≤ x ∧ x ≤ b)) := by
 unfold impl_in.f
 by_cases h : x ≥ a
 ·rw [if_pos h]; congr 1; rw [Bool.eq_iff_iff]; simp only [decide_eq_true_eq, Bool.or_eq_true, beq_iff_eq, Bool.false_eq_true, true_iff, false_iff]; omega
 ·rw [if_neg h]; congr 1; rw [Bool.eq_iff_iff]; simp only [decide_eq_true_eq, Bool.or_eq_true, beq_iff_eq, Bool.false_eq_true, true_iff, false_iff]; omega

theorem impl_isFigure.eq (x : Int) : impl_isFigure.f x = some (figB x) := by
 unfold impl_isFigure.f figB
 by_cases h : x ≥ 48
 ·rw [if_pos h]; congr 1; rw [Bool.eq_iff_iff]; simp only [decide_eq_true_eq, Bool.or_eq_true, beq_iff_eq, Bool.false_eq_true, true_iff, false_iff]; omega
 ·rw [if_neg h]; congr 1; rw [Bool.eq_iff_iff]; simp only [decide_eq_true_eq, Bool.or_eq_true, beq_iff_eq, Bool.false_eq_true, true_iff, false_iff]; omega

theorem impl_isLetter.eq (x : Int) : impl_isLetter.f x = some (lowB x) := by
 unfold impl_isLetter.f lowB
 by_cases h : x ≥ 97
 ·rw [if_pos h]
  by_cases h2 : x ≤ 122
  ·rw [if_pos h2]; congr 1; rw [Bool.eq_iff_iff]; simp only [decide_eq_true_eq, Bool.or_eq_true, beq_iff_eq, Bool.false_eq_true, true_iff, false_iff]; omega
  ·rw [if_neg h2, if_pos (by omega)]; congr 1; rw [Bool.eq_iff_iff]; simp only [decide_eq_true_eq, Bool.or_eq_true, beq_iff_eq, Bool.false_eq_true, true_iff, false_iff]; omega
 ·rw [if_neg h]
  by_cases h2 : x ≥ 65
  ·rw [if_pos h2]; congr 1; rw [Bool.eq_iff_iff]; simp only [decide_eq_true_eq, Bool.or_eq_true, beq_iff_eq, Bool.false_eq_true, true_iff, false_iff]; omega
  ·rw [if_neg h2]; congr 1; rw [Bool.eq_iff_iff]; simp only [decide_eq_true_eq, Bool.or_eq_true, beq_iff_eq, Bool.false_eq_true, true_iff, false_iff]; omega

theorem impl_inName.eq (x : Int) : impl_inName.f x = some (nameB x) := by
 unfold impl_inName.f nameB
 rw [impl_isLetter.eq]
 simp only [Option.bind_some, impl_isFigure.eq]
 cases lowB x <;> cases figB x <;> simp

theorem impl_NameOk.l0_ev (s : ByteArray) (hs : s.size ≤ 140737488351232) (n : Nat) : ∀ i : Int, 0 ≤ i → (s.size : Int) - i = n →
  Ev (fun k => impl_NameOk.l0 k s (s.size : Int) i) ((tl s i).all nameB) := by
 induction n with
 | zero =>
  intro i h0 hn
  apply Ev.succ; simp only [impl_NameOk.l0]
  rw [tl_nil (by omega)]
  exact Ev.ite_neg (by omega) (Ev.done rfl)
 | succ n ih =>
  intro i h0 hn
  have h1 : i < (s.size : Int) := by omega
  have ih := ih (i + 1) (by omega) (by omega)
  apply Ev.succ
  simp only [impl_NameOk.l0, h0, h1, if_true, impl_inName.eq, Option.bind_some, w64 (x := i + 1) (by omega) (by omega)]
  rw [tl_cons h0 h1, List.all_cons]
  cases nameB (bt s i) <;> simp <;> first | exact ih | exact Ev.done rfl
theorem impl_NameOk.ev (s : ByteArray) (hs : s.size ≤ 140737488351232) : Ev (fun k => impl_NameOk.f k s) (nameOkL (bytesOf s)) := by
 have hl := size_bytes s
 have hj : Ev (fun k => impl_NameOk.j0 k s true) false := by
  apply Ev.succ; simp only [impl_NameOk.j0, if_true]; exact Ev.done rfl
 unfold impl_NameOk.f
 simp only [impl_in.eq, Option.bind_some]
 by_cases h0 : 1 ≤ (s.size : Int) ∧ (s.size : Int) ≤ 30
 ·simp only [h0, and_self, decide_true, if_true]
  refine Ev.ite_pos (by omega) ?_
  simp only [impl_isFigure.eq, Option.bind_some]
  have hl0 := impl_NameOk.l0_ev s hs s.size 0 (by omega) (by omega)
  have ht := tl_cons (s := s) (i := 0) (by omega) (by omega)
  rw [tl_zero] at ht hl0
  have hd : (bytesOf s).headD 0 = bt s 0 := by rw [ht]; rfl
  apply Ev.succ; simp only [impl_NameOk.j0]
  cases hf : figB (bt s 0) with
  | true => exact (Ev.done rfl).get (by unfold nameOkL; rw [hd, hf]; simp)
  | false =>
   simp only [Bool.false_eq_true, if_false]
   exact hl0.get (by unfold nameOkL; rw [hd, hf, hl]; simp; omega)
 ·have e : decide (1 ≤ (s.size : Int) ∧ (s.size : Int) ≤ 30) = false := decide_eq_false h0
  simp only [e, Bool.false_eq_true, if_false]
  refine hj.get ?_
  unfold nameOkL; simp; omega

/-- Does a list begin with p. -/
def preB (p l : List Int) : Bool := l.take p.length == p
theorem preB_length {p l : List Int} (h : preB p l = true) : p.length ≤ l.length := by
 unfold preB at h; rw [beq_iff_eq] at h
 have := congrArg List.length h
 rw [List.length_take] at this; omega

theorem stringslite_HasPrefix.eq (a b : ByteArray) : stringslite_HasPrefix.f a b = some (preB (bytesOf b) (bytesOf a)) := by
 have la := size_bytes a
 have lb := size_bytes b
 unfold stringslite_HasPrefix.f
 by_cases h : (a.size : Int) ≥ (b.size : Int)
 ·rw [if_pos h, if_pos (by omega), if_pos (by omega), toList_beq, bytes_extract]
  unfold preB; simp [lb]
 ·rw [if_neg h]
  cases hp : preB (bytesOf b) (bytesOf a) with
  | false => rfl
  | true => have := preB_length hp; omega

theorem stringslite_TrimPrefix.eq (a b : ByteArray) : ∃ r, stringslite_TrimPrefix.f a b = some r ∧ bytesOf r = if preB (bytesOf b) (bytesOf a) = true then (bytesOf a).drop b.size else bytesOf a := by
 unfold stringslite_TrimPrefix.f
 rw [stringslite_HasPrefix.eq]; simp only [Option.bind_some]
 by_cases h : preB (bytesOf b) (bytesOf a) = true
 ·have hl := preB_length h
  rw [size_bytes, size_bytes] at hl
  rw [if_pos h, if_pos (by omega), if_pos (by omega), if_pos h]
  exact ⟨_, rfl, by rw [extract_tl]; unfold tl; simp⟩
 ·rw [if_neg h, if_neg h]; exact ⟨_, rfl, rfl⟩

theorem strings_TrimPrefix.eq (a b : ByteArray) : ∃ r, strings_TrimPrefix.f a b = some r ∧ bytesOf r = if preB (bytesOf b) (bytesOf a) = true then (bytesOf a).drop b.size else bytesOf a := by
 obtain ⟨r, h, e⟩ := stringslite_TrimPrefix.eq a b
 exact ⟨r, by unfold strings_TrimPrefix.f; rw [h]; rfl, e⟩

theorem impl_figures.l0_ev (s : ByteArray) (hs : s.size ≤ 140737488351232) (n : Nat) : ∀ i : Int, 0 ≤ i → (s.size : Int) - i = n →
  Ev (fun k => impl_figures.l0 k s (s.size : Int) i) ((tl s i).all figB && (bytesOf s != [])) := by
 induction n with
 | zero =>
  intro i h0 hn
  apply Ev.succ; simp only [impl_figures.l0]
  rw [tl_nil (by omega)]
  refine Ev.ite_neg (by omega) (Ev.done ?_)
  have := toList_beq_lit s []
  rw [bne, this]; simp [bne]
 | succ n ih =>
  intro i h0 hn
  have h1 : i < (s.size : Int) := by omega
  have ih := ih (i + 1) (by omega) (by omega)
  apply Ev.succ
  simp only [impl_figures.l0, h0, h1, if_true, impl_isFigure.eq, Option.bind_some, w64 (x := i + 1) (by omega) (by omega)]
  rw [tl_cons h0 h1, List.all_cons]
  cases figB (bt s i) with
  | true => exact Ev.ite_pos rfl (ih.get (by simp))
  | false => exact Ev.ite_neg (by simp) (Ev.done (by simp))
theorem impl_figures.ev (s : ByteArray) (hs : s.size ≤ 140737488351232) : Ev (fun k => impl_figures.f k s) ((bytesOf s).all figB && (bytesOf s != [])) := by
 unfold impl_figures.f
 have := impl_figures.l0_ev s hs s.size 0 (by omega) (by omega)
 rw [tl_zero] at this; exact this

theorem impl_IntOk.ev (s : ByteArray) (hs : s.size ≤ 140737488351232) : Ev (fun k => impl_IntOk.f k s) (intOkL (bytesOf s)) := by
 have hl := size_bytes s
 unfold impl_IntOk.f
 obtain ⟨d, hd, hb⟩ := strings_TrimPrefix.eq s (⟨#[45]⟩ : ByteArray)
 have b1 : bytesOf (⟨#[45]⟩ : ByteArray) = [45] := by decide
 have hdig : bytesOf d = digs (bytesOf s) := by
  rw [hb, b1]; unfold preB digs
  cases hc : bytesOf s with
  | nil => simp
  | cons x r =>
   have : (⟨#[45]⟩ : ByteArray).size = 1 := rfl
   rw [this]
   by_cases h : x = 45 <;> simp [h]
 have hsz : d.size ≤ s.size := by
  have h1 := digs_length (bytesOf s)
  have h2 : 0 ≤ signN (bytesOf s) := by unfold signN; split <;> omega
  rw [← hdig, size_bytes, size_bytes] at h1; omega
 refine Ev.bindc hd ?_
 unfold intOkL
 rw [← hdig, hl]
 by_cases h : (s.size : Int) ≤ 40
 ·have e1 : decide (s.size ≤ 40) = true := decide_eq_true (by omega)
  rw [e1, Bool.true_and]
  refine Ev.ite_pos h ((impl_figures.ev d (by omega)).bind ?_)
  rw [Bool.and_comm (bytesOf d != [])]
  cases hf : ((bytesOf d).all figB && bytesOf d != []) with
  | false => exact Ev.ite_neg (by simp) (Ev.done (by simp))
  | true =>
   refine Ev.ite_pos rfl ?_
   rw [Bool.true_and]
   simp only [toList_eq_bytes]
   by_cases c : bytesOf d = [48]
   ·exact Ev.ite_pos (by rw [c]; rfl) (Ev.done (by rw [c]; rfl))
   ·refine Ev.ite_neg (by simpa using c) ?_
    have hne : bytesOf d ≠ [] := by
     intro hn; rw [hn] at hf; simp at hf
    have hp : 0 < d.size := by
     rw [← size_bytes]; exact List.length_pos_iff.2 hne
    have ht := tl_cons (s := d) (i := 0) (by omega) (by omega)
    rw [tl_zero] at ht
    refine Ev.ite_pos (by omega) (Ev.done ?_)
    have : (bytesOf d == [48]) = false := by simpa using c
    rw [this, Bool.false_or]
    have : (bytesOf d).headD 0 = bt d 0 := by rw [ht]; rfl
    rw [this]
 ·have e1 : decide (s.size ≤ 40) = false := decide_eq_false (by omega)
  rw [e1]
  exact Ev.ite_neg h (Ev.done (by simp))


theorem bytes_drop (s : ByteArray) (n : Nat) : bytesOf (s.extract n s.size) = (bytesOf s).drop n := by
 rw [bytes_extract, List.take_of_length_le (by rw [size_bytes]; exact Nat.le_refl _)]
theorem bytes_take (s : ByteArray) (n : Nat) : bytesOf (s.extract 0 n) = (bytesOf s).take n := by
 rw [bytes_extract, List.drop_zero]
/-- strings.Cut at a dot. -/
theorem strings_Cut.dot (s : ByteArray) (hs : s.size ≤ 100000) : ∃ a b f, strings_Cut.f s (⟨#[46]⟩ : ByteArray) = some (a, b, f) ∧ a.size ≤ s.size ∧ b.size ≤ s.size ∧ bytesOf a = (cutB isDot (bytesOf s)).1 ∧ (if f = true then (cutB isDot (bytesOf s)).2 = some (bytesOf b) else (cutB isDot (bytesOf s)).2 = none) := by
 have hi : Lib.indexByte s.data.toList 46 = fstI isDot (bytesOf s) := by rw [indexByte_fst]; rfl
 have hr := fstI_range isDot (bytesOf s)
 rw [size_bytes] at hr
 unfold strings_Cut.f stringslite_Cut.f stringslite_Index.f
 rw [dif_pos (by rfl)]
 show ∃ a b f, (Option.bind (Option.bind (some (Lib.indexByte s.data.toList 46)) _) _) = _ ∧ _
 rw [hi]
 simp only [Option.bind_some]
 by_cases c : 0 ≤ fstI isDot (bytesOf s)
 ·have w1 : wrap64 (fstI isDot (bytesOf s) + ((⟨#[46]⟩ : ByteArray).size : Int)) = fstI isDot (bytesOf s) + 1 := by
   show wrap64 (fstI isDot (bytesOf s) + 1) = _
   exact w64 (by omega) (by omega)
  rw [if_pos (by omega), if_pos c, if_pos (by omega), w1, if_pos (by omega), if_pos (by omega)]
  refine ⟨_, _, _, rfl, by rw [size_extract]; omega, by rw [size_extract]; omega, ?_, ?_⟩
  ·rw [bytes_take]; unfold cutB; rw [if_pos c]
  ·rw [if_pos rfl, bytes_drop]; unfold cutB; rw [if_pos c, show (fstI isDot (bytesOf s) + 1).toNat = (fstI isDot (bytesOf s)).toNat + 1 from by omega]
 ·rw [if_neg (by omega)]
  refine ⟨_, _, _, rfl, Nat.le_refl _, Nat.zero_le _, ?_, ?_⟩
  ·unfold cutB; rw [if_neg c]
  ·show (if false = true then _ else _)
   rw [if_neg (by decide)]; unfold cutB; rw [if_neg c]

theorem frontOk_ev (s : ByteArray) (hs : s.size ≤ 100) (e : Bool) (g : Nat → Option Bool)
  (hg : ∀ k, g k = (strings_Cut.f s (⟨#[46]⟩ : ByteArray)).bind fun bt => (impl_IntOk.f k bt.1).bind fun t => if t = true then (if bt.2.2 = true then ((impl_figures.f k bt.2.1).bind fun t2 => some t2) else (some e)) else some false) : Ev g (frontOk (bytesOf s) e) := by
 obtain ⟨a, b, f, hc, ha, hb, h1, h2⟩ := strings_Cut.dot s (by omega)
 refine Ev.congr (fun k => hg k) (Ev.bindc hc ((impl_IntOk.ev a (by omega)).bind ?_))
 unfold frontOk
 generalize cutB isDot (bytesOf s) = q at *
 obtain ⟨w, o⟩ := q
 simp only at h1 h2
 subst h1
 cases f with
 | true =>
  rw [if_pos rfl] at h2
  subst h2
  simp only
  cases intOkL (bytesOf a) with
  | true => exact Ev.ite_pos rfl (Ev.ite_pos (by first | rfl | trivial) ((impl_figures.ev b (by omega)).bind (Ev.done rfl)))
  | false => exact Ev.ite_neg (by decide) (Ev.done rfl)
 | false =>
  rw [if_neg (by decide)] at h2
  subst h2
  simp only
  cases intOkL (bytesOf a) with
  | true => exact Ev.ite_pos rfl (Ev.ite_neg (by decide) (Ev.done rfl))
  | false => exact Ev.ite_neg (by decide) (Ev.done rfl)
theorem impl_FloatOk.j1_ev (a b : ByteArray) (ha : a.size ≤ 100) (hb : b.size ≤ 100) (i : Int) (h0 : 0 ≤ i) : Ev (fun k => impl_FloatOk.j1 k a b i) (figsL (bytesOf b) && frontOk (bytesOf a) true) := by
 apply Ev.succ; simp only [impl_FloatOk.j1]
 have hf := impl_figures.ev b (by omega)
 refine hf.bind ?_
 unfold figsL
 cases (bytesOf b).all figB && (bytesOf b != []) with
 | true =>
  refine Ev.ite_pos rfl (frontOk_ev a ha true _ fun k => ?_)
  simp only [if_pos h0, ge_iff_le]
 | false => exact Ev.ite_neg (by decide) (Ev.done rfl)
theorem impl_FloatOk.ev (s : ByteArray) (hs : s.size ≤ 140737488351232) : Ev (fun k => impl_FloatOk.f k s) (floatL (bytesOf s)) := by
 unfold impl_FloatOk.f floatL
 by_cases c40 : (s.size : Int) > 40
 ·rw [decide_eq_false (by rw [size_bytes]; omega)]
  exact Ev.ite_pos c40 (Ev.done rfl)
 rw [decide_eq_true (by rw [size_bytes]; omega), Bool.true_and]
 refine Ev.ite_neg c40 (Ev.bindc (strings_IndexAny.eq s (by omega)) ?_)
 have hr := fstI_range isE (bytesOf s)
 rw [size_bytes] at hr
 by_cases c : 0 ≤ fstI isE (bytesOf s)
 ·have w1 : wrap64 (fstI isE (bytesOf s) + 1) = fstI isE (bytesOf s) + 1 := w64 (by omega) (by omega)
  have hcut : cutB isE (bytesOf s) = ((bytesOf s).take (fstI isE (bytesOf s)).toNat, some ((bytesOf s).drop ((fstI isE (bytesOf s)).toNat + 1))) := by unfold cutB; rw [if_pos c]
  rw [hcut, w1]
  simp only
  obtain ⟨P, hP⟩ : ∃ P, s.extract ((fstI isE (bytesOf s) + 1) : Int).toNat s.size = P := ⟨_, rfl⟩
  have hPb : bytesOf P = (bytesOf s).drop ((fstI isE (bytesOf s)).toNat + 1) := by rw [← hP, bytes_drop, show ((fstI isE (bytesOf s) + 1) : Int).toNat = (fstI isE (bytesOf s)).toNat + 1 from by omega]
  have hPz : P.size ≤ 40 := by rw [← hP, size_extract]; omega
  have hFz : (s.extract 0 ((fstI isE (bytesOf s)) : Int).toNat).size ≤ 40 := by rw [size_extract]; omega
  have hFb := bytes_take s (fstI isE (bytesOf s)).toNat
  rw [hP, ← hPb, ← hFb]
  have hj : ∀ b, b = decide ((bytesOf P).head? = some 43 ∨ (bytesOf P).head? = some 45) → Ev (fun k => impl_FloatOk.j0 k (s.extract 0 ((fstI isE (bytesOf s)) : Int).toNat) P (fstI isE (bytesOf s)) b) (figsL (signOff (bytesOf P)) && frontOk (bytesOf (s.extract 0 ((fstI isE (bytesOf s)) : Int).toNat)) true) := by
   rintro b rfl
   apply Ev.succ; simp only [impl_FloatOk.j0]
   by_cases d : (bytesOf P).head? = some 43 ∨ (bytesOf P).head? = some 45
   ·have hne : 0 < P.size := by
     rcases Nat.eq_zero_or_pos P.size with h | h
     ·exfalso
      have : bytesOf P = [] := List.eq_nil_of_length_eq_zero (by rw [size_bytes]; exact h)
      rw [this] at d; simp at d
     ·exact h
    refine Ev.ite_pos (decide_eq_true d) (Ev.ite_pos (by omega) ((impl_FloatOk.j1_ev _ _ (by omega) (by rw [size_extract]; omega) _ c).get ?_))
    have e1 : bytesOf (P.extract 1 P.size) = signOff (bytesOf P) := by rw [bytes_drop]; unfold signOff; rw [if_pos d, List.drop_one]
    rw [e1]
   ·refine Ev.ite_neg (by simpa using d) ((impl_FloatOk.j1_ev _ _ (by omega) (by omega) _ c).get ?_)
    have e1 : signOff (bytesOf P) = bytesOf P := by unfold signOff; rw [if_neg d]
    rw [e1]
  refine Ev.ite_pos c (Ev.ite_pos c (Ev.ite_pos (by omega) (Ev.ite_pos (by omega) (Ev.ite_pos (by omega) ?_))))
  by_cases n : P.size = 0
  ·have hb : bytesOf P = [] := List.eq_nil_of_length_eq_zero (by rw [size_bytes]; exact n)
   refine Ev.ite_pos (by rw [toList_eq_bytes, hb]; rfl) (hj _ (by rw [hb]; simp))
  ·have hh : bytesOf P = bt P 0 :: tl P 1 := by have := tl_cons (s := P) (i := 0) (by omega) (by omega); rwa [tl_zero] at this
   refine Ev.ite_neg (by rw [toList_eq_bytes, hh]; simp) (Ev.ite_pos (by omega) ?_)
   by_cases d : bt P 0 = 43
   ·exact Ev.ite_pos d (hj _ (by rw [hh]; simp [d]))
   ·refine Ev.ite_neg d (hj _ ?_)
    rw [hh, Bool.eq_iff_iff]; simp [d]
 ·have hcut : cutB isE (bytesOf s) = (bytesOf s, none) := by unfold cutB; rw [if_neg c]
  rw [hcut]
  exact Ev.ite_neg (by omega) (frontOk_ev s (by omega) false _ fun k => rfl)

theorem impl_TextOk.eq (s : ByteArray) (hs : s.size ≤ 9223372036854775807) : impl_TextOk.f s = some (textOkS s) := by
 unfold impl_TextOk.f utf8_ValidString.f; rw [if_pos hs]; rfl

theorem strings_IndexByte.eq (s : ByteArray) (x : Int) : strings_IndexByte.f s x = some (Lib.indexByte s.data.toList x.toNat.toUInt8) := rfl

def escIdx (n : Nat) : Int := Lib.indexByte [34, 92, 8, 9, 10, 12, 13] n.toUInt8
theorem escTab : ∀ n : Fin 256, ((0 ≤ escIdx n.val → escIdx n.val < 7 ∧ [92, bt (⟨#[34, 92, 98, 116, 110, 102, 114]⟩ : ByteArray) (escIdx n.val)] = escB (n.val : Int)) ∧
  (¬ 0 ≤ escIdx n.val → escB (n.val : Int) = if (n.val : Int) < 32 ∨ (n.val : Int) = 127 then [92, 117, 48, 48, hexD ((n.val : Int) / 16), hexD ((n.val : Int) % 16)] else [(n.val : Int)])) := by decide +kernel
theorem escTab_at (x : Int) (h0 : 0 ≤ x) (h1 : x ≤ 255) : ∃ t : Int, Lib.indexByte (⟨#[34, 92, 8, 9, 10, 12, 13]⟩ : ByteArray).data.toList x.toNat.toUInt8 = t ∧ (0 ≤ t → t < 7 ∧ [92, bt (⟨#[34, 92, 98, 116, 110, 102, 114]⟩ : ByteArray) t] = escB x) ∧ (¬ 0 ≤ t → escB x = if x < 32 ∨ x = 127 then [92, 117, 48, 48, hexD (x / 16), hexD (x % 16)] else [x]) := by
 have h := escTab ⟨x.toNat, by omega⟩
 simp only at h
 rw [show ((x.toNat : Nat) : Int) = x from by omega] at h
 exact ⟨_, rfl, h⟩
theorem impl_Escaped.l0_ev (s : ByteArray) (hs : s.size ≤ 200) (n : Nat) : ∀ (i : Int) (acc : List Int), 0 ≤ i → (s.size : Int) - i = n → acc.length ≤ 6 * i + 1 →
  Ev (fun k => impl_Escaped.l0 k s acc (s.size : Int) i) (strOfNums (acc ++ escL (tl s i) ++ [34])) := by
 induction n with
 | zero =>
  intro i acc h0 hn ha
  apply Ev.succ; simp only [impl_Escaped.l0]
  rw [tl_nil (by omega)]
  exact Ev.ite_neg (by omega) (Ev.ite_pos (by omega) (Ev.done (by simp [escL])))
 | succ n ih =>
  intro i acc h0 hn ha
  have h1 : i < (s.size : Int) := by omega
  have hr := bt_range s i
  have w1 : wrap64 (i + 1) = i + 1 := w64 (by omega) (by omega)
  have hl := escB_len (bt s i)
  have next : ∀ b : List Int, b = escB (bt s i) → Ev (fun k => impl_Escaped.l0 k s (acc ++ b) (s.size : Int) (i + 1)) (strOfNums (acc ++ escL (tl s i) ++ [34])) := by
   rintro b rfl
   refine (ih (i + 1) (acc ++ escB (bt s i)) (by omega) (by omega) (by simp; omega)).get ?_
   rw [tl_cons h0 h1]; simp [escL]
  obtain ⟨t, ht, hp, hm⟩ := escTab_at (bt s i) hr.1 hr.2
  have g1 : 0 ≤ bt s i / 16 := by omega
  have g2 : bt s i / 16 < 16 := by omega
  have g3 : 0 ≤ bt s i % 16 := by omega
  have g4 : bt s i % 16 < 16 := by omega
  apply Ev.succ
  simp only [impl_Escaped.l0, strings_IndexByte.eq, ht, w1, Option.bind_some, and15_at hr.1 hr.2, hexTab_at g1 g2, hexTab_at g3 g4]
  refine Ev.ite_pos h1 (Ev.ite_pos h0 (Ev.ite_pos h1 ?_))
  by_cases c : 0 ≤ t
  ·obtain ⟨p1, p2⟩ := hp c
   refine Ev.ite_pos c (Ev.ite_pos c (Ev.ite_pos p1 ?_))
   exact Ev.ite_pos (by simp; omega) (next _ p2)
  ·have he := hm c
   refine Ev.ite_neg c ?_
   by_cases c32 : bt s i < 32
   ·rw [if_pos (Or.inl c32)] at he
    exact Ev.ite_pos c32 (Ev.ite_pos g1 (Ev.ite_pos g2 (Ev.ite_pos g3 (Ev.ite_pos g4 (Ev.ite_pos (by simp; omega) (next _ he.symm))))))
   ·refine Ev.ite_neg c32 ?_
    by_cases c127 : bt s i = 127
    ·rw [if_pos (Or.inr c127)] at he
     exact Ev.ite_pos c127 (Ev.ite_pos g1 (Ev.ite_pos g2 (Ev.ite_pos g3 (Ev.ite_pos g4 (Ev.ite_pos (by simp; omega) (next _ he.symm))))))
    ·rw [if_neg (by omega)] at he
     exact Ev.ite_neg c127 (Ev.ite_pos (by omega) (next _ he.symm))
theorem impl_Escaped.ev (s : ByteArray) (hs : s.size ≤ 140737488351232) : Ev (fun k => impl_Escaped.f k s) (escS s) := by
 have hj : Ev (fun k => impl_Escaped.j0 k s true) (⟨#[]⟩ : ByteArray) := by
  apply Ev.succ; simp only [impl_Escaped.j0, if_true]; exact Ev.done rfl
 unfold impl_Escaped.f
 refine Ev.bindc (impl_TextOk.eq s (by omega)) ?_
 unfold escS
 cases ht : textOkS s with
 | false => exact Ev.ite_neg (by simp) (hj.get (by rw [if_neg (by simp)]))
 | true =>
  refine Ev.ite_pos rfl ?_
  by_cases c : s.size ≤ 200
  ·have e : decide ((s.size : Int) > 200) = false := decide_eq_false (by omega)
   rw [e, if_pos ⟨rfl, c⟩]
   apply Ev.succ; simp only [impl_Escaped.j0]
   refine Ev.ite_neg (by simp) ((impl_Escaped.l0_ev s c s.size 0 [34] (by omega) (by omega) (by simp)).get ?_)
   rw [tl_zero]; rfl
  ·have e : decide ((s.size : Int) > 200) = true := decide_eq_true (by omega)
   rw [e, if_neg (fun h => c h.2)]; exact hj

theorem plain_ev (q : Int) (s : ByteArray) (l : List S52) (m : List ByteArray) {G : Nat → Option Bool} {g : Bool} (hG : Ev G g) : Ev (fun k => (impl_plain.f q s l m).bind fun t => if t = true then G k else some false) (g && decide (l.length = 0 ∧ m.length = 0)) := by
 have hp : impl_plain.f q s l m = some (decide (l.length = 0 ∧ m.length = 0)) := by
  unfold impl_plain.f
  by_cases h1 : l.length = 0
  ·rw [if_pos (by omega)]
   congr 1
   by_cases h2 : m.length = 0
   ·rw [decide_eq_true (⟨h1, h2⟩ : l.length = 0 ∧ m.length = 0), beq_iff_eq]; omega
   ·rw [decide_eq_false (fun h : l.length = 0 ∧ m.length = 0 => h2 h.2), beq_eq_false_iff_ne]; omega
  ·rw [if_neg (by omega), decide_eq_false (fun h : l.length = 0 ∧ m.length = 0 => h1 h.1)]
 refine Ev.bindc hp ?_
 by_cases h : l.length = 0 ∧ m.length = 0
 ·rw [decide_eq_true h, Bool.and_true]
  exact Ev.ite_pos rfl hG
 ·rw [decide_eq_false h, Bool.and_false]
  exact Ev.ite_neg (by decide) (Ev.done rfl)
theorem impl_Word.eqB (s : ByteArray) : impl_Word.f s = some (wordB s) := by
 unfold impl_Word.f wordB
 split
 ·rfl
 ·split <;> rfl
theorem rest_ev (l : List S52) (s : ByteArray) (d : Nat) (hd : d ≤ 10) {p : Nat → Int → S52 → Option Bool} {e : S52 → Nat → Bool} (h : ∀ y ∈ l, ∀ d : Nat, d ≤ 10 → Ev (fun k => p k (d : Int) y) (e y d)) :
  Ev (fun k => if 0 < (d : Int) then (if s.toList = [] then (anyO (fun x => (p k (wrap64 ((d : Int) - 1)) x).map (!·)) l).bind fun t => some (!t) else some false) else some false) (decide (0 < d) && (decide (s.toList = []) && l.all (fun y => e y (d - 1)))) := by
 by_cases h0 : 0 < d
 case neg => rw [decide_eq_false h0, Bool.false_and]; exact Ev.ite_neg (by omega) (Ev.done rfl)
 rw [decide_eq_true h0, Bool.true_and]
 refine Ev.ite_pos (by omega) ?_
 by_cases h1 : s.toList = []
 case neg => rw [decide_eq_false h1, Bool.false_and]; exact Ev.ite_neg h1 (Ev.done rfl)
 rw [decide_eq_true h1, Bool.true_and]
 refine Ev.ite_pos h1 ?_
 rw [wrap_less h0 hd]
 refine Ev.bind (Ev_anyO l (p := fun k y => (p k ((d - 1 : Nat) : Int) y).map (!·)) (e := fun y => !e y (d - 1)) (fun y hy => Ev_map _ (h y hy (d - 1) (by omega)))) (Ev.done ?_)
 rw [← List.not_all_eq_any_not, Bool.not_not]
theorem impl_valueOk.ev {x : S52} (hx : OkI x) : ∀ d : Nat, d ≤ 10 → Ev (fun k => impl_valueOk.f k x.f0 x.f1 x.f2 x.f3 (d : Int)) (okV x d) := by
 induction hx with
 | mk x h0 h1 h2 h2' h3 h3' ih =>
  intro d hd
  refine Ev.succ ?_
  simp only [impl_valueOk.f]
  rw [okV_eq]
  have leaf : ∀ q : Int, q ≠ 7 → q ≠ 8 → x.f0 = q → (if x.f0 = 7 then (decide (x.f3.length = 0) && (decide (0 < d) && (decide (x.f1.toList = []) && x.f2.all (fun y => okV y (d - 1))))) else if x.f0 = 8 then (decide (x.f3.length = x.f2.length) && (x.f3.all nmB && (decide (0 < d) && (decide (x.f1.toList = []) && x.f2.all (fun y => okV y (d - 1)))))) else (leafB x.f0 x.f1 && decide (x.f2.length = 0 ∧ x.f3.length = 0))) = (leafB q x.f1 && decide (x.f2.length = 0 ∧ x.f3.length = 0)) := by
   intro q hq hq' he
   rw [if_neg (by omega), if_neg (by omega), he]
  by_cases e1 : x.f0 = 1
  ·rw [leaf 1 (by omega) (by omega) e1]
   exact Ev.ite_pos e1 (plain_ev 1 x.f1 x.f2 x.f3 (impl_NameOk.ev x.f1 h1))
  refine Ev.ite_neg e1 ?_
  by_cases e2 : x.f0 = 2
  ·rw [leaf 2 (by omega) (by omega) e2]
   exact Ev.ite_pos e2 (plain_ev 2 x.f1 x.f2 x.f3 (impl_IntOk.ev x.f1 h1))
  refine Ev.ite_neg e2 ?_
  by_cases e3 : x.f0 = 3
  ·rw [leaf 3 (by omega) (by omega) e3]
   exact Ev.ite_pos e3 (plain_ev 3 x.f1 x.f2 x.f3 (impl_FloatOk.ev x.f1 h1))
  refine Ev.ite_neg e3 ?_
  by_cases e4 : x.f0 = 4
  ·rw [leaf 4 (by omega) (by omega) e4]
   exact Ev.ite_pos e4 (plain_ev 4 x.f1 x.f2 x.f3 (Ev.bind (impl_Escaped.ev x.f1 h1) (Ev.done rfl)))
  refine Ev.ite_neg e4 ?_
  by_cases e5 : x.f0 = 5
  ·rw [leaf 5 (by omega) (by omega) e5]
   exact Ev.ite_pos e5 (plain_ev 5 x.f1 x.f2 x.f3 (Ev.const (impl_Word.eqB x.f1)))
  refine Ev.ite_neg e5 ?_
  by_cases e6 : x.f0 = 6
  ·rw [leaf 6 (by omega) (by omega) e6]
   refine Ev.ite_pos e6 (plain_ev 6 x.f1 x.f2 x.f3 ?_)
   show Ev _ (nameOkL (bytesOf x.f1) && !wordB x.f1)
   have hn := impl_NameOk.ev x.f1 h1
   cases hc : nameOkL (bytesOf x.f1) with
   | true =>
    rw [hc] at hn
    exact Ev.bind hn (Ev.ite_pos rfl (Ev.bindc (impl_Word.eqB x.f1) (Ev.done (by rw [Bool.true_and]))))
   | false =>
    rw [hc] at hn
    exact Ev.bind hn (Ev.ite_neg (by decide) (Ev.done rfl))
  refine Ev.ite_neg e6 ?_
  have hr := rest_ev x.f2 x.f1 d hd (p := fun k i y => impl_valueOk.f k y.f0 y.f1 y.f2 y.f3 i) (e := okV) ih
  by_cases e7 : x.f0 = 7
  ·rw [if_pos e7]
   refine Ev.ite_pos e7 ?_
   by_cases hc : x.f3.length = 0
   ·rw [decide_eq_true hc, Bool.true_and]
    exact Ev.ite_pos hc hr
   ·rw [decide_eq_false hc, Bool.false_and]
    exact Ev.ite_neg hc (Ev.done rfl)
  refine Ev.ite_neg e7 ?_
  rw [if_neg e7]
  by_cases e8 : x.f0 = 8
  ·rw [if_pos e8]
   refine Ev.ite_pos e8 ?_
   by_cases hc : x.f3.length = x.f2.length
   ·rw [decide_eq_true hc, Bool.true_and]
    refine Ev.ite_pos hc ?_
    have hn := Ev_anyO x.f3 (p := fun k y => (impl_NameOk.f k y).map (!·)) (e := fun y => !nmB y) (fun y hy => Ev_map _ (impl_NameOk.ev y (h3' y hy)))
    rw [← List.not_all_eq_any_not] at hn
    cases ha : x.f3.all nmB with
    | true =>
     rw [ha] at hn
     rw [Bool.true_and]
     exact Ev.bind hn (Ev.ite_neg (by decide) hr)
    | false =>
     rw [ha] at hn
     exact Ev.bind hn (Ev.ite_pos rfl (Ev.done rfl))
   ·rw [decide_eq_false hc, Bool.false_and]
    exact Ev.ite_neg hc (Ev.done rfl)
  ·rw [if_neg e8]
   refine Ev.ite_neg e8 (Ev.done ?_)
   unfold leafB
   rw [if_neg e1, if_neg e2, if_neg e3, if_neg e4, if_neg e5, if_neg e6]
   rfl

theorem impl_ValueOk.ev {x : S52} (hx : OkI x) : Ev (fun k => impl_ValueOk.f k x.f0 x.f1 x.f2 x.f3) (okV x 10) := by
 unfold impl_ValueOk.f
 exact Ev.bind (impl_valueOk.ev hx 10 (by omega)) (Ev.done rfl)

theorem impl_ArgsOk.ev {l : List S54} (hl : OkIAs l) : Ev (fun k => impl_ArgsOk.f k l) (l.all okA) := by
 unfold impl_ArgsOk.f
 refine (Ev_map (!·) (Ev_anyO l (p := fun k y => impl_ArgsOk.p k y) (e := fun y => !okA y) (fun y hy => ?_))).get ?_
 ·obtain ⟨o0, o1⟩ := hl.2 y hy
  exact Ev_nand (impl_NameOk.ev y.f0 o0) (impl_ValueOk.ev o1)
 ·rw [← List.not_all_eq_any_not, Bool.not_not]

theorem impl_DirsOk.ev {l : List S38} (hl : OkIDs l) : Ev (fun k => impl_DirsOk.f k l) (l.all okD) := by
 unfold impl_DirsOk.f
 refine (Ev_map (!·) (Ev_anyO l (p := fun k y => impl_DirsOk.p k y) (e := fun y => !okD y) (fun y hy => ?_))).get ?_
 ·obtain ⟨o0, o1, o2⟩ := hl.2 y hy
  exact Ev_nand (impl_NameOk.ev y.f0 o0) (impl_ArgsOk.ev ⟨o1, o2⟩)
 ·rw [← List.not_all_eq_any_not, Bool.not_not]

theorem join_segs (L : List ByteArray) : (Lib.join (L.map (·.data.toList)) [44, 32]).map (fun b => (b.toNat : Int)) = segs true (L.map bytesOf) := by
 have tail : ∀ (L : List ByteArray), (Lib.joinTail [44, 32] (L.map (·.data.toList))).map (fun b => (b.toNat : Int)) = segs false (L.map bytesOf) := by
  intro L
  induction L with
  | nil => simp [Lib.joinTail, segs]
  | cons y L ih =>
   rw [List.map_cons (f := bytesOf), segs, ← ih]
   simp [Lib.joinTail, bytesOf]
 cases L with
 | nil => rfl
 | cons x L =>
  rw [List.map_cons, Lib.join_cons, List.map_append, tail, List.map_cons, segs]
  rfl
theorem joinC_eq (L : List ByteArray) (hl : L.length ≤ 140737488355328) (h : (segs true (L.map bytesOf)).length ≤ 140737488355328) : ∃ r, strings_Join.f L (⟨#[44, 32]⟩ : ByteArray) = some r ∧ bytesOf r = segs true (L.map bytesOf) := by
 have hi := join_segs L
 have hlen : (Lib.join (L.map (·.data.toList)) [44, 32]).length = (segs true (L.map bytesOf)).length := by rw [← hi, List.length_map]
 unfold strings_Join.f
 refine ⟨_, if_pos ⟨hl, by show (Lib.join (L.map (·.data.toList)) [44, 32]).length ≤ _; omega⟩, ?_⟩
 rw [bytes_mk]
 exact hi
theorem bytes_app (a b : ByteArray) : bytesOf (a ++ b) = bytesOf a ++ bytesOf b := by
 unfold bytesOf
 rw [ByteArray.data_append, Array.toList_append, List.map_append]

theorem impl_printValue.ev {x : S52} (hx : OkI x) : ∀ (n : Nat), okV x n = true → (say x).length < 100000000000 → Ev (fun k => impl_printValue.f k x.f0 x.f1 x.f2 x.f3) (strOfNums (say x)) := by
 induction hx with
 | mk x h0 h1 h2 h2' h3 h3' ih =>
  intro n hn hb
  have hn2 : x.f2.length ≤ 140737488351232 := by omega
  have hsb := say_bytes (OkI.mk x h0 h1 h2 h2' h3 h3')
  refine Ev.succ ?_
  simp only [impl_printValue.f]
  -- what stands behind the loop
  have fin : ∀ W : List ByteArray, W.length ≤ x.f2.length → ((x.f0 = 7 → W.map bytesOf = sayItems false x.f3 x.f2) ∧ (x.f0 = 8 → W.map bytesOf = sayItems true x.f3 x.f2) ∧ (x.f0 ≠ 7 → x.f0 ≠ 8 → W = [])) →
    Ev (fun k => (strings_Join.f W (⟨#[44, 32]⟩ : ByteArray)).bind fun t339 => (if x.f0 = 1 then (if 1 + x.f1.size ≤ 9223372036854775807 then (some ((⟨#[36]⟩ : ByteArray) ++ x.f1)) else (none)) else (if x.f0 = 4 then ((impl_Escaped.f k x.f1).bind fun t340 => (some t340)) else (if x.f0 = 7 then (if 1 + t339.size ≤ 9223372036854775807 then (if ((⟨#[91]⟩ : ByteArray) ++ t339).size + 1 ≤ 9223372036854775807 then (some (((⟨#[91]⟩ : ByteArray) ++ t339) ++ (⟨#[93]⟩ : ByteArray))) else (none)) else (none)) else (if x.f0 = 8 then (if 1 + t339.size ≤ 9223372036854775807 then (if ((⟨#[123]⟩ : ByteArray) ++ t339).size + 1 ≤ 9223372036854775807 then (some (((⟨#[123]⟩ : ByteArray) ++ t339) ++ (⟨#[125]⟩ : ByteArray))) else (none)) else (none)) else (some x.f1)))))) (strOfNums (say x)) := by
   intro W hW hw
   have hsay := say_eq x
   have hlen : (segs true (W.map bytesOf)).length ≤ 100000000000 := by
    by_cases e7 : x.f0 = 7
    ·rw [hw.1 e7]
     rw [if_neg (by omega), if_neg (by omega), if_pos e7] at hsay
     rw [hsay] at hb
     simp only [List.length_cons, List.length_append, List.length_nil] at hb
     omega
    by_cases e8 : x.f0 = 8
    ·rw [hw.2.1 e8]
     rw [if_neg (by omega), if_neg (by omega), if_neg e7, if_pos e8] at hsay
     rw [hsay] at hb
     simp only [List.length_cons, List.length_append, List.length_nil] at hb
     omega
    rw [hw.2.2 e7 e8]
    show 0 ≤ 100000000000
    omega
   obtain ⟨t, ht, hbt⟩ := joinC_eq W (by omega) (by omega)
   have hts : t.size ≤ 100000000000 := by rw [← size_bytes, hbt]; exact hlen
   refine Ev.bindc ht ?_
   have fits : ∀ r : ByteArray, bytesOf r = say x → r = strOfNums (say x) := fun r hr => by rw [← hr, strOfNums_bytes]
   by_cases e1 : x.f0 = 1
   ·refine Ev.ite_pos e1 (Ev.ite_pos (by omega) (Ev.done (fits _ ?_)))
    rw [hsay, if_pos e1, bytes_app]
    rfl
   refine Ev.ite_neg e1 ?_
   by_cases e4 : x.f0 = 4
   ·refine Ev.ite_pos e4 (Ev.bind (impl_Escaped.ev x.f1 h1) (Ev.done (fits _ ?_)))
    rw [hsay, if_neg e1, if_pos e4]
   refine Ev.ite_neg e4 ?_
   by_cases e7 : x.f0 = 7
   ·refine Ev.ite_pos e7 (Ev.ite_pos (by omega) (Ev.ite_pos ?_ (Ev.done (fits _ ?_))))
    ·rw [ByteArray.size_append]
     show 1 + t.size + 1 ≤ _
     omega
    ·rw [hsay, if_neg e1, if_neg e4, if_pos e7, bytes_app, bytes_app, hbt, hw.1 e7]
     simp [bytesOf]
   refine Ev.ite_neg e7 ?_
   by_cases e8 : x.f0 = 8
   ·refine Ev.ite_pos e8 (Ev.ite_pos (by omega) (Ev.ite_pos ?_ (Ev.done (fits _ ?_))))
    ·rw [ByteArray.size_append]
     show 1 + t.size + 1 ≤ _
     omega
    ·rw [hsay, if_neg e1, if_neg e4, if_neg e7, if_pos e8, bytes_app, bytes_app, hbt, hw.2.1 e8]
     simp [bytesOf]
   refine Ev.ite_neg e8 (Ev.done (fits _ ?_))
   rw [hsay, if_neg e1, if_neg e4, if_neg e7, if_neg e8]
  -- the loop
  have loop : ∀ (q : Bool), (q = true ↔ x.f0 = 8) → (x.f2 ≠ [] → (x.f0 = 7 ∨ x.f0 = 8) ∧ ∀ y ∈ x.f2, okV y (n - 1) = true) → (q = true → x.f3.length = x.f2.length) → ∀ (m j : Nat) (W : List ByteArray), x.f2.length = j + m → W.length = j → W.map bytesOf ++ sayItems q (x.f3.drop j) (x.f2.drop j) = sayItems q x.f3 x.f2 →
    Ev (fun k => impl_printValue.l0 k W x.f2 (x.f2.length : Int) j x.f0 x.f1 x.f2 x.f3) (strOfNums (say x)) := by
   intro q hq8 hne hlen m
   induction m with
   | zero =>
    intro j W hj hWl hW
    refine Ev.succ ?_
    simp only [impl_printValue.l0]
    refine Ev.ite_neg (by omega) ?_
    rw [List.drop_eq_nil_of_le (show x.f2.length ≤ j by omega), sayItems_nil, List.append_nil] at hW
    refine fin W (by omega) ⟨fun e7 => ?_, fun e8 => ?_, fun e7 e8 => ?_⟩
    ·have hq : q = false := by cases q with | false => rfl | true => exact absurd (hq8.1 rfl) (by omega)
     rw [hW, hq]
    ·rw [hW, hq8.2 e8]
    ·by_cases hnil : x.f2 = []
     ·rw [hnil] at hj
      exact List.length_eq_zero_iff.1 (by simp at hj; omega)
     ·rcases (hne hnil).1 with h | h
      ·exact absurd h e7
      ·exact absurd h e8
   | succ m im =>
    intro j W hj hWl hW
    have hjl : j < x.f2.length := by omega
    have hnil : x.f2 ≠ [] := fun h => by rw [h] at hjl; simp at hjl
    obtain ⟨h78, hok⟩ := hne hnil
    have hy := getD_mem z52 x.f2 j hjl
    have hsy := say_child h78 hy
    have iy := ih _ hy (n - 1) (hok _ hy) (by omega)
    have hby := say_bytes (h2' _ hy)
    rw [sayItems_drop q x.f3 x.f2 j hjl] at hW
    have e1' : rd_T52 x.f2 (j : Int) = x.f2.getD j z52 := rfl
    have e2' : rdOf ByteArray.empty x.f3 (j : Int) = x.f3.getD j ByteArray.empty := rfl
    have hs3 : ∀ s ∈ x.f3, s.size ≤ 140737488351232 := h3'
    generalize hyv : x.f2.getD j z52 = y at iy e1' hW hsy hby
    have hys : (strOfNums (say y)).size = (say y).length := str_size _
    have hyb : bytesOf (strOfNums (say y)) = say y := bytes_strOfNums _ hby
    refine Ev.succ ?_
    simp only [impl_printValue.l0]
    rw [e1', e2']
    refine Ev.ite_pos (by omega) (Ev.ite_pos (by omega) (Ev.ite_pos (by omega) (Ev.bind iy ?_)))
    rw [w64n hjl hn2]
    by_cases e8 : x.f0 = 8
    ·have hq : q = true := hq8.2 e8
     subst hq
     have hl := hlen rfl
     have hsz := hs3 _ (getD_mem ByteArray.empty x.f3 j (by omega))
     generalize hsv : x.f3.getD j ByteArray.empty = s at hW hsz
     refine Ev.ite_pos e8 (Ev.ite_pos (by omega) (Ev.ite_pos (by omega) (Ev.ite_pos ?_ (Ev.ite_pos (by omega) ?_))))
     ·rw [ByteArray.size_append, hys]
      show s.size + 2 + _ ≤ _
      omega
     ·refine im (j + 1) _ (by omega) (by rw [List.length_append]; simp [hWl]) ?_
      rw [← hW, List.map_append, List.append_assoc]
      congr 1
      rw [List.map_cons, List.map_nil, bytes_app, bytes_app, hyb]
      unfold itemOf
      simp [bytesOf]
    ·have hq : q = false := by cases q with | false => rfl | true => exact absurd (hq8.1 rfl) e8
     subst hq
     refine Ev.ite_neg e8 (Ev.ite_pos (by omega) ?_)
     refine im (j + 1) _ (by omega) (by rw [List.length_append]; simp [hWl]) ?_
     rw [← hW, List.map_append, List.append_assoc]
     congr 1
     rw [List.map_cons, List.map_nil, hyb]
     unfold itemOf
     simp
  rcases okV_parts hn with ⟨e7, hl3, _, hok⟩ | ⟨e8, hl3, _, hok⟩ | ⟨e7, e8, hl2⟩
  ·exact loop false (by simp; omega) (fun _ => ⟨Or.inl e7, hok⟩) (by simp) x.f2.length 0 [] (by omega) rfl (by rw [List.drop_zero, List.drop_zero]; rfl)
  ·exact loop true (by simp; omega) (fun _ => ⟨Or.inr e8, hok⟩) (fun _ => hl3) x.f2.length 0 [] (by omega) rfl (by rw [List.drop_zero, List.drop_zero]; rfl)
  ·exact loop false (by simp; omega) (fun h => absurd hl2 h) (by simp) x.f2.length 0 [] (by omega) rfl (by rw [List.drop_zero, List.drop_zero]; rfl)

theorem impl_ArgsText.ev {l : List S54} (hl : OkIAs l) (hb : (sayAs l).length < 100000000000) : Ev (fun k => impl_ArgsText.f k l) (if l.all okA = true then strOfNums (sayAs l) else (⟨#[]⟩ : ByteArray)) := by
 have hn2 : l.length * 88 ≤ 140737488351232 := hl.1
 unfold impl_ArgsText.f
 by_cases hnil : l = []
 ·subst hnil
  refine Ev.ite_pos (by simp) (Ev.succ ?_)
  simp only [impl_ArgsText.j0]
  exact Ev.ite_pos trivial (Ev.done rfl)
 have hpos : 0 < l.length := List.length_pos_iff.2 hnil
 refine Ev.ite_neg (by omega) ?_
 have ho := impl_ArgsOk.ev hl
 cases hc : l.all okA with
 | false =>
  rw [hc] at ho
  refine Ev.bind ho (Ev.succ ?_)
  simp only [impl_ArgsText.j0]
  exact Ev.ite_pos rfl (Ev.done rfl)
 | true =>
  rw [hc] at ho
  have hok := List.all_eq_true.1 hc
  refine Ev.bind ho (Ev.succ ?_)
  simp only [impl_ArgsText.j0]
  refine Ev.ite_neg (by decide) ?_
  have hs : sayAs l = 40 :: (segs true (l.map sayA) ++ [41]) := if_neg hnil
  have hb2 := hb
  rw [hs] at hb2
  simp only [List.length_cons, List.length_append, List.length_nil] at hb2
  have loop : ∀ (m j : Nat) (W : List ByteArray), l.length = j + m → W.length = j → W.map bytesOf ++ (l.drop j).map sayA = l.map sayA →
    Ev (fun k => impl_ArgsText.l0 k W l (l.length : Int) j) (strOfNums (sayAs l)) := by
   intro m
   induction m with
   | zero =>
    intro j W hj hWl hW
    refine Ev.succ ?_
    simp only [impl_ArgsText.l0]
    refine Ev.ite_neg (by omega) ?_
    rw [List.drop_eq_nil_of_le (show l.length ≤ j by omega), List.map_nil, List.append_nil] at hW
    obtain ⟨t, ht, hbt⟩ := joinC_eq W (by omega) (by rw [hW]; omega)
    have hts : t.size ≤ 100000000000 := by rw [← size_bytes, hbt, hW]; omega
    have fits : ∀ r : ByteArray, bytesOf r = sayAs l → r = strOfNums (sayAs l) := fun r hr => by rw [← hr, strOfNums_bytes]
    refine Ev.bindc ht (Ev.ite_pos (by omega) (Ev.ite_pos ?_ (Ev.done (fits _ ?_))))
    ·rw [ByteArray.size_append]
     show 1 + t.size + 1 ≤ _
     omega
    ·rw [hs, bytes_app, bytes_app, hbt, hW]
     simp [bytesOf]
   | succ m im =>
    intro j W hj hWl hW
    have hjl : j < l.length := by omega
    rw [drop_getD z54 l j hjl, List.map_cons] at hW
    have hy := getD_mem z54 l j hjl
    have oky := hok _ hy
    have hm := segs_len_mem true (l.map sayA) _ (List.mem_map.2 ⟨_, hy, rfl⟩)
    have hby := sayA_bytes (hl.2 _ hy)
    obtain ⟨o0, o1⟩ := hl.2 _ hy
    have iy := impl_printValue.ev o1 10 (by unfold okA at oky; simp only [Bool.and_eq_true] at oky; exact oky.2)
    have hvy := say_bytes o1
    have e1' : rd_T54 l (j : Int) = l.getD j z54 := rfl
    generalize hyv : l.getD j z54 = y at iy e1' hW hm hby hvy o0
    have hsy : (say y.f1).length < 100000000000 := by
     have e3 : (say y.f1).length ≤ (sayA y).length := by
      unfold sayA
      rw [List.length_append, List.length_append]
      omega
     omega
    have hys : (strOfNums (say y.f1)).size = (say y.f1).length := str_size _
    have hyb : bytesOf (strOfNums (say y.f1)) = say y.f1 := bytes_strOfNums _ hvy
    refine Ev.succ ?_
    simp only [impl_ArgsText.l0]
    rw [e1']
    rw [w64n hjl (by omega)]
    refine Ev.ite_pos (by omega) (Ev.ite_pos (by omega) (Ev.ite_pos (by omega) (Ev.ite_pos (by omega) (Ev.bind (iy hsy) (Ev.ite_pos ?_ (Ev.ite_pos (by omega) ?_))))))
    ·rw [ByteArray.size_append, hys]
     show y.f0.size + 2 + _ ≤ _
     omega
    ·refine im (j + 1) _ (by omega) (by rw [List.length_append]; simp [hWl]) ?_
     rw [← hW, List.map_append, List.append_assoc]
     congr 1
     rw [List.map_cons, List.map_nil, bytes_app, bytes_app, hyb]
     unfold sayA
     simp [bytesOf]
  exact loop l.length 0 [] (by omega) rfl (by rw [List.drop_zero]; rfl)

theorem impl_DirsText.ev {l : List S38} (hl : OkIDs l) (hb : (sayDs l).length < 10000000000) : Ev (fun k => impl_DirsText.f k l) (if l.all okD = true then strOfNums (sayDs l) else (⟨#[]⟩ : ByteArray)) := by
 have hn2 : l.length * 40 ≤ 140737488351232 := hl.1
 unfold impl_DirsText.f
 have ho := impl_DirsOk.ev hl
 cases hc : l.all okD with
 | false =>
  rw [hc] at ho
  exact Ev.bind ho (Ev.ite_neg (by decide) (Ev.done rfl))
 | true =>
  rw [hc] at ho
  have hok := List.all_eq_true.1 hc
  refine Ev.bind ho (Ev.ite_pos rfl ?_)
  have loop : ∀ (m j : Nat) (W : ByteArray), l.length = j + m → bytesOf W ++ sayDs (l.drop j) = sayDs l → Ev (fun k => impl_DirsText.l0 k W l (l.length : Int) j) (strOfNums (sayDs l)) := by
   intro m
   induction m with
   | zero =>
    intro j W hj hW
    refine Ev.succ ?_
    simp only [impl_DirsText.l0]
    rw [List.drop_eq_nil_of_le (show l.length ≤ j by omega), sayDs, List.append_nil] at hW
    exact Ev.ite_neg (by omega) (Ev.done (by rw [← hW, strOfNums_bytes]))
   | succ m im =>
    intro j W hj hW
    have hjl : j < l.length := by omega
    have hWl : W.size ≤ (sayDs l).length := by rw [← hW, List.length_append, size_bytes]; omega
    rw [drop_getD z38 l j hjl, sayDs] at hW
    have hy := getD_mem z38 l j hjl
    have oky := hok _ hy
    have hm := sayDs_mem l _ hy
    obtain ⟨o0, o1, o2⟩ := hl.2 _ hy
    have hvy := sayAs_bytes o2
    have okl : (l.getD j z38).f1.all okA = true := by unfold okD at oky; simp only [Bool.and_eq_true] at oky; exact oky.2
    have iy := fun h => impl_ArgsText.ev (l := (l.getD j z38).f1) ⟨o1, o2⟩ h
    rw [okl] at iy
    have e1' : rd_T38 l (j : Int) = l.getD j z38 := rfl
    generalize hyv : l.getD j z38 = y at iy e1' hW hm hvy o0
    have hsd : (sayD y).length = 2 + (y.f0.size + (sayAs y.f1).length) := by
     unfold sayD
     simp only [List.length_append, List.length_cons, List.length_nil, size_bytes]
    have hys : (strOfNums (sayAs y.f1)).size = (sayAs y.f1).length := str_size _
    have hyb : bytesOf (strOfNums (sayAs y.f1)) = sayAs y.f1 := bytes_strOfNums _ hvy
    have hs1 : ((⟨#[32, 64]⟩ : ByteArray) ++ y.f0).size = 2 + y.f0.size := by
     rw [ByteArray.size_append]
     rfl
    refine Ev.succ ?_
    simp only [impl_DirsText.l0]
    rw [e1', w64n hjl (by omega)]
    refine Ev.ite_pos (by omega) (Ev.ite_pos (by omega) (Ev.ite_pos (by omega) (Ev.ite_pos (by omega) (Ev.bind (iy (by omega)) ?_))))
    refine Ev.ite_pos ?_ (Ev.ite_pos ?_ ?_)
    ·show _ + (strOfNums (sayAs y.f1)).size ≤ _
     omega
    ·show _ + (_ ++ strOfNums (sayAs y.f1)).size ≤ _
     rw [ByteArray.size_append]
     omega
    ·refine im (j + 1) _ (by omega) ?_
     show bytesOf (W ++ (((⟨#[32, 64]⟩ : ByteArray) ++ y.f0) ++ strOfNums (sayAs y.f1))) ++ _ = _
     rw [← hW, bytes_app, bytes_app, bytes_app, hyb]
     unfold sayD
     simp [bytesOf]
  exact loop l.length 0 _ (by omega) (by rw [List.drop_zero]; rfl)

theorem laws_eqStringS.refl (l : List ByteArray) (h : l.length * 16 ≤ 140737488351232) : Ev (fun k => laws_eqStringS.f k l l) true := by
 have hn : l.length ≤ 140737488351232 := by omega
 unfold laws_eqStringS.f
 refine Ev.ite_pos rfl ?_
 refine (loop_eq ByteArray.empty ByteArray.empty l l hn rfl (F := fun k i => laws_eqStringS.l0 k l l i) (g := fun _ y z => some (decide (y.toList = z.toList))) (e := fun y z => decide (y.toList = z.toList)) (fun k i => by
  simp only [laws_eqStringS.l0, Option.bind_some, decide_eq_true_eq]; try rfl) (fun y _ z _ => Ev.done rfl) l.length 0 (by omega)).get ?_
 rw [List.drop_zero]
 exact all2_refl _ l (fun y _ => decide_eq_true rfl)

theorem laws_eqValueS.refll (l : List S52) (h : l.length * 72 ≤ 140737488351232) (hs : ∀ y ∈ l, Ev (fun k => laws_eqValueS.p.f k y.f0 y.f1 y.f2 y.f3 y.f0 y.f1 y.f2 y.f3) true) : Ev (fun k => laws_eqValueS.f k l l) true := by
 have hn : l.length ≤ 140737488351232 := by omega
 refine Ev.succ ?_
 simp only [laws_eqValueS.f]
 refine Ev.ite_pos trivial ?_
 have key : ∀ (m j : Nat), l.length = j + m → Ev (fun k => laws_eqValueS.l0 k l l j) true := by
  intro m
  induction m with
  | zero =>
   intro j hj
   refine Ev.succ ?_
   simp only [laws_eqValueS.l0]
   exact Ev.ite_neg (by omega) (Ev.done rfl)
  | succ m ih =>
   intro j hj
   have hjl : j < l.length := by omega
   refine Ev.succ ?_
   simp only [laws_eqValueS.l0]
   refine Ev.ite_pos (by omega) (Ev.ite_pos (by omega) (Ev.ite_pos (by omega) (Ev.bind (hs _ (getD_mem z52 l j hjl)) (Ev.ite_pos rfl ?_))))
   rw [w64n hjl hn]
   exact ih (j + 1) (by omega)
 exact key l.length 0 (by omega)
theorem laws_eqValue.refl {x : S52} (hx : OkI x) : Ev (fun k => laws_eqValue.f k x.f0 x.f1 x.f2 x.f3 x.f0 x.f1 x.f2 x.f3) true := by
 unfold laws_eqValue.f
 induction hx with
 | mk x h0 h1 h2 h2' h3 h3' ih =>
  refine Ev.succ ?_
  simp only [laws_eqValueS.p.f, laws_eqValue.F]
  exact Ev.ite_pos trivial (Ev.ite_pos trivial (Ev.bind (laws_eqValueS.refll x.f2 h2 ih) (Ev.ite_pos rfl (Ev.bind (laws_eqStringS.refl x.f3 h3) (Ev.ite_pos rfl (Ev.done rfl))))))

theorem laws_eqArg.refl {x : S54} (hx : OkIA x) : Ev (fun k => laws_eqArg.f k x.f0 x.f1.f0 x.f1.f1 x.f1.f2 x.f1.f3 x.f0 x.f1.f0 x.f1.f1 x.f1.f2 x.f1.f3) true := by
 obtain ⟨h0, h1⟩ := hx
 unfold laws_eqArg.f
 exact Ev.ite_pos rfl (Ev.bind (laws_eqValue.refl h1) (Ev.ite_pos rfl (Ev.done rfl)))

theorem laws_eqArgS.refl {l : List S54} (hl : OkIAs l) : Ev (fun k => laws_eqArgS.f k l l) true := by
 unfold laws_eqArgS.f
 exact Eq.list z54 l (by have := hl.1; omega) (F := fun k i => laws_eqArgS.l0 k l l i) (g := fun k y => laws_eqArg.f k y.f0 y.f1.f0 y.f1.f1 y.f1.f2 y.f1.f3 y.f0 y.f1.f0 y.f1.f1 y.f1.f2 y.f1.f3) (fun k i => by simp only [laws_eqArgS.l0]; rfl) (fun y hy => laws_eqArg.refl (hl.2 y hy))

theorem laws_eqDir.refl {x : S38} (hx : OkID x) : Ev (fun k => laws_eqDir.f k x.f0 x.f1 x.f0 x.f1) true := by
 obtain ⟨h0, h1, h1'⟩ := hx
 unfold laws_eqDir.f
 exact Ev.ite_pos rfl (Ev.bind (laws_eqArgS.refl ⟨h1, h1'⟩) (Ev.ite_pos rfl (Ev.done rfl)))

theorem laws_eqDirS.refl {l : List S38} (hl : OkIDs l) : Ev (fun k => laws_eqDirS.f k l l) true := by
 unfold laws_eqDirS.f
 exact Eq.list z38 l (by have := hl.1; omega) (F := fun k i => laws_eqDirS.l0 k l l i) (g := fun k y => laws_eqDir.f k y.f0 y.f1 y.f0 y.f1) (fun k i => by simp only [laws_eqDirS.l0]; rfl) (fun y hy => laws_eqDir.refl (hl.2 y hy))

theorem FnExactDirsText (x : List S32) (hx : OkDs x) : ∃ k, laws_FnExactDirsText.f k x = some true := by
 refine Ev.out ?_
 unfold laws_FnExactDirsText.f
 obtain ⟨t, ht, hs⟩ := laws_szDirS.ev hx 1048576 (by omega) (by omega)
 refine Ev.bind ht ?_
 by_cases h : t < 0
 ·exact Ev.ite_pos h (Ev.done rfl)
 have htot : totDs x ≤ 1048576 := by
  unfold SubL at hs
  split at hs <;> omega
 have hlen : (sayDs (x.map cd)).length < 10000000000 := by
  have := sayDs_len x hx.2
  omega
 have v := laws_toDirS.ev hx
 exact Ev.ite_neg h (Ev.bind v (Ev.bind (spec_DirsText.ev hx.cd hlen) (Ev.bind v (Ev.bind (impl_DirsText.ev hx.cd hlen) (Ev.ite_pos rfl (Ev.bind v (Ev.bind (laws_eqDirS.refl hx.cd) (Ev.ite_pos rfl (Ev.done rfl)))))))))


end Go.Proofs.YtjhagdjjlgjlbaaGreatDoor.Pure
-- narrow
