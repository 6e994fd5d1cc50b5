/- For every value (a tree of values) within reach the program's VarsIn and the reference's list the same names; the value stays as it was, and the list that comes back lies apart from it. -/
import Derived.Test.YtkcomfmdcmjagaaOFnExactVarsInx6
import Derived.Test.YtkcomfmdcmjagaaBase
namespace Go.Proofs.Ytkcomfmdcmjagaa.Pure
open Go.RowKit Go.Proofs.Ytkcomfmdcmjagaa.OFnExactVarsIn Go.Proofs.YtkcomfmdcmjagaaW.PrintWords Go.Proofs.YtkcomfmdcmjagaaW.PrintLast Go.Proofs.YtkcomfmdcmjagaaW.PrintMore Go.Proofs.Ytkcomfmdcmjagaa.Base Go.Proofs.Ytkcomfmdcmjagaa.Ix
set_option linter.unusedVariables false
set_option linter.unusedSimpArgs false

-- loops over lists, with rounds that suffice
theorem getD_of_lt {α : Type} (d : α) (l : List α) (j : Nat) (h : j < l.length) : l.getD j d = l[j] := by
  rw [List.getD_eq_getElem?_getD, List.getElem?_eq_getElem h]
  rfl
theorem getD_mem {α : Type} (d : α) (l : List α) (j : Nat) (h : j < l.length) : l.getD j d ∈ l := by
  rw [getD_of_lt d l j h]
  exact List.getElem_mem h
theorem drop_getD {α : Type} (d : α) (l : List α) (j : Nat) (h : j < l.length) : l.drop j = l.getD j d :: l.drop (j + 1) := by
  rw [getD_of_lt d l j h]
  exact List.drop_eq_getElem_cons h
theorem w64n {j n : Nat} (h : j < n) (hn : n ≤ 140737488351232) : wrap64 ((j : Int) + 1) = ((j + 1 : Nat) : Int) := by
  rw [w64 (by omega) (by omega)]
  rfl

/-- What is left of 'left' when n have been taken; below 0 where there was too little. -/
def SubL (left : Int) (n : Nat) (t : Int) : Prop := if (n : Int) ≤ left then t = left - n else t < 0

theorem loop_sz {α : Type} (d : α) (l : List α) (hn : l.length ≤ 140737488351232) {F : Nat → Int → Int → Option Int} {g : Nat → α → Int → Option Int} {c : α → Nat}
    (hF : ∀ k left i, F (k + 1) left i = if i < (l.length : Int) then (if 0 ≤ i then ((g k (l.getD i.toNat d) left).bind fun t => if t < 0 then some (-1) else F k t (wrap64 (i + 1))) else none) else some left)
    (hG : ∀ y ∈ l, ∀ left : Int, 0 ≤ left → left ≤ 1048576 → ∃ t, Ev (fun k => g k y left) t ∧ SubL left (c y) t) (m : Nat) :
    ∀ (j : Nat) (left : Int), l.length = j + m → 0 ≤ left → left ≤ 1048576 → ∃ t, Ev (fun k => F k left j) t ∧ SubL left (((l.drop j).map c).sum) t := by
  induction m with
  | zero =>
    intro j left hj h0 h1
    refine ⟨left, Ev.succ ?_, ?_⟩
    · simp only [hF]
      exact Ev.ite_neg (by omega) (Ev.done rfl)
    · rw [List.drop_eq_nil_of_le (by omega)]
      unfold SubL
      simp [h0]
  | succ m ih =>
    intro j left hj h0 h1
    have hjl : j < l.length := by omega
    obtain ⟨t, ht, hs⟩ := hG _ (getD_mem d l j hjl) left h0 h1
    rw [drop_getD d l j hjl, List.map_cons, List.sum_cons]
    by_cases hc : (c (l.getD j d) : Int) ≤ left
    · unfold SubL at hs
      rw [if_pos hc] at hs
      obtain ⟨u, hu, hs2⟩ := ih (j + 1) t (by omega) (by omega) (by omega)
      refine ⟨u, Ev.succ ?_, ?_⟩
      · simp only [hF]
        refine Ev.ite_pos (by omega) (Ev.ite_pos (by omega) (Ev.bind ht (Ev.ite_neg (by omega) ?_)))
        rw [w64n hjl hn]
        exact hu
      · unfold SubL at hs2 ⊢
        split at hs2
        · rw [if_pos (by omega)]; omega
        · rw [if_neg (by omega)]; exact hs2
    · unfold SubL at hs
      rw [if_neg hc] at hs
      refine ⟨-1, Ev.succ ?_, ?_⟩
      · simp only [hF]
        exact Ev.ite_pos (by omega) (Ev.ite_pos (by omega) (Ev.bind ht (Ev.ite_pos hs (Ev.done rfl))))
      · unfold SubL
        rw [if_neg (by omega)]
        omega

theorem loop_to {α β γ : Type} (d : α) (l : List α) (hn : l.length ≤ 140737488351232) {F : Nat → List γ → Int → Option (List γ)} {g : Nat → α → Option β} {mk : β → γ} {v : α → β}
    (hF : ∀ k acc i, F (k + 1) acc i = if i < (l.length : Int) then (if 0 ≤ i then ((g k (l.getD i.toNat d)).bind fun t => if i < (acc.length : Int) then F k (acc.set i.toNat (mk t)) (wrap64 (i + 1)) else none) else none) else some acc)
    (hG : ∀ y ∈ l, Ev (fun k => g k y) (v y)) (m : Nat) :
    ∀ (j : Nat) (acc : List γ), l.length = j + m → acc.length = l.length → Ev (fun k => F k acc j) (acc.take j ++ (l.drop j).map (fun y => mk (v y))) := by
  induction m with
  | zero =>
    intro j acc hj ha
    refine Ev.succ ?_
    simp only [hF]
    refine Ev.ite_neg (by omega) (Ev.done ?_)
    rw [List.drop_eq_nil_of_le (by omega), List.take_of_length_le (by omega)]
    simp
  | succ m ih =>
    intro j acc hj ha
    have hjl : j < l.length := by omega
    refine Ev.succ ?_
    simp only [hF]
    refine Ev.ite_pos (by omega) (Ev.ite_pos (by omega) (Ev.bind (hG _ (getD_mem d l j hjl)) (Ev.ite_pos (by omega) ?_)))
    rw [w64n hjl hn]
    refine (ih (j + 1) _ (by omega) (by rw [List.length_set]; exact ha)).get ?_
    rw [drop_getD d l j hjl, List.map_cons]
    rw [Int.toNat_natCast]
    have hja : j < acc.length := by omega
    rw [List.take_succ_eq_append_getElem (by rw [List.length_set]; omega), List.take_set_of_le (Nat.le_refl j), List.getElem_set_self]
    simp

def all2 {α β : Type} (e : α → β → Bool) : List α → List β → Bool
  | [], _ => true
  | x :: r, y :: s => e x y && all2 e r s
  | _ :: _, [] => false

theorem loop_eq {α β : Type} (d : α) (d' : β) (l : List α) (l' : List β) (hn : l.length ≤ 140737488351232) (hl : l.length = l'.length) {F : Nat → Int → Option Bool} {g : Nat → α → β → Option Bool} {e : α → β → Bool}
    (hF : ∀ k i, F (k + 1) i = if i < (l.length : Int) then (if 0 ≤ i then (if i < (l'.length : Int) then ((g k (l.getD i.toNat d) (l'.getD i.toNat d')).bind fun t => if t = true then F k (wrap64 (i + 1)) else some false) else none) else none) else some true)
    (hG : ∀ y ∈ l, ∀ z ∈ l', Ev (fun k => g k y z) (e y z)) (m : Nat) :
    ∀ (j : Nat), l.length = j + m → Ev (fun k => F k j) (all2 e (l.drop j) (l'.drop j)) := by
  induction m with
  | zero =>
    intro j hj
    refine Ev.succ ?_
    simp only [hF]
    refine Ev.ite_neg (by omega) (Ev.done ?_)
    rw [List.drop_eq_nil_of_le (by omega)]
    rfl
  | succ m ih =>
    intro j hj
    have hjl : j < l.length := by omega
    have hjl' : j < l'.length := by omega
    refine Ev.succ ?_
    simp only [hF]
    have hg := hG _ (getD_mem d l j hjl) _ (getD_mem d' l' j hjl')
    rw [drop_getD d l j hjl, drop_getD d' l' j hjl']
    rw [all2]
    cases h : e (l.getD j d) (l'.getD j d') with
    | true =>
      rw [h] at hg
      refine Ev.ite_pos (by omega) (Ev.ite_pos (by omega) (Ev.ite_pos (by omega) (Ev.bind hg (Ev.ite_pos rfl ?_))))
      rw [w64n hjl hn, Bool.true_and]
      exact ih (j + 1) (by omega)
    | false =>
      rw [h] at hg
      exact Ev.ite_pos (by omega) (Ev.ite_pos (by omega) (Ev.ite_pos (by omega) (Ev.bind hg (Ev.ite_neg (by decide) (Ev.done rfl)))))

theorem loop_all {α : Type} (d : α) (l : List α) (hn : l.length ≤ 140737488351232) {F : Nat → Int → Option Bool} {g : Nat → α → Option Bool} {e : α → Bool} {R : Bool}
    (hF : ∀ k i, F (k + 1) i = if i < (l.length : Int) then (if 0 ≤ i then ((g k (l.getD i.toNat d)).bind fun t => if t = true then F k (wrap64 (i + 1)) else some false) else none) else some R)
    (hG : ∀ y ∈ l, Ev (fun k => g k y) (e y)) (m : Nat) :
    ∀ (j : Nat), l.length = j + m → Ev (fun k => F k j) ((l.drop j).all e && R) := by
  induction m with
  | zero =>
    intro j hj
    refine Ev.succ ?_
    simp only [hF]
    refine Ev.ite_neg (by omega) (Ev.done ?_)
    rw [List.drop_eq_nil_of_le (by omega)]
    rfl
  | succ m ih =>
    intro j hj
    have hjl : j < l.length := by omega
    refine Ev.succ ?_
    simp only [hF]
    have hg := hG _ (getD_mem d l j hjl)
    rw [drop_getD d l j hjl, List.all_cons]
    cases h : e (l.getD j d) with
    | true =>
      rw [h] at hg
      refine Ev.ite_pos (by omega) (Ev.ite_pos (by omega) (Ev.bind hg (Ev.ite_pos rfl ?_)))
      rw [w64n hjl hn, Bool.true_and]
      exact ih (j + 1) (by omega)
    | false =>
      rw [h] at hg
      exact Ev.ite_pos (by omega) (Ev.ite_pos (by omega) (Ev.bind hg (Ev.ite_neg (by decide) (Ev.done rfl))))

theorem all2_refl {α : Type} (e : α → α → Bool) : ∀ (l : List α), (∀ y ∈ l, e y y = true) → all2 e l l = true
  | [], _ => rfl
  | x :: r, h => by
    rw [all2, h x List.mem_cons_self, all2_refl e r (fun y hy => h y (List.mem_cons_of_mem _ hy))]
    rfl

/-- A value within the reach. -/
inductive OkV : S25 → Prop
  | mk (x : S25) (h0 : (Lit.int .i64 x.f0).wf = true) (h1 : x.f1.size ≤ 140737488351232) (h2 : x.f2.length * 72 ≤ 140737488351232) (h2' : ∀ y ∈ x.f2, OkV y) (h3 : x.f3.length * 16 ≤ 140737488351232) (h3' : ∀ s ∈ x.f3, s.size ≤ 140737488351232) : OkV x
mutual
/-- The program's value of a law's. -/
def cv : S25 → S30
  | ⟨a, b, c, d⟩ => ⟨a, b, cvs c, d⟩
def cvs : List S25 → List S30
  | [] => []
  | x :: r => cv x :: cvs r
end
theorem cvs_map : ∀ l, cvs l = l.map cv
  | [] => by rw [cvs]; rfl
  | x :: r => by rw [cvs, cvs_map r]; rfl
theorem cv_eq (x : S25) : cv x = ⟨x.f0, x.f1, x.f2.map cv, x.f3⟩ := by
  cases x
  rw [cv, cvs_map]
/-- A value of the program within the reach. -/
inductive OkI : S30 → Prop
  | mk (x : S30) (h0 : (Lit.int .i64 x.f0).wf = true) (h1 : x.f1.size ≤ 140737488351232) (h2 : x.f2.length * 72 ≤ 140737488351232) (h2' : ∀ y ∈ x.f2, OkI y) (h3 : x.f3.length * 16 ≤ 140737488351232) (h3' : ∀ s ∈ x.f3, s.size ≤ 140737488351232) : OkI x
theorem OkV.cv {x : S25} (h : OkV x) : OkI (cv x) := by
  induction h with
  | mk x h0 h1 h2 h2' h3 h3' ih =>
    rw [cv_eq]
    refine ⟨_, h0, h1, ?_, ?_, h3, h3'⟩
    · show (x.f2.map Pure.cv).length * 72 ≤ _
      rw [List.length_map]
      exact h2
    · intro y hy
      obtain ⟨z, hz, rfl⟩ := List.mem_map.1 hy
      exact ih z hz
theorem eta30 (x : S30) : (⟨x.f0, x.f1, x.f2, x.f3⟩ : S30) = x := by cases x; rfl
def totStrs (l : List ByteArray) : Nat := l.length + (l.map (·.size)).sum
mutual
/-- How many signs and places a value holds. -/
def totV : S25 → Nat
  | ⟨_, b, c, d⟩ => b.size + (c.length + totVs c) + totStrs d
def totVs : List S25 → Nat
  | [] => 0
  | x :: r => totV x + totVs r
end
theorem totVs_sum : ∀ l, totVs l = (l.map totV).sum
  | [] => by rw [totVs]; rfl
  | x :: r => by rw [totVs, totVs_sum r]; rfl
theorem totV_eq (x : S25) : totV x = x.f1.size + (x.f2.length + (x.f2.map totV).sum) + totStrs x.f3 := by
  cases x
  rw [totV, totVs_sum]

theorem laws_szStringS.ev (l : List ByteArray) (h : l.length * 16 ≤ 140737488351232) (hs : ∀ s ∈ l, s.size ≤ 140737488351232) (left : Int) (h0 : 0 ≤ left) (h1 : left ≤ 1048576) :
    ∃ t, Ev (fun k => laws_szStringS.f k l left) t ∧ SubL left (totStrs l) t := by
  have hn : l.length ≤ 140737488351232 := by omega
  unfold laws_szStringS.f totStrs
  rw [w64 (x := left - (l.length : Int)) (by omega) (by omega)]
  by_cases hc : left - (l.length : Int) < 0
  · refine ⟨-1, Ev.ite_pos hc (Ev.done rfl), ?_⟩
    unfold SubL
    rw [if_neg (by omega)]
    omega
  · obtain ⟨t, ht, hs2⟩ := loop_sz ByteArray.empty l hn (F := fun k left i => laws_szStringS.l0 k l left i) (g := fun _ y left => some (wrap64 (left - (y.size : Int)))) (c := fun y => y.size)
      (fun k left i => by simp only [laws_szStringS.l0]; rfl)
      (fun y hy left h0 h1 => ⟨left - y.size, Ev.done (w64 (by have := hs y hy; omega) (by omega)), by unfold SubL; split <;> omega⟩) l.length 0 (left - (l.length : Int)) (by omega) (by omega) (by omega)
    refine ⟨t, Ev.ite_neg hc ht, ?_⟩
    rw [List.drop_zero] at hs2
    unfold SubL at hs2 ⊢
    split at hs2
    · rw [if_pos (by omega)]; omega
    · rw [if_neg (by omega)]; exact hs2

theorem laws_szValueS.evl (l : List S25) (h : l.length * 72 ≤ 140737488351232) (hs : ∀ y ∈ l, ∀ left : Int, 0 ≤ left → left ≤ 1048576 → ∃ t, Ev (fun k => laws_szValueS.p.f k y.f0 y.f1 y.f2 y.f3 left) t ∧ SubL left (totV y) t)
    (left : Int) (h0 : 0 ≤ left) (h1 : left ≤ 1048576) : ∃ t, Ev (fun k => laws_szValueS.f k l left) t ∧ SubL left (l.length + (l.map totV).sum) t := by
  have hn : l.length ≤ 140737488351232 := by omega
  have hw : wrap64 (left - (l.length : Int)) = left - (l.length : Int) := w64 (by omega) (by omega)
  by_cases hc : left - (l.length : Int) < 0
  · refine ⟨-1, Ev.succ ?_, ?_⟩
    · simp only [laws_szValueS.f, hw]
      exact Ev.ite_pos hc (Ev.done rfl)
    · unfold SubL
      rw [if_neg (by omega)]
      omega
  · obtain ⟨t, ht, hs2⟩ := loop_sz z25 l hn (F := fun k left i => laws_szValueS.l0 k l left i) (g := fun k y left => laws_szValueS.p.f k y.f0 y.f1 y.f2 y.f3 left) (c := totV)
      (fun k left i => by simp only [laws_szValueS.l0]; rfl) hs l.length 0 (left - (l.length : Int)) (by omega) (by omega) (by omega)
    refine ⟨t, Ev.succ ?_, ?_⟩
    · simp only [laws_szValueS.f, hw]
      exact Ev.ite_neg hc ht
    · rw [List.drop_zero] at hs2
      unfold SubL at hs2 ⊢
      split at hs2
      · rw [if_pos (by omega)]; omega
      · rw [if_neg (by omega)]; exact hs2
theorem laws_szValue.ev {x : S25} (hx : OkV x) : ∀ left : Int, 0 ≤ left → left ≤ 1048576 → ∃ t, Ev (fun k => laws_szValue.f k x.f0 x.f1 x.f2 x.f3 left) t ∧ SubL left (totV x) t := by
  unfold laws_szValue.f
  induction hx with
  | mk x h0 h1 h2 h2' h3 h3' ih =>
    intro left hl0 hl1
    have hw : wrap64 (left - (x.f1.size : Int)) = left - (x.f1.size : Int) := w64 (by omega) (by omega)
    by_cases hc : left - (x.f1.size : Int) < 0
    · refine ⟨-1, Ev.succ ?_, ?_⟩
      · simp only [laws_szValueS.p.f, laws_szValue.F, hw]
        exact Ev.ite_pos hc (Ev.done rfl)
      · unfold SubL
        rw [totV_eq, if_neg (by omega)]
        omega
    · obtain ⟨t, ht, hs⟩ := laws_szValueS.evl x.f2 h2 ih (left - (x.f1.size : Int)) (by omega) (by omega)
      by_cases hd : t < 0
      · refine ⟨-1, Ev.succ ?_, ?_⟩
        · simp only [laws_szValueS.p.f, laws_szValue.F, hw]
          exact Ev.ite_neg hc (Ev.bind ht (Ev.ite_pos hd (Ev.done rfl)))
        · unfold SubL at hs ⊢
          rw [totV_eq]
          split at hs
          · omega
          · rw [if_neg (by omega)]; omega
      · have ht2 : t = left - (x.f1.size : Int) - ((x.f2.length + (x.f2.map totV).sum : Nat) : Int) ∧ (((x.f2.length + (x.f2.map totV).sum : Nat) : Int)) ≤ left - (x.f1.size : Int) := by
          unfold SubL at hs
          split at hs
          · exact ⟨hs, by assumption⟩
          · omega
        obtain ⟨u, hu, hs2⟩ := laws_szStringS.ev x.f3 h3 h3' t (by omega) (by omega)
        by_cases he : u < 0
        · refine ⟨-1, Ev.succ ?_, ?_⟩
          · simp only [laws_szValueS.p.f, laws_szValue.F, hw]
            exact Ev.ite_neg hc (Ev.bind ht (Ev.ite_neg hd (Ev.bind hu (Ev.ite_pos he (Ev.done rfl)))))
          · unfold SubL at hs2 ⊢
            rw [totV_eq]
            split at hs2
            · omega
            · rw [if_neg (by omega)]; omega
        · refine ⟨u, Ev.succ ?_, ?_⟩
          · simp only [laws_szValueS.p.f, laws_szValue.F, hw]
            exact Ev.ite_neg hc (Ev.bind ht (Ev.ite_neg hd (Ev.bind hu (Ev.ite_neg he (Ev.done rfl)))))
          · unfold SubL at hs2 ⊢
            rw [totV_eq]
            split at hs2
            · rw [if_pos (by omega)]; omega
            · omega

theorem laws_toStringS.ev (l : List ByteArray) (h : l.length * 16 ≤ 140737488351232) : Ev (fun k => laws_toStringS.f k l) l := by
  have hn : l.length ≤ 140737488351232 := by omega
  unfold laws_toStringS.f
  refine Ev.ite_pos (by omega) (Ev.ite_pos (by omega) ?_)
  refine (loop_to ByteArray.empty l hn (F := fun k acc i => laws_toStringS.l0 k l acc i) (g := fun _ y => some y) (mk := id) (v := id) (fun k acc i => by simp only [laws_toStringS.l0]; rfl) (fun y _ => Ev.done rfl) l.length 0 _ (by omega) (by simp)).get ?_
  simp

def tup30 (x : S30) : Int × ByteArray × List S30 × List ByteArray := (x.f0, x.f1, x.f2, x.f3)
theorem laws_toValueS.evl (l : List S25) (h : l.length * 72 ≤ 140737488351232) (hs : ∀ y ∈ l, Ev (fun k => laws_toValueS.p.f k y.f0 y.f1 y.f2 y.f3) (tup30 (cv y))) : Ev (fun k => laws_toValueS.f k l) (l.map cv) := by
  have hn : l.length ≤ 140737488351232 := by omega
  refine Ev.succ ?_
  simp only [laws_toValueS.f]
  refine Ev.ite_pos (by omega) (Ev.ite_pos (by omega) ?_)
  refine (loop_to z25 l hn (F := fun k acc i => laws_toValueS.l0 k l acc i) (g := fun k y => laws_toValueS.p.f k y.f0 y.f1 y.f2 y.f3) (mk := fun t => (⟨t.1, t.2.1, t.2.2.1, t.2.2.2⟩ : S30)) (v := fun y => tup30 (cv y)) (fun k acc i => by simp only [laws_toValueS.l0]; rfl) hs l.length 0 _ (by omega) (by simp)).get ?_
  rw [List.take_zero, List.drop_zero, List.nil_append]
  exact List.map_congr_left (fun y _ => eta30 (cv y))
theorem laws_toValue.ev {x : S25} (hx : OkV x) : Ev (fun k => laws_toValue.f k x.f0 x.f1 x.f2 x.f3) (tup30 (cv x)) := by
  unfold laws_toValue.f
  induction hx with
  | mk x h0 h1 h2 h2' h3 h3' ih =>
    refine Ev.succ ?_
    simp only [laws_toValueS.p.f, laws_toValue.F]
    refine Ev.bind (laws_toValueS.evl x.f2 h2 ih) (Ev.bind (laws_toStringS.ev x.f3 h3) (Ev.done ?_))
    rw [cv_eq]
    rfl

theorem laws_eqStringS.refl (l : List ByteArray) (h : l.length * 16 ≤ 140737488351232) : Ev (fun k => laws_eqStringS.f k l l) true := by
  have hn : l.length ≤ 140737488351232 := by omega
  unfold laws_eqStringS.f
  refine Ev.ite_pos rfl ?_
  refine (loop_eq ByteArray.empty ByteArray.empty l l hn rfl (F := fun k i => laws_eqStringS.l0 k l l i) (g := fun _ y z => some (decide (y.toList = z.toList))) (e := fun y z => decide (y.toList = z.toList)) (fun k i => by
    simp only [laws_eqStringS.l0, Option.bind_some, decide_eq_true_eq]; try rfl) (fun y _ z _ => Ev.done rfl) l.length 0 (by omega)).get ?_
  rw [List.drop_zero]
  exact all2_refl _ l (fun y _ => decide_eq_true rfl)

theorem laws_eqValueS.refll (l : List S30) (h : l.length * 72 ≤ 140737488351232) (hs : ∀ y ∈ l, Ev (fun k => laws_eqValueS.p.f k y.f0 y.f1 y.f2 y.f3 y.f0 y.f1 y.f2 y.f3) true) : Ev (fun k => laws_eqValueS.f k l l) true := by
  have hn : l.length ≤ 140737488351232 := by omega
  refine Ev.succ ?_
  simp only [laws_eqValueS.f]
  refine Ev.ite_pos trivial ?_
  have key : ∀ (m j : Nat), l.length = j + m → Ev (fun k => laws_eqValueS.l0 k l l j) true := by
    intro m
    induction m with
    | zero =>
      intro j hj
      refine Ev.succ ?_
      simp only [laws_eqValueS.l0]
      exact Ev.ite_neg (by omega) (Ev.done rfl)
    | succ m ih =>
      intro j hj
      have hjl : j < l.length := by omega
      refine Ev.succ ?_
      simp only [laws_eqValueS.l0]
      refine Ev.ite_pos (by omega) (Ev.ite_pos (by omega) (Ev.ite_pos (by omega) (Ev.bind (hs _ (getD_mem z30 l j hjl)) (Ev.ite_pos rfl ?_))))
      rw [w64n hjl hn]
      exact ih (j + 1) (by omega)
  exact key l.length 0 (by omega)
theorem laws_eqValue.refl {x : S30} (hx : OkI x) : Ev (fun k => laws_eqValue.f k x.f0 x.f1 x.f2 x.f3 x.f0 x.f1 x.f2 x.f3) true := by
  unfold laws_eqValue.f
  induction hx with
  | mk x h0 h1 h2 h2' h3 h3' ih =>
    refine Ev.succ ?_
    simp only [laws_eqValueS.p.f, laws_eqValue.F]
    exact Ev.ite_pos trivial (Ev.ite_pos trivial (Ev.bind (laws_eqValueS.refll x.f2 h2 ih) (Ev.ite_pos rfl (Ev.bind (laws_eqStringS.refl x.f3 h3) (Ev.ite_pos rfl (Ev.done rfl))))))

theorem SubL.zero {left : Int} (h : 0 ≤ left) : SubL left 0 left := by unfold SubL; rw [if_pos (by omega)]; omega
theorem SubL.le {left t : Int} {n : Nat} (h : SubL left n t) (h0 : 0 ≤ left) : t ≤ left := by unfold SubL at h; split at h <;> omega
theorem SubL.stop {left t : Int} {n : Nat} (h : SubL left n t) (ht : t < 0) (m : Nat) : SubL left (n + m) (-1) := by
  unfold SubL at h ⊢
  split at h
  · omega
  · rw [if_neg (by omega)]; omega
theorem SubL.next {left t u : Int} {n m : Nat} (h : SubL left n t) (ht : ¬ t < 0) (h2 : SubL t m u) : SubL left (n + m) u := by
  unfold SubL at h h2 ⊢
  split at h
  · split at h2
    · rw [if_pos (by omega)]; omega
    · rw [if_neg (by omega)]; exact h2
  · omega
/-- What answers how much is left. -/
def Sz (g : Nat → Int → Option Int) (n : Nat) : Prop := ∀ left : Int, 0 ≤ left → left ≤ 1048576 → ∃ t, Ev (fun k => g k left) t ∧ SubL left n t
theorem Sz.end : Sz (fun _ x => some x) 0 := fun left h0 _ => ⟨left, Ev.done rfl, SubL.zero h0⟩
theorem Sz.succ {g : Nat → Int → Option Int} {n : Nat} (h : Sz (fun k x => g (k + 1) x) n) : Sz g n := fun left h0 h1 => by
  obtain ⟨t, ht, hs⟩ := h left h0 h1
  exact ⟨t, Ev.succ ht, hs⟩
theorem Sz.str (s : ByteArray) (hs : s.size ≤ 140737488351232) {g : Nat → Int → Option Int} {m : Nat} (h : Sz g m) : Sz (fun k x => if (wrap64 (x - (s.size : Int))) < 0 then some (-1) else g k (wrap64 (x - (s.size : Int)))) (s.size + m) := fun left h0 h1 => by
  have hw : wrap64 (left - (s.size : Int)) = left - (s.size : Int) := w64 (by omega) (by omega)
  have hq : SubL left s.size (left - (s.size : Int)) := by unfold SubL; split <;> omega
  by_cases hc : left - (s.size : Int) < 0
  · exact ⟨-1, by simp only [hw]; exact Ev.ite_pos hc (Ev.done rfl), hq.stop hc m⟩
  · obtain ⟨t, ht, hs⟩ := h (left - (s.size : Int)) (by omega) (by omega)
    exact ⟨t, by simp only [hw]; exact Ev.ite_neg hc ht, hq.next hc hs⟩
theorem Sz.bind {f g : Nat → Int → Option Int} {n m : Nat} (hf : Sz f n) (h : Sz g m) : Sz (fun k x => (f k x).bind fun t => if t < 0 then some (-1) else g k t) (n + m) := fun left h0 h1 => by
  obtain ⟨t, ht, hs⟩ := hf left h0 h1
  by_cases hc : t < 0
  · exact ⟨-1, Ev.bind ht (Ev.ite_pos hc (Ev.done rfl)), hs.stop hc m⟩
  · obtain ⟨u, hu, hs2⟩ := h t (by omega) (by have := hs.le h0; omega)
    exact ⟨u, Ev.bind ht (Ev.ite_neg hc hu), hs.next hc hs2⟩
theorem Sz.list {α : Type} (d : α) (l : List α) (hn : l.length ≤ 140737488351232) {F : Nat → Int → Int → Option Int} {g : Nat → α → Int → Option Int} {c : α → Nat}
    (hF : ∀ k left i, F (k + 1) left i = if i < (l.length : Int) then (if 0 ≤ i then ((g k (l.getD i.toNat d) left).bind fun t => if t < 0 then some (-1) else F k t (wrap64 (i + 1))) else none) else some left)
    (hG : ∀ y ∈ l, Sz (fun k x => g k y x) (c y)) : Sz (fun k x => if (wrap64 (x - (l.length : Int))) < 0 then some (-1) else F k (wrap64 (x - (l.length : Int))) 0) (l.length + (l.map c).sum) := fun left h0 h1 => by
  have hw : wrap64 (left - (l.length : Int)) = left - (l.length : Int) := w64 (by omega) (by omega)
  have hq : SubL left l.length (left - (l.length : Int)) := by unfold SubL; split <;> omega
  by_cases hc : left - (l.length : Int) < 0
  · exact ⟨-1, by simp only [hw]; exact Ev.ite_pos hc (Ev.done rfl), hq.stop hc _⟩
  · obtain ⟨t, ht, hs⟩ := loop_sz d l hn hF hG l.length 0 (left - (l.length : Int)) (by omega) (by omega) (by omega)
    rw [List.drop_zero] at hs
    exact ⟨t, by simp only [hw]; exact Ev.ite_neg hc ht, hq.next hc hs⟩
/-- A row made new and filled: each element's own. -/
theorem To.list {α β γ : Type} (d : α) (l : List α) (hn : l.length ≤ 140737488351232) {N : Nat} (hN : l.length ≤ N) (z : γ) {F : Nat → List γ → Int → Option (List γ)} {g : Nat → α → Option β} {mk : β → γ} {v : α → β} {c : α → γ}
    (hF : ∀ k acc i, F (k + 1) acc i = if i < (l.length : Int) then (if 0 ≤ i then ((g k (l.getD i.toNat d)).bind fun t => if i < (acc.length : Int) then F k (acc.set i.toNat (mk t)) (wrap64 (i + 1)) else none) else none) else some acc)
    (hG : ∀ y ∈ l, Ev (fun k => g k y) (v y)) (hc : ∀ y, mk (v y) = c y) :
    Ev (fun k => if 0 ≤ (l.length : Int) then (if ((l.length : Int) : Int).toNat ≤ N then F k (List.replicate ((l.length : Int) : Int).toNat z) 0 else none) else none) (l.map c) := by
  refine Ev.ite_pos (by omega) (Ev.ite_pos (by omega) ?_)
  refine (loop_to d l hn hF hG l.length 0 _ (by omega) (by simp)).get ?_
  rw [List.take_zero, List.drop_zero, List.nil_append]
  exact List.map_congr_left (fun y _ => hc y)
theorem Eq.loop {α : Type} (d : α) (l : List α) (hn : l.length ≤ 140737488351232) {F : Nat → Int → Option Bool} {g : Nat → α → Option Bool}
    (hF : ∀ k i, F (k + 1) i = if i < (l.length : Int) then (if 0 ≤ i then (if i < (l.length : Int) then ((g k (l.getD i.toNat d)).bind fun t => if t = true then F k (wrap64 (i + 1)) else some false) else none) else none) else some true)
    (hG : ∀ y ∈ l, Ev (fun k => g k y) true) : Ev (fun k => F k 0) true := by
  have key : ∀ (m j : Nat), l.length = j + m → Ev (fun k => F k j) true := by
    intro m
    induction m with
    | zero =>
      intro j hj
      refine Ev.succ ?_
      simp only [hF]
      exact Ev.ite_neg (by omega) (Ev.done rfl)
    | succ m ih =>
      intro j hj
      have hjl : j < l.length := by omega
      refine Ev.succ ?_
      simp only [hF]
      refine Ev.ite_pos (by omega) (Ev.ite_pos (by omega) (Ev.ite_pos (by omega) (Ev.bind (hG _ (getD_mem d l j hjl)) (Ev.ite_pos rfl ?_))))
      rw [w64n hjl hn]
      exact ih (j + 1) (by omega)
  exact key l.length 0 (by omega)
theorem Eq.list {α : Type} (d : α) (l : List α) (hn : l.length ≤ 140737488351232) {F : Nat → Int → Option Bool} {g : Nat → α → Option Bool}
    (hF : ∀ k i, F (k + 1) i = if i < (l.length : Int) then (if 0 ≤ i then (if i < (l.length : Int) then ((g k (l.getD i.toNat d)).bind fun t => if t = true then F k (wrap64 (i + 1)) else some false) else none) else none) else some true)
    (hG : ∀ y ∈ l, Ev (fun k => g k y) true) : Ev (fun k => if (l.length : Int) = (l.length : Int) then F k 0 else some false) true := Ev.ite_pos rfl (Eq.loop d l hn hF hG)

mutual
/-- How many signs and places the program's value holds. -/
def totI : S30 → Nat
  | ⟨_, b, c, d⟩ => b.size + (c.length + totIs c) + totStrs d
def totIs : List S30 → Nat
  | [] => 0
  | x :: r => totI x + totIs r
end
theorem totIs_sum : ∀ l, totIs l = (l.map totI).sum
  | [] => by rw [totIs]; rfl
  | x :: r => by rw [totIs, totIs_sum r]; rfl
theorem totI_eq (x : S30) : totI x = x.f1.size + (x.f2.length + (x.f2.map totI).sum) + totStrs x.f3 := by
  cases x
  rw [totI, totIs_sum]
theorem OkV.tot {x : S25} (h : OkV x) : totI (Pure.cv x) = totV x := by
  induction h with
  | mk x h0 h1 h2 h2' h3 h3' ih =>
    rw [cv_eq, totI_eq, totV_eq, List.length_map, List.map_map, List.map_congr_left (f := totI ∘ Pure.cv) (g := totV) (fun y hy => ih y hy)]
/-- Is a text among these? -/
def hasB (s : ByteArray) (l : List ByteArray) : Bool := l.any fun t => decide (t.toList = s.toList)
/-- A text behind these, if it is none of them. -/
def insB (l : List ByteArray) (s : ByteArray) : List ByteArray := if hasB s l = true then l else l ++ [s]
mutual
/-- The names in a value. -/
def vars : S30 → List ByteArray
  | ⟨a, b, c, _⟩ => if a = 1 then [b] else varsL c []
def varsL : List S30 → List ByteArray → List ByteArray
  | [], o => o
  | x :: r, o => varsL r ((vars x).foldl insB o)
end
/-- .. and behind these. -/
def onto (o : List ByteArray) (y : S30) : List ByteArray := (vars y).foldl insB o
theorem varsL_eq : ∀ l o, varsL l o = l.foldl onto o
  | [], o => by rw [varsL]; rfl
  | x :: r, o => by rw [varsL, varsL_eq r]; rfl
theorem vars_eq (x : S30) : vars x = if x.f0 = 1 then [x.f1] else x.f2.foldl onto [] := by
  cases x
  rw [vars, varsL_eq]
theorem insB_len (l : List ByteArray) (s : ByteArray) : (insB l s).length ≤ l.length + 1 := by
  unfold insB
  split <;> simp
theorem fold_len : ∀ (L o : List ByteArray), (L.foldl insB o).length ≤ o.length + L.length
  | [], o => by simp
  | s :: L, o => by
    have h1 := fold_len L (insB o s)
    have h2 := insB_len o s
    simp only [List.foldl_cons, List.length_cons]
    omega
theorem onto_len : ∀ (l : List S30) (o : List ByteArray), (∀ y ∈ l, (vars y).length ≤ 1 + totI y) → (l.foldl onto o).length ≤ o.length + (l.length + (l.map totI).sum)
  | [], o, _ => by simp
  | y :: l, o, h => by
    have h1 := onto_len l (onto o y) (fun z hz => h z (List.mem_cons_of_mem _ hz))
    have h2 := fold_len (vars y) o
    have h3 := h y List.mem_cons_self
    have h4 : (onto o y).length ≤ o.length + (vars y).length := h2
    simp only [List.foldl_cons, List.length_cons, List.map_cons, List.sum_cons]
    omega
theorem vars_len {x : S30} (hx : OkI x) : (vars x).length ≤ 1 + totI x := by
  induction hx with
  | mk x h0 h1 h2 h2' h3 h3' ih =>
    rw [vars_eq]
    split
    · simp
    · have := onto_len x.f2 [] ih
      rw [totI_eq]
      simp only [List.length_nil] at this
      omega
theorem has_ins (s t : ByteArray) (o : List ByteArray) (h : hasB s o = true) : hasB s (insB o t) = true := by
  unfold insB
  split
  · exact h
  · unfold hasB at *
    rw [List.any_append, h]
    rfl
theorem has_mono (s : ByteArray) : ∀ (L o : List ByteArray), hasB s o = true → hasB s (L.foldl insB o) = true
  | [], _, h => h
  | t :: L, o, h => has_mono s L _ (has_ins s t o h)
theorem has_new (s t : ByteArray) (o : List ByteArray) (h : t.toList = s.toList) : hasB s (insB o t) = true := by
  unfold insB
  split
  · rename_i h2
    unfold hasB at *
    rw [h] at h2
    exact h2
  · unfold hasB
    rw [List.any_append]
    simp [h]
theorem has_fold (s : ByteArray) : ∀ (acc o : List ByteArray), hasB s acc = true → hasB s (acc.foldl insB o) = true
  | [], _, h => by simp [hasB] at h
  | t :: L, o, h => by
    unfold hasB at h
    rw [List.any_cons, Bool.or_eq_true] at h
    rcases h with h | h
    · exact has_mono s L _ (has_new s t o (of_decide_eq_true h))
    · exact has_fold s L _ h
theorem ins_fold (acc o : List ByteArray) (s : ByteArray) : (insB acc s).foldl insB o = insB (acc.foldl insB o) s := by
  by_cases h : hasB s acc = true
  · rw [show insB acc s = acc from if_pos h]
    exact (if_pos (has_fold s acc o h)).symm
  · rw [show insB acc s = acc ++ [s] from if_neg h, List.foldl_append]
    rfl
theorem fold_fold : ∀ (L acc o : List ByteArray), (L.foldl insB acc).foldl insB o = L.foldl insB (acc.foldl insB o)
  | [], _, _ => rfl
  | s :: L, acc, o => by
    rw [List.foldl_cons, List.foldl_cons, fold_fold L, ins_fold]
theorem onto_fold : ∀ (l : List S30) (acc o : List ByteArray), (l.foldl onto acc).foldl insB o = l.foldl onto (acc.foldl insB o)
  | [], _, _ => rfl
  | y :: l, acc, o => by
    rw [List.foldl_cons, List.foldl_cons, onto_fold l]
    congr 1
    exact fold_fold (vars y) acc o

theorem spec_l07Vars.search (o : List ByteArray) (s : ByteArray) (ho : o.length ≤ 1073741824) (x0 : Int) (x2 : List S30) (x3 : List ByteArray) (m : Nat) : ∀ j : Nat, o.length = j + m → Ev (fun k => spec_l07Vars.l0 k o j x0 s x2 x3) (if hasB s (o.drop j) = true then o else o ++ [s]) := by
  induction m with
  | zero =>
    intro j hj
    refine Ev.succ ?_
    simp only [spec_l07Vars.l0]
    refine Ev.ite_neg (by omega) (Ev.ite_pos (by omega) (Ev.done ?_))
    rw [List.drop_eq_nil_of_le (by omega)]
    rfl
  | succ m ih =>
    intro j hj
    have hjl : j < o.length := by omega
    refine Ev.succ ?_
    simp only [spec_l07Vars.l0]
    refine Ev.ite_pos (by omega) (Ev.ite_pos (by omega) ?_)
    rw [w64n hjl (by omega), drop_getD ByteArray.empty o j hjl]
    have e : rdOf ByteArray.empty o (j : Int) = o.getD j ByteArray.empty := rfl
    rw [e]
    by_cases h : (o.getD j ByteArray.empty).toList = s.toList
    · refine Ev.ite_pos h (Ev.done ?_)
      rw [if_pos]
      unfold hasB
      rw [List.any_cons, decide_eq_true h]
      rfl
    · refine Ev.ite_neg h ((ih (j + 1) (by omega)).get ?_)
      have : hasB s (o.getD j ByteArray.empty :: o.drop (j + 1)) = hasB s (o.drop (j + 1)) := by
        unfold hasB
        rw [List.any_cons, decide_eq_false h]
        rfl
      rw [this]
theorem spec_l07Vars.items (l : List S30) (hn : l.length ≤ 1073741824) (x0 : Int) (x1 : ByteArray) (x3 : List ByteArray)
    (hs : ∀ y ∈ l, ∀ o : List ByteArray, o.length + (1 + totI y) ≤ 1073741824 → Ev (fun k => spec_l07Vars.f k y.f0 y.f1 y.f2 y.f3 o) (onto o y)) (hl : ∀ y ∈ l, (vars y).length ≤ 1 + totI y) (m : Nat) :
    ∀ (j : Nat) (o : List ByteArray), l.length = j + m → o.length + ((l.drop j).length + ((l.drop j).map totI).sum) ≤ 1073741824 → Ev (fun k => spec_l07Vars.l1 k o j x0 x1 l x3) ((l.drop j).foldl onto o) := by
  induction m with
  | zero =>
    intro j o hj hb
    refine Ev.succ ?_
    simp only [spec_l07Vars.l1]
    refine Ev.ite_neg (by omega) (Ev.done ?_)
    rw [List.drop_eq_nil_of_le (by omega)]
    rfl
  | succ m ih =>
    intro j o hj hb
    have hjl : j < l.length := by omega
    rw [drop_getD z30 l j hjl] at hb ⊢
    simp only [List.length_cons, List.map_cons, List.sum_cons] at hb
    have hm := getD_mem z30 l j hjl
    have h4 : (onto o (l.getD j z30)).length ≤ o.length + (vars (l.getD j z30)).length := fold_len _ _
    have h5 := hl _ hm
    refine Ev.succ ?_
    simp only [spec_l07Vars.l1]
    refine Ev.ite_pos (by omega) (Ev.ite_pos (by omega) (Ev.bind (hs _ hm o (by omega)) ?_))
    rw [w64n hjl (by omega)]
    exact ih (j + 1) _ (by omega) (by omega)
theorem spec_l07Vars.ev {x : S30} (hx : OkI x) : ∀ o : List ByteArray, o.length + (1 + totI x) ≤ 1073741824 → Ev (fun k => spec_l07Vars.f k x.f0 x.f1 x.f2 x.f3 o) (onto o x) := by
  induction hx with
  | mk x h0 h1 h2 h2' h3 h3' ih =>
    intro o hb
    rw [totI_eq] at hb
    refine Ev.succ ?_
    simp only [spec_l07Vars.f]
    unfold onto
    rw [vars_eq]
    by_cases h : x.f0 = 1
    · rw [if_pos h]
      refine Ev.ite_pos h ((spec_l07Vars.search o x.f1 (by omega) x.f0 x.f2 x.f3 o.length 0 (by omega)).get ?_)
      rfl
    · rw [if_neg h]
      refine Ev.ite_neg h ((spec_l07Vars.items x.f2 (by omega) x.f0 x.f1 x.f3 ih (fun y hy => vars_len (h2' y hy)) x.f2.length 0 o (by omega) (by rw [List.drop_zero]; omega)).get ?_)
      rw [List.drop_zero, onto_fold]
      rfl

theorem spec_VarsIn.ev {x : S30} (hx : OkI x) (hb : 1 + totI x ≤ 1073741824) : Ev (fun k => spec_VarsIn.f k x.f0 x.f1 x.f2 x.f3) (onto [] x) := by
  unfold spec_VarsIn.f
  exact Ev.bind (spec_l07Vars.ev hx [] (by simpa using hb)) (Ev.done rfl)

theorem slices_Index_string_string.evl (l : List ByteArray) (s : ByteArray) (hn : l.length ≤ 1073741824) (m : Nat) : ∀ j : Nat, l.length = j + m → ∃ r : Int, Ev (fun k => slices_Index_string_string.l0 k l s (l.length : Int) j) r ∧ decide (r ≥ 0) = hasB s (l.drop j) := by
  induction m with
  | zero =>
    intro j hj
    refine ⟨-1, Ev.succ ?_, ?_⟩
    · simp only [slices_Index_string_string.l0]
      exact Ev.ite_neg (by omega) (Ev.done rfl)
    · rw [List.drop_eq_nil_of_le (by omega)]
      rfl
  | succ m ih =>
    intro j hj
    have hjl : j < l.length := by omega
    have e : rdOf ByteArray.empty l (j : Int) = l.getD j ByteArray.empty := rfl
    rw [drop_getD ByteArray.empty l j hjl]
    by_cases h : s.toList = (l.getD j ByteArray.empty).toList
    · refine ⟨j, Ev.succ ?_, ?_⟩
      · simp only [slices_Index_string_string.l0]
        rw [e]
        exact Ev.ite_pos (by omega) (Ev.ite_pos (by omega) (Ev.ite_pos (by omega) (Ev.ite_pos h (Ev.done rfl))))
      · unfold hasB
        rw [List.any_cons, decide_eq_true h.symm, decide_eq_true (by omega)]
        rfl
    · obtain ⟨r, hr, hd⟩ := ih (j + 1) (by omega)
      refine ⟨r, Ev.succ ?_, ?_⟩
      · simp only [slices_Index_string_string.l0]
        rw [e, w64n hjl (by omega)]
        exact Ev.ite_pos (by omega) (Ev.ite_pos (by omega) (Ev.ite_pos (by omega) (Ev.ite_neg h hr)))
      · rw [hd]
        unfold hasB
        rw [List.any_cons, decide_eq_false (fun h2 => h h2.symm)]
        rfl

theorem slices_Contains_string_string.ev (l : List ByteArray) (s : ByteArray) (hn : l.length ≤ 1073741824) : Ev (fun k => slices_Contains_string_string.f k l s) (hasB s l) := by
  unfold slices_Contains_string_string.f slices_Index_string_string.f
  obtain ⟨r, hr, hd⟩ := slices_Index_string_string.evl l s hn l.length 0 (by omega)
  exact Ev.bind hr (Ev.done hd)

theorem mem_sum {α : Type} (f : α → Nat) : ∀ {l : List α} {y : α}, y ∈ l → f y ≤ (l.map f).sum
  | x :: r, y, h => by
    rw [List.map_cons, List.sum_cons]
    rcases List.mem_cons.1 h with rfl | h
    · omega
    · have := mem_sum f h
      omega
theorem impl_VarsIn.inner (l : List S30) (n j : Int) (vs : List ByteArray) (hn : vs.length ≤ 1073741824) {R : List ByteArray} (m : Nat) : ∀ (i : Nat) (o : List ByteArray), vs.length = i + m → o.length + m ≤ 1073741824 →
    Ev (fun k => impl_VarsIn.l0 k ((vs.drop i).foldl insB o) l n (wrap64 (j + 1))) R → Ev (fun k => impl_VarsIn.l1 k o l n j vs (vs.length : Int) i) R := by
  induction m with
  | zero =>
    intro i o hi hb hR
    rw [List.drop_eq_nil_of_le (by omega)] at hR
    refine Ev.succ ?_
    simp only [impl_VarsIn.l1]
    exact Ev.ite_neg (by omega) hR
  | succ m ih =>
    intro i o hi hb hR
    have hil : i < vs.length := by omega
    have e : rdOf ByteArray.empty vs (i : Int) = vs.getD i ByteArray.empty := rfl
    rw [drop_getD ByteArray.empty vs i hil, List.foldl_cons] at hR
    refine Ev.succ ?_
    simp only [impl_VarsIn.l1]
    rw [e, w64n hil (by omega)]
    refine Ev.ite_pos (by omega) (Ev.ite_pos (by omega) (Ev.ite_pos (by omega) (Ev.bind (slices_Contains_string_string.ev o _ (by omega)) ?_)))
    by_cases h : hasB (vs.getD i ByteArray.empty) o = true
    · rw [show insB o (vs.getD i ByteArray.empty) = o from if_pos h] at hR
      exact Ev.ite_pos h (ih (i + 1) o (by omega) (by omega) hR)
    · rw [show insB o (vs.getD i ByteArray.empty) = o ++ [vs.getD i ByteArray.empty] from if_neg h] at hR
      exact Ev.ite_neg h (Ev.ite_pos (by omega) (ih (i + 1) _ (by omega) (by rw [List.length_append, List.length_singleton]; omega) hR))
theorem impl_VarsIn.items (l : List S30) (hn : l.length ≤ 1073741824) (hs : ∀ y ∈ l, Ev (fun k => impl_VarsIn.f k y.f0 y.f1 y.f2 y.f3) (vars y)) (hl : ∀ y ∈ l, (vars y).length ≤ 1 + totI y) (m : Nat) :
    ∀ (j : Nat) (o : List ByteArray), l.length = j + m → o.length + ((l.drop j).length + ((l.drop j).map totI).sum) ≤ 1073741824 → Ev (fun k => impl_VarsIn.l0 k o l (l.length : Int) j) ((l.drop j).foldl onto o) := by
  induction m with
  | zero =>
    intro j o hj hb
    refine Ev.succ ?_
    simp only [impl_VarsIn.l0]
    refine Ev.ite_neg (by omega) (Ev.done ?_)
    rw [List.drop_eq_nil_of_le (by omega)]
    rfl
  | succ m ih =>
    intro j o hj hb
    have hjl : j < l.length := by omega
    rw [drop_getD z30 l j hjl] at hb ⊢
    simp only [List.length_cons, List.map_cons, List.sum_cons] at hb
    have hm := getD_mem z30 l j hjl
    have h4 : (onto o (l.getD j z30)).length ≤ o.length + (vars (l.getD j z30)).length := fold_len _ _
    have h5 := hl _ hm
    refine Ev.succ ?_
    simp only [impl_VarsIn.l0]
    have e : rd_T30 l (j : Int) = l.getD j z30 := rfl
    rw [e]
    refine Ev.ite_pos (by omega) (Ev.ite_pos (by omega) (Ev.ite_pos (by omega) (Ev.bind (hs _ hm) ?_)))
    refine impl_VarsIn.inner l _ j _ (by omega) (vars (l.getD j z30)).length 0 o (by omega) (by omega) ?_
    rw [w64n hjl (by omega)]
    exact ih (j + 1) _ (by omega) (by rw [List.drop_zero]; show (onto o _).length + _ ≤ _; omega)
theorem impl_VarsIn.ev {x : S30} (hx : OkI x) : 1 + totI x ≤ 1073741824 → Ev (fun k => impl_VarsIn.f k x.f0 x.f1 x.f2 x.f3) (vars x) := by
  induction hx with
  | mk x h0 h1 h2 h2' h3 h3' ih =>
    intro hb
    rw [totI_eq] at hb
    refine Ev.succ ?_
    simp only [impl_VarsIn.f]
    rw [vars_eq]
    by_cases h : x.f0 = 1
    · rw [if_pos h]
      exact Ev.ite_pos h (Ev.done rfl)
    · rw [if_neg h]
      refine Ev.ite_neg h ((impl_VarsIn.items x.f2 (by omega) (fun y hy => ih y hy ?_) (fun y hy => vars_len (h2' y hy)) x.f2.length 0 [] (by omega) (by rw [List.drop_zero]; simp only [List.length_nil]; omega)).get rfl)
      have := mem_sum totI hy
      have : 1 ≤ x.f2.length := List.length_pos_of_mem hy
      omega

theorem laws_markText.evl : ∀ (n : Nat) (s : ByteArray), s.size + n ≤ 4611686018427387904 → ∃ t, Ev (fun k => laws_markText.l0 k (n : Int) s) t := by
  intro n
  induction n using Nat.strongRecOn with
  | _ n ih =>
    intro s hs
    by_cases h : n = 0
    · subst h
      refine ⟨(⟨#[109]⟩ : ByteArray) ++ s, Ev.succ ?_⟩
      simp only [laws_markText.l0]
      exact Ev.ite_neg (by omega) (Ev.ite_pos (by omega) (Ev.done rfl))
    · have hd : (Int.tdiv (n : Int) 10) = ((n / 10 : Nat) : Int) := by
        rw [Int.tdiv_eq_ediv_of_nonneg (by omega)]
        omega
      have hy : ∀ y : List Int, y.length = 1 → (strOfNums y).size = 1 := fun y hy => by
        have := bytesOf_length (strOfNums y)
        unfold strOfNums bytesOf at *
        simp only [List.length_map] at this
        rw [← this]
        simpa using hy
      obtain ⟨t, ht⟩ := ih (n / 10) (by omega) (strOfNums ([(wrap64 (48 + (Int.tmod (n : Int) 10))) % 256] : List Int) ++ s) (by rw [ByteArray.size_append, hy _ rfl]; omega)
      refine ⟨t, Ev.succ ?_⟩
      simp only [laws_markText.l0, Option.bind_some, hd]
      refine Ev.ite_pos (by omega) (Ev.ite_pos (by rw [hy _ rfl]; omega) ?_)
      rw [w64 (by omega) (by omega)]
      exact ht
theorem laws_markText.ev (a : Int) (h0 : 0 < a) (h1 : a ≤ 1099511627776) : ∃ t, Ev (fun k => laws_markText.f k a) t := by
  obtain ⟨n, rfl⟩ := Int.eq_ofNat_of_zero_le (Int.le_of_lt h0)
  obtain ⟨t, ht⟩ := laws_markText.evl n ⟨#[]⟩ (by show 0 + n ≤ _; omega)
  refine ⟨t, ?_⟩
  unfold laws_markText.f
  exact Ev.ite_neg (by omega) ht
/-- A text for each number: what the marks are. -/
def Marks (T : Int → ByteArray) : Prop := ∀ a : Int, 0 < a → a ≤ 1099511627776 → Ev (fun k => laws_markText.f k a) (T a)
theorem marks : ∃ T, Marks T := by
  have h : ∀ a : Int, ∃ t : ByteArray, 0 < a → a ≤ 1099511627776 → Ev (fun k => laws_markText.f k a) t := fun a => by
    by_cases h0 : 0 < a
    · by_cases h1 : a ≤ 1099511627776
      · obtain ⟨t, ht⟩ := laws_markText.ev a h0 h1
        exact ⟨t, fun _ _ => ht⟩
      · exact ⟨⟨#[]⟩, fun _ h => absurd h h1⟩
    · exact ⟨⟨#[]⟩, fun h => absurd h h0⟩
  obtain ⟨T, hT⟩ := Classical.skolem.1 h
  exact ⟨T, hT⟩
/-- The marks from a on. -/
def mks (T : Int → ByteArray) : Nat → Int → List ByteArray
  | 0, _ => []
  | n + 1, a => T a :: mks T n (a + 1)
theorem mks_length (T : Int → ByteArray) : ∀ n a, (mks T n a).length = n
  | 0, _ => rfl
  | n + 1, a => by rw [mks, List.length_cons, mks_length T n]

mutual
/-- How many marks a value takes. -/
def mkc : S30 → Nat
  | ⟨_, _, c, d⟩ => 2 + mkcs c + d.length
def mkcs : List S30 → Nat
  | [] => 0
  | x :: r => mkc x + mkcs r
end
theorem mkcs_sum : ∀ l, mkcs l = (l.map mkc).sum
  | [] => by rw [mkcs]; rfl
  | x :: r => by rw [mkcs, mkcs_sum r]; rfl
theorem mkc_eq (x : S30) : mkc x = 2 + mkcs x.f2 + x.f3.length := by
  cases x
  rw [mkc]
theorem mkcs_le : ∀ l : List S30, (∀ y ∈ l, mkc y ≤ 2 + 2 * totI y) → mkcs l ≤ 2 * (l.length + (l.map totI).sum)
  | [], _ => by rw [mkcs]; omega
  | x :: r, h => by
    have h1 := mkcs_le r (fun y hy => h y (List.mem_cons_of_mem _ hy))
    have h2 := h x List.mem_cons_self
    rw [mkcs]
    simp only [List.length_cons, List.map_cons, List.sum_cons]
    omega
theorem mkc_le {x : S30} (hx : OkI x) : mkc x ≤ 2 + 2 * totI x := by
  induction hx with
  | mk x h0 h1 h2 h2' h3 h3' ih =>
    have := mkcs_le x.f2 ih
    rw [mkc_eq, totI_eq]
    unfold totStrs
    omega

theorem mS.ev : ∀ (n : Nat) (a : Int), 0 < a → a + n ≤ 4294967296 → Ev (fun k => mS k n a) (a + n)
  | 0, a, _, _ => Ev.done (by omega)
  | n + 1, a, h0, h1 => by
    obtain ⟨t, ht⟩ := laws_markText.ev a h0 (by omega)
    simp only [mS]
    refine Ev.bind ht ?_
    rw [w64 (by omega) (by omega)]
    exact (mS.ev n (a + 1) (by omega) (by omega)).get (by omega)
theorem mV.ev : ∀ (l : List S30), (∀ y ∈ l, ∀ a : Int, 0 < a → a + mkcs y.f2 ≤ 4294967296 → Ev (fun k => mV k y.f2 a) (a + mkcs y.f2)) → ∀ a : Int, 0 < a → a + mkcs l ≤ 4294967296 → Ev (fun k => mV k l a) (a + mkcs l)
  | [], _, a, _, _ => Ev.succ (by simp only [mV]; exact Ev.done (by rw [mkcs]; omega))
  | x :: r, h, a, h0, h1 => by
    rw [mkcs, mkc_eq] at h1 ⊢
    obtain ⟨t, ht⟩ := laws_markText.ev (a + 1) (by omega) (by omega)
    refine Ev.succ ?_
    simp only [mV]
    rw [w64 (x := a + 1) (by omega) (by omega), w64 (x := a + 1 + 1) (by omega) (by omega)]
    refine Ev.bind ht (Ev.bind (h x List.mem_cons_self (a + 1 + 1) (by omega) (by omega)) (Ev.bind (mS.ev x.f3.length _ (by omega) (by omega)) ?_))
    exact (mV.ev r (fun y hy => h y (List.mem_cons_of_mem _ hy)) _ (by omega) (by omega)).get (by omega)
theorem mV.evx {x : S30} (hx : OkI x) : ∀ a : Int, 0 < a → a + mkcs x.f2 ≤ 4294967296 → Ev (fun k => mV k x.f2 a) (a + mkcs x.f2) := by
  induction hx with
  | mk x h0 h1 h2 h2' h3 h3' ih => exact mV.ev x.f2 ih
theorem laws_markValue.ev {x : S30} (hx : OkI x) (a : Int) (h0 : 0 < a) (h1 : a + mkc x ≤ 4294967296) : Ev (fun k => laws_markValue.f k x.f0 x.f1 x.f2 x.f3 a) (a + mkcs x.f2 + x.f3.length) := by
  rw [mkc_eq] at h1
  unfold laws_markValue.f
  exact Ev.bind (mV.evx hx a h0 (by omega)) (mS.ev _ _ (by omega) (by omega))

theorem laws_markStringS.evl {T : Int → ByteArray} (hT : Marks T) (m : Nat) : ∀ (j : Nat) (acc : List ByteArray) (b : Int), acc.length = j + m → acc.length ≤ 1073741824 → 0 < b → b + m ≤ 4294967296 → Ev (fun k => laws_markStringS.l0 k acc b j) (b + m, acc.take j ++ mks T m b) := by
  induction m with
  | zero =>
    intro j acc b hj hn h0 h1
    refine Ev.succ ?_
    simp only [laws_markStringS.l0]
    refine Ev.ite_neg (by omega) (Ev.done ?_)
    rw [List.take_of_length_le (by omega), mks, List.append_nil]
    simp
  | succ m ih =>
    intro j acc b hj hn h0 h1
    refine Ev.succ ?_
    simp only [laws_markStringS.l0]
    refine Ev.ite_pos (by omega) (Ev.bind (hT b h0 (by omega)) (Ev.ite_pos (by omega) ?_))
    rw [w64n (j := j) (n := acc.length) (by omega) (by omega), w64 (by omega) (by omega)]
    refine (ih (j + 1) (acc.set j (T b)) (b + 1) (by rw [List.length_set]; omega) (by rw [List.length_set]; omega) (by omega) (by omega)).get ?_
    rw [mks]
    have hj2 : j < acc.length := by omega
    refine Prod.ext (by simp; omega) ?_
    show (acc.set j (T b)).take (j + 1) ++ mks T m (b + 1) = acc.take j ++ T b :: mks T m (b + 1)
    rw [List.take_succ_eq_append_getElem (by rw [List.length_set]; exact hj2), List.getElem_set_self, List.take_set_of_le (Nat.le_refl _), List.append_assoc]
    rfl
theorem laws_markStringS.ev {T : Int → ByteArray} (hT : Marks T) (l : List ByteArray) (hn : l.length ≤ 1073741824) (a : Int) (h0 : 0 < a) (h2 : a + l.length ≤ 4294967296) : Ev (fun k => laws_markStringS.f k l a) (a + l.length, mks T l.length a) := by
  unfold laws_markStringS.f
  exact laws_markStringS.evl hT l.length 0 l a (by omega) hn h0 h2

theorem laws_heldStringS.evl {T : Int → ByteArray} (hT : Marks T) (l : List ByteArray) (hn : l.length ≤ 1073741824) (m : Nat) : ∀ (j : Nat) (b : Int), l.length = j + m → l.drop j = mks T m b → 0 < b → b + m ≤ 4294967296 → Ev (fun k => laws_heldStringS.l0 k l b j) (b + m) := by
  induction m with
  | zero =>
    intro j b hj hd h0 h1
    refine Ev.succ ?_
    simp only [laws_heldStringS.l0]
    exact Ev.ite_neg (by omega) (Ev.done (by omega))
  | succ m ih =>
    intro j b hj hd h0 h1
    have hjl : j < l.length := by omega
    rw [drop_getD ByteArray.empty l j hjl, mks] at hd
    injection hd with hd1 hd2
    refine Ev.succ ?_
    simp only [laws_heldStringS.l0]
    refine Ev.ite_pos (by omega) (Ev.ite_pos (by omega) (Ev.bind (hT b h0 (by omega)) (Ev.ite_pos ?_ ?_)))
    · rw [← hd1]
      rfl
    · rw [w64n hjl (by omega), w64 (by omega) (by omega)]
      exact (ih (j + 1) (b + 1) (by omega) hd2 (by omega) (by omega)).get (by omega)
theorem laws_heldStringS.ev {T : Int → ByteArray} (hT : Marks T) (n : Nat) (hn : n ≤ 1073741824) (a : Int) (h0 : 0 < a) (h2 : a + n ≤ 4294967296) : Ev (fun k => laws_heldStringS.f k (mks T n a) a) (a + n) := by
  unfold laws_heldStringS.f
  exact laws_heldStringS.evl hT _ (by rw [mks_length]; exact hn) n 0 a (by rw [mks_length]; omega) rfl h0 h2

theorem FnExactVarsIn (x : S25) (hx : OkV x) : ∃ k, laws_FnExactVarsIn.f k x.f0 x.f1 x.f2 x.f3 = some true := by
  refine Ev.out ?_
  unfold laws_FnExactVarsIn.f
  obtain ⟨t, ht, hs⟩ := laws_szValue.ev hx 1048576 (by omega) (by omega)
  refine Ev.bind ht ?_
  by_cases h : t < 0
  · exact Ev.ite_pos h (Ev.done rfl)
  refine Ev.ite_neg h ?_
  have hb : totI (cv x) ≤ 1048576 := by
    rw [hx.tot]
    unfold SubL at hs
    split at hs <;> omega
  have hc := hx.cv
  have hm := mkc_le hc
  have hl := vars_len hc
  have v := laws_toValue.ev hx
  obtain ⟨T, hT⟩ := marks
  have e : onto [] (cv x) = vars (cv x) := by
    unfold onto
    rw [vars_eq]
    split
    · rfl
    · rw [onto_fold]
      rfl
  have hS := (spec_VarsIn.ev hc (by omega)).get e
  have hI := impl_VarsIn.ev hc (by omega)
  have hE := laws_eqStringS.refl (vars (cv x)) (by omega)
  have hM := laws_markValue.ev hc 1 (by omega) (by omega)
  have hn : ¬ ((1 : Int) + mkcs (cv x).f2 + (cv x).f3.length < 0) := by omega
  have hG := laws_markStringS.ev hT (vars (cv x)) (by omega) 1 (by omega) (by omega)
  have hH := laws_heldStringS.ev hT (vars (cv x)).length (by omega) 1 (by omega) (by omega)
  have hq : ¬ ((1 : Int) + (vars (cv x)).length < 0) := by omega
  refine Ev.bind v (Ev.bind hS (Ev.bind v (Ev.bind hI (Ev.bind hE (Ev.ite_pos rfl (Ev.bind v (Ev.bind (laws_eqValue.refl hc) (Ev.ite_pos rfl (Ev.bind hM (Ev.ite_neg hn (Ev.bind hE (Ev.succ ?_))))))))))))
  simp only [laws_FnExactVarsIn.j0]
  exact Ev.ite_neg (by decide) (Ev.bind hG (Ev.bind hH (Ev.ite_neg hq (Ev.ite_pos rfl (Ev.bind v (Ev.bind hI (Ev.bind hE (Ev.ite_pos rfl (Ev.bind hH (Ev.ite_neg hq (Ev.ite_pos rfl (Ev.done rfl))))))))))))


end Go.Proofs.Ytkcomfmdcmjagaa.Pure
