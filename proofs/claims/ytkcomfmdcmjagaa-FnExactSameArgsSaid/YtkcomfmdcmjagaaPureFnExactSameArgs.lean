/- For every two lists of arguments within reach the program's SameArgs and the reference's answer alike. -/
import Derived.Test.YtkcomfmdcmjagaaOFnExactSameArgsx7
import Derived.Test.YtkcomfmdcmjagaaBase
namespace Go.Proofs.Ytkcomfmdcmjagaa.Pure
open Go.RowKit Go.Proofs.Ytkcomfmdcmjagaa.OFnExactSameArgs Go.Proofs.YtkcomfmdcmjagaaW.PrintWords Go.Proofs.YtkcomfmdcmjagaaW.PrintLast Go.Proofs.YtkcomfmdcmjagaaW.PrintMore Go.Proofs.Ytkcomfmdcmjagaa.Base Go.Proofs.Ytkcomfmdcmjagaa.Ix
set_option linter.unusedVariables false
set_option linter.unusedSimpArgs false

-- loops over lists, with rounds that suffice
theorem getD_of_lt {α : Type} (d : α) (l : List α) (j : Nat) (h : j < l.length) : l.getD j d = l[j] := by
  rw [List.getD_eq_getElem?_getD, List.getElem?_eq_getElem h]
  rfl
theorem getD_mem {α : Type} (d : α) (l : List α) (j : Nat) (h : j < l.length) : l.getD j d ∈ l := by
  rw [getD_of_lt d l j h]
  exact List.getElem_mem h
theorem drop_getD {α : Type} (d : α) (l : List α) (j : Nat) (h : j < l.length) : l.drop j = l.getD j d :: l.drop (j + 1) := by
  rw [getD_of_lt d l j h]
  exact List.drop_eq_getElem_cons h
theorem w64n {j n : Nat} (h : j < n) (hn : n ≤ 140737488351232) : wrap64 ((j : Int) + 1) = ((j + 1 : Nat) : Int) := by
  rw [w64 (by omega) (by omega)]
  rfl

/-- What is left of 'left' when n have been taken; below 0 where there was too little. -/
def SubL (left : Int) (n : Nat) (t : Int) : Prop := if (n : Int) ≤ left then t = left - n else t < 0

theorem loop_sz {α : Type} (d : α) (l : List α) (hn : l.length ≤ 140737488351232) {F : Nat → Int → Int → Option Int} {g : Nat → α → Int → Option Int} {c : α → Nat}
    (hF : ∀ k left i, F (k + 1) left i = if i < (l.length : Int) then (if 0 ≤ i then ((g k (l.getD i.toNat d) left).bind fun t => if t < 0 then some (-1) else F k t (wrap64 (i + 1))) else none) else some left)
    (hG : ∀ y ∈ l, ∀ left : Int, 0 ≤ left → left ≤ 1048576 → ∃ t, Ev (fun k => g k y left) t ∧ SubL left (c y) t) (m : Nat) :
    ∀ (j : Nat) (left : Int), l.length = j + m → 0 ≤ left → left ≤ 1048576 → ∃ t, Ev (fun k => F k left j) t ∧ SubL left (((l.drop j).map c).sum) t := by
  induction m with
  | zero =>
    intro j left hj h0 h1
    refine ⟨left, Ev.succ ?_, ?_⟩
    · simp only [hF]
      exact Ev.ite_neg (by omega) (Ev.done rfl)
    · rw [List.drop_eq_nil_of_le (by omega)]
      unfold SubL
      simp [h0]
  | succ m ih =>
    intro j left hj h0 h1
    have hjl : j < l.length := by omega
    obtain ⟨t, ht, hs⟩ := hG _ (getD_mem d l j hjl) left h0 h1
    rw [drop_getD d l j hjl, List.map_cons, List.sum_cons]
    by_cases hc : (c (l.getD j d) : Int) ≤ left
    · unfold SubL at hs
      rw [if_pos hc] at hs
      obtain ⟨u, hu, hs2⟩ := ih (j + 1) t (by omega) (by omega) (by omega)
      refine ⟨u, Ev.succ ?_, ?_⟩
      · simp only [hF]
        refine Ev.ite_pos (by omega) (Ev.ite_pos (by omega) (Ev.bind ht (Ev.ite_neg (by omega) ?_)))
        rw [w64n hjl hn]
        exact hu
      · unfold SubL at hs2 ⊢
        split at hs2
        · rw [if_pos (by omega)]; omega
        · rw [if_neg (by omega)]; exact hs2
    · unfold SubL at hs
      rw [if_neg hc] at hs
      refine ⟨-1, Ev.succ ?_, ?_⟩
      · simp only [hF]
        exact Ev.ite_pos (by omega) (Ev.ite_pos (by omega) (Ev.bind ht (Ev.ite_pos hs (Ev.done rfl))))
      · unfold SubL
        rw [if_neg (by omega)]
        omega

theorem loop_to {α β γ : Type} (d : α) (l : List α) (hn : l.length ≤ 140737488351232) {F : Nat → List γ → Int → Option (List γ)} {g : Nat → α → Option β} {mk : β → γ} {v : α → β}
    (hF : ∀ k acc i, F (k + 1) acc i = if i < (l.length : Int) then (if 0 ≤ i then ((g k (l.getD i.toNat d)).bind fun t => if i < (acc.length : Int) then F k (acc.set i.toNat (mk t)) (wrap64 (i + 1)) else none) else none) else some acc)
    (hG : ∀ y ∈ l, Ev (fun k => g k y) (v y)) (m : Nat) :
    ∀ (j : Nat) (acc : List γ), l.length = j + m → acc.length = l.length → Ev (fun k => F k acc j) (acc.take j ++ (l.drop j).map (fun y => mk (v y))) := by
  induction m with
  | zero =>
    intro j acc hj ha
    refine Ev.succ ?_
    simp only [hF]
    refine Ev.ite_neg (by omega) (Ev.done ?_)
    rw [List.drop_eq_nil_of_le (by omega), List.take_of_length_le (by omega)]
    simp
  | succ m ih =>
    intro j acc hj ha
    have hjl : j < l.length := by omega
    refine Ev.succ ?_
    simp only [hF]
    refine Ev.ite_pos (by omega) (Ev.ite_pos (by omega) (Ev.bind (hG _ (getD_mem d l j hjl)) (Ev.ite_pos (by omega) ?_)))
    rw [w64n hjl hn]
    refine (ih (j + 1) _ (by omega) (by rw [List.length_set]; exact ha)).get ?_
    rw [drop_getD d l j hjl, List.map_cons]
    rw [Int.toNat_natCast]
    have hja : j < acc.length := by omega
    rw [List.take_succ_eq_append_getElem (by rw [List.length_set]; omega), List.take_set_of_le (Nat.le_refl j), List.getElem_set_self]
    simp

def all2 {α β : Type} (e : α → β → Bool) : List α → List β → Bool
  | [], _ => true
  | x :: r, y :: s => e x y && all2 e r s
  | _ :: _, [] => false

theorem loop_eq {α β : Type} (d : α) (d' : β) (l : List α) (l' : List β) (hn : l.length ≤ 140737488351232) (hl : l.length = l'.length) {F : Nat → Int → Option Bool} {g : Nat → α → β → Option Bool} {e : α → β → Bool}
    (hF : ∀ k i, F (k + 1) i = if i < (l.length : Int) then (if 0 ≤ i then (if i < (l'.length : Int) then ((g k (l.getD i.toNat d) (l'.getD i.toNat d')).bind fun t => if t = true then F k (wrap64 (i + 1)) else some false) else none) else none) else some true)
    (hG : ∀ y ∈ l, ∀ z ∈ l', Ev (fun k => g k y z) (e y z)) (m : Nat) :
    ∀ (j : Nat), l.length = j + m → Ev (fun k => F k j) (all2 e (l.drop j) (l'.drop j)) := by
  induction m with
  | zero =>
    intro j hj
    refine Ev.succ ?_
    simp only [hF]
    refine Ev.ite_neg (by omega) (Ev.done ?_)
    rw [List.drop_eq_nil_of_le (by omega)]
    rfl
  | succ m ih =>
    intro j hj
    have hjl : j < l.length := by omega
    have hjl' : j < l'.length := by omega
    refine Ev.succ ?_
    simp only [hF]
    have hg := hG _ (getD_mem d l j hjl) _ (getD_mem d' l' j hjl')
    rw [drop_getD d l j hjl, drop_getD d' l' j hjl']
    rw [all2]
    cases h : e (l.getD j d) (l'.getD j d') with
    | true =>
      rw [h] at hg
      refine Ev.ite_pos (by omega) (Ev.ite_pos (by omega) (Ev.ite_pos (by omega) (Ev.bind hg (Ev.ite_pos rfl ?_))))
      rw [w64n hjl hn, Bool.true_and]
      exact ih (j + 1) (by omega)
    | false =>
      rw [h] at hg
      exact Ev.ite_pos (by omega) (Ev.ite_pos (by omega) (Ev.ite_pos (by omega) (Ev.bind hg (Ev.ite_neg (by decide) (Ev.done rfl)))))

theorem loop_all {α : Type} (d : α) (l : List α) (hn : l.length ≤ 140737488351232) {F : Nat → Int → Option Bool} {g : Nat → α → Option Bool} {e : α → Bool} {R : Bool}
    (hF : ∀ k i, F (k + 1) i = if i < (l.length : Int) then (if 0 ≤ i then ((g k (l.getD i.toNat d)).bind fun t => if t = true then F k (wrap64 (i + 1)) else some false) else none) else some R)
    (hG : ∀ y ∈ l, Ev (fun k => g k y) (e y)) (m : Nat) :
    ∀ (j : Nat), l.length = j + m → Ev (fun k => F k j) ((l.drop j).all e && R) := by
  induction m with
  | zero =>
    intro j hj
    refine Ev.succ ?_
    simp only [hF]
    refine Ev.ite_neg (by omega) (Ev.done ?_)
    rw [List.drop_eq_nil_of_le (by omega)]
    rfl
  | succ m ih =>
    intro j hj
    have hjl : j < l.length := by omega
    refine Ev.succ ?_
    simp only [hF]
    have hg := hG _ (getD_mem d l j hjl)
    rw [drop_getD d l j hjl, List.all_cons]
    cases h : e (l.getD j d) with
    | true =>
      rw [h] at hg
      refine Ev.ite_pos (by omega) (Ev.ite_pos (by omega) (Ev.bind hg (Ev.ite_pos rfl ?_)))
      rw [w64n hjl hn, Bool.true_and]
      exact ih (j + 1) (by omega)
    | false =>
      rw [h] at hg
      exact Ev.ite_pos (by omega) (Ev.ite_pos (by omega) (Ev.bind hg (Ev.ite_neg (by decide) (Ev.done rfl))))

theorem all2_refl {α : Type} (e : α → α → Bool) : ∀ (l : List α), (∀ y ∈ l, e y y = true) → all2 e l l = true
  | [], _ => rfl
  | x :: r, h => by
    rw [all2, h x List.mem_cons_self, all2_refl e r (fun y hy => h y (List.mem_cons_of_mem _ hy))]
    rfl

/-- A value within the reach. -/
inductive OkV : S25 → Prop
  | mk (x : S25) (h0 : (Lit.int .i64 x.f0).wf = true) (h1 : x.f1.size ≤ 140737488351232) (h2 : x.f2.length * 72 ≤ 140737488351232) (h2' : ∀ y ∈ x.f2, OkV y) (h3 : x.f3.length * 16 ≤ 140737488351232) (h3' : ∀ s ∈ x.f3, s.size ≤ 140737488351232) : OkV x
mutual
/-- The program's value of a law's. -/
def cv : S25 → S30
  | ⟨a, b, c, d⟩ => ⟨a, b, cvs c, d⟩
def cvs : List S25 → List S30
  | [] => []
  | x :: r => cv x :: cvs r
end
theorem cvs_map : ∀ l, cvs l = l.map cv
  | [] => by rw [cvs]; rfl
  | x :: r => by rw [cvs, cvs_map r]; rfl
theorem cv_eq (x : S25) : cv x = ⟨x.f0, x.f1, x.f2.map cv, x.f3⟩ := by
  cases x
  rw [cv, cvs_map]
/-- A value of the program within the reach. -/
inductive OkI : S30 → Prop
  | mk (x : S30) (h0 : (Lit.int .i64 x.f0).wf = true) (h1 : x.f1.size ≤ 140737488351232) (h2 : x.f2.length * 72 ≤ 140737488351232) (h2' : ∀ y ∈ x.f2, OkI y) (h3 : x.f3.length * 16 ≤ 140737488351232) (h3' : ∀ s ∈ x.f3, s.size ≤ 140737488351232) : OkI x
theorem OkV.cv {x : S25} (h : OkV x) : OkI (cv x) := by
  induction h with
  | mk x h0 h1 h2 h2' h3 h3' ih =>
    rw [cv_eq]
    refine ⟨_, h0, h1, ?_, ?_, h3, h3'⟩
    · show (x.f2.map Pure.cv).length * 72 ≤ _
      rw [List.length_map]
      exact h2
    · intro y hy
      obtain ⟨z, hz, rfl⟩ := List.mem_map.1 hy
      exact ih z hz
theorem eta30 (x : S30) : (⟨x.f0, x.f1, x.f2, x.f3⟩ : S30) = x := by cases x; rfl
def totStrs (l : List ByteArray) : Nat := l.length + (l.map (·.size)).sum
mutual
/-- How many signs and places a value holds. -/
def totV : S25 → Nat
  | ⟨_, b, c, d⟩ => b.size + (c.length + totVs c) + totStrs d
def totVs : List S25 → Nat
  | [] => 0
  | x :: r => totV x + totVs r
end
theorem totVs_sum : ∀ l, totVs l = (l.map totV).sum
  | [] => by rw [totVs]; rfl
  | x :: r => by rw [totVs, totVs_sum r]; rfl
theorem totV_eq (x : S25) : totV x = x.f1.size + (x.f2.length + (x.f2.map totV).sum) + totStrs x.f3 := by
  cases x
  rw [totV, totVs_sum]

theorem laws_szStringS.ev (l : List ByteArray) (h : l.length * 16 ≤ 140737488351232) (hs : ∀ s ∈ l, s.size ≤ 140737488351232) (left : Int) (h0 : 0 ≤ left) (h1 : left ≤ 1048576) :
    ∃ t, Ev (fun k => laws_szStringS.f k l left) t ∧ SubL left (totStrs l) t := by
  have hn : l.length ≤ 140737488351232 := by omega
  unfold laws_szStringS.f totStrs
  rw [w64 (x := left - (l.length : Int)) (by omega) (by omega)]
  by_cases hc : left - (l.length : Int) < 0
  · refine ⟨-1, Ev.ite_pos hc (Ev.done rfl), ?_⟩
    unfold SubL
    rw [if_neg (by omega)]
    omega
  · obtain ⟨t, ht, hs2⟩ := loop_sz ByteArray.empty l hn (F := fun k left i => laws_szStringS.l0 k l left i) (g := fun _ y left => some (wrap64 (left - (y.size : Int)))) (c := fun y => y.size)
      (fun k left i => by simp only [laws_szStringS.l0]; rfl)
      (fun y hy left h0 h1 => ⟨left - y.size, Ev.done (w64 (by have := hs y hy; omega) (by omega)), by unfold SubL; split <;> omega⟩) l.length 0 (left - (l.length : Int)) (by omega) (by omega) (by omega)
    refine ⟨t, Ev.ite_neg hc ht, ?_⟩
    rw [List.drop_zero] at hs2
    unfold SubL at hs2 ⊢
    split at hs2
    · rw [if_pos (by omega)]; omega
    · rw [if_neg (by omega)]; exact hs2

theorem laws_szValueS.evl (l : List S25) (h : l.length * 72 ≤ 140737488351232) (hs : ∀ y ∈ l, ∀ left : Int, 0 ≤ left → left ≤ 1048576 → ∃ t, Ev (fun k => laws_szValueS.p.f k y.f0 y.f1 y.f2 y.f3 left) t ∧ SubL left (totV y) t)
    (left : Int) (h0 : 0 ≤ left) (h1 : left ≤ 1048576) : ∃ t, Ev (fun k => laws_szValueS.f k l left) t ∧ SubL left (l.length + (l.map totV).sum) t := by
  have hn : l.length ≤ 140737488351232 := by omega
  have hw : wrap64 (left - (l.length : Int)) = left - (l.length : Int) := w64 (by omega) (by omega)
  by_cases hc : left - (l.length : Int) < 0
  · refine ⟨-1, Ev.succ ?_, ?_⟩
    · simp only [laws_szValueS.f, hw]
      exact Ev.ite_pos hc (Ev.done rfl)
    · unfold SubL
      rw [if_neg (by omega)]
      omega
  · obtain ⟨t, ht, hs2⟩ := loop_sz z25 l hn (F := fun k left i => laws_szValueS.l0 k l left i) (g := fun k y left => laws_szValueS.p.f k y.f0 y.f1 y.f2 y.f3 left) (c := totV)
      (fun k left i => by simp only [laws_szValueS.l0]; rfl) hs l.length 0 (left - (l.length : Int)) (by omega) (by omega) (by omega)
    refine ⟨t, Ev.succ ?_, ?_⟩
    · simp only [laws_szValueS.f, hw]
      exact Ev.ite_neg hc ht
    · rw [List.drop_zero] at hs2
      unfold SubL at hs2 ⊢
      split at hs2
      · rw [if_pos (by omega)]; omega
      · rw [if_neg (by omega)]; exact hs2
theorem laws_szValue.ev {x : S25} (hx : OkV x) : ∀ left : Int, 0 ≤ left → left ≤ 1048576 → ∃ t, Ev (fun k => laws_szValue.f k x.f0 x.f1 x.f2 x.f3 left) t ∧ SubL left (totV x) t := by
  unfold laws_szValue.f
  induction hx with
  | mk x h0 h1 h2 h2' h3 h3' ih =>
    intro left hl0 hl1
    have hw : wrap64 (left - (x.f1.size : Int)) = left - (x.f1.size : Int) := w64 (by omega) (by omega)
    by_cases hc : left - (x.f1.size : Int) < 0
    · refine ⟨-1, Ev.succ ?_, ?_⟩
      · simp only [laws_szValueS.p.f, laws_szValue.F, hw]
        exact Ev.ite_pos hc (Ev.done rfl)
      · unfold SubL
        rw [totV_eq, if_neg (by omega)]
        omega
    · obtain ⟨t, ht, hs⟩ := laws_szValueS.evl x.f2 h2 ih (left - (x.f1.size : Int)) (by omega) (by omega)
      by_cases hd : t < 0
      · refine ⟨-1, Ev.succ ?_, ?_⟩
        · simp only [laws_szValueS.p.f, laws_szValue.F, hw]
          exact Ev.ite_neg hc (Ev.bind ht (Ev.ite_pos hd (Ev.done rfl)))
        · unfold SubL at hs ⊢
          rw [totV_eq]
          split at hs
          · omega
          · rw [if_neg (by omega)]; omega
      · have ht2 : t = left - (x.f1.size : Int) - ((x.f2.length + (x.f2.map totV).sum : Nat) : Int) ∧ (((x.f2.length + (x.f2.map totV).sum : Nat) : Int)) ≤ left - (x.f1.size : Int) := by
          unfold SubL at hs
          split at hs
          · exact ⟨hs, by assumption⟩
          · omega
        obtain ⟨u, hu, hs2⟩ := laws_szStringS.ev x.f3 h3 h3' t (by omega) (by omega)
        by_cases he : u < 0
        · refine ⟨-1, Ev.succ ?_, ?_⟩
          · simp only [laws_szValueS.p.f, laws_szValue.F, hw]
            exact Ev.ite_neg hc (Ev.bind ht (Ev.ite_neg hd (Ev.bind hu (Ev.ite_pos he (Ev.done rfl)))))
          · unfold SubL at hs2 ⊢
            rw [totV_eq]
            split at hs2
            · omega
            · rw [if_neg (by omega)]; omega
        · refine ⟨u, Ev.succ ?_, ?_⟩
          · simp only [laws_szValueS.p.f, laws_szValue.F, hw]
            exact Ev.ite_neg hc (Ev.bind ht (Ev.ite_neg hd (Ev.bind hu (Ev.ite_neg he (Ev.done rfl)))))
          · unfold SubL at hs2 ⊢
            rw [totV_eq]
            split at hs2
            · rw [if_pos (by omega)]; omega
            · omega

theorem SubL.zero {left : Int} (h : 0 ≤ left) : SubL left 0 left := by unfold SubL; rw [if_pos (by omega)]; omega
theorem SubL.le {left t : Int} {n : Nat} (h : SubL left n t) (h0 : 0 ≤ left) : t ≤ left := by unfold SubL at h; split at h <;> omega
theorem SubL.stop {left t : Int} {n : Nat} (h : SubL left n t) (ht : t < 0) (m : Nat) : SubL left (n + m) (-1) := by
  unfold SubL at h ⊢
  split at h
  · omega
  · rw [if_neg (by omega)]; omega
theorem SubL.next {left t u : Int} {n m : Nat} (h : SubL left n t) (ht : ¬ t < 0) (h2 : SubL t m u) : SubL left (n + m) u := by
  unfold SubL at h h2 ⊢
  split at h
  · split at h2
    · rw [if_pos (by omega)]; omega
    · rw [if_neg (by omega)]; exact h2
  · omega
/-- What answers how much is left. -/
def Sz (g : Nat → Int → Option Int) (n : Nat) : Prop := ∀ left : Int, 0 ≤ left → left ≤ 1048576 → ∃ t, Ev (fun k => g k left) t ∧ SubL left n t
theorem Sz.end : Sz (fun _ x => some x) 0 := fun left h0 _ => ⟨left, Ev.done rfl, SubL.zero h0⟩
theorem Sz.succ {g : Nat → Int → Option Int} {n : Nat} (h : Sz (fun k x => g (k + 1) x) n) : Sz g n := fun left h0 h1 => by
  obtain ⟨t, ht, hs⟩ := h left h0 h1
  exact ⟨t, Ev.succ ht, hs⟩
theorem Sz.str (s : ByteArray) (hs : s.size ≤ 140737488351232) {g : Nat → Int → Option Int} {m : Nat} (h : Sz g m) : Sz (fun k x => if (wrap64 (x - (s.size : Int))) < 0 then some (-1) else g k (wrap64 (x - (s.size : Int)))) (s.size + m) := fun left h0 h1 => by
  have hw : wrap64 (left - (s.size : Int)) = left - (s.size : Int) := w64 (by omega) (by omega)
  have hq : SubL left s.size (left - (s.size : Int)) := by unfold SubL; split <;> omega
  by_cases hc : left - (s.size : Int) < 0
  · exact ⟨-1, by simp only [hw]; exact Ev.ite_pos hc (Ev.done rfl), hq.stop hc m⟩
  · obtain ⟨t, ht, hs⟩ := h (left - (s.size : Int)) (by omega) (by omega)
    exact ⟨t, by simp only [hw]; exact Ev.ite_neg hc ht, hq.next hc hs⟩
theorem Sz.bind {f g : Nat → Int → Option Int} {n m : Nat} (hf : Sz f n) (h : Sz g m) : Sz (fun k x => (f k x).bind fun t => if t < 0 then some (-1) else g k t) (n + m) := fun left h0 h1 => by
  obtain ⟨t, ht, hs⟩ := hf left h0 h1
  by_cases hc : t < 0
  · exact ⟨-1, Ev.bind ht (Ev.ite_pos hc (Ev.done rfl)), hs.stop hc m⟩
  · obtain ⟨u, hu, hs2⟩ := h t (by omega) (by have := hs.le h0; omega)
    exact ⟨u, Ev.bind ht (Ev.ite_neg hc hu), hs.next hc hs2⟩
theorem Sz.list {α : Type} (d : α) (l : List α) (hn : l.length ≤ 140737488351232) {F : Nat → Int → Int → Option Int} {g : Nat → α → Int → Option Int} {c : α → Nat}
    (hF : ∀ k left i, F (k + 1) left i = if i < (l.length : Int) then (if 0 ≤ i then ((g k (l.getD i.toNat d) left).bind fun t => if t < 0 then some (-1) else F k t (wrap64 (i + 1))) else none) else some left)
    (hG : ∀ y ∈ l, Sz (fun k x => g k y x) (c y)) : Sz (fun k x => if (wrap64 (x - (l.length : Int))) < 0 then some (-1) else F k (wrap64 (x - (l.length : Int))) 0) (l.length + (l.map c).sum) := fun left h0 h1 => by
  have hw : wrap64 (left - (l.length : Int)) = left - (l.length : Int) := w64 (by omega) (by omega)
  have hq : SubL left l.length (left - (l.length : Int)) := by unfold SubL; split <;> omega
  by_cases hc : left - (l.length : Int) < 0
  · exact ⟨-1, by simp only [hw]; exact Ev.ite_pos hc (Ev.done rfl), hq.stop hc _⟩
  · obtain ⟨t, ht, hs⟩ := loop_sz d l hn hF hG l.length 0 (left - (l.length : Int)) (by omega) (by omega) (by omega)
    rw [List.drop_zero] at hs
    exact ⟨t, by simp only [hw]; exact Ev.ite_neg hc ht, hq.next hc hs⟩
/-- A row made new and filled: each element's own. -/
theorem To.list {α β γ : Type} (d : α) (l : List α) (hn : l.length ≤ 140737488351232) {N : Nat} (hN : l.length ≤ N) (z : γ) {F : Nat → List γ → Int → Option (List γ)} {g : Nat → α → Option β} {mk : β → γ} {v : α → β} {c : α → γ}
    (hF : ∀ k acc i, F (k + 1) acc i = if i < (l.length : Int) then (if 0 ≤ i then ((g k (l.getD i.toNat d)).bind fun t => if i < (acc.length : Int) then F k (acc.set i.toNat (mk t)) (wrap64 (i + 1)) else none) else none) else some acc)
    (hG : ∀ y ∈ l, Ev (fun k => g k y) (v y)) (hc : ∀ y, mk (v y) = c y) :
    Ev (fun k => if 0 ≤ (l.length : Int) then (if ((l.length : Int) : Int).toNat ≤ N then F k (List.replicate ((l.length : Int) : Int).toNat z) 0 else none) else none) (l.map c) := by
  refine Ev.ite_pos (by omega) (Ev.ite_pos (by omega) ?_)
  refine (loop_to d l hn hF hG l.length 0 _ (by omega) (by simp)).get ?_
  rw [List.take_zero, List.drop_zero, List.nil_append]
  exact List.map_congr_left (fun y _ => hc y)
theorem Eq.loop {α : Type} (d : α) (l : List α) (hn : l.length ≤ 140737488351232) {F : Nat → Int → Option Bool} {g : Nat → α → Option Bool}
    (hF : ∀ k i, F (k + 1) i = if i < (l.length : Int) then (if 0 ≤ i then (if i < (l.length : Int) then ((g k (l.getD i.toNat d)).bind fun t => if t = true then F k (wrap64 (i + 1)) else some false) else none) else none) else some true)
    (hG : ∀ y ∈ l, Ev (fun k => g k y) true) : Ev (fun k => F k 0) true := by
  have key : ∀ (m j : Nat), l.length = j + m → Ev (fun k => F k j) true := by
    intro m
    induction m with
    | zero =>
      intro j hj
      refine Ev.succ ?_
      simp only [hF]
      exact Ev.ite_neg (by omega) (Ev.done rfl)
    | succ m ih =>
      intro j hj
      have hjl : j < l.length := by omega
      refine Ev.succ ?_
      simp only [hF]
      refine Ev.ite_pos (by omega) (Ev.ite_pos (by omega) (Ev.ite_pos (by omega) (Ev.bind (hG _ (getD_mem d l j hjl)) (Ev.ite_pos rfl ?_))))
      rw [w64n hjl hn]
      exact ih (j + 1) (by omega)
  exact key l.length 0 (by omega)
theorem Eq.list {α : Type} (d : α) (l : List α) (hn : l.length ≤ 140737488351232) {F : Nat → Int → Option Bool} {g : Nat → α → Option Bool}
    (hF : ∀ k i, F (k + 1) i = if i < (l.length : Int) then (if 0 ≤ i then (if i < (l.length : Int) then ((g k (l.getD i.toNat d)).bind fun t => if t = true then F k (wrap64 (i + 1)) else some false) else none) else none) else some true)
    (hG : ∀ y ∈ l, Ev (fun k => g k y) true) : Ev (fun k => if (l.length : Int) = (l.length : Int) then F k 0 else some false) true := Ev.ite_pos rfl (Eq.loop d l hn hF hG)

/-- An argument within the reach. -/
inductive OkA : S76 → Prop
  | mk (x : S76) (h0 : x.f0.size ≤ 140737488351232) (h1 : OkV x.f1) : OkA x
inductive OkIA : S78 → Prop
  | mk (x : S78) (h0 : x.f0.size ≤ 140737488351232) (h1 : OkI x.f1) : OkIA x
def ca (x : S76) : S78 := ⟨x.f0, cv x.f1⟩
theorem OkA.ca {x : S76} (h : OkA x) : OkIA (ca x) := by
  obtain ⟨h0, h1⟩ := h
  exact OkIA.mk _ h0 h1.cv
def totA (x : S76) : Nat := x.f0.size + totV x.f1
def OkAs (l : List S76) : Prop := l.length * 88 ≤ 140737488351232 ∧ ∀ y ∈ l, OkA y
def OkIAs (l : List S78) : Prop := l.length * 88 ≤ 140737488351232 ∧ ∀ y ∈ l, OkIA y
theorem OkAs.ca {l : List S76} (h : OkAs l) : OkIAs (l.map ca) := ⟨by rw [List.length_map]; exact h.1, fun y hy => by
  obtain ⟨z, hz, rfl⟩ := List.mem_map.1 hy
  exact (h.2 z hz).ca⟩

theorem laws_szArg.ev {x : S76} (hx : OkA x) : Sz (fun k left => laws_szArg.f k x.f0 x.f1.f0 x.f1.f1 x.f1.f2 x.f1.f3 left) (totA x) := by
  obtain ⟨h0, h1⟩ := hx
  unfold laws_szArg.f totA
  exact Sz.str x.f0 h0 (g := fun k t => (laws_szValue.f k x.f1.f0 x.f1.f1 x.f1.f2 x.f1.f3 t).bind fun t => if t < 0 then some (-1) else some t) (Sz.bind (g := fun _ t => some t) (laws_szValue.ev h1) Sz.end)

theorem laws_szArgS.ev {l : List S76} (hl : OkAs l) : Sz (fun k left => laws_szArgS.f k l left) (l.length + (l.map totA).sum) := by
  unfold laws_szArgS.f
  exact Sz.list z76 l (by have := hl.1; omega) (F := fun k left i => laws_szArgS.l0 k l left i) (g := fun k y left => laws_szArg.f k y.f0 y.f1.f0 y.f1.f1 y.f1.f2 y.f1.f3 left) (c := totA) (fun k left i => by simp only [laws_szArgS.l0]; rfl) (fun y hy => laws_szArg.ev (hl.2 y hy))

theorem Ev_ixO {α : Type} {p : Nat → α → Option Bool} {e : α → Bool} : ∀ (l : List α) (i : Int), 0 ≤ i → (∀ y ∈ l, Ev (fun k => p k y) (e y)) → ∃ r, Ev (fun k => ixO (p k) l i) r ∧ (decide (0 ≤ r)) = l.any e
  | [], i, _, _ => ⟨-1, Ev.done rfl, rfl⟩
  | x :: r, i, hi, h => by
    obtain ⟨t, ht, he⟩ := Ev_ixO r (i + 1) (by omega) (fun y hy => h y (List.mem_cons_of_mem _ hy))
    have hx := h x List.mem_cons_self
    cases hc : e x with
    | true =>
      refine ⟨i, ?_, ?_⟩
      · simp only [ixO]
        rw [hc] at hx
        exact Ev.bind hx (Ev.ite_pos rfl (Ev.done rfl))
      · rw [List.any_cons, hc]
        simp [hi]
    | false =>
      refine ⟨t, ?_, ?_⟩
      · simp only [ixO]
        rw [hc] at hx
        exact Ev.bind hx (Ev.ite_neg (by decide) ht)
      · rw [List.any_cons, hc, he]
        rfl
theorem Ev_anyO {α : Type} {p : Nat → α → Option Bool} {e : α → Bool} (l : List α) (h : ∀ y ∈ l, Ev (fun k => p k y) (e y)) : Ev (fun k => anyO (p k) l) (l.any e) := by
  obtain ⟨r, ⟨K, hr⟩, he⟩ := Ev_ixO l 0 (Int.le_refl _) h
  refine ⟨K, fun k hk => ?_⟩
  show (ixO (p k) l 0).map _ = _
  rw [show ixO (p k) l 0 = some r from hr k hk, ← he]
  rfl
theorem Ev_eqO {α β : Type} {p : Nat → α → β → Option Bool} {e : α → β → Bool} : ∀ (l : List α) (m : List β), l.length = m.length → (∀ y ∈ l, ∀ z ∈ m, Ev (fun k => p k y z) (e y z)) → Ev (fun k => eqO (p k) l m) (all2 e l m)
  | [], _, _, _ => Ev.done rfl
  | x :: r, [], hl, _ => by simp at hl
  | x :: r, y :: s, hl, h => by
    have hx := h x List.mem_cons_self y List.mem_cons_self
    have ih := Ev_eqO r s (by simpa using hl) (fun a ha b hb => h a (List.mem_cons_of_mem _ ha) b (List.mem_cons_of_mem _ hb))
    simp only [eqO, all2]
    cases hc : e x y with
    | true =>
      rw [hc] at hx
      exact Ev.bind hx (Ev.ite_pos rfl (by rw [Bool.true_and]; exact ih))
    | false =>
      rw [hc] at hx
      exact Ev.bind hx (Ev.ite_neg (by decide) (Ev.done rfl))
theorem Ev_sameO {α β : Type} {p : Nat → α → β → Option Bool} {e : α → β → Bool} (l : List α) (m : List β) (h : ∀ y ∈ l, ∀ z ∈ m, Ev (fun k => p k y z) (e y z)) : Ev (fun k => sameO (p k) l m) (decide (l.length = m.length) && all2 e l m) := by
  unfold sameO
  by_cases hl : l.length = m.length
  · rw [decide_eq_true hl, Bool.true_and]
    exact Ev.ite_pos hl (Ev_eqO l m hl h)
  · rw [decide_eq_false hl, Bool.false_and]
    exact Ev.ite_neg hl (Ev.done rfl)
theorem Ev_map {α β : Type} {g : Nat → Option α} {a : α} (f : α → β) (h : Ev g a) : Ev (fun k => (g k).map f) (f a) := by
  obtain ⟨K, h⟩ := h
  exact ⟨K, fun k hk => by show (g k).map f = _; rw [h k hk]; rfl⟩

mutual
/-- Are two values one? -/
def sameV : S30 → S30 → Bool
  | ⟨a, b, c, d⟩, ⟨a', b', c', d'⟩ => decide (a = a') && (decide (b.toList = b'.toList) && ((decide (d.length = d'.length) && all2 (fun x y : ByteArray => decide (x.toList = y.toList)) d d') && (decide (c.length = c'.length) && sameVs c c')))
def sameVs : List S30 → List S30 → Bool
  | [], _ => true
  | x :: r, y :: s => sameV x y && sameVs r s
  | _ :: _, [] => false
end
theorem sameVs_all2 : ∀ l m, sameVs l m = all2 sameV l m
  | [], _ => by rw [sameVs, all2]
  | x :: r, y :: s => by rw [sameVs, all2, sameVs_all2 r s]
  | _ :: _, [] => by rw [sameVs, all2]
theorem sameV_eq (x y : S30) : sameV x y = (decide (x.f0 = y.f0) && (decide (x.f1.toList = y.f1.toList) && ((decide (x.f3.length = y.f3.length) && all2 (fun x y : ByteArray => decide (x.toList = y.toList)) x.f3 y.f3) && (decide (x.f2.length = y.f2.length) && all2 sameV x.f2 y.f2)))) := by
  cases x
  cases y
  rw [sameV, sameVs_all2]

theorem spec_SameValue.ev {x : S30} (hx : OkI x) : ∀ y : S30, Ev (fun k => spec_SameValue.f k x.f0 x.f1 x.f2 x.f3 y.f0 y.f1 y.f2 y.f3) (sameV x y) := by
  induction hx with
  | mk x h0 h1 h2 h2' h3 h3' ih =>
    intro y
    have hn : x.f2.length ≤ 140737488351232 := by omega
    have hn3 : x.f3.length ≤ 140737488351232 := by omega
    rw [sameV_eq]
    refine Ev.succ ?_
    simp only [spec_SameValue.f]
    have bad : Ev (fun k => spec_SameValue.j0 k true x.f0 x.f1 x.f2 x.f3 y.f0 y.f1 y.f2 y.f3) false := Ev.succ (by simp only [spec_SameValue.j0]; exact Ev.ite_pos trivial (Ev.done rfl))
    by_cases c0 : x.f0 = y.f0
    case neg => rw [decide_eq_false c0, Bool.false_and]; exact Ev.ite_neg c0 bad
    rw [decide_eq_true c0, Bool.true_and]
    refine Ev.ite_pos c0 ?_
    by_cases c1 : x.f1.toList = y.f1.toList
    case neg => rw [decide_eq_false c1, Bool.false_and]; exact Ev.ite_neg c1 bad
    rw [decide_eq_true c1, Bool.true_and]
    refine Ev.ite_pos c1 ?_
    by_cases c2 : x.f2.length = y.f2.length
    case neg => rw [decide_eq_false c2, Bool.false_and, Bool.and_false]; exact Ev.ite_neg (by omega) bad
    rw [decide_eq_true c2, Bool.true_and]
    refine Ev.ite_pos (by omega) ?_
    by_cases c3 : x.f3.length = y.f3.length
    case neg =>
      rw [decide_eq_false c3, Bool.false_and, Bool.false_and]
      refine Ev.succ ?_
      simp only [spec_SameValue.j0]
      exact Ev.ite_pos (by rw [bne_iff_ne]; omega) (Ev.done rfl)
    rw [decide_eq_true c3, Bool.true_and]
    refine Ev.succ ?_
    simp only [spec_SameValue.j0]
    refine Ev.ite_neg (by rw [bne_iff_ne]; omega) ?_
    -- the values behind the names
    have h1l : Ev (fun k => spec_SameValue.l1 k 0 x.f0 x.f1 x.f2 x.f3 y.f0 y.f1 y.f2 y.f3) (all2 sameV x.f2 y.f2) :=
      (loop_eq z30 z30 x.f2 y.f2 hn c2 (F := fun k i => spec_SameValue.l1 k i x.f0 x.f1 x.f2 x.f3 y.f0 y.f1 y.f2 y.f3) (g := fun k a b => spec_SameValue.f k a.f0 a.f1 a.f2 a.f3 b.f0 b.f1 b.f2 b.f3) (e := sameV) (fun k i => by simp only [spec_SameValue.l1]; rfl) (fun a ha b _ => ih a ha b) x.f2.length 0 (by omega)).get (by rw [List.drop_zero, List.drop_zero])
    have key : ∀ (m j : Nat), x.f3.length = j + m → Ev (fun k => spec_SameValue.l0 k j x.f0 x.f1 x.f2 x.f3 y.f0 y.f1 y.f2 y.f3) (all2 (fun x y : ByteArray => decide (x.toList = y.toList)) (x.f3.drop j) (y.f3.drop j) && all2 sameV x.f2 y.f2) := by
      intro m
      induction m with
      | zero =>
        intro j hj
        refine Ev.succ ?_
        simp only [spec_SameValue.l0]
        refine Ev.ite_neg (by omega) ?_
        rw [List.drop_eq_nil_of_le (by omega), all2, Bool.true_and]
        exact h1l
      | succ m im =>
        intro j hj
        have hjl : j < x.f3.length := by omega
        have hjl' : j < y.f3.length := by omega
        refine Ev.succ ?_
        simp only [spec_SameValue.l0]
        refine Ev.ite_pos (by omega) (Ev.ite_pos (by omega) (Ev.ite_pos (by omega) ?_))
        rw [drop_getD ByteArray.empty x.f3 j hjl, drop_getD ByteArray.empty y.f3 j hjl', all2]
        by_cases c : (x.f3.getD j ByteArray.empty).toList = (y.f3.getD j ByteArray.empty).toList
        · rw [decide_eq_true c, Bool.true_and]
          refine Ev.ite_pos c ?_
          rw [w64n hjl hn3]
          exact im (j + 1) (by omega)
        · rw [decide_eq_false c, Bool.false_and, Bool.false_and]
          exact Ev.ite_neg c (Ev.done rfl)
    exact (key x.f3.length 0 (by omega)).get (by rw [List.drop_zero, List.drop_zero])

def sameA (x y : S78) : Bool := decide (x.f0.toList = y.f0.toList) && sameV x.f1 y.f1
def eqL {α β : Type} (e : α → β → Bool) : List α → List β → Bool
  | [], [] => true
  | x :: r, y :: s => e x y && eqL e r s
  | _, _ => false
theorem eqL_eq {α β : Type} (e : α → β → Bool) : ∀ l m, eqL e l m = (decide (l.length = m.length) && all2 e l m)
  | [], [] => rfl
  | [], _ :: _ => by simp [eqL]
  | _ :: _, [] => by simp [eqL]
  | x :: r, y :: s => by
    rw [eqL, all2, eqL_eq e r s]
    simp only [List.length_cons, Nat.add_right_cancel_iff]
    cases e x y <;> simp
theorem spec_SameArgs.ev {l m : List S78} (hl : OkIAs l) (hm : OkIAs m) : Ev (fun k => spec_SameArgs.f k l m) (eqL sameA l m) := by
  have hn : l.length ≤ 140737488351232 := by have := hl.1; omega
  unfold spec_SameArgs.f
  have key : ∀ (d j : Nat), l.length = j + d → j ≤ m.length → Ev (fun k => spec_SameArgs.l0 k l m j) (eqL sameA (l.drop j) (m.drop j)) := by
    intro d
    induction d with
    | zero =>
      intro j hj hm'
      refine Ev.succ ?_
      simp only [spec_SameArgs.l0]
      refine Ev.ite_neg (by omega) (Ev.succ ?_)
      simp only [spec_SameArgs.j1]
      refine Ev.ite_neg (by decide) (Ev.done ?_)
      rw [List.drop_eq_nil_of_le (by omega)]
      by_cases hc : l.length = m.length
      · rw [List.drop_eq_nil_of_le (by omega), eqL, beq_iff_eq]; omega
      · rw [drop_getD z78 m j (by omega), show ∀ y s, eqL sameA [] (y :: s) = false from fun _ _ => rfl, beq_eq_false_iff_ne]
        omega
    | succ d ih =>
      intro j hj hm'
      have hjl : j < l.length := by omega
      refine Ev.succ ?_
      simp only [spec_SameArgs.l0]
      refine Ev.ite_pos (by omega) (Ev.succ ?_)
      simp only [spec_SameArgs.j1]
      by_cases hc : j < m.length
      · refine Ev.ite_pos (decide_eq_true (by omega)) (Ev.ite_pos (by omega) (Ev.ite_pos (by omega) (Ev.ite_pos (by omega) ?_)))
        rw [drop_getD z78 l j hjl, drop_getD z78 m j hc, eqL]
        have e1 : rd_T78 l (j : Int) = l.getD j z78 := rfl
        have e2 : rd_T78 m (j : Int) = m.getD j z78 := rfl
        rw [e1, e2]
        generalize hx : l.getD j z78 = x
        generalize hy : m.getD j z78 = y
        have ox : OkIA x := hl.2 x (hx ▸ getD_mem z78 l j hjl)
        obtain ⟨_, o1⟩ := ox
        unfold sameA
        by_cases c0 : x.f0.toList = y.f0.toList
        · rw [decide_eq_true c0, Bool.true_and]
          have hv := spec_SameValue.ev o1 y.f1
          refine Ev.ite_pos c0 ?_
          cases hq : sameV x.f1 y.f1 with
          | true =>
            rw [hq] at hv
            refine Ev.bind hv (Ev.ite_pos rfl ?_)
            rw [w64n hjl hn, Bool.true_and]
            exact ih (j + 1) (by omega) (by omega)
          | false =>
            rw [hq] at hv
            exact Ev.bind hv (Ev.ite_neg (by decide) (Ev.done rfl))
        · rw [decide_eq_false c0, Bool.false_and, Bool.false_and]
          exact Ev.ite_neg c0 (Ev.done rfl)
      · refine Ev.ite_neg (by rw [decide_eq_true_eq]; omega) (Ev.done ?_)
        rw [drop_getD z78 l j hjl, List.drop_eq_nil_of_le (show m.length ≤ j by omega), show ∀ y s, eqL sameA (y :: s) [] = false from fun _ _ => rfl, beq_eq_false_iff_ne]
        omega
  exact (key l.length 0 (by omega) (by omega)).get (by rw [List.drop_zero, List.drop_zero])

theorem laws_toStringS.ev (l : List ByteArray) (h : l.length * 16 ≤ 140737488351232) : Ev (fun k => laws_toStringS.f k l) l := by
  have hn : l.length ≤ 140737488351232 := by omega
  unfold laws_toStringS.f
  refine Ev.ite_pos (by omega) (Ev.ite_pos (by omega) ?_)
  refine (loop_to ByteArray.empty l hn (F := fun k acc i => laws_toStringS.l0 k l acc i) (g := fun _ y => some y) (mk := id) (v := id) (fun k acc i => by simp only [laws_toStringS.l0]; rfl) (fun y _ => Ev.done rfl) l.length 0 _ (by omega) (by simp)).get ?_
  simp

def tup30 (x : S30) : Int × ByteArray × List S30 × List ByteArray := (x.f0, x.f1, x.f2, x.f3)
theorem laws_toValueS.evl (l : List S25) (h : l.length * 72 ≤ 140737488351232) (hs : ∀ y ∈ l, Ev (fun k => laws_toValueS.p.f k y.f0 y.f1 y.f2 y.f3) (tup30 (cv y))) : Ev (fun k => laws_toValueS.f k l) (l.map cv) := by
  have hn : l.length ≤ 140737488351232 := by omega
  refine Ev.succ ?_
  simp only [laws_toValueS.f]
  refine Ev.ite_pos (by omega) (Ev.ite_pos (by omega) ?_)
  refine (loop_to z25 l hn (F := fun k acc i => laws_toValueS.l0 k l acc i) (g := fun k y => laws_toValueS.p.f k y.f0 y.f1 y.f2 y.f3) (mk := fun t => (⟨t.1, t.2.1, t.2.2.1, t.2.2.2⟩ : S30)) (v := fun y => tup30 (cv y)) (fun k acc i => by simp only [laws_toValueS.l0]; rfl) hs l.length 0 _ (by omega) (by simp)).get ?_
  rw [List.take_zero, List.drop_zero, List.nil_append]
  exact List.map_congr_left (fun y _ => eta30 (cv y))
theorem laws_toValue.ev {x : S25} (hx : OkV x) : Ev (fun k => laws_toValue.f k x.f0 x.f1 x.f2 x.f3) (tup30 (cv x)) := by
  unfold laws_toValue.f
  induction hx with
  | mk x h0 h1 h2 h2' h3 h3' ih =>
    refine Ev.succ ?_
    simp only [laws_toValueS.p.f, laws_toValue.F]
    refine Ev.bind (laws_toValueS.evl x.f2 h2 ih) (Ev.bind (laws_toStringS.ev x.f3 h3) (Ev.done ?_))
    rw [cv_eq]
    rfl

def tup78 (x : S78) : ByteArray × Int × ByteArray × List S30 × List ByteArray := (x.f0, x.f1.f0, x.f1.f1, x.f1.f2, x.f1.f3)
theorem laws_toArg.ev {x : S76} (hx : OkA x) : Ev (fun k => laws_toArg.f k x.f0 x.f1.f0 x.f1.f1 x.f1.f2 x.f1.f3) (tup78 (ca x)) := by
  obtain ⟨h0, h1⟩ := hx
  unfold laws_toArg.f
  exact Ev.bind (laws_toValue.ev h1) (Ev.done rfl)

theorem laws_toArgS.ev {l : List S76} (hl : OkAs l) : Ev (fun k => laws_toArgS.f k l) (l.map ca) := by
  unfold laws_toArgS.f
  have := hl.1
  exact To.list z76 l (by omega) (by omega) z78 (F := fun k acc i => laws_toArgS.l0 k l acc i) (g := fun k y => laws_toArg.f k y.f0 y.f1.f0 y.f1.f1 y.f1.f2 y.f1.f3) (mk := fun t => (⟨t.1, (⟨t.2.1, t.2.2.1, t.2.2.2.1, t.2.2.2.2⟩ : S30)⟩ : S78)) (v := fun y => tup78 (ca y)) (fun k acc i => by simp only [laws_toArgS.l0]; rfl) (fun y hy => laws_toArg.ev (hl.2 y hy)) (fun y => by
    show (⟨(ca y).f0, (⟨(ca y).f1.f0, (ca y).f1.f1, (ca y).f1.f2, (ca y).f1.f3⟩ : S30)⟩ : S78) = ca y
    rw [eta30])

/-- Two texts are one. -/
def eqT (a b : ByteArray) : Bool := decide (a.toList = b.toList)
theorem slices_Equal_string_string.ev (l m : List ByteArray) (h : l.length * 16 ≤ 140737488351232) : Ev (fun k => slices_Equal_string_string.f k l m) (decide (l.length = m.length) && all2 eqT l m) := by
  have hn : l.length ≤ 140737488351232 := by omega
  unfold slices_Equal_string_string.f
  by_cases hl : l.length = m.length
  · rw [decide_eq_true hl, Bool.true_and]
    refine Ev.ite_pos (by omega) ?_
    refine (loop_eq ByteArray.empty ByteArray.empty l m hn hl (F := fun k i => slices_Equal_string_string.l0 k l m (l.length : Int) i) (g := fun _ y z => some (eqT y z)) (e := eqT) (fun k i => by
      simp only [slices_Equal_string_string.l0, Option.bind_some, eqT, decide_eq_true_eq]
      by_cases h1 : i < (l.length : Int)
      · rw [if_pos h1, if_pos h1, if_pos h1]; rfl
      · rw [if_neg h1, if_neg h1]) (fun y _ z _ => Ev.done rfl) l.length 0 (by omega)).get ?_
    rw [List.drop_zero, List.drop_zero]
  · rw [decide_eq_false hl, Bool.false_and]
    exact Ev.ite_neg (by omega) (Ev.done rfl)

theorem impl_SameValue.ev {x : S30} (hx : OkI x) : ∀ y : S30, Ev (fun k => impl_SameValue.f k x.f0 x.f1 x.f2 x.f3 y.f0 y.f1 y.f2 y.f3) (sameV x y) := by
  induction hx with
  | mk x h0 h1 h2 h2' h3 h3' ih =>
    intro y
    rw [sameV_eq]
    refine Ev.succ ?_
    simp only [impl_SameValue.f]
    by_cases c0 : x.f0 = y.f0
    case neg => rw [decide_eq_false c0, Bool.false_and]; exact Ev.ite_neg c0 (Ev.done rfl)
    rw [decide_eq_true c0, Bool.true_and]
    refine Ev.ite_pos c0 ?_
    by_cases c1 : x.f1.toList = y.f1.toList
    case neg => rw [decide_eq_false c1, Bool.false_and]; exact Ev.ite_neg c1 (Ev.done rfl)
    rw [decide_eq_true c1, Bool.true_and]
    refine Ev.ite_pos c1 ?_
    have hq : Ev (fun k => slices_Equal_string_string.f k x.f3 y.f3) (decide (x.f3.length = y.f3.length) && all2 (fun x y : ByteArray => decide (x.toList = y.toList)) x.f3 y.f3) := slices_Equal_string_string.ev x.f3 y.f3 h3
    refine Ev.bind hq ?_
    cases hc : (decide (x.f3.length = y.f3.length) && all2 (fun x y : ByteArray => decide (x.toList = y.toList)) x.f3 y.f3) with
    | false => exact Ev.ite_neg (by decide) (Ev.done rfl)
    | true =>
      refine Ev.ite_pos rfl ?_
      rw [Bool.true_and]
      exact Ev_sameO x.f2 y.f2 (p := fun k a b => impl_SameValue.f k a.f0 a.f1 a.f2 a.f3 b.f0 b.f1 b.f2 b.f3) (fun a ha b _ => ih a ha b)

theorem impl_SameArgs.ev {l : List S78} (hl : OkIAs l) (m : List S78) : Ev (fun k => impl_SameArgs.f k l m) (eqL sameA l m) := by
  unfold impl_SameArgs.f
  rw [eqL_eq]
  refine Ev_sameO l m (p := fun k x y => impl_SameArgs.p k x y) (fun x hx y _ => ?_)
  obtain ⟨_, o1⟩ := hl.2 x hx
  unfold impl_SameArgs.p sameA
  by_cases c0 : x.f0.toList = y.f0.toList
  · rw [decide_eq_true c0, Bool.true_and]
    exact Ev.ite_pos c0 (impl_SameValue.ev o1 y.f1)
  · rw [decide_eq_false c0, Bool.false_and]
    exact Ev.ite_neg c0 (Ev.done rfl)

theorem laws_eqStringS.refl (l : List ByteArray) (h : l.length * 16 ≤ 140737488351232) : Ev (fun k => laws_eqStringS.f k l l) true := by
  have hn : l.length ≤ 140737488351232 := by omega
  unfold laws_eqStringS.f
  refine Ev.ite_pos rfl ?_
  refine (loop_eq ByteArray.empty ByteArray.empty l l hn rfl (F := fun k i => laws_eqStringS.l0 k l l i) (g := fun _ y z => some (decide (y.toList = z.toList))) (e := fun y z => decide (y.toList = z.toList)) (fun k i => by
    simp only [laws_eqStringS.l0, Option.bind_some, decide_eq_true_eq]; try rfl) (fun y _ z _ => Ev.done rfl) l.length 0 (by omega)).get ?_
  rw [List.drop_zero]
  exact all2_refl _ l (fun y _ => decide_eq_true rfl)

theorem laws_eqValueS.refll (l : List S30) (h : l.length * 72 ≤ 140737488351232) (hs : ∀ y ∈ l, Ev (fun k => laws_eqValueS.p.f k y.f0 y.f1 y.f2 y.f3 y.f0 y.f1 y.f2 y.f3) true) : Ev (fun k => laws_eqValueS.f k l l) true := by
  have hn : l.length ≤ 140737488351232 := by omega
  refine Ev.succ ?_
  simp only [laws_eqValueS.f]
  refine Ev.ite_pos trivial ?_
  have key : ∀ (m j : Nat), l.length = j + m → Ev (fun k => laws_eqValueS.l0 k l l j) true := by
    intro m
    induction m with
    | zero =>
      intro j hj
      refine Ev.succ ?_
      simp only [laws_eqValueS.l0]
      exact Ev.ite_neg (by omega) (Ev.done rfl)
    | succ m ih =>
      intro j hj
      have hjl : j < l.length := by omega
      refine Ev.succ ?_
      simp only [laws_eqValueS.l0]
      refine Ev.ite_pos (by omega) (Ev.ite_pos (by omega) (Ev.ite_pos (by omega) (Ev.bind (hs _ (getD_mem z30 l j hjl)) (Ev.ite_pos rfl ?_))))
      rw [w64n hjl hn]
      exact ih (j + 1) (by omega)
  exact key l.length 0 (by omega)
theorem laws_eqValue.refl {x : S30} (hx : OkI x) : Ev (fun k => laws_eqValue.f k x.f0 x.f1 x.f2 x.f3 x.f0 x.f1 x.f2 x.f3) true := by
  unfold laws_eqValue.f
  induction hx with
  | mk x h0 h1 h2 h2' h3 h3' ih =>
    refine Ev.succ ?_
    simp only [laws_eqValueS.p.f, laws_eqValue.F]
    exact Ev.ite_pos trivial (Ev.ite_pos trivial (Ev.bind (laws_eqValueS.refll x.f2 h2 ih) (Ev.ite_pos rfl (Ev.bind (laws_eqStringS.refl x.f3 h3) (Ev.ite_pos rfl (Ev.done rfl))))))

theorem laws_eqArg.refl {x : S78} (hx : OkIA x) : Ev (fun k => laws_eqArg.f k x.f0 x.f1.f0 x.f1.f1 x.f1.f2 x.f1.f3 x.f0 x.f1.f0 x.f1.f1 x.f1.f2 x.f1.f3) true := by
  obtain ⟨h0, h1⟩ := hx
  unfold laws_eqArg.f
  exact Ev.ite_pos rfl (Ev.bind (laws_eqValue.refl h1) (Ev.ite_pos rfl (Ev.done rfl)))

theorem laws_eqArgS.refl {l : List S78} (hl : OkIAs l) : Ev (fun k => laws_eqArgS.f k l l) true := by
  unfold laws_eqArgS.f
  exact Eq.list z78 l (by have := hl.1; omega) (F := fun k i => laws_eqArgS.l0 k l l i) (g := fun k y => laws_eqArg.f k y.f0 y.f1.f0 y.f1.f1 y.f1.f2 y.f1.f3 y.f0 y.f1.f0 y.f1.f1 y.f1.f2 y.f1.f3) (fun k i => by simp only [laws_eqArgS.l0]; rfl) (fun y hy => laws_eqArg.refl (hl.2 y hy))

theorem FnExactSameArgs (x : List S76) (hx : OkAs x) (y : List S76) (hy : OkAs y) : ∃ k, laws_FnExactSameArgs.f k x y = some true := by
  refine Ev.out ?_
  unfold laws_FnExactSameArgs.f
  obtain ⟨t, ht, hs⟩ := laws_szArgS.ev hx 1048576 (by omega) (by omega)
  refine Ev.bind ht ?_
  by_cases h : t < 0
  · exact Ev.ite_pos h (Ev.done rfl)
  refine Ev.ite_neg h ?_
  obtain ⟨u, hu, _⟩ := laws_szArgS.ev hy t (by omega) (by have := hs.le (by omega); omega)
  refine Ev.bind hu ?_
  by_cases h' : u < 0
  · exact Ev.ite_pos h' (Ev.done rfl)
  refine Ev.ite_neg h' ?_
  have vx := laws_toArgS.ev hx
  have vy := laws_toArgS.ev hy
  exact Ev.bind vx (Ev.bind vy (Ev.bind (spec_SameArgs.ev hx.ca hy.ca) (Ev.bind vx (Ev.bind vy (Ev.bind (impl_SameArgs.ev hx.ca (y.map ca)) (Ev.ite_neg (by simp) (Ev.bind vx (Ev.bind (laws_eqArgS.refl hx.ca) (Ev.ite_pos rfl (Ev.bind vy (Ev.bind (laws_eqArgS.refl hy.ca) (Ev.ite_pos rfl (Ev.done rfl)))))))))))))


end Go.Proofs.Ytkcomfmdcmjagaa.Pure
