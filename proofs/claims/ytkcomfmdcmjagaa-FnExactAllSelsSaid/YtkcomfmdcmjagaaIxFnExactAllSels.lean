/- Plain words: where the first lies of which a partial test says yes; whether two lists are alike by a partial test; no statement of the program is proved here. No conditions. -/
import Derived.Test.YtkcomfmdcmjagaaZFnExactAllSels0
import Derived.Lib.AppendStr
namespace Go.Proofs.Ytkcomfmdcmjagaa.Ix
set_option linter.unusedVariables false
set_option linter.unusedSimpArgs false
open Go.RowKit Go.Proofs.YtkcomfmdcmjagaaW.PrintWords

/-- Where the first lies of which p says yes, counted from i on; -1. -/
def ixO {α : Type} (p : α → Option Bool) : List α → Int → Option Int
 | [], _ => some (-1)
 | x :: r, i => (p x).bind fun b => if b = true then some i else ixO p r (i + 1)

theorem ixO_at {α : Type} (d : α) (p : α → Option Bool) (l : List α) (x : Int) (h0 : 0 ≤ x) (h : x < (l.length : Int)) : ixO p (l.drop x.toNat) x = (p (l.getD x.toNat d)).bind fun b => if b = true then some x else ixO p (l.drop (x + 1).toNat) (x + 1) := by
 rw [show (x + 1).toNat = x.toNat + 1 by omega]
 have hk : x.toNat < l.length := by omega
 rw [List.drop_eq_getElem_cons hk]
 have e : l.getD x.toNat d = l[x.toNat] := by
  rw [List.getD_eq_getElem?_getD, List.getElem?_eq_getElem hk]
  rfl
 rw [e]
 rfl

theorem ixO_end {α : Type} (p : α → Option Bool) (l : List α) (x i : Int) (h : ¬ x < (l.length : Int)) : ixO p (l.drop x.toNat) i = some (-1) := by
 rw [List.drop_eq_nil_of_le (by omega)]
 rfl

theorem ixO_le {α : Type} (p p' : α → Option Bool) (hp : ∀ x, LeO (p x) (p' x)) : ∀ l i, LeO (ixO p l i) (ixO p' l i)
 | [], _ => LeO.refl _
 | x :: r, i => LeO.bind (hp x) (fun b => LeO.ite (LeO.refl _) (ixO_le p p' hp r (i + 1)))

/-- Does p say yes of one? -/
def anyO {α : Type} (p : α → Option Bool) (l : List α) : Option Bool := (ixO p l 0).map fun r => decide (0 ≤ r)

theorem anyO_le {α : Type} (p p' : α → Option Bool) (hp : ∀ x, LeO (p x) (p' x)) (l : List α) : LeO (anyO p l) (anyO p' l) := LeO.map _ (ixO_le p p' hp l 0)

/-- Are two lists of one length alike, by p? -/
def eqO {α β : Type} (p : α → β → Option Bool) : List α → List β → Option Bool
 | [], _ => some true
 | x :: r, y :: s => (p x y).bind fun b => if b = true then eqO p r s else some false
 | _ :: _, [] => none

theorem eqO_at {α β : Type} (d : α) (e : β) (p : α → β → Option Bool) (l : List α) (m : List β) (x : Int) (h0 : 0 ≤ x) (h : x < (l.length : Int)) (h' : x < (m.length : Int)) :
  eqO p (l.drop x.toNat) (m.drop x.toNat) = (p (l.getD x.toNat d) (m.getD x.toNat e)).bind fun b => if b = true then eqO p (l.drop (x + 1).toNat) (m.drop (x + 1).toNat) else some false := by
 rw [show (x + 1).toNat = x.toNat + 1 by omega]
 have hk : x.toNat < l.length := by omega
 have hk' : x.toNat < m.length := by omega
 rw [List.drop_eq_getElem_cons hk, List.drop_eq_getElem_cons hk']
 have e1 : l.getD x.toNat d = l[x.toNat] := by
  rw [List.getD_eq_getElem?_getD, List.getElem?_eq_getElem hk]
  rfl
 have e2 : m.getD x.toNat e = m[x.toNat] := by
  rw [List.getD_eq_getElem?_getD, List.getElem?_eq_getElem hk']
  rfl
 rw [e1, e2]
 rfl

theorem eqO_end {α β : Type} (p : α → β → Option Bool) (l : List α) (m : List β) (x : Int) (h : ¬ x < (l.length : Int)) : eqO p (l.drop x.toNat) m = some true := by
 rw [List.drop_eq_nil_of_le (by omega)]
 cases m <;> rfl

theorem eqO_le {α β : Type} (p p' : α → β → Option Bool) (hp : ∀ x y, LeO (p x y) (p' x y)) : ∀ l m, LeO (eqO p l m) (eqO p' l m)
 | [], [] => LeO.refl _
 | [], _ :: _ => LeO.refl _
 | _ :: _, [] => LeO.refl _
 | x :: r, y :: s => LeO.bind (hp x y) (fun b => LeO.ite (eqO_le p p' hp r s) (LeO.refl _))

/-- .. of whatever length. -/
def sameO {α β : Type} (p : α → β → Option Bool) (l : List α) (m : List β) : Option Bool := if l.length = m.length then eqO p l m else some false

theorem sameO_le {α β : Type} (p p' : α → β → Option Bool) (hp : ∀ x y, LeO (p x y) (p' x y)) (l : List α) (m : List β) : LeO (sameO p l m) (sameO p' l m) := LeO.ite (eqO_le p p' hp l m) (LeO.refl _)

theorem bind_true {r b : Bool} (h : (if b = true then some true else some false) = some r) : b = r := by cases b <;> simpa using h
/-- A string appended, as one step of a region that draws its order. -/
theorem print_append_str_step {P : Program} {ops : Array Oper} {o : Oper} {a : Act} {Q : Exit → Act → World → Prop} {Kc : Act → World → Prop} {w0 W : World} (base : Nat) (hw : Region.wanted o (yielded ops a.tmps) = true) (s x : Operand) (t u e : TypeId)
  (ho : o.op = .call { callee := .builtin .append, args := #[s, x], argTypes := #[t, u] })
  (ht : P.underlying t = some (.slice e)) (hu : P.underlying u = some .string) (hinfo : (P.info? e).map (fun i => (i.zero, i.size, i.bytes)) = some (some (.int .u8 0), 1, 1))
  (v : Value) (xs : List Int) (y : ByteArray) (hs : a.eval s = v) (hx : a.eval x = .string y)
  (HO : W.ownsRow base e 1 v xs.length (nums .u8 xs)) (HB : Below base w0 W) (hbase : base ≤ W.heap.size) (hl : xs.length + y.size ≤ 140737488355328)
  (h : ∀ v1 w1, w1.ownsRow base e 1 v1 (xs ++ bytesOf y).length (nums .u8 (xs ++ bytesOf y)) → Below base w0 w1 → W.grownBy w1 v.ownBlock → Kc (a.put o.dst v1) w1) :
  if Region.wanted o (yielded ops a.tmps) = true then Oper.wp P o a W Kc Q else Kc (a.put o.dst undef) W := by
 obtain ⟨i0, hi, hzz⟩ := Option.map_eq_some_iff.1 hinfo
 simp only [Prod.mk.injEq] at hzz
 obtain ⟨hz0, hz1, hz2⟩ := hzz
 rw [if_pos hw]
 obtain ⟨v1, w1, hr, h2, h3, _⟩ := Lib.run_append_own_string (P := P) W base t u o.type e i0 ht hu hi hz0 hz1 hz2 v xs.length (nums .u8 xs) HO y (by simp only [maxLen]; omega) hl hbase
 have hl2 : (xs ++ bytesOf y).length = xs.length + y.size := by rw [List.length_append, bytesOf_length]
 have hc : nums .u8 (xs ++ bytesOf y) = nums .u8 xs ++ Lib.strCells y := by
  rw [nums_append]
  congr 1
  simp [nums, bytesOf, Lib.strCells]
 unfold Oper.wp execOp
 simp only [ho, resolve, invoke, builtin, Sem.run_bind, Sem.run_pure, Result.andThen_ok, List.map_toArray, List.map_cons, List.map_nil, hs, hx, hr]
 exact h v1 w1 (by rw [hl2, hc]; exact h2) (HB.grown h3 hbase (own_base HO)) h3
/-- Where the row lies behind a string's append: where it lay, or in a new block. -/
theorem app_str_at {P : Program} {W : World} (t u ty e : TypeId) (i : TypeInfo) (base : Nat) (ht : P.underlying t = some (.slice e)) (hu : P.underlying u = some .string) (hi : P.info? e = some i) (hz : i.zero = some (.int .u8 0)) (hsize : i.size = 1) (hby : i.bytes = 1)
  (v : Value) (n : Nat) (xs : List Value) (hown : W.ownsRow base e 1 v n xs) (s : ByteArray) (hl : n + s.size ≤ 140737488355328) {v1 : Value} {w1 : World} (hr : (Builtin.append_ #[t, u] ty #[v, .string s]).run P W = .ok v1 w1) :
  v1.ownBlock = v.ownBlock ∨ ∃ b, v1.ownBlock = some b ∧ W.heap.size ≤ b := by
 have hxl : xs.length = n := by simpa using hown.1
 rcases hown.2 with ⟨rfl, rfl⟩ | ⟨g, cap, cur, rfl, hbg, hg, hnc, hcm, hcs, htake⟩
 ·by_cases hm : s.size = 0
  ·have hf := Lib.run_firstCells_string (P := P) W 1 s
   rw [hm] at hf
   simp [Builtin.append_, Go.run_underlying ht, Go.run_underlying hu, sizeOf, typeInfo, hi, hsize, Builtin.lenOf, hm, hf] at hr
   obtain ⟨rfl, _⟩ := hr
   exact .inl rfl
  ·rw [Go.run_append_nil_string (P := P) W t u ty e i (.int .u8 0) ht hu hi hz s (by omega) (by omega) (by rw [hby]; omega)] at hr
   injection hr with h1 h2
   subst h1
   exact .inr ⟨_, rfl, Nat.le_refl _⟩
 ·by_cases hroom : n + s.size ≤ cap
  ·have hcs' : cur.size = cap := by simpa using hcs
   rw [Lib.run_append_room_string (P := P) W t u ty e i ht hu hi hsize g n cap cur hg s hroom (by omega)] at hr
   injection hr with h1 h2
   subst h1
   exact .inl rfl
  ·have holds : ∀ j u, xs[j]? = some u → W.cell? ((⟨g, 0, none⟩ : Addr).add j) = some u := hown.cells (g := g) rfl
   rw [Lib.run_append_grow_string (P := P) W t u ty e i (.int .u8 0) ht hu hi hz ⟨g, 0, none⟩ n cap xs (by rw [hsize]; simpa using hxl) holds s (by omega) (by omega) (by rw [hby]; exact Go.growslice_fits (by omega) (by omega))] at hr
   injection hr with h1 h2
   subst h1
   exact .inr ⟨_, rfl, Nat.le_refl _⟩
theorem ok_at {v v1 : Value} {W : World} {ok : Nat → Prop} (h : ∀ k, v.ownBlock = some k → ok k) (hf : ∀ k, W.heap.size ≤ k → ok k) (hat : v1.ownBlock = v.ownBlock ∨ ∃ b, v1.ownBlock = some b ∧ W.heap.size ≤ b) : ∀ k, v1.ownBlock = some k → ok k := by
 intro k hk
 rcases hat with e1 | ⟨b, e1, hbb⟩
 ·exact h k (by rw [← e1]; exact hk)
 ·rw [e1] at hk
  injection hk with hk
  subst hk
  exact hf _ hbb
theorem R_str_at {α : Type} {enc : α → Value} {h1 : ∀ x : α, (enc x).oneCell' = true} {e : Nat} {W w1 : World} {base : Nat} {ok : Nat → Prop} {v v1 : Value} {xs ys : List α} (ho0 : w1.ownsRow base e 1 v1 ys.length (encs enc ys))
  (hat : v1.ownBlock = v.ownBlock ∨ ∃ b, v1.ownBlock = some b ∧ W.heap.size ≤ b) (hf : ∀ k, W.heap.size ≤ k → ok k) (HO : (Kd.scalar enc h1).R e W base ok v xs) : (Kd.scalar enc h1).R e w1 base ok v1 ys := Kd.R_of_own ho0 (ok_at HO.1 hf hat)
/-- A string appended, with where the row lies then: as one step of a region that draws its order. -/
theorem print_append_strH_step {P : Program} {ops : Array Oper} {o : Oper} {a : Act} {Q : Exit → Act → World → Prop} {Kc : Act → World → Prop} {w0 W : World} (base : Nat) (hw : Region.wanted o (yielded ops a.tmps) = true) (s x : Operand) (t u e : TypeId)
  (ho : o.op = .call { callee := .builtin .append, args := #[s, x], argTypes := #[t, u] })
  (ht : P.underlying t = some (.slice e)) (hu : P.underlying u = some .string) (hinfo : (P.info? e).map (fun i => (i.zero, i.size, i.bytes)) = some (some (.int .u8 0), 1, 1))
  (v : Value) (xs : List Int) (y : ByteArray) (hs : a.eval s = v) (hx : a.eval x = .string y)
  (HO : W.ownsRow base e 1 v xs.length (nums .u8 xs)) (HB : Below base w0 W) (hbase : base ≤ W.heap.size) (hl : xs.length + y.size ≤ 140737488355328)
  (h : ∀ v1 w1, w1.ownsRow base e 1 v1 (xs ++ bytesOf y).length (nums .u8 (xs ++ bytesOf y)) → Below base w0 w1 → W.grownBy w1 v.ownBlock → (v1.ownBlock = v.ownBlock ∨ ∃ b, v1.ownBlock = some b ∧ W.heap.size ≤ b) → Kc (a.put o.dst v1) w1) :
  if Region.wanted o (yielded ops a.tmps) = true then Oper.wp P o a W Kc Q else Kc (a.put o.dst undef) W := by
 obtain ⟨i0, hi, hzz⟩ := Option.map_eq_some_iff.1 hinfo
 simp only [Prod.mk.injEq] at hzz
 obtain ⟨hz0, hz1, hz2⟩ := hzz
 rw [if_pos hw]
 obtain ⟨v1, w1, hr, h2, h3, _⟩ := Lib.run_append_own_string (P := P) W base t u o.type e i0 ht hu hi hz0 hz1 hz2 v xs.length (nums .u8 xs) HO y (by simp only [maxLen]; omega) hl hbase
 have h4 := app_str_at t u o.type e i0 base ht hu hi hz0 hz1 hz2 v xs.length (nums .u8 xs) HO y hl hr
 have hl2 : (xs ++ bytesOf y).length = xs.length + y.size := by rw [List.length_append, bytesOf_length]
 have hc : nums .u8 (xs ++ bytesOf y) = nums .u8 xs ++ Lib.strCells y := by
  rw [nums_append]
  congr 1
  simp [nums, bytesOf, Lib.strCells]
 unfold Oper.wp execOp
 simp only [ho, resolve, invoke, builtin, Sem.run_bind, Sem.run_pure, Result.andThen_ok, List.map_toArray, List.map_cons, List.map_nil, hs, hx, hr]
 exact h v1 w1 (by rw [hl2, hc]; exact h2) (HB.grown h3 hbase (own_base HO)) h3 h4
theorem print_append_strH {P : Program} {ops : Array Oper} {rest : List Oper} {o : Oper} {a : Act} {Q : Exit → Act → World → Prop} {w0 W : World} (base : Nat) (hgd : o.guard = none) (s x : Operand) (t u e : TypeId)
  (ho : o.op = .call { callee := .builtin .append, args := #[s, x], argTypes := #[t, u] })
  (ht : P.underlying t = some (.slice e)) (hu : P.underlying u = some .string) (hinfo : (P.info? e).map (fun i => (i.zero, i.size, i.bytes)) = some (some (.int .u8 0), 1, 1))
  (v : Value) (xs : List Int) (y : ByteArray) (hs : a.eval s = v) (hx : a.eval x = .string y)
  (HO : W.ownsRow base e 1 v xs.length (nums .u8 xs)) (HB : Below base w0 W) (hbase : base ≤ W.heap.size) (hl : xs.length + y.size ≤ 140737488355328)
  (h : ∀ v1 w1, w1.ownsRow base e 1 v1 (xs ++ bytesOf y).length (nums .u8 (xs ++ bytesOf y)) → Below base w0 w1 → W.grownBy w1 v.ownBlock → (v1.ownBlock = v.ownBlock ∨ ∃ b, v1.ownBlock = some b ∧ W.heap.size ≤ b) → wpList P ops Q rest (a.put o.dst v1) w1) :
  wpList P ops Q (o :: rest) a W := by
 obtain ⟨i0, hi, hzz⟩ := Option.map_eq_some_iff.1 hinfo
 simp only [Prod.mk.injEq] at hzz
 obtain ⟨hz0, hz1, hz2⟩ := hzz
 obtain ⟨v1, w1, hr, h2, h3, _⟩ := Lib.run_append_own_string (P := P) W base t u o.type e i0 ht hu hi hz0 hz1 hz2 v xs.length (nums .u8 xs) HO y (by simp only [maxLen]; omega) hl hbase
 have h4 := app_str_at t u o.type e i0 base ht hu hi hz0 hz1 hz2 v xs.length (nums .u8 xs) HO y hl hr
 have hl2 : (xs ++ bytesOf y).length = xs.length + y.size := by rw [List.length_append, bytesOf_length]
 have hc : nums .u8 (xs ++ bytesOf y) = nums .u8 xs ++ Lib.strCells y := by
  rw [nums_append]
  congr 1
  simp [nums, bytesOf, Lib.strCells]
 refine wpList_plain hgd fun K hK => ?_
 unfold Oper.wp execOp
 simp only [ho, resolve, invoke, builtin, Sem.run_bind, Sem.run_pure, Result.andThen_ok, List.map_toArray, List.map_cons, List.map_nil, hs, hx, hr]
 exact hK _ _ (h v1 w1 (by rw [hl2, hc]; exact h2) (HB.grown h3 hbase (own_base HO)) h3 h4)
/-- A row that is read whatever is done to the blocks of S lies in none of them: its cells stay. -/
theorem kept_same {α : Type} {d : Kd α} {w W W' : World} {S : Nat → Prop} {A : Option Addr} {n : Nat} {xs : List α} {ad : Addr} (h : ∀ W', Kept w W' S → d.C W' A n xs) (hsz : 0 < d.sz) (hn : 0 < n) (e : A = some ad) (hk : Kept w W S) (hk' : Kept w W' S) (a : Addr) (ha : a.block = ad.block) : W'.cell? a = W.cell? a := by
 have first : ∀ V : World, Kept w V S → ∃ (b : Addr) (u : Value), b.block = ad.block ∧ V.cell? b = some u := fun V hV => by
  have hC := h V hV
  obtain ⟨ad1, e1, hc⟩ := hC.2.2 hn
  obtain rfl : ad = ad1 := Option.some.inj (e.symm.trans e1)
  have hl := hC.1
  obtain ⟨c, hcl, _, hcell⟩ := hc 0 _ (List.getElem?_eq_getElem (show 0 < xs.length by omega))
  obtain ⟨u, hu⟩ : ∃ u, c[0]? = some u := ⟨_, List.getElem?_eq_getElem (by omega)⟩
  exact ⟨_, u, add_block _ _, hcell 0 u hu⟩
 obtain ⟨b0, u0, hb0, hu0⟩ := first w (Kept.refl w S)
 have hlt : ad.block < w.heap.size := by
  have := World.block_lt_of_cell? w b0 hu0
  rwa [hb0] at this
 by_cases hS : S ad.block
 ·exfalso
  have hV : Kept w { w with heap := w.heap.setIfInBounds ad.block (.cells #[] 0 (0, 0)) } S := by
   refine ⟨by simp, fun i _ hi => ?_⟩
   show (w.heap.setIfInBounds ad.block _)[i]? = _
   rw [Array.getElem?_setIfInBounds_ne]
   intro he
   rw [he] at hS
   exact hi hS
  obtain ⟨b1, u1, hb1, hu1⟩ := first _ hV
  have hz : ({ w with heap := w.heap.setIfInBounds ad.block (.cells #[] 0 (0, 0)) } : World).heap[b1.block]? = some (.cells #[] 0 (0, 0)) := by
   rw [hb1]
   show (w.heap.setIfInBounds ad.block _)[ad.block]? = _
   rw [Array.getElem?_setIfInBounds_self_of_lt hlt]
  rw [World.cell?, hz] at hu1
  simp at hu1
 ·have h1 := hk.2 ad.block hlt hS
  have h2 := hk'.2 ad.block hlt hS
  have h3 : W'.heap[a.block]? = W.heap[a.block]? := by rw [ha, h1, h2]
  unfold World.cell?
  rw [h3]
end Go.Proofs.Ytkcomfmdcmjagaa.Ix
-- narrow
