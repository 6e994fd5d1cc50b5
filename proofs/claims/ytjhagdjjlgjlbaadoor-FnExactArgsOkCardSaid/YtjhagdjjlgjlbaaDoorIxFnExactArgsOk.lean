/- Plain words: where the first lies of which a partial test says yes; whether two lists are alike by a partial test; no statement of the program is proved here. No conditions. -/
import Derived.Test.YtjhagdjjlgjlbaaDoorZFnExactArgsOk0
namespace Go.Proofs.YtjhagdjjlgjlbaaDoor.Ix
set_option linter.unusedVariables false
set_option linter.unusedSimpArgs false
open Go.RowKit Go.Proofs.YtjhagdjjlgjlbaaDoorW.PrintWords

/-- Where the first lies of which p says yes, counted from i on; -1. -/
def ixO {α : Type} (p : α → Option Bool) : List α → Int → Option Int
  | [], _ => some (-1)
  | x :: r, i => (p x).bind fun b => if b = true then some i else ixO p r (i + 1)

theorem ixO_at {α : Type} (d : α) (p : α → Option Bool) (l : List α) (x : Int) (h0 : 0 ≤ x) (h : x < (l.length : Int)) : ixO p (l.drop x.toNat) x = (p (l.getD x.toNat d)).bind fun b => if b = true then some x else ixO p (l.drop (x + 1).toNat) (x + 1) := by
  rw [show (x + 1).toNat = x.toNat + 1 by omega]
  have hk : x.toNat < l.length := by omega
  rw [List.drop_eq_getElem_cons hk]
  have e : l.getD x.toNat d = l[x.toNat] := by
    rw [List.getD_eq_getElem?_getD, List.getElem?_eq_getElem hk]
    rfl
  rw [e]
  rfl

theorem ixO_end {α : Type} (p : α → Option Bool) (l : List α) (x i : Int) (h : ¬ x < (l.length : Int)) : ixO p (l.drop x.toNat) i = some (-1) := by
  rw [List.drop_eq_nil_of_le (by omega)]
  rfl

theorem ixO_le {α : Type} (p p' : α → Option Bool) (hp : ∀ x, LeO (p x) (p' x)) : ∀ l i, LeO (ixO p l i) (ixO p' l i)
  | [], _ => LeO.refl _
  | x :: r, i => LeO.bind (hp x) (fun b => LeO.ite (LeO.refl _) (ixO_le p p' hp r (i + 1)))

/-- Does p say yes of one? -/
def anyO {α : Type} (p : α → Option Bool) (l : List α) : Option Bool := (ixO p l 0).map fun r => decide (0 ≤ r)

theorem anyO_le {α : Type} (p p' : α → Option Bool) (hp : ∀ x, LeO (p x) (p' x)) (l : List α) : LeO (anyO p l) (anyO p' l) := LeO.map _ (ixO_le p p' hp l 0)

/-- Are two lists of one length alike, by p? -/
def eqO {α β : Type} (p : α → β → Option Bool) : List α → List β → Option Bool
  | [], _ => some true
  | x :: r, y :: s => (p x y).bind fun b => if b = true then eqO p r s else some false
  | _ :: _, [] => none

theorem eqO_at {α β : Type} (d : α) (e : β) (p : α → β → Option Bool) (l : List α) (m : List β) (x : Int) (h0 : 0 ≤ x) (h : x < (l.length : Int)) (h' : x < (m.length : Int)) :
    eqO p (l.drop x.toNat) (m.drop x.toNat) = (p (l.getD x.toNat d) (m.getD x.toNat e)).bind fun b => if b = true then eqO p (l.drop (x + 1).toNat) (m.drop (x + 1).toNat) else some false := by
  rw [show (x + 1).toNat = x.toNat + 1 by omega]
  have hk : x.toNat < l.length := by omega
  have hk' : x.toNat < m.length := by omega
  rw [List.drop_eq_getElem_cons hk, List.drop_eq_getElem_cons hk']
  have e1 : l.getD x.toNat d = l[x.toNat] := by
    rw [List.getD_eq_getElem?_getD, List.getElem?_eq_getElem hk]
    rfl
  have e2 : m.getD x.toNat e = m[x.toNat] := by
    rw [List.getD_eq_getElem?_getD, List.getElem?_eq_getElem hk']
    rfl
  rw [e1, e2]
  rfl

theorem eqO_end {α β : Type} (p : α → β → Option Bool) (l : List α) (m : List β) (x : Int) (h : ¬ x < (l.length : Int)) : eqO p (l.drop x.toNat) m = some true := by
  rw [List.drop_eq_nil_of_le (by omega)]
  cases m <;> rfl

theorem eqO_le {α β : Type} (p p' : α → β → Option Bool) (hp : ∀ x y, LeO (p x y) (p' x y)) : ∀ l m, LeO (eqO p l m) (eqO p' l m)
  | [], [] => LeO.refl _
  | [], _ :: _ => LeO.refl _
  | _ :: _, [] => LeO.refl _
  | x :: r, y :: s => LeO.bind (hp x y) (fun b => LeO.ite (eqO_le p p' hp r s) (LeO.refl _))

/-- .. of whatever length. -/
def sameO {α β : Type} (p : α → β → Option Bool) (l : List α) (m : List β) : Option Bool := if l.length = m.length then eqO p l m else some false

theorem sameO_le {α β : Type} (p p' : α → β → Option Bool) (hp : ∀ x y, LeO (p x y) (p' x y)) (l : List α) (m : List β) : LeO (sameO p l m) (sameO p' l m) := LeO.ite (eqO_le p p' hp l m) (LeO.refl _)

theorem bind_true {r b : Bool} (h : (if b = true then some true else some false) = some r) : b = r := by cases b <;> simpa using h
end Go.Proofs.YtjhagdjjlgjlbaaDoor.Ix
