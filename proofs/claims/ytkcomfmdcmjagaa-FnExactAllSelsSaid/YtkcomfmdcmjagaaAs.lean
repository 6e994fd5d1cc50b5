/- Plain words: values, arguments, directives and selections as data that lies in memory; no statement of the program is proved here. No conditions. -/
import Derived.Test.YtkcomfmdcmjagaaOFnExactAllSelsx0
import Derived.Test.YtkcomfmdcmjagaaLay
namespace Go.Proofs.Ytkcomfmdcmjagaa.OFnExactAllSels
open Go.Proofs.Ytkcomfmdcmjagaa.Lay Go.Proofs.Ytkcomfmdcmjagaa.Mark
open Go.RowKit Go.Proofs.YtkcomfmdcmjagaaW.PrintWords Go.Proofs.YtkcomfmdcmjagaaW.PrintLast Go.Proofs.YtkcomfmdcmjagaaW.PrintMore
set_option linter.unusedVariables false
set_option linter.unusedSimpArgs false
abbrev dT (s : ByteArray) : D := .str s
mutual
def dV : S30 → D
 | ⟨a, b, c, d⟩ => .cons (.int a) (.cons (.str b) (.cons (.row c.length (dVs c)) (.cons (.row d.length (D.list dT d)) .nil)))
def dVs : List S30 → D
 | [] => .nil
 | x :: r => .cons (dV x) (dVs r)
end
theorem dVs_eq : ∀ l, dVs l = D.list dV l
 | [] => by rw [dVs]; rfl
 | x :: r => by rw [dVs, dVs_eq r]; rfl
theorem dV_eq (x : S30) : dV x = .cons (.int x.f0) (.cons (.str x.f1) (.cons (.row x.f2.length (D.list dV x.f2)) (.cons (.row x.f3.length (D.list dT x.f3)) .nil))) := by
 cases x
 rw [dV, dVs_eq]
def dA (x : S78) : D := .cons (.str x.f0) (dV x.f1)
def dD (x : S95) : D := .cons (.str x.f0) (.cons (.row x.f1.length (D.list dA x.f1)) .nil)
mutual
def dS : S54 → D
 | ⟨a, b, c, d, e, f, g⟩ => .cons (.int a) (.cons (.str b) (.cons (.str c) (.cons (.str d) (.cons (.row e.length (D.list dA e)) (.cons (.row f.length (D.list dD f)) (.cons (.row g.length (dSs g)) .nil))))))
def dSs : List S54 → D
 | [] => .nil
 | x :: r => .cons (dS x) (dSs r)
end
theorem dSs_eq : ∀ l, dSs l = D.list dS l
 | [] => by rw [dSs]; rfl
 | x :: r => by rw [dSs, dSs_eq r]; rfl
theorem dS_eq (x : S54) : dS x = .cons (.int x.f0) (.cons (.str x.f1) (.cons (.str x.f2) (.cons (.str x.f3) (.cons (.row x.f4.length (D.list dA x.f4)) (.cons (.row x.f5.length (D.list dD x.f5)) (.cons (.row x.f6.length (D.list dS x.f6)) .nil)))))) := by
 cases x
 rw [dS, dSs_eq]
theorem szT (x : ByteArray) : (dT x).sz = 1 := rfl
theorem szV (x : S30) : (dV x).sz = 4 := by rw [dV_eq]; rfl
theorem szA (x : S78) : (dA x).sz = 5 := by
 show 1 + (dV x.f1).sz = 5
 rw [szV]
theorem szD (x : S95) : (dD x).sz = 2 := rfl
theorem szS (x : S54) : (dS x).sz = 7 := by rw [dS_eq]; rfl
theorem indV {P : S30 → Prop} (h : ∀ x, (∀ y ∈ x.f2, P y) → P x) : ∀ x, P x := by
 have key : ∀ (n : Nat) x, SizeOf.sizeOf x ≤ n → P x := by
  intro n
  induction n with
  | zero => intro x hx; cases x; simp at hx
  | succ n ih =>
   intro x hx
   refine h x (fun y hy => ih y ?_)
   have := List.sizeOf_lt_of_mem hy
   cases x
   simp at hx this ⊢
   omega
 exact fun x => key _ x (Nat.le_refl _)
theorem indS {P : S54 → Prop} (h : ∀ x, (∀ y ∈ x.f6, P y) → P x) : ∀ x, P x := by
 have key : ∀ (n : Nat) x, SizeOf.sizeOf x ≤ n → P x := by
  intro n
  induction n with
  | zero => intro x hx; cases x; simp at hx
  | succ n ih =>
   intro x hx
   refine h x (fun y hy => ih y ?_)
   have := List.sizeOf_lt_of_mem hy
   cases x
   simp at hx this ⊢
   omega
 exact fun x => key _ x (Nat.le_refl _)
section
variable {w : World} {base : Nat} {ok : Nat → Prop} {v : Value}
theorem row1 {lo hi n : Nat} {c : D} (h : Tr w lo hi n c v) : Cells w.cell? (.row n c) [v] ∧ ∀ b ∈ cb w.cell? (.row n c) [v], Blk w lo hi b := ⟨⟨v, rfl, h.at_⟩, h.blk⟩
theorem cons1 {h t : D} {c1 c2 : List Value} {G : Nat → Prop} (a : Cells w.cell? h c1 ∧ ∀ b ∈ cb w.cell? h c1, G b) (b : Cells w.cell? t c2 ∧ ∀ b ∈ cb w.cell? t c2, G b) : Cells w.cell? (.cons h t) (c1 ++ c2) ∧ ∀ b ∈ cb w.cell? (.cons h t) (c1 ++ c2), G b := by
 refine ⟨⟨c1, c2, rfl, a.1, b.1⟩, fun k hk => ?_⟩
 rw [cb_app a.1.len] at hk
 rcases List.mem_append.1 hk with hk | hk
 ·exact a.2 k hk
 ·exact b.2 k hk
theorem int1 (k : Int) (G : Nat → Prop) : Cells w.cell? (.int k) [.int .i64 k] ∧ ∀ b ∈ cb w.cell? (.int k) [.int .i64 k], G b := ⟨rfl, fun b hb => by cases hb⟩
theorem str1 (s : ByteArray) (G : Nat → Prop) : Cells w.cell? (.str s) [.string s] ∧ ∀ b ∈ cb w.cell? (.str s) [.string s], G b := ⟨rfl, fun b hb => by cases hb⟩
theorem nil1 (G : Nat → Prop) : Cells w.cell? .nil [] ∧ ∀ b ∈ cb w.cell? .nil [], G b := ⟨rfl, fun b hb => by cases hb⟩
theorem trT {e : Nat} {l : List ByteArray} (h : Kd.string.R e w base ok v l) : Tr w base w.heap.size l.length (D.list dT l) v := tr_of_R szT h (fun x _ ok cs hm => by
 have hm : cs = [.string x] := hm
 subst hm
 exact str1 x _)
theorem cellsV (x : S30) : ∀ {ok : Nat → Prop} {cs : List Value}, k30.M w base ok x cs → Cells w.cell? (dV x) cs ∧ ∀ b ∈ cb w.cell? (dV x) cs, Blk w base w.heap.size b := by
 induction x using indV with
 | h x ih =>
  intro ok cs h
  obtain ⟨v2, v3, rfl, h2, h3⟩ := k30_openM h
  rw [dV_eq]
  exact cons1 (int1 _ _) (cons1 (str1 _ _) (cons1 (row1 (tr_of_R szV h2 (fun y hy ok cs hm => ih y hy hm))) (cons1 (row1 (trT h3)) (nil1 _))))
theorem trV {e : Nat} {l : List S30} (h : k30.R e w base ok v l) : Tr w base w.heap.size l.length (D.list dV l) v := tr_of_R szV h (fun x _ ok cs hm => cellsV x hm)
theorem trA {e : Nat} {l : List S78} (h : k78.R e w base ok v l) : Tr w base w.heap.size l.length (D.list dA l) v := tr_of_R szA h (fun x _ ok cs hm => by
 obtain ⟨v3, v4, rfl, h3, h4⟩ := k78_openM hm
 exact cons1 (c1 := [.string x.f0]) (str1 _ _) (cellsV x.f1 (k30_mkM w base ok x.f1 h3 h4)))
theorem trD {e : Nat} {l : List S95} (h : k95.R e w base ok v l) : Tr w base w.heap.size l.length (D.list dD l) v := tr_of_R szD h (fun x _ ok cs hm => by
 obtain ⟨v1, rfl, h1⟩ := k95_openM hm
 exact cons1 (str1 _ _) (cons1 (row1 (trA h1)) (nil1 _)))
theorem cellsS (x : S54) : ∀ {ok : Nat → Prop} {cs : List Value}, k54.M w base ok x cs → Cells w.cell? (dS x) cs ∧ ∀ b ∈ cb w.cell? (dS x) cs, Blk w base w.heap.size b := by
 induction x using indS with
 | h x ih =>
  intro ok cs h
  obtain ⟨v4, v5, v6, rfl, h4, h5, h6⟩ := k54_openM h
  rw [dS_eq]
  exact cons1 (int1 _ _) (cons1 (str1 _ _) (cons1 (str1 _ _) (cons1 (str1 _ _) (cons1 (row1 (trA h4)) (cons1 (row1 (trD h5)) (cons1 (row1 (tr_of_R szS h6 (fun y hy ok cs hm => ih y hy hm))) (nil1 _)))))))
theorem trS {e : Nat} {l : List S54} (h : k54.R e w base ok v l) : Tr w base w.heap.size l.length (D.list dS l) v := tr_of_R szS h (fun x _ ok cs hm => cellsS x hm)

/-! ### read as the print's kinds -/
theorem CT {l : List ByteArray} (h : RowAt w.cell? l.length (D.list dT l) v) : ∃ A c, v = .slice A l.length c ∧ l.length ≤ c ∧ Kd.string.C w A l.length l := C_of_row szT h (fun x _ g o hl => ⟨[.string x], rfl, rfl, fun j u hj => by
 cases j with
 | zero => simp at hj; subst hj; exact hl
 | succ j => simp at hj⟩)
theorem KV (x : S30) : ∀ g o, Lay w.cell? (dV x) g o → ∃ cs, cs.length = 4 ∧ k30.K w x cs ∧ ∀ j u, cs[j]? = some u → w.cell? ⟨g, o + j, none⟩ = some u := by
 induction x using indV with
 | h x ih =>
  intro g o h
  obtain ⟨cs, hc, _, hcell⟩ := Lay.cells _ g o h
  refine ⟨cs, hc.len.trans (szV x), ?_, hcell⟩
  rw [dV_eq] at hc
  obtain ⟨_, _, rfl, rfl, _, _, rfl, rfl, _, _, rfl, ⟨v2, rfl, h2⟩, _, _, rfl, ⟨v3, rfl, h3⟩, rfl⟩ := hc
  obtain ⟨A2, c2, rfl, l2, g2⟩ := C_of_row (d := k30) szV h2 (fun y hy => ih y hy)
  obtain ⟨A3, c3, rfl, l3, g3⟩ := CT h3
  exact k30_mk w x l2 g2 l3 g3
theorem CV {l : List S30} (h : RowAt w.cell? l.length (D.list dV l) v) : ∃ A c, v = .slice A l.length c ∧ l.length ≤ c ∧ k30.C w A l.length l := C_of_row szV h (fun x _ => KV x)
theorem CA {l : List S78} (h : RowAt w.cell? l.length (D.list dA l) v) : ∃ A c, v = .slice A l.length c ∧ l.length ≤ c ∧ k78.C w A l.length l := C_of_row szA h (fun x _ g o hl => by
 obtain ⟨cs, hc, _, hcell⟩ := Lay.cells _ g o hl
 refine ⟨cs, hc.len.trans (szA x), ?_, hcell⟩
 unfold dA at hc
 rw [dV_eq] at hc
 obtain ⟨_, _, rfl, rfl, _, _, rfl, rfl, _, _, rfl, rfl, _, _, rfl, ⟨v2, rfl, h2⟩, _, _, rfl, ⟨v3, rfl, h3⟩, rfl⟩ := hc
 obtain ⟨A2, c2, rfl, l2, g2⟩ := CV h2
 obtain ⟨A3, c3, rfl, l3, g3⟩ := CT h3
 exact k78_mk w x l2 g2 l3 g3)
theorem CD {l : List S95} (h : RowAt w.cell? l.length (D.list dD l) v) : ∃ A c, v = .slice A l.length c ∧ l.length ≤ c ∧ k95.C w A l.length l := C_of_row szD h (fun x _ g o hl => by
 obtain ⟨cs, hc, _, hcell⟩ := Lay.cells _ g o hl
 refine ⟨cs, hc.len.trans (szD x), ?_, hcell⟩
 obtain ⟨_, _, rfl, rfl, _, _, rfl, ⟨v1, rfl, h1⟩, rfl⟩ := hc
 obtain ⟨A1, c1, rfl, l1, g1⟩ := CA h1
 exact k95_mk w x l1 g1)
theorem KS (x : S54) : ∀ g o, Lay w.cell? (dS x) g o → ∃ cs, cs.length = 7 ∧ k54.K w x cs ∧ ∀ j u, cs[j]? = some u → w.cell? ⟨g, o + j, none⟩ = some u := by
 induction x using indS with
 | h x ih =>
  intro g o h
  obtain ⟨cs, hc, _, hcell⟩ := Lay.cells _ g o h
  refine ⟨cs, hc.len.trans (szS x), ?_, hcell⟩
  rw [dS_eq] at hc
  obtain ⟨_, _, rfl, rfl, _, _, rfl, rfl, _, _, rfl, rfl, _, _, rfl, rfl, _, _, rfl, ⟨v4, rfl, h4⟩, _, _, rfl, ⟨v5, rfl, h5⟩, _, _, rfl, ⟨v6, rfl, h6⟩, rfl⟩ := hc
  obtain ⟨A4, c4, rfl, l4, g4⟩ := CA h4
  obtain ⟨A5, c5, rfl, l5, g5⟩ := CD h5
  obtain ⟨A6, c6, rfl, l6, g6⟩ := C_of_row (d := k54) szS h6 (fun y hy => ih y hy)
  exact k54_mk w x l4 g4 l5 g5 l6 g6
theorem CS {l : List S54} (h : RowAt w.cell? l.length (D.list dS l) v) : ∃ A c, v = .slice A l.length c ∧ l.length ≤ c ∧ k54.C w A l.length l := C_of_row szS h (fun x _ => KS x)
end
end Go.Proofs.Ytkcomfmdcmjagaa.OFnExactAllSels
-- narrow
