/- Plain words: data of numbers, texts and rows of data, how it lies in memory, which blocks it takes, what is left where marks are written over all its numbers and texts; no statement of the program is proved here. No conditions. -/
import Derived.Test.YtkcomfmdcmjagaaZFnExactAllSels0
import Derived.Test.YtkcomfmdcmjagaaMark
import Derived.Laws.World
namespace Go.Proofs.Ytkcomfmdcmjagaa.Lay
set_option linter.unusedVariables false
set_option linter.unusedSimpArgs false
open Go.RowKit Go.Proofs.YtkcomfmdcmjagaaW.PrintWords Go.Proofs.Ytkcomfmdcmjagaa.Mark

/-- Data: a number, a text, a row of n elements, cells in line. -/
inductive D
 | int (k : Int)
 | str (s : ByteArray)
 | row (n : Nat) (c : D)
 | nil
 | cons (h t : D)
namespace D
/-- How many cells it takes where it stands. -/
def sz : D → Nat
 | .int _ => 1
 | .str _ => 1
 | .row _ _ => 1
 | .nil => 0
 | .cons h t => sz h + sz t
/-- How many numbers and texts there are in it, in all. -/
def cnt : D → Nat
 | .int _ => 1
 | .str _ => 1
 | .row _ c => cnt c
 | .nil => 0
 | .cons h t => cnt h + cnt t
/-- Marks from k on in place of them. -/
def mark (T : Int → ByteArray) : D → Int → D
 | .int _, k => .int k
 | .str _, k => .str (T k)
 | .row n c, k => .row n (mark T c k)
 | .nil, _ => .nil
 | .cons h t, k => .cons (mark T h k) (mark T t (k + cnt h))
theorem sz_mark (T : Int → ByteArray) : ∀ (d : D) k, (d.mark T k).sz = d.sz
 | .int _, _ => rfl
 | .str _, _ => rfl
 | .row _ _, _ => rfl
 | .nil, _ => rfl
 | .cons h t, k => by simp only [mark, sz, sz_mark T h, sz_mark T t]
theorem cnt_mark (T : Int → ByteArray) : ∀ (d : D) k, (d.mark T k).cnt = d.cnt
 | .int _, _ => rfl
 | .str _, _ => rfl
 | .row _ c, k => by simp only [mark, cnt, cnt_mark T c]
 | .nil, _ => rfl
 | .cons h t, k => by simp only [mark, cnt, cnt_mark T h, cnt_mark T t]
/-- No row is longer than any machine's. -/
def fits : D → Prop
 | .int _ => True
 | .str _ => True
 | .row n c => n ≤ 1073741824 ∧ fits c
 | .nil => True
 | .cons h t => fits h ∧ fits t
/-- Elements in line. -/
def list {α : Type} (f : α → D) : List α → D
 | [] => .nil
 | x :: r => .cons (f x) (list f r)
theorem sz_list {α : Type} {f : α → D} {m : Nat} (hf : ∀ x, (f x).sz = m) : ∀ l, (list f l).sz = l.length * m
 | [] => by simp [list, sz]
 | x :: r => by rw [list, sz, hf, sz_list hf r, List.length_cons, Nat.add_mul, Nat.one_mul, Nat.add_comm]
end D

/-- How memory is read. -/
abbrev Rd := Addr → Option Value
/-- Data d lies in block g from place o on. -/
def Lay (r : Rd) : D → Nat → Nat → Prop
 | .int k, g, o => r ⟨g, o, none⟩ = some (.int .i64 k)
 | .str s, g, o => r ⟨g, o, none⟩ = some (.string s)
 | .row n c, g, o => ∃ v, r ⟨g, o, none⟩ = some v ∧ (v = .slice none 0 0 ∧ n = 0 ∧ c = .nil ∨ ∃ a cap, v = .slice (some ⟨a, 0, none⟩) n cap ∧ n ≤ cap ∧ n ≤ maxLen ∧ Lay r c a 0)
 | .nil, _, _ => True
 | .cons h t, g, o => Lay r h g o ∧ Lay r t g (o + h.sz)
/-- A row's value, with what lies behind it. -/
def RowAt (r : Rd) (n : Nat) (c : D) (v : Value) : Prop := v = .slice none 0 0 ∧ n = 0 ∧ c = .nil ∨ ∃ a cap, v = .slice (some ⟨a, 0, none⟩) n cap ∧ n ≤ cap ∧ n ≤ maxLen ∧ Lay r c a 0
def hd : Option Value → Option Nat
 | some (.slice (some ad) _ _) => some ad.block
 | _ => none
/-- The blocks of the rows in it. -/
def bl (r : Rd) : D → Nat → Nat → List Nat
 | .int _, _, _ => []
 | .str _, _, _ => []
 | .row _ c, g, o => match hd (r ⟨g, o, none⟩) with
  | some a => a :: bl r c a 0
  | none => []
 | .nil, _, _ => []
 | .cons h t, g, o => bl r h g o ++ bl r t g (o + h.sz)
def rbl (r : Rd) (c : D) (v : Value) : List Nat := match hd (some v) with
 | some a => a :: bl r c a 0
 | none => []
theorem bl_row {r : Rd} {n : Nat} {c : D} {g o : Nat} {v : Value} (h : r ⟨g, o, none⟩ = some v) : bl r (.row n c) g o = rbl r c v := by
 unfold rbl
 rw [bl, h]
/-- Read alike where it lies, it lies there still, in the same blocks. -/
theorem Lay.frame {r r' : Rd} : ∀ (d : D) (g o : Nat), Lay r d g o → (∀ a : Addr, (a.block = g ∧ o ≤ a.off ∧ a.off < o + d.sz) ∨ a.block ∈ bl r d g o → r' a = r a) → Lay r' d g o ∧ bl r' d g o = bl r d g o
 | .int k, g, o, h, hr => ⟨(hr ⟨g, o, none⟩ (.inl ⟨rfl, Nat.le_refl _, by simp [D.sz]⟩)).trans h, rfl⟩
 | .str s, g, o, h, hr => ⟨(hr ⟨g, o, none⟩ (.inl ⟨rfl, Nat.le_refl _, by simp [D.sz]⟩)).trans h, rfl⟩
 | .nil, _, _, _, _ => ⟨trivial, rfl⟩
 | .row n c, g, o, ⟨v, hv, h⟩, hr => by
  have e := hr ⟨g, o, none⟩ (.inl ⟨rfl, Nat.le_refl _, by simp [D.sz]⟩)
  rw [bl_row hv] at hr ⊢
  rw [bl_row (e.trans hv)]
  rcases h with ⟨rfl, rfl, rfl⟩ | ⟨a, cap, rfl, h1, h2, h3⟩
  ·exact ⟨⟨_, e.trans hv, .inl ⟨rfl, rfl, rfl⟩⟩, rfl⟩
  ·have ih := Lay.frame (r := r) (r' := r') c a 0 h3 (fun b hb => hr b (.inr (by
    unfold rbl hd
    rcases hb with ⟨hb, _⟩ | hb
    ·rw [hb]; exact List.mem_cons_self
    ·exact List.mem_cons_of_mem _ hb)))
   refine ⟨⟨_, e.trans hv, .inr ⟨a, cap, rfl, h1, h2, ih.1⟩⟩, ?_⟩
   unfold rbl hd
   simp only [ih.2]
 | .cons h t, g, o, ⟨h1, h2⟩, hr => by
  have i1 := Lay.frame (r := r) (r' := r') h g o h1 (fun a ha => hr a (by
   rcases ha with ⟨ha, hb, hc⟩ | ha
   ·exact .inl ⟨ha, hb, by simp only [D.sz]; omega⟩
   ·exact .inr (by rw [bl]; exact List.mem_append_left _ ha)))
  have i2 := Lay.frame (r := r) (r' := r') t g (o + h.sz) h2 (fun a ha => hr a (by
   rcases ha with ⟨ha, hb, hc⟩ | ha
   ·exact .inl ⟨ha, by omega, by simp only [D.sz]; omega⟩
   ·exact .inr (by rw [bl]; exact List.mem_append_right _ ha)))
  exact ⟨⟨i1.1, i2.1⟩, by rw [bl, bl, i1.2, i2.2]⟩
theorem RowAt.frame {r r' : Rd} {n : Nat} {c : D} {v : Value} (h : RowAt r n c v) (hr : ∀ a : Addr, a.block ∈ rbl r c v → r' a = r a) : RowAt r' n c v ∧ rbl r' c v = rbl r c v := by
 rcases h with ⟨rfl, rfl, rfl⟩ | ⟨a, cap, rfl, h1, h2, h3⟩
 ·exact ⟨.inl ⟨rfl, rfl, rfl⟩, rfl⟩
 ·have ih := Lay.frame c a 0 h3 (fun b hb => hr b (by
   unfold rbl hd
   rcases hb with ⟨hb, _⟩ | hb
   ·rw [hb]; exact List.mem_cons_self
   ·exact List.mem_cons_of_mem _ hb))
  exact ⟨.inr ⟨a, cap, rfl, h1, h2, ih.1⟩, by unfold rbl hd; simp only [ih.2]⟩

/-! ### marks written over all of it -/
/-- A cell read anew. -/
def upd (r : Rd) (a : Addr) (v : Value) : Rd := fun b => if b = a then some v else r b
theorem upd_same (r : Rd) (a : Addr) (v : Value) : upd r a v a = some v := if_pos rfl
theorem upd_other {r : Rd} {a b : Addr} {v : Value} (h : b ≠ a) : upd r a v b = r b := if_neg h
/-- How memory is read behind the marks: r0 tells where the rows lie. -/
def ov (T : Int → ByteArray) (r0 : Rd) : D → Nat → Nat → Int → Rd → Rd
 | .int _, g, o, k, r => upd r ⟨g, o, none⟩ (.int .i64 k)
 | .str _, g, o, k, r => upd r ⟨g, o, none⟩ (.string (T k))
 | .row _ c, g, o, k, r => match hd (r0 ⟨g, o, none⟩) with
  | some a => ov T r0 c a 0 k r
  | none => r
 | .nil, _, _, _, r => r
 | .cons h t, g, o, k, r => ov T r0 t g (o + h.sz) (k + h.cnt) (ov T r0 h g o k r)
def rov (T : Int → ByteArray) (r0 : Rd) (c : D) (v : Value) (k : Int) (r : Rd) : Rd := match hd (some v) with
 | some a => ov T r0 c a 0 k r
 | none => r
theorem ov_row {T : Int → ByteArray} {r0 : Rd} {n : Nat} {c : D} {g o : Nat} {k : Int} {r : Rd} {v : Value} (h : r0 ⟨g, o, none⟩ = some v) : ov T r0 (.row n c) g o k r = rov T r0 c v k r := by
 unfold rov
 rw [ov, h]
theorem ov_far {T : Int → ByteArray} {r0 : Rd} : ∀ (d : D) (g o : Nat) (k : Int) (r : Rd) (a : Addr), ¬ (a.block = g ∧ o ≤ a.off ∧ a.off < o + d.sz) → a.block ∉ bl r0 d g o → ov T r0 d g o k r a = r a
 | .int _, g, o, k, r, a, h, _ => upd_other (fun e => h (by rw [e]; exact ⟨rfl, Nat.le_refl _, by simp [D.sz]⟩))
 | .str _, g, o, k, r, a, h, _ => upd_other (fun e => h (by rw [e]; exact ⟨rfl, Nat.le_refl _, by simp [D.sz]⟩))
 | .nil, _, _, _, _, _, _, _ => rfl
 | .row n c, g, o, k, r, a, _, hb => by
  rw [ov]
  rw [bl] at hb
  cases e : hd (r0 ⟨g, o, none⟩) with
  | none => rfl
  | some b =>
   rw [e] at hb
   simp only [List.mem_cons, not_or] at hb
   exact ov_far c b 0 k r a (fun h => hb.1 h.1) hb.2
 | .cons h t, g, o, k, r, a, hn, hb => by
  rw [bl, List.mem_append, not_or] at hb
  rw [ov]
  refine (ov_far t g (o + h.sz) _ _ a (fun q => hn ⟨q.1, by omega, by simp only [D.sz]; omega⟩) hb.2).trans (ov_far h g o k r a (fun q => hn ⟨q.1, q.2.1, by simp only [D.sz]; omega⟩) hb.1)
/-- Where no two rows share a block, the marks are what lies there. -/
theorem ov_lay {T : Int → ByteArray} {r0 : Rd} : ∀ (d : D) (g o : Nat) (k : Int) (r : Rd), Lay r0 d g o → (g :: bl r0 d g o).Nodup → (∀ a : Addr, (a.block = g ∧ o ≤ a.off ∧ a.off < o + d.sz) ∨ a.block ∈ bl r0 d g o → r a = r0 a) →
  Lay (ov T r0 d g o k r) (d.mark T k) g o ∧ bl (ov T r0 d g o k r) (d.mark T k) g o = bl r0 d g o
 | .int _, g, o, k, r, _, _, _ => ⟨upd_same _ _ _, rfl⟩
 | .str _, g, o, k, r, _, _, _ => ⟨upd_same _ _ _, rfl⟩
 | .nil, _, _, _, _, _, _, _ => ⟨trivial, rfl⟩
 | .row n c, g, o, k, r, ⟨v, hv, h⟩, hn, hr => by
  rw [bl_row hv] at hn hr ⊢
  rw [ov_row hv]
  have e0 := hr ⟨g, o, none⟩ (.inl ⟨rfl, Nat.le_refl _, by simp [D.sz]⟩)
  rcases h with ⟨rfl, rfl, rfl⟩ | ⟨a, cap, rfl, h1, h2, h3⟩
  ·refine ⟨⟨_, e0.trans hv, .inl ⟨rfl, rfl, rfl⟩⟩, ?_⟩
   exact (bl_row (e0.trans hv)).trans rfl
  ·have hga : g ≠ a ∧ g ∉ bl r0 c a 0 := by
    have := (List.nodup_cons.1 hn).1
    unfold rbl hd at this
    simpa [not_or] using this
   have ih := ov_lay (T := T) c a 0 k r h3 (List.nodup_cons.1 hn).2 (fun b hb => hr b (.inr (by
    unfold rbl hd
    rcases hb with ⟨hb, _⟩ | hb
    ·rw [hb]; exact List.mem_cons_self
    ·exact List.mem_cons_of_mem _ hb)))
   have e1 : ov T r0 c a 0 k r ⟨g, o, none⟩ = some (.slice (some ⟨a, 0, none⟩) n cap) := (ov_far c a 0 k r _ (fun q => hga.1 q.1) hga.2).trans (e0.trans hv)
   refine ⟨⟨_, e1, .inr ⟨a, cap, rfl, h1, h2, ih.1⟩⟩, ?_⟩
   refine (bl_row e1).trans ?_
   unfold rbl hd
   simp only
   rw [ih.2]
 | .cons h t, g, o, k, r, ⟨h1, h2⟩, hn, hr => by
  rw [bl] at hn hr
  rw [ov, D.mark, Lay, D.sz_mark, bl, bl, D.sz_mark]
  have hn1 : (g :: bl r0 h g o).Nodup := hn.sublist (by simp)
  have hn2 : (g :: bl r0 t g (o + h.sz)).Nodup := hn.sublist (List.cons_sublist_cons.2 (List.sublist_append_right _ _))
  have hg := (List.nodup_cons.1 hn).1
  rw [List.mem_append, not_or] at hg
  have hd := (List.nodup_append.1 (List.nodup_cons.1 hn).2).2.2
  obtain ⟨i1, b1⟩ := ov_lay (T := T) h g o k r h1 hn1 (fun a ha => hr a (by
   rcases ha with ⟨ha, hb, hc⟩ | ha
   ·exact .inl ⟨ha, hb, by simp only [D.sz]; omega⟩
   ·exact .inr (List.mem_append_left _ ha)))
  have hfar : ∀ a : Addr, (a.block = g ∧ o + h.sz ≤ a.off ∧ a.off < o + h.sz + t.sz) ∨ a.block ∈ bl r0 t g (o + h.sz) → ov T r0 h g o k r a = r0 a := fun a ha => by
   refine (ov_far h g o k r a (fun q => ?_) (fun q => ?_)).trans (hr a ?_)
   ·rcases ha with ha | ha
    ·omega
    ·rw [q.1] at ha; exact hg.2 ha
   ·rcases ha with ha | ha
    ·rw [ha.1] at q; exact hg.1 q
    ·exact hd _ q _ ha rfl
   ·rcases ha with ⟨ha, hb, hc⟩ | ha
    ·exact .inl ⟨ha, by omega, by simp only [D.sz]; omega⟩
    ·exact .inr (List.mem_append_right _ ha)
  obtain ⟨i2, b2⟩ := ov_lay (T := T) t g (o + h.sz) (k + h.cnt) (ov T r0 h g o k r) h2 hn2 hfar
  have f1 := Lay.frame (r' := ov T r0 t g (o + h.sz) (k + h.cnt) (ov T r0 h g o k r)) _ g o i1 (fun a ha => by
   rw [D.sz_mark, b1] at ha
   refine ov_far t g (o + h.sz) _ _ a (fun q => ?_) (fun q => ?_)
   ·rcases ha with ha | ha
    ·omega
    ·rw [q.1] at ha; exact hg.1 ha
   ·rcases ha with ha | ha
    ·rw [ha.1] at q; exact hg.2 q
    ·exact hd _ ha _ q rfl)
  exact ⟨⟨f1.1, i2⟩, by rw [f1.2, b1, b2]⟩
theorem rov_row {T : Int → ByteArray} {r0 : Rd} {n : Nat} {c : D} {v : Value} (k : Int) (h : RowAt r0 n c v) (hn : (rbl r0 c v).Nodup) : RowAt (rov T r0 c v k r0) n (c.mark T k) v ∧ rbl (rov T r0 c v k r0) (c.mark T k) v = rbl r0 c v := by
 rcases h with ⟨rfl, rfl, rfl⟩ | ⟨a, cap, rfl, h1, h2, h3⟩
 ·exact ⟨.inl ⟨rfl, rfl, rfl⟩, rfl⟩
 ·obtain ⟨i1, i2⟩ := ov_lay (T := T) c a 0 k r0 h3 hn (fun _ _ => rfl)
  refine ⟨.inr ⟨a, cap, rfl, h1, h2, i1⟩, ?_⟩
  unfold rbl hd rov
  simp only
  rw [← i2]
  rfl

/-! ### cells that stand for data -/
def Cells (r : Rd) : D → List Value → Prop
 | .int k, cs => cs = [.int .i64 k]
 | .str s, cs => cs = [.string s]
 | .row n c, cs => ∃ v, cs = [v] ∧ RowAt r n c v
 | .nil, cs => cs = []
 | .cons h t, cs => ∃ c1 c2, cs = c1 ++ c2 ∧ Cells r h c1 ∧ Cells r t c2
theorem Cells.len {r : Rd} : ∀ {d : D} {cs : List Value}, Cells r d cs → cs.length = d.sz
 | .int _, _, h => by rw [h]; rfl
 | .str _, _, h => by rw [h]; rfl
 | .row _ _, _, ⟨_, h, _⟩ => by rw [h]; rfl
 | .nil, _, h => by rw [h]; rfl
 | .cons _ _, _, ⟨_, _, h, h1, h2⟩ => by rw [h, List.length_append, Cells.len h1, Cells.len h2]; rfl
/-- The blocks of the rows in them. -/
def cb (r : Rd) : D → List Value → List Nat
 | .int _, _ => []
 | .str _, _ => []
 | .row _ c, cs => match cs with
  | [v] => rbl r c v
  | _ => []
 | .nil, _ => []
 | .cons h t, cs => cb r h (cs.take h.sz) ++ cb r t (cs.drop h.sz)
theorem cb_app {r : Rd} {h t : D} {c1 c2 : List Value} (h1 : c1.length = h.sz) : cb r (.cons h t) (c1 ++ c2) = cb r h c1 ++ cb r t c2 := by
 rw [cb, ← h1, List.take_left, List.drop_left]
theorem Lay.of_cells {r : Rd} : ∀ (d : D) (g o : Nat) (cs : List Value), Cells r d cs → (∀ j u, cs[j]? = some u → r ⟨g, o + j, none⟩ = some u) → Lay r d g o ∧ bl r d g o = cb r d cs
 | .int k, g, o, cs, h, hc => ⟨hc 0 _ (by rw [h]; rfl), rfl⟩
 | .str s, g, o, cs, h, hc => ⟨hc 0 _ (by rw [h]; rfl), rfl⟩
 | .nil, g, o, cs, h, hc => ⟨trivial, rfl⟩
 | .row n c, g, o, cs, ⟨v, h, hv⟩, hc => by
  have e : r ⟨g, o, none⟩ = some v := hc 0 _ (by rw [h]; rfl)
  refine ⟨⟨v, e, hv⟩, ?_⟩
  rw [bl_row e, h]
  rfl
 | .cons h t, g, o, cs, ⟨c1, c2, he, h1, h2⟩, hc => by
  subst he
  have l1 := h1.len
  obtain ⟨i1, b1⟩ := Lay.of_cells h g o c1 h1 (fun j u hj => hc j u (by
   rw [List.getElem?_append_left (List.getElem?_eq_some_iff.1 hj).1]
   exact hj))
  obtain ⟨i2, b2⟩ := Lay.of_cells t g (o + h.sz) c2 h2 (fun j u hj => by
   have := hc (h.sz + j) u (by rw [List.getElem?_append_right (by omega), l1, Nat.add_sub_cancel_left]; exact hj)
   rwa [← Nat.add_assoc] at this)
  exact ⟨⟨i1, i2⟩, by rw [cb_app l1, bl, b1, b2]⟩
theorem Lay.cells {r : Rd} : ∀ (d : D) (g o : Nat), Lay r d g o → ∃ cs, Cells r d cs ∧ cb r d cs = bl r d g o ∧ ∀ j u, cs[j]? = some u → r ⟨g, o + j, none⟩ = some u
 | .int k, g, o, h => ⟨[.int .i64 k], rfl, rfl, fun j u hj => by
   cases j with
   | zero => simp at hj; subst hj; exact h
   | succ j => simp at hj⟩
 | .str s, g, o, h => ⟨[.string s], rfl, rfl, fun j u hj => by
   cases j with
   | zero => simp at hj; subst hj; exact h
   | succ j => simp at hj⟩
 | .nil, g, o, h => ⟨[], rfl, rfl, fun j u hj => by simp at hj⟩
 | .row n c, g, o, ⟨v, h, hv⟩ => ⟨[v], ⟨v, rfl, hv⟩, (bl_row h).symm, fun j u hj => by
   cases j with
   | zero => simp at hj; subst hj; exact h
   | succ j => simp at hj⟩
 | .cons h t, g, o, ⟨h1, h2⟩ => by
  obtain ⟨c1, i1, b1, e1⟩ := Lay.cells h g o h1
  obtain ⟨c2, i2, b2, e2⟩ := Lay.cells t g (o + h.sz) h2
  refine ⟨c1 ++ c2, ⟨c1, c2, rfl, i1, i2⟩, by rw [cb_app i1.len, bl, b1, b2], fun j u hj => ?_⟩
  have l1 := i1.len
  rcases Nat.lt_or_ge j c1.length with hl | hl
  ·rw [List.getElem?_append_left hl] at hj
   exact e1 j u hj
  ·rw [List.getElem?_append_right hl] at hj
   have := e2 _ u hj
   rwa [show o + h.sz + (j - c1.length) = o + j by omega] at this
theorem Cells.frame {r r' : Rd} : ∀ (d : D) (cs : List Value), Cells r d cs → (∀ a : Addr, a.block ∈ cb r d cs → r' a = r a) → Cells r' d cs ∧ cb r' d cs = cb r d cs
 | .int k, cs, h, _ => ⟨h, rfl⟩
 | .str s, cs, h, _ => ⟨h, rfl⟩
 | .nil, cs, h, _ => ⟨h, rfl⟩
 | .row n c, cs, ⟨v, h, hv⟩, hr => by
  subst h
  obtain ⟨i, b⟩ := hv.frame hr
  exact ⟨⟨v, rfl, i⟩, b⟩
 | .cons h t, cs, ⟨c1, c2, he, h1, h2⟩, hr => by
  subst he
  rw [cb_app h1.len] at hr
  obtain ⟨i1, b1⟩ := Cells.frame (r' := r') h c1 h1 (fun a ha => hr a (List.mem_append_left _ ha))
  obtain ⟨i2, b2⟩ := Cells.frame (r' := r') t c2 h2 (fun a ha => hr a (List.mem_append_right _ ha))
  exact ⟨⟨c1, c2, rfl, i1, i2⟩, by rw [cb_app h1.len, cb_app h1.len, b1, b2]⟩
theorem Cells.one {r : Rd} : ∀ (d : D) (cs : List Value), Cells r d cs → ∀ u ∈ cs, u.oneCell' = true
 | .int k, cs, h, u, hu => by rw [h] at hu; rw [List.mem_singleton.1 hu]; rfl
 | .str k, cs, h, u, hu => by rw [h] at hu; rw [List.mem_singleton.1 hu]; rfl
 | .nil, cs, h, u, hu => by rw [h] at hu; cases hu
 | .row n c, cs, ⟨v, h, hv⟩, u, hu => by
  rw [h] at hu
  rw [List.mem_singleton.1 hu]
  rcases hv with ⟨rfl, _, _⟩ | ⟨a, cap, rfl, _⟩ <;> rfl
 | .cons h t, cs, ⟨c1, c2, he, h1, h2⟩, u, hu => by
  rw [he] at hu
  rcases List.mem_append.1 hu with hu | hu
  ·exact Cells.one h c1 h1 u hu
  ·exact Cells.one t c2 h2 u hu
/-- Elements in line behind others. -/
theorem Cells.app {r : Rd} {α : Type} {f : α → D} : ∀ (l m : List α) (cs ds : List Value), Cells r (D.list f l) cs → Cells r (D.list f m) ds → Cells r (D.list f (l ++ m)) (cs ++ ds) ∧ cb r (D.list f (l ++ m)) (cs ++ ds) = cb r (D.list f l) cs ++ cb r (D.list f m) ds
 | [], m, cs, ds, h, hm => by
  have h : cs = [] := h
  subst h
  exact ⟨hm, rfl⟩
 | x :: l, m, cs, ds, ⟨c1, c2, he, h1, h2⟩, hm => by
  subst he
  obtain ⟨i, b⟩ := Cells.app l m c2 ds h2 hm
  rw [List.append_assoc]
  refine ⟨⟨c1, c2 ++ ds, rfl, h1, i⟩, ?_⟩
  show cb r (D.cons (f x) (D.list f (l ++ m))) (c1 ++ (c2 ++ ds)) = cb r (D.cons (f x) (D.list f l)) (c1 ++ c2) ++ _
  rw [cb_app h1.len, cb_app h1.len, b, List.append_assoc]
theorem Cells.single {r : Rd} {α : Type} {f : α → D} {x : α} {cs : List Value} (h : Cells r (f x) cs) : Cells r (D.list f [x]) cs ∧ cb r (D.list f [x]) cs = cb r (f x) cs := by
 refine ⟨⟨cs, [], (List.append_nil _).symm, h, rfl⟩, ?_⟩
 have := cb_app (r := r) (h := f x) (t := D.nil) (c1 := cs) (c2 := []) h.len
 rw [List.append_nil] at this
 exact this.trans (List.append_nil _)

/-! ### in a world -/
/-- What a block of a tree is: between lo and hi, not frozen. -/
def Blk (W : World) (lo hi : Nat) (b : Nat) : Prop := lo ≤ b ∧ b < hi ∧ ∀ o, W.frozen? ⟨b, o, none⟩ = false
theorem cell_of_heap {W W' : World} {a : Addr} (h : W'.heap[a.block]? = W.heap[a.block]?) : W'.cell? a = W.cell? a := by
 unfold World.cell?
 rw [h]
theorem Blk.move {W W' : World} {lo hi b : Nat} (h : Blk W lo hi b) (hm : W'.heap[b]? = W.heap[b]?) : Blk W' lo hi b := ⟨h.1, h.2.1, fun o => by
 have := h.2.2 o
 unfold World.frozen? at this ⊢
 rw [hm]
 exact this⟩
theorem Blk.mono {W : World} {lo hi lo' hi' b : Nat} (h : Blk W lo hi b) (h1 : lo' ≤ lo) (h2 : hi ≤ hi') : Blk W lo' hi' b := ⟨Nat.le_trans h1 h.1, Nat.lt_of_lt_of_le h.2.1 h2, h.2.2⟩
/-- A tree in blocks between lo and hi. -/
structure Tr (W : World) (lo hi : Nat) (n : Nat) (c : D) (v : Value) : Prop where
 at_ : RowAt W.cell? n c v
 le : hi ≤ W.heap.size
 blk : ∀ b ∈ rbl W.cell? c v, Blk W lo hi b
section
variable {W W' : World} {lo hi lo' hi' n : Nat} {c : D} {v : Value}
theorem Tr.move (h : Tr W lo hi n c v) (hs : W.heap.size ≤ W'.heap.size) (hm : ∀ b, lo ≤ b → b < hi → W'.heap[b]? = W.heap[b]?) : Tr W' lo hi n c v ∧ rbl W'.cell? c v = rbl W.cell? c v := by
 obtain ⟨i, b⟩ := h.at_.frame (r' := W'.cell?) (fun a ha => cell_of_heap (hm _ (h.blk _ ha).1 (h.blk _ ha).2.1))
 refine ⟨⟨i, Nat.le_trans h.le hs, fun k hk => ?_⟩, b⟩
 rw [b] at hk
 have := h.blk k hk
 exact this.move (hm _ this.1 this.2.1)
theorem Tr.below {N : Nat} (h : Tr W lo hi n c v) (hb : Below N W W') (hN : hi ≤ N) : Tr W' lo hi n c v := (h.move hb.size (fun b _ hh => hb.block b (Nat.lt_of_lt_of_le hh hN))).1
theorem Tr.kept {S : Nat → Prop} (h : Tr W lo hi n c v) (hk : Kept W W' S) (hS : ∀ b, lo ≤ b → b < hi → ¬ S b) : Tr W' lo hi n c v := (h.move hk.1 (fun b h1 h2 => hk.2 b (Nat.lt_of_lt_of_le h2 h.le) (hS b h1 h2))).1
theorem Tr.mono (h : Tr W lo hi n c v) (h1 : lo' ≤ lo) (h2 : hi ≤ hi') (h3 : hi' ≤ W.heap.size) : Tr W lo' hi' n c v := ⟨h.at_, h3, fun b hb => (h.blk b hb).mono h1 h2⟩
end
/-- A row of the call's own that holds data. -/
theorem row_of_own {W : World} {base e size n : Nat} {v : Value} {inner : List Value} {c : D} (ho : W.ownsRow base e size v n inner) (hc : Cells W.cell? c inner) (h0 : n = 0 → c = .nil) :
  RowAt W.cell? n c v ∧ rbl W.cell? c v = v.ownBlock.toList ++ cb W.cell? c inner := by
 rcases ho.2 with ⟨rfl, rfl⟩ | ⟨g, cap, cur, rfl, hb, hg, h1, h2, h3, h4⟩
 ·have := h0 rfl
  subst this
  exact ⟨.inl ⟨rfl, rfl, rfl⟩, rfl⟩
 ·have hcell := ho.cells (g := g) rfl
  obtain ⟨i, b⟩ := Lay.of_cells c g 0 inner hc (fun j u hj => by
   have := hcell j u hj
   rw [Nat.zero_add]
   unfold Addr.add at this
   split at this
   ·rename_i hj0; subst hj0; exact this
   ·rw [Nat.zero_add] at this; exact this)
  refine ⟨.inr ⟨g, cap, rfl, h1, Nat.le_trans h1 h2, i⟩, ?_⟩
  unfold rbl hd
  simp only [b, Value.ownBlock, Option.toList]
  rfl
theorem own_blk_ok {W : World} {base e size n : Nat} {v : Value} {inner : List Value} (ho : W.ownsRow base e size v n inner) : ∀ b ∈ v.ownBlock.toList, Blk W base W.heap.size b := by
 rcases ho.2 with ⟨rfl, rfl⟩ | ⟨g, cap, cur, rfl, hb, hg, h1, h2, h3, h4⟩
 ·intro b hb
  simp [Value.ownBlock] at hb
 ·intro b hb2
  simp [Value.ownBlock] at hb2
  subst hb2
  exact ⟨hb, blk_lt hg, fun o => blk_frozen hg o⟩
/-- A row's elements, one by one. -/
theorem cells_of_reps {r : Rd} {α : Type} {f : α → D} {size : Nat} {G : Nat → Prop} (hs : ∀ x, (f x).sz = size) : ∀ (xs : List α) (inner : List Value), inner.length = xs.length * size →
  (∀ j p, xs[j]? = some p → Cells r (f p) ((inner.drop (j * size)).take size) ∧ ∀ b ∈ cb r (f p) ((inner.drop (j * size)).take size), G b) → Cells r (D.list f xs) inner ∧ ∀ b ∈ cb r (D.list f xs) inner, G b
 | [], inner, hl, _ => by
  have : inner = [] := List.eq_nil_of_length_eq_zero (by simpa using hl)
  subst this
  exact ⟨rfl, fun b hb => by cases hb⟩
 | x :: xs, inner, hl, h => by
  have h0 := h 0 x rfl
  rw [Nat.zero_mul, List.drop_zero] at h0
  have hlen : inner.length = xs.length * size + size := by rw [hl, List.length_cons, Nat.add_mul, Nat.one_mul]
  obtain ⟨i, b⟩ := cells_of_reps (r := r) (f := f) (G := G) hs xs (inner.drop size) (by rw [List.length_drop]; omega) (fun j p hj => by
   have := h (j + 1) p (by simpa using hj)
   rw [show (j + 1) * size = size + j * size by rw [Nat.add_mul, Nat.one_mul, Nat.add_comm], ← List.drop_drop] at this
   exact this)
  refine ⟨⟨inner.take size, inner.drop size, (List.take_append_drop _ _).symm, h0.1, i⟩, ?_⟩
  intro k hk
  rw [D.list, cb, hs, List.mem_append] at hk
  rcases hk with hk | hk
  ·exact h0.2 k hk
  ·exact b k hk
/-- A row of the call's own (a kind's) is a tree. -/
theorem tr_of_R {α : Type} {d : Kd α} {f : α → D} {e : Nat} {w : World} {base : Nat} {ok : Nat → Prop} {v : Value} {xs : List α} (hs : ∀ x, (f x).sz = d.sz) (h : d.R e w base ok v xs)
  (hf : ∀ x ∈ xs, ∀ ok cs, d.M w base ok x cs → Cells w.cell? (f x) cs ∧ ∀ b ∈ cb w.cell? (f x) cs, Blk w base w.heap.size b) : Tr w base w.heap.size xs.length (D.list f xs) v := by
 obtain ⟨_, inner, ho, hr⟩ := h
 obtain ⟨i, b⟩ := cells_of_reps (r := w.cell?) (f := f) (G := Blk w base w.heap.size) hs xs inner hr.1 (fun j p hj => hf p (List.mem_of_getElem? hj) _ _ (hr.2 j p hj))
 obtain ⟨i2, b2⟩ := row_of_own ho i (fun h0 => by
  have : xs = [] := List.eq_nil_of_length_eq_zero h0
  subst this
  rfl)
 refine ⟨i2, Nat.le_refl _, fun k hk => ?_⟩
 rw [b2] at hk
 rcases List.mem_append.1 hk with hk | hk
 ·exact own_blk_ok ho k hk
 ·exact b k hk
/-- What lies there is read as a kind's row. -/
theorem C_of_row {α : Type} {d : Kd α} {f : α → D} {w : World} {v : Value} : ∀ {xs : List α}, (∀ x, (f x).sz = d.sz) → RowAt w.cell? xs.length (D.list f xs) v →
  (∀ x ∈ xs, ∀ g o, Lay w.cell? (f x) g o → ∃ cs, cs.length = d.sz ∧ d.K w x cs ∧ ∀ j u, cs[j]? = some u → w.cell? ⟨g, o + j, none⟩ = some u) → ∃ A c, v = .slice A xs.length c ∧ xs.length ≤ c ∧ d.C w A xs.length xs := by
 intro xs hs h hf
 rcases h with ⟨rfl, h1, h2⟩ | ⟨a, cap, rfl, h1, h2, h3⟩
 ·have : xs = [] := List.eq_nil_of_length_eq_zero h1
  subst this
  exact ⟨none, 0, rfl, Nat.le_refl _, rfl, by simp, fun h => absurd h (by simp)⟩
 ·refine ⟨_, cap, rfl, h1, rfl, h2, fun _ => ⟨_, rfl, fun j p hj => ?_⟩⟩
  have key : ∀ (l : List α) (o : Nat), Lay w.cell? (D.list f l) a o → ∀ j p, l[j]? = some p → Lay w.cell? (f p) a (o + j * d.sz) := by
   intro l
   induction l with
   | nil => intro o _ j p hj; simp at hj
   | cons x l ih =>
    intro o hl j p hj
    cases j with
    | zero =>
     simp at hj
     subst hj
     rw [Nat.zero_mul, Nat.add_zero]
     exact hl.1
    | succ j =>
     have := ih _ hl.2 j p (by simpa using hj)
     rw [hs] at this
     rwa [show o + (j + 1) * d.sz = o + d.sz + j * d.sz by rw [Nat.add_mul, Nat.one_mul]; omega]
  obtain ⟨cs, h4, h5, h6⟩ := hf p (List.mem_of_getElem? hj) a _ (key xs 0 h3 j p hj)
  refine ⟨cs, h4, h5, fun i u hi => ?_⟩
  have := h6 i u hi
  rw [Nat.zero_add] at this
  have e : (⟨a, 0, none⟩ : Addr).add (j * d.sz + i) = ⟨a, j * d.sz + i, none⟩ := by
   unfold Addr.add
   split
   ·rename_i h0; rw [h0]
   ·rw [Nat.zero_add]
  rw [e]
  exact this
end Go.Proofs.Ytkcomfmdcmjagaa.Lay
-- narrow
