/- Plain words: a row of the call's own that holds data, no two of whose rows share a block, and what an append leaves of it; no statement of the program is proved here. No conditions. -/
import Derived.Test.YtkcomfmdcmjagaaLay
import Derived.Maps.AppendAt
namespace Go.Proofs.Ytkcomfmdcmjagaa.Lay
set_option linter.unusedVariables false
set_option linter.unusedSimpArgs false
open Go.RowKit Go.Proofs.YtkcomfmdcmjagaaW.PrintWords Go.Proofs.Ytkcomfmdcmjagaa.Mark

/-- A row of the call's own that holds data c; bs: the blocks of the rows within, each once. -/
structure Ow (W : World) (lo e size n : Nat) (v : Value) (c : D) (bs : List Nat) : Prop where
 ex : ∃ inner, W.ownsRow lo e size v n inner ∧ Cells W.cell? c inner ∧ cb W.cell? c inner = bs
 nd : bs.Nodup
 bk : ∀ b ∈ bs, Blk W lo W.heap.size b ∧ some b ≠ v.ownBlock
section
variable {W W' w1 : World} {lo lo' e size n m : Nat} {v v1 : Value} {c : D} {bs nb : List Nat} {α : Type} {f : α → D} {l ys : List α}
theorem Ow.nil (W : World) (lo e size : Nat) : Ow W lo e size 0 (.slice none 0 0) .nil [] := ⟨⟨[], own_nil _ _ _ _, rfl, rfl⟩, List.nodup_nil, fun b hb => by cases hb⟩
theorem Ow.lt (h : Ow W lo e size n v c bs) : ∀ b, v.ownBlock = some b ∨ b ∈ bs → lo ≤ b ∧ b < W.heap.size := by
 obtain ⟨inner, ho, _, _⟩ := h.ex
 intro b hb
 rcases hb with hb | hb
 ·exact ⟨own_base ho b hb, own_lt ho b hb⟩
 ·exact ⟨(h.bk b hb).1.1, (h.bk b hb).1.2.1⟩
theorem Ow.move (h : Ow W lo e size n v c bs) (hs : W.heap.size ≤ W'.heap.size) (hm : ∀ b, v.ownBlock = some b ∨ b ∈ bs → W'.heap[b]? = W.heap[b]?) : Ow W' lo e size n v c bs := by
 obtain ⟨inner, ho, hc, hb⟩ := h.ex
 obtain ⟨i, b⟩ := Cells.frame (r' := W'.cell?) _ _ hc (fun a ha => cell_of_heap (hm _ (.inr (by rw [← hb]; exact ha))))
 exact ⟨⟨inner, own_move ho (fun k hk => hm k (.inl hk)), i, b.trans hb⟩, h.nd, fun k hk => ⟨((h.bk k hk).1.move (hm k (.inr hk))).mono (Nat.le_refl _) hs, (h.bk k hk).2⟩⟩
theorem Ow.below (h : Ow W lo e size n v c bs) (hb : Below W.heap.size W W') : Ow W' lo e size n v c bs := h.move hb.size (fun b hq => hb.block b (h.lt b hq).2)
theorem Ow.far (h : Ow W lo e size n v c bs) {p : Addr} (hp : ∀ b, v.ownBlock = some b ∨ b ∈ bs → b ≠ p.block) (u : Value) : Ow (W.setCell p u) lo e size n v c bs := h.move (by simp [World.setCell]) (fun b hq => Below.heap_setCell W p u b (hp b hq))
theorem Ow.lower (h : Ow W lo e size n v c bs) (hl : lo' ≤ lo) : Ow W lo' e size n v c bs := by
 obtain ⟨inner, ho, hc, hb⟩ := h.ex
 exact ⟨⟨inner, own_weaken ho hl, hc, hb⟩, h.nd, fun k hk => ⟨(h.bk k hk).1.mono hl (Nat.le_refl _), (h.bk k hk).2⟩⟩
theorem Ow.tr (h : Ow W lo e size n v c bs) (h0 : n = 0 → c = .nil) : Tr W lo W.heap.size n c v ∧ (rbl W.cell? c v).Nodup := by
 obtain ⟨inner, ho, hc, hb⟩ := h.ex
 obtain ⟨i, e1⟩ := row_of_own ho hc h0
 refine ⟨⟨i, Nat.le_refl _, fun k hk => ?_⟩, ?_⟩
 ·rw [e1, hb] at hk
  rcases List.mem_append.1 hk with hk | hk
  ·exact own_blk_ok ho k hk
  ·exact (h.bk k hk).1
 ·rw [e1, hb]
  cases e2 : v.ownBlock with
  | none => exact h.nd
  | some g => exact List.nodup_cons.2 ⟨fun hg => (h.bk g hg).2 e2.symm, h.nd⟩
/-- What an append leaves. -/
theorem Ow.pushed {inner news : List Value} (hO : Ow W lo e size n v (D.list f l) bs) (ho : W.ownsRow lo e size v n inner) (hcl : Cells W.cell? (D.list f l) inner) (hb : cb W.cell? (D.list f l) inner = bs)
  (hcm : Cells W.cell? (D.list f ys) news) (hnb : cb W.cell? (D.list f ys) news = nb) (hnd : nb.Nodup) (hk : ∀ b ∈ nb, Blk W lo W.heap.size b ∧ some b ≠ v.ownBlock ∧ b ∉ bs)
  (ho1 : w1.ownsRow lo e size v1 (n + m) (inner ++ news)) (hg : W.grownBy w1 v.ownBlock) (hat : v1.ownBlock = v.ownBlock ∨ ∃ b, v1.ownBlock = some b ∧ W.heap.size ≤ b) : Ow w1 lo e size (n + m) v1 (D.list f (l ++ ys)) (bs ++ nb) := by
 have hne : ∀ b, Blk W lo W.heap.size b → some b ≠ v.ownBlock → w1.heap[b]? = W.heap[b]? := fun b h1 h2 => hg.block b h1.2.1 h2
 obtain ⟨i1, b1⟩ := Cells.frame (r' := w1.cell?) _ _ hcl (fun a ha => cell_of_heap (by
  rw [hb] at ha
  exact hne _ (hO.bk _ ha).1 (hO.bk _ ha).2))
 obtain ⟨i2, b2⟩ := Cells.frame (r' := w1.cell?) _ _ hcm (fun a ha => cell_of_heap (by
  rw [hnb] at ha
  exact hne _ (hk _ ha).1 (hk _ ha).2.1))
 obtain ⟨i3, b3⟩ := Cells.app l ys inner news i1 i2
 have hv : ∀ b, b < W.heap.size → some b ≠ v.ownBlock → some b ≠ v1.ownBlock := fun b h1 h2 => by
  rcases hat with hat | ⟨q, hq, hle⟩
  ·rw [hat]; exact h2
  ·rw [hq]
   intro he
   injection he with he
   omega
 refine ⟨⟨inner ++ news, ho1, i3, by rw [b3, b1, b2, hb, hnb]⟩, List.nodup_append.2 ⟨hO.nd, hnd, fun a ha b hb2 he => (hk b hb2).2.2 (he ▸ ha)⟩, fun b hq => ?_⟩
 rcases List.mem_append.1 hq with hq | hq
 ·exact ⟨((hO.bk b hq).1.move (hne b (hO.bk b hq).1 (hO.bk b hq).2)).mono (Nat.le_refl _) hg.size, hv b (hO.bk b hq).1.2.1 (hO.bk b hq).2⟩
 ·exact ⟨((hk b hq).1.move (hne b (hk b hq).1 (hk b hq).2.1)).mono (Nat.le_refl _) hg.size, hv b (hk b hq).1.2.1 (hk b hq).2.1⟩
end
section
variable {P : Program} {ops : Array Oper} {rest : List Oper} {o : Oper} {a : Act} {Q : Exit → Act → World → Prop} {Kc : Act → World → Prop} {W : World} {α : Type} {f : α → D} {l ys : List α} {bs nb : List Nat}
/-- One element appended. -/
theorem Ow.append1 (lo : Nat) (hgd : o.guard = none) (s x : Operand) (t e : TypeId) (z : Value) (size bytes : Nat)
  (ho : o.op = .call { callee := .builtin .append, args := #[s, x], argTypes := #[t, t] })
  (ht : P.underlying t = some (.slice e)) (hinfo : (P.info? e).map (fun i => (i.zero, i.size, i.bytes)) = some (some z, size, bytes)) (hz : z.cells.size = size) (hs0 : 0 < size) (hb0 : 0 < bytes)
  (v : Value) (y : α) (cs : List Value) (hs : a.eval s = v) (hx : a.eval x = .slice (some ⟨W.heap.size, 0, none⟩) 1 1) (hsz : (f y).sz = size)
  (hO : Ow W lo e size l.length v (D.list f l) bs) (hc : Cells W.cell? (f y) cs) (hnb : cb W.cell? (f y) cs = nb) (hnd : nb.Nodup) (hk : ∀ b ∈ nb, Blk W lo W.heap.size b ∧ some b ≠ v.ownBlock ∧ b ∉ bs) (hlo : lo ≤ W.heap.size)
  (hl : (l.length + 1) * bytes ≤ 140737488355328)
  (h : ∀ v1 w1, Ow w1 lo e size (l ++ [y]).length v1 (D.list f (l ++ [y])) (bs ++ nb) → W.grownBy w1 v.ownBlock → wpList P ops Q rest (a.put o.dst v1) w1) :
  wpList P ops Q (o :: rest) a (W.alloc (.cells cs.toArray e)) := by
 obtain ⟨inner, ho1, hcl, hb⟩ := hO.ex
 obtain ⟨i1, e1⟩ := Cells.single (f := f) hc
 refine print_append_cells lo hgd s x t e z size bytes ho ht hinfo hz hs0 hb0 v l.length inner cs hs hx (hc.len.trans hsz) (Cells.one _ _ hc) ho1 (Below.refl lo W) hlo hl ?_
 intro v1 w1 hown1 _ hg1 hat1
 refine h v1 w1 ?_ hg1
 rw [List.length_append, List.length_singleton]
 exact Ow.pushed hO ho1 hcl hb i1 (e1.trans hnb) hnd hk hown1 hg1 hat1
/-- .. in a region that draws. -/
theorem Ow.append1_step (lo : Nat) (hw : Region.wanted o (yielded ops a.tmps) = true) (s x : Operand) (t e : TypeId) (z : Value) (size bytes : Nat)
  (ho : o.op = .call { callee := .builtin .append, args := #[s, x], argTypes := #[t, t] })
  (ht : P.underlying t = some (.slice e)) (hinfo : (P.info? e).map (fun i => (i.zero, i.size, i.bytes)) = some (some z, size, bytes)) (hz : z.cells.size = size) (hs0 : 0 < size) (hb0 : 0 < bytes)
  (v : Value) (y : α) (cs : List Value) (hs : a.eval s = v) (hx : a.eval x = .slice (some ⟨W.heap.size, 0, none⟩) 1 1) (hsz : (f y).sz = size)
  (hO : Ow W lo e size l.length v (D.list f l) bs) (hc : Cells W.cell? (f y) cs) (hnb : cb W.cell? (f y) cs = nb) (hnd : nb.Nodup) (hk : ∀ b ∈ nb, Blk W lo W.heap.size b ∧ some b ≠ v.ownBlock ∧ b ∉ bs) (hlo : lo ≤ W.heap.size)
  (hl : (l.length + 1) * bytes ≤ 140737488355328)
  (h : ∀ v1 w1, Ow w1 lo e size (l ++ [y]).length v1 (D.list f (l ++ [y])) (bs ++ nb) → W.grownBy w1 v.ownBlock → Kc (a.put o.dst v1) w1) :
  if Region.wanted o (yielded ops a.tmps) = true then Oper.wp P o a (W.alloc (.cells cs.toArray e)) Kc Q else Kc (a.put o.dst undef) (W.alloc (.cells cs.toArray e)) := by
 obtain ⟨inner, ho1, hcl, hb⟩ := hO.ex
 obtain ⟨i1, e1⟩ := Cells.single (f := f) hc
 refine step_append_cells lo hw s x t e z size bytes ho ht hinfo hz hs0 hb0 v l.length inner cs hs hx (hc.len.trans hsz) (Cells.one _ _ hc) ho1 (Below.refl lo W) hlo hl ?_
 intro v1 w1 hown1 _ hg1 hat1
 refine h v1 w1 ?_ hg1
 rw [List.length_append, List.length_singleton]
 exact Ow.pushed hO ho1 hcl hb i1 (e1.trans hnb) hnd hk hown1 hg1 hat1
/-- A row's elements appended. -/
theorem Ow.appendN (lo : Nat) (hgd : o.guard = none) (s x : Operand) (t e : TypeId) (z : Value) (size bytes : Nat)
  (ho : o.op = .call { callee := .builtin .append, args := #[s, x], argTypes := #[t, t] })
  (ht : P.underlying t = some (.slice e)) (hinfo : (P.info? e).map (fun i => (i.zero, i.size, i.bytes)) = some (some z, size, bytes)) (hz : z.cells.size = size) (hs0 : 0 < size) (hb0 : 0 < bytes)
  (v : Value) (g cap : Nat) (news : List Value) (hs : a.eval s = v) (hx : a.eval x = .slice (some ⟨g, 0, none⟩) ys.length cap) (hsz : ∀ y, (f y).sz = size)
  (hO : Ow W lo e size l.length v (D.list f l) bs) (hc : Cells W.cell? (D.list f ys) news) (hnews : ∀ j u, news[j]? = some u → W.cell? ⟨g, j, none⟩ = some u) (hnb : cb W.cell? (D.list f ys) news = nb) (hnd : nb.Nodup) (hk : ∀ b ∈ nb, Blk W lo W.heap.size b ∧ some b ≠ v.ownBlock ∧ b ∉ bs) (hlo : lo ≤ W.heap.size)
  (hl : (l.length + ys.length) * bytes ≤ 140737488355328)
  (h : ∀ v1 w1, Ow w1 lo e size (l ++ ys).length v1 (D.list f (l ++ ys)) (bs ++ nb) → W.grownBy w1 v.ownBlock → (v ≠ .slice none 0 0 → v1 ≠ .slice none 0 0) → wpList P ops Q rest (a.put o.dst v1) w1) :
  wpList P ops Q (o :: rest) a W := by
 obtain ⟨inner, ho1, hcl, hb⟩ := hO.ex
 obtain ⟨i0, hi, hzz⟩ := Option.map_eq_some_iff.1 hinfo
 simp only [Prod.mk.injEq] at hzz
 obtain ⟨hz0, hz1, hz2⟩ := hzz
 have hlen : l.length + ys.length ≤ 140737488355328 := Nat.le_trans (Nat.le_mul_of_pos_right _ hb0) hl
 refine wpList_append_own_at W hgd s x t ho lo e i0 z size bytes ht hi hz0 hz1 hz2 hz hs0 v l.length inner hs ho1 ⟨g, 0, none⟩ ys.length cap news hx (by rw [hc.len, D.sz_list hsz]) (fun j u hj => by
  have := hnews j u hj
  unfold Addr.add
  split
  ·rename_i h0; subst h0; exact this
  ·rw [Nat.zero_add]; exact this) (Cells.one _ _ hc) (by simp only [maxLen]; omega) hl hlo ?_
 intro v1 w1 hown1 hg1 hnil hat1
 refine h v1 w1 ?_ hg1 (fun hv he => hv (hnil.1 he).1)
 rw [List.length_append]
 exact Ow.pushed hO ho1 hcl hb hc hnb hnd hk hown1 hg1 (hat1.imp id (fun he => ⟨_, he, Nat.le_refl _⟩))
end
end Go.Proofs.Ytkcomfmdcmjagaa.Lay
-- narrow
