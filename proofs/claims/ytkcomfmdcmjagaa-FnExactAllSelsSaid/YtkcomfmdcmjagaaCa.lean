/- The program's copies of texts: of its own memory; under the conditions that each names. -/
import Derived.Test.YtkcomfmdcmjagaaOp
import Derived.Test.YtkcomfmdcmjagaaOw
namespace Go.Proofs.Ytkcomfmdcmjagaa.OFnExactAllSels
open Go.Proofs.Ytkcomfmdcmjagaa.Lay Go.Proofs.Ytkcomfmdcmjagaa.Mark
open Go.RowKit Go.Proofs.YtkcomfmdcmjagaaW.PrintWords Go.Proofs.YtkcomfmdcmjagaaW.PrintLast Go.Proofs.YtkcomfmdcmjagaaW.PrintMore
set_option linter.unusedVariables false
set_option linter.unusedSimpArgs false
/-- A tree that came in. -/
def In (w : World) (n : Nat) (c : D) (v : Value) : Prop := RowAt w.cell? n c v ∧ ∀ b ∈ rbl w.cell? c v, b < w.heap.size
/-- A tree of its own that comes back. -/
structure Fresh (w w' : World) (n : Nat) (c : D) (v : Value) : Prop where
  tr : Tr w' w.heap.size w'.heap.size n c v
  nd : (rbl w'.cell? c v).Nodup
  low : Below w.heap.size w w'
theorem In.later {w w' : World} {n : Nat} {c : D} {v : Value} (h : In w n c v) (hB : Below w.heap.size w w') : In w' n c v := by
  obtain ⟨i, e⟩ := h.1.frame (r' := w'.cell?) (fun a ha => cell_of_heap (hB.block a.block (h.2 _ ha)))
  exact ⟨i, fun b hq => Nat.lt_of_lt_of_le (h.2 b (by rw [← e]; exact hq)) hB.size⟩
theorem Tr.in_ {w : World} {lo hi n : Nat} {c : D} {v : Value} (h : Tr w lo hi n c v) : In w n c v := ⟨h.at_, fun b hb => Nat.lt_of_lt_of_le (h.blk b hb).2.1 h.le⟩
theorem eqNone (W : World) : (Go.binOp BinOp.eql 23 (.slice none 0 0) (.slice none 0 0)).run Try.prog W = .ok (.bool true) W := by kernel_rfl
theorem eqSome (W : World) (g n c : Nat) : (Go.binOp BinOp.eql 23 (.slice (some ⟨g, 0, none⟩) n c) (.slice none 0 0)).run Try.prog W = .ok (.bool false) W := by kernel_rfl
theorem Cells.texts {r : Rd} : ∀ (l : List ByteArray), Cells r (D.list dT l) (l.map Value.string) ∧ cb r (D.list dT l) (l.map Value.string) = []
  | [] => ⟨rfl, rfl⟩
  | x :: l => by
    obtain ⟨i, b⟩ := Cells.texts (r := r) l
    refine ⟨⟨[.string x], l.map Value.string, rfl, rfl, i⟩, ?_⟩
    have := cb_app (r := r) (h := dT x) (t := D.list dT l) (c1 := [.string x]) (c2 := l.map Value.string) rfl
    exact this.trans b
theorem Lay.texts {r : Rd} {g : Nat} : ∀ (l : List ByteArray) (o : Nat), Lay r (D.list dT l) g o → ∀ j u, (l.map Value.string)[j]? = some u → r ⟨g, o + j, none⟩ = some u
  | [], _, _, j, u, h => by simp at h
  | x :: l, o, hl, 0, u, h => by
    simp at h
    subst h
    exact hl.1
  | x :: l, o, hl, j + 1, u, h => by
    have := Lay.texts l (o + 1) hl.2 j u (by simpa using h)
    rwa [show o + 1 + j = o + (j + 1) by omega] at this
set_option maxHeartbeats 4000000 in
set_option maxRecDepth 100000 in
theorem cloneT (l : List ByteArray) (v : Value) (w : World) (hI : In w l.length (D.list dT l) v) (hl : l.length ≤ 1073741824) :
    Calls Try.prog 80 #[v] w fun e w' => ∃ v', e = .returned v' ∧ Fresh w w' l.length (D.list dT l) v' := by
  rcases hI.1 with ⟨rfl, h1, h2⟩ | ⟨g, cap, rfl, h1, h2, h3⟩
  · have : l = [] := List.eq_nil_of_length_eq_zero h1
    subst this
    clear hI hl h1 h2
    have hE := eqNone
    go_enter Try.func80, Try.ntmps80
    go_wp2
    go_ret
    exact ⟨_, rfl, ⟨⟨.inl ⟨rfl, rfl, rfl⟩, Nat.le_refl _, fun b hb => by cases hb⟩, List.nodup_nil, Below.refl _ _⟩⟩
  · have HL := Aside0.mk hl
    have H3 := Aside0.mk h3
    have HW := Aside0.mk (Below.refl w.heap.size w)
    clear hI hl h3
    have hE := eqSome
    have HN := Aside0.mk (below_alloc (Below.refl w.heap.size w) (.cells #[] 9))
    have HO := Aside0.mk (show Ow (w.alloc (.cells #[] 9)) w.heap.size 9 1 ([] : List ByteArray).length (.slice (some ⟨w.heap.size, 0, none⟩) 0 0) (D.list dT []) [] from
      ⟨⟨[], ⟨rfl, .inr ⟨w.heap.size, 0, #[], rfl, Nat.le_refl _, heap_alloc_new w _, Nat.le_refl _, Nat.zero_le _, rfl, rfl⟩⟩, rfl, rfl⟩, List.nodup_nil, fun b hb => by cases hb⟩)
    have HC := Aside0.mk (show ∀ j u, (l.map Value.string)[j]? = some u → (w.alloc (.cells #[] 9)).cell? ⟨g, j, none⟩ = some u from fun j u hj => by
      have h4 := Lay.texts l 0 H3.out j u hj
      rw [Nat.zero_add] at h4
      exact (HN.out.cell (World.block_lt_of_cell? w _ h4)).trans h4)
    have HT := Aside0.mk (Cells.texts (r := (w.alloc (.cells #[] 9)).cell?) l)
    go_enter Try.func80, Try.ntmps80
    go_wp2_with (first
      | ((with_reducible refine gate_builtin (b := .append) (xs := #[.tmp 5, .tmp 6]) rfl ?_); at_builtin; refine Ow.appendN (f := dT) (l := []) (ys := l) w.heap.size rfl (.tmp 5) (.tmp 6) 23 9 (.string ⟨#[]⟩) 1 16 rfl Try.underlying23 info9 rfl (by decide) (by decide) (.slice (some ⟨w.heap.size, 0, none⟩) 0 0) g cap (l.map Value.string) rfl rfl szT HO.out HT.out.1 HC.out HT.out.2 List.nodup_nil (fun b hb => by cases hb) HN.out.size (by have := HL.out; simp only [List.length_nil]; omega) ?_
         intro v1 w1 hO1 hg1 hnn
         have HO1 := Aside0.mk hO1
         have HG1 := Aside0.mk hg1
         clear hO1 hg1))
    go_ret
    obtain ⟨t1, t2⟩ := HO1.out.tr (fun h0 => by
      have : l = [] := List.eq_nil_of_length_eq_zero (by simpa using h0)
      subst this
      rfl)
    refine ⟨v1, rfl, ⟨by simpa using t1, by simpa using t2, HN.out.grown HG1.out HN.out.size (fun k hk => Nat.le_of_eq (Option.some.inj hk))⟩⟩
end Go.Proofs.Ytkcomfmdcmjagaa.OFnExactAllSels
