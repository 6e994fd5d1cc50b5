/- Plain words: what is left of memory where only whole numbers and texts are written over their like; no statement of the program is proved here. No conditions. -/
import Derived.Test.YtkcomfmdcmjagaaZFnExactAllSels0
import Derived.Laws.World
namespace Go.Proofs.Ytkcomfmdcmjagaa.Mark
set_option linter.unusedVariables false
set_option linter.unusedSimpArgs false
open Go.RowKit Go.Proofs.YtkcomfmdcmjagaaW.PrintWords

/-- Behind marks: what held a whole number or a text holds one still, a row's head is the same, nothing is frozen anew, blocks outside S stay. -/
structure Mk (b : Nat) (S : Nat → Prop) (w w' : World) : Prop where
 base : b ≤ w.heap.size
 low : Below b w w'
 kept : Kept w w' S
 int : ∀ a k, w.cell? a = some (.int .i64 k) → ∃ k', w'.cell? a = some (.int .i64 k')
 str : ∀ a s, w.cell? a = some (.string s) → ∃ s', w'.cell? a = some (.string s')
 row : ∀ a A n c, w.cell? a = some (.slice A n c) → w'.cell? a = some (.slice A n c)
 froz : ∀ a : Addr, a.block < w.heap.size → w'.frozen? a = w.frozen? a
section
variable {b : Nat} {S S' : Nat → Prop} {w w1 w2 : World}
theorem Mk.refl (S : Nat → Prop) (w : World) (hb : b ≤ w.heap.size) : Mk b S w w := ⟨hb, Below.refl _ _, Kept.refl w S, fun _ k h => ⟨k, h⟩, fun _ s h => ⟨s, h⟩, fun _ _ _ _ h => h, fun _ _ => rfl⟩
theorem Mk.mono (h : Mk b S w w1) (hs : ∀ k, S k → S' k) : Mk b S' w w1 := ⟨h.base, h.low, h.kept.mono hs, h.int, h.str, h.row, h.froz⟩
theorem Mk.some_ (h : Mk b S w w1) {a : Addr} {u : Value} (hu : (∃ k, u = .int .i64 k) ∨ (∃ s, u = .string s) ∨ ∃ A n c, u = .slice A n c) (hc : w.cell? a = some u) : ∃ v, w1.cell? a = some v := by
 rcases hu with ⟨k, rfl⟩ | ⟨s, rfl⟩ | ⟨A, n, c, rfl⟩
 ·obtain ⟨k', h'⟩ := h.int a k hc
  exact ⟨_, h'⟩
 ·obtain ⟨k', h'⟩ := h.str a s hc
  exact ⟨_, h'⟩
 ·exact ⟨_, h.row a A n c hc⟩
theorem Mk.below (h : Mk b S w w1) (hb : Below w1.heap.size w1 w2) : Mk b S w w2 where
 base := h.base
 low := h.low.trans (hb.mono (Nat.le_trans h.base h.kept.1))
 kept := h.kept.below hb
 int := fun a k hc => by
  obtain ⟨k', h'⟩ := h.int a k hc
  exact ⟨k', (hb.cell (World.block_lt_of_cell? w1 _ h')).trans h'⟩
 str := fun a k hc => by
  obtain ⟨k', h'⟩ := h.str a k hc
  exact ⟨k', (hb.cell (World.block_lt_of_cell? w1 _ h')).trans h'⟩
 row := fun a A n c hc => by
  have h' := h.row a A n c hc
  exact (hb.cell (World.block_lt_of_cell? w1 _ h')).trans h'
 froz := fun a hc => by
  have hlt : a.block < w1.heap.size := Nat.lt_of_lt_of_le hc h.kept.1
  have e := hb.block a.block hlt
  rw [← h.froz a hc]
  unfold World.frozen?
  rw [e]
theorem Mk.putInt (h : Mk b S w w1) {a : Addr} {k : Int} (hc : w1.cell? a = some (.int .i64 k)) (hS : S a.block) (hl : b ≤ a.block) (k' : Int) : Mk b S w (w1.setCell a (.int .i64 k')) where
 base := h.base
 low := h.low.setCell hl _
 kept := h.kept.setCell (.inl hS) _
 int := fun q m hb => by
  obtain ⟨m', h'⟩ := h.int q m hb
  by_cases e : a = q
  ·subst e
   exact ⟨k', World.cell?_setCell_same _ _ _ h'⟩
  ·exact ⟨m', (World.cell?_setCell_other _ _ _ _ e).trans h'⟩
 str := fun q m hb => by
  obtain ⟨m', h'⟩ := h.str q m hb
  by_cases e : a = q
  ·subst e
   rw [hc] at h'
   cases h'
  ·exact ⟨m', (World.cell?_setCell_other _ _ _ _ e).trans h'⟩
 row := fun q A n c hb => by
  have h' := h.row q A n c hb
  by_cases e : a = q
  ·subst e
   rw [hc] at h'
   cases h'
  ·exact (World.cell?_setCell_other _ _ _ _ e).trans h'
 froz := fun q hq => by rw [World.frozen?_setCell]; exact h.froz q hq
theorem Mk.putStr (h : Mk b S w w1) {a : Addr} {k : ByteArray} (hc : w1.cell? a = some (.string k)) (hS : S a.block) (hl : b ≤ a.block) (k' : ByteArray) : Mk b S w (w1.setCell a (.string k')) where
 base := h.base
 low := h.low.setCell hl _
 kept := h.kept.setCell (.inl hS) _
 str := fun q m hb => by
  obtain ⟨m', h'⟩ := h.str q m hb
  by_cases e : a = q
  ·subst e
   exact ⟨k', World.cell?_setCell_same _ _ _ h'⟩
  ·exact ⟨m', (World.cell?_setCell_other _ _ _ _ e).trans h'⟩
 int := fun q m hb => by
  obtain ⟨m', h'⟩ := h.int q m hb
  by_cases e : a = q
  ·subst e
   rw [hc] at h'
   cases h'
  ·exact ⟨m', (World.cell?_setCell_other _ _ _ _ e).trans h'⟩
 row := fun q A n c hb => by
  have h' := h.row q A n c hb
  by_cases e : a = q
  ·subst e
   rw [hc] at h'
   cases h'
  ·exact (World.cell?_setCell_other _ _ _ _ e).trans h'
 froz := fun q hq => by rw [World.frozen?_setCell]; exact h.froz q hq
theorem Mk.trans (h : Mk b S w w1) (k : Mk b S w1 w2) : Mk b S w w2 where
 base := h.base
 low := h.low.trans k.low
 kept := h.kept.then_ k.kept (fun _ hk => .inl hk)
 int := fun a m hc => by
  obtain ⟨m', h'⟩ := h.int a m hc
  exact k.int a m' h'
 str := fun a m hc => by
  obtain ⟨m', h'⟩ := h.str a m hc
  exact k.str a m' h'
 row := fun a A n c hc => k.row a A n c (h.row a A n c hc)
 froz := fun a hc => (k.froz a (Nat.lt_of_lt_of_le hc h.kept.1)).trans (h.froz a hc)
end
end Go.Proofs.Ytkcomfmdcmjagaa.Mark
-- narrow
