/- What a law's argument is read as, where it is a tree: out of the form's own reading (DataW.trod) the kinds of the print's words, and that every number, string and row in it is within the reach. -/
import Derived.Test.YtkcomfmdcmjagaaZFnExactAllSels0
import Derived.ChangeArms
import Derived.ChangeSlices
import Derived.ChangeReads
import Derived.SizedLaws
import Derived.ChangeShapes
namespace Go.Proofs.Ytkcomfmdcmjagaa.Tree
set_option linter.unusedVariables false
set_option linter.unusedSimpArgs false
open Go.ChangeShapes Go.WideShapes Go.RowKit Go.Proofs.YtkcomfmdcmjagaaW.PrintWords
section
variable {H : Type} {enc : TypeId × Value → H} {P : Program} {W : World} {base : Nat} {spare : Nat → Bool} {held : Bool}

/-- Every weight of a datum is within the reach. -/
def Light (P : Program) (t : TypeId) (d : DataW H) : Prop := ∀ q ∈ DataW.weights P t d, q ≤ 140737488351232

/-- What 'trod' reads at type t, by fuel n, is of kind d, and B of it. -/
def Opens (enc : TypeId × Value → H) (P : Program) (W : World) (base : Nat) (spare : Nat → Bool) (held : Bool) (n : Nat) (t : TypeId) {α : Type} (d : Kd α) (B : α → Prop) : Prop :=
 ∀ cs x, DataW.trod enc P W base spare held n t cs = some x → Light P t x.1 → ∃ v : α, d.K W v cs ∧ B v

theorem Opens.int {n : Nat} {t : TypeId} {k : IntKind} (ht : P.underlying t = some (.int k)) : Opens enc P W base spare held n t (Kd.int k) (fun z => (Lit.int k z).wf = true) := by
 intro cs x h _
 obtain ⟨z, rfl, rfl, hw⟩ := DataW.trod_int ht h
 exact ⟨z, rfl, hw⟩

theorem Opens.string {n : Nat} {t : TypeId} (ht : P.underlying t = some .string) : Opens enc P W base spare held n t Kd.string (fun s => s.size ≤ 140737488351232) := by
 intro cs x h hl
 obtain ⟨s, rfl, rfl, _⟩ := DataW.trod_string ht h
 refine ⟨s, rfl, ?_⟩
 have := hl s.data.toList.length (by simp [DataW.weights])
 rwa [Array.length_toList] at this

theorem weightsAll_mem {t : TypeId} {l : List (DataW H)} {d : DataW H} (hd : d ∈ l) {q : Nat} (hq : q ∈ DataW.weights P t d) : q ∈ DataW.weightsAll P t l := by
 induction l with
 | nil => cases hd
 | cons a r ih =>
  rw [DataW.weightsAll]
  rcases List.mem_cons.1 hd with rfl | hd
  ·exact List.mem_append_left _ hq
  ·exact List.mem_append_right _ (ih hd)

theorem chosen {α : Type} {B : Nat → α → Prop} : ∀ (n : Nat), (∀ i, i < n → ∃ v, B i v) → ∃ l : List α, l.length = n ∧ ∀ i v, l[i]? = some v → B i v
 | 0, _ => ⟨[], rfl, fun i v h => by simp at h⟩
 | n + 1, h => by
  obtain ⟨l, hl, hb⟩ := chosen n (fun i hi => h i (by omega))
  obtain ⟨v, hv⟩ := h n (by omega)
  refine ⟨l ++ [v], by simp [hl], fun i u hu => ?_⟩
  rcases Nat.lt_or_ge i n with hi | hi
  ·rw [List.getElem?_append_left (by omega)] at hu
   exact hb i u hu
  ·have h1 := (List.getElem?_eq_some_iff.1 hu).1
   simp [hl] at h1
   have : i = n := by omega
   subst this
   rw [List.getElem?_append_right (by omega), hl] at hu
   simp at hu
   subst hu
   exact hv

theorem Opens.slice {n : Nat} {t e : TypeId} {α : Type} {d : Kd α} {B : α → Prop} (ht : P.underlying t = some (.slice e)) (hs : P.cellsOf e = d.sz) (hE : ∀ m, m < n → Opens enc P W base spare held m e d B) {b : Nat} (hb : P.bytesOf e = b) :
  Opens enc P W base spare held n t (Kd.slice e d) (fun l => l.length * b ≤ 140737488351232 ∧ ∀ y ∈ l, B y) := by
 intro cs x h hl
 rcases DataW.trod_slice ht h with ⟨rfl, rfl⟩ | ⟨a, len, cap, elems, rest, m, rfl, rfl, rfl, _, hlc, hcm, hlen, hel, _, _⟩
 ·exact ⟨[], ⟨none, 0, rfl, Nat.le_refl _, rfl, by simp, fun hp => absurd hp (by simp)⟩, by simp, fun y hy => by cases hy⟩
 ·have hw : ∀ q ∈ ((elems.map (·.1)).length + (rest.map (·.1)).length) * P.bytesOf e :: (DataW.weightsAll P e (elems.map (·.1)) ++ DataW.weightsAll P e (rest.map (·.1))), q ≤ 140737488351232 := by
   intro q hq
   refine hl q ?_
   show q ∈ DataW.weights P t (.slice _ _)
   rw [DataW.weights, ht]
   exact hq
  obtain ⟨l, hll, hlb⟩ := chosen (B := fun i (v : α) => (∃ c : List Value, c.length = d.sz ∧ d.K W v c ∧ ∀ j u, c[j]? = some u → W.cell? (a.add (i * d.sz + j)) = some u) ∧ B v) len (by
   intro i hi
   have h1 := hel i hi
   obtain ⟨y, hy⟩ : ∃ y, elems[i]? = some y := ⟨_, List.getElem?_eq_getElem (by omega)⟩
   rw [hy] at h1
   obtain ⟨c, hc, hc2⟩ := Option.bind_eq_some_iff.1 h1
   obtain ⟨v, hK, hB⟩ := hE m (by omega) c y hc2 (fun q hq => hw q (List.mem_cons_of_mem _ (List.mem_append_left _ (weightsAll_mem (List.mem_map.2 ⟨y, List.mem_of_getElem? hy, rfl⟩) hq))))
   refine ⟨v, ⟨c, d.K_len hK, hK, fun j u hu => ?_⟩, hB⟩
   have hc3 := World.cells?_some hc
   have hj : j < P.cellsOf e := by
    have := (List.getElem?_eq_some_iff.1 hu).1
    rw [d.K_len hK] at this
    rw [hs]
    exact this
   have h2 := hc3.2.2 j hj
   rw [hu, hs, Addr.add_add] at h2
   exact h2)
  refine ⟨l, ⟨some a, cap, by rw [hll], by omega, ?_⟩, ?_, ?_⟩
  ·refine ⟨rfl, ?_, fun _ => ⟨a, rfl, fun j p hp => (hlb j p hp).1⟩⟩
   have : maxLen = 9223372036854775807 := rfl
   omega
  ·have := hw _ List.mem_cons_self
   rw [List.length_map, hlen, hb] at this
   rw [hll]
   exact Nat.le_trans (Nat.mul_le_mul_right _ (by omega)) this
  ·intro y hy
   obtain ⟨i, hi⟩ := List.mem_iff_getElem?.1 hy
   exact (hlb i y hi).2

/-- The fields from one on, which lies at 'off'. -/
def OpensF (enc : TypeId × Value → H) (P : Program) (W : World) (base : Nat) (spare : Nat → Bool) (held : Bool) (n off : Nat) (fs : List Field) {α : Type} (d : Kd α) (B : α → Prop) : Prop :=
 ∀ (cs : List Value) (xs : List (DataW H × List MemPlace)), cs.length = off + d.sz → (∀ (i : Nat) (f : Field), fs[i]? = some f → DataW.trod enc P W base spare held n f.type ((cs.drop f.offset).take (P.cellsOf f.type)) = xs[i]?) →
  xs.length = fs.length → (∀ q ∈ DataW.weightsEach P (fs.map (·.type)) (xs.map (·.1)), q ≤ 140737488351232) → ∃ v : α, d.K W v (cs.drop off) ∧ B v

theorem OpensF.one {n off : Nat} {f : Field} {α : Type} {d : Kd α} {B : α → Prop} (ho : f.offset = off) (hs : P.cellsOf f.type = d.sz) (h : Opens enc P W base spare held n f.type d B) : OpensF enc P W base spare held n off [f] d B := by
 intro cs xs hl ht hx hw
 have h1 := ht 0 f rfl
 cases xs with
 | nil => simp at hx
 | cons x r =>
  rw [ho, hs, List.take_of_length_le (by rw [List.length_drop]; omega)] at h1
  refine h _ x h1 (fun q hq => hw q ?_)
  simp only [List.map_cons, DataW.weightsEach]
  exact List.mem_append_left _ hq

theorem OpensF.pair {n off : Nat} {f : Field} {fs : List Field} {α β : Type} {a : Kd α} {b : Kd β} {A : α → Prop} {B : β → Prop} (ho : f.offset = off) (hs : P.cellsOf f.type = a.sz) (h : Opens enc P W base spare held n f.type a A)
  (hr : OpensF enc P W base spare held n (off + a.sz) fs b B) : OpensF enc P W base spare held n off (f :: fs) (Kd.pair a b) (fun z => A z.1 ∧ B z.2) := by
 intro cs xs hl ht hx hw
 have hl' : cs.length = off + (a.sz + b.sz) := hl
 cases xs with
 | nil => simp at hx
 | cons x r =>
  have h1 := ht 0 f rfl
  rw [ho, hs] at h1
  simp only [List.map_cons, DataW.weightsEach] at hw
  obtain ⟨u, hu, hA⟩ := h _ x h1 (fun q hq => hw q (List.mem_append_left _ hq))
  obtain ⟨v, hv, hB⟩ := hr cs r (by omega) (fun i g hg => by have := ht (i + 1) g (by simpa using hg); simpa using this) (by simpa using hx) (fun q hq => hw q (List.mem_append_right _ hq))
  refine ⟨(u, v), ⟨_, _, ?_, hu, hv⟩, hA, hB⟩
  rw [← List.drop_drop, List.take_append_drop]

theorem Opens.struct {n : Nat} {t : TypeId} {fs : Array Field} {α γ : Type} {d : Kd α} {B : α → Prop} (ht : P.underlying t = some (.struct fs)) (hs : P.cellsOf t = d.sz) (h : ∀ m, m < n → OpensF enc P W base spare held m 0 fs.toList d B)
  {f : γ → α} (g : α → γ) (hfg : ∀ x, f (g x) = x) : Opens enc P W base spare held n t (Kd.iso d f) (fun x => B (f x)) := by
 intro cs x hx hl
 obtain ⟨xs, m, rfl, rfl, hlen, hxl, hf⟩ := DataW.trod_struct ht hx
 obtain ⟨v, hv, hB⟩ := h m (by omega) cs xs (by rw [hlen, hs]; omega) (fun i f hi => hf i f (by simpa using hi)) (by simpa using hxl) (fun q hq => hl q (by
  show q ∈ DataW.weights P t (.agg _)
  rw [DataW.weights, ht]
  exact hq))
 refine ⟨g v, ?_, ?_⟩
 ·show d.K W (f (g v)) cs
  rw [hfg]
  simpa using hv
 ·show B (f (g v))
  rw [hfg]
  exact hB

theorem Opens.imp {n : Nat} {t : TypeId} {α : Type} {d d' : Kd α} {B B' : α → Prop} (h : Opens enc P W base spare held n t d B) (hK : ∀ v cs, d.K W v cs → d'.K W v cs) (hB : ∀ v, B v → B' v) : Opens enc P W base spare held n t d' B' := by
 intro cs x hx hl
 obtain ⟨v, hv, hb⟩ := h cs x hx hl
 exact ⟨v, hK _ _ hv, hB _ hb⟩
end

/-- A row's argument's weights are light. -/
theorem light_of {H : Type} {P : Program} {ts : List TypeId} {ds : List (DataW H)} {j : Nat} {t : TypeId} {d : DataW H} (hsz : (DataW.weightsEach P ts ds).all (· ≤ reachBytes) = true) (ht : ts[j]? = some t) (hd : ds[j]? = some d) : Light P t d := by
 have h0 : ∀ q ∈ DataW.weightsEach P ts ds, q ≤ 140737488351232 := fun q hq => by
  have := List.all_eq_true.1 hsz q hq
  exact of_decide_eq_true this
 clear hsz
 induction ts generalizing ds j with
 | nil => simp at ht
 | cons t0 r ih =>
  cases ds with
  | nil => simp at hd
  | cons d0 s =>
   simp only [DataW.weightsEach] at h0
   cases j with
   | zero =>
    simp at ht hd
    subst ht
    subst hd
    exact fun q hq => h0 q (List.mem_append_left _ hq)
   | succ j => exact ih (by simpa using ht) (by simpa using hd) (fun q hq => h0 q (List.mem_append_right _ hq))
end Go.Proofs.Ytkcomfmdcmjagaa.Tree
-- narrow
