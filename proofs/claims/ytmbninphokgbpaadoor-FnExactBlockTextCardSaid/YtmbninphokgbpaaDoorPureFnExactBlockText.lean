/- A block's text, both ways: the quotes taken off, the hidden quotes shown, the lines moved in by as much as all of them are. -/
import Derived.Test.YtmbninphokgbpaaDoorOFnExactBlockTextx8
import Derived.Test.YtmbninphokgbpaaDoorBase
import Derived.Lib.ReplaceLaws
namespace Go.Proofs.YtmbninphokgbpaaDoor.Pure
open Go.RowKit Go.Proofs.YtmbninphokgbpaaDoor.OFnExactBlockText Go.Proofs.YtmbninphokgbpaaDoorW.PrintWords Go.Proofs.YtmbninphokgbpaaDoorW.PrintLast Go.Proofs.YtmbninphokgbpaaDoorW.PrintMore Go.Proofs.YtmbninphokgbpaaDoor.Base
set_option linter.unusedVariables false
set_option linter.unusedSimpArgs false

theorem byte_at (s : ByteArray) (i : Nat) (h : i < s.size) : ∃ b : UInt8, s.data.toList.drop i = b :: s.data.toList.drop (i + 1) ∧ bt s (i : Int) = (b.toNat : Int) ∧ s.data.toList.take (i + 1) = s.data.toList.take i ++ [b] := by
  have hl : i < s.data.toList.length := by rw [Array.length_toList]; exact h
  refine ⟨s.data.toList[i], List.drop_eq_getElem_cons hl, ?_, List.take_succ_eq_append_getElem hl⟩
  have := tl_cons (s := s) (i := (i : Int)) (by omega) (by omega)
  unfold tl at this
  rw [Int.toNat_natCast] at this
  unfold bytesOf at this
  rw [← List.map_drop, List.drop_eq_getElem_cons hl, List.map_cons] at this
  exact (List.cons.inj this).1.symm
theorem extract_mk (s : ByteArray) (a b : Nat) : s.extract a b = ⟨((s.data.toList.take b).drop a).toArray⟩ := by
  apply ByteArray.ext
  apply Array.toList_inj.1
  rw [ByteArray.data_extract, Array.toList_extract, List.extract_eq_take_drop, List.drop_take]

/-- Every instance of old, from the left, replaced. -/
def repF (old new : List UInt8) : List UInt8 → List UInt8
  | [] => []
  | b :: l => if old ≠ [] ∧ old.isPrefixOf (b :: l) = true then new ++ repF old new ((b :: l).drop old.length) else b :: repF old new l
termination_by l => l.length
decreasing_by
  · rename_i h
    have := List.length_pos_iff.2 h.1
    simp only [List.length_drop, List.length_cons]; omega
  · simp
theorem repF_miss (old new : List UInt8) (s : List UInt8) (h : Lib.index s old = -1) : repF old new s = s := by
  induction s with
  | nil => rw [repF]
  | cons b l ih =>
    rw [Lib.index] at h
    have hg := Lib.index_ge l old
    split at h
    · omega
    · rename_i hp
      split at h
      · rename_i hm
        rw [repF, if_neg (fun z => hp z.2), ih (beq_iff_eq.1 hm)]
      · rename_i hm
        omega
theorem repF_hit (old new : List UInt8) (hold : old ≠ []) (s : List UInt8) : ∀ i : Nat, Lib.index s old = i → repF old new s = s.take i ++ new ++ repF old new (s.drop (i + old.length)) := by
  induction s with
  | nil =>
    intro i h
    rw [Lib.index] at h
    cases old with
    | nil => exact absurd rfl hold
    | cons x r => simp at h
  | cons b l ih =>
    intro i h
    rw [Lib.index] at h
    have hg := Lib.index_ge l old
    split at h
    · rename_i hp
      have hi : i = 0 := by omega
      subst hi
      rw [repF, if_pos ⟨hold, hp⟩, Nat.zero_add]; rfl
    · rename_i hp
      split at h
      · omega
      · rename_i hm
        have hne : Lib.index l old ≠ -1 := fun z => hm (beq_iff_eq.2 z)
        obtain ⟨j, rfl⟩ : ∃ j, i = j + 1 := ⟨i - 1, by omega⟩
        rw [repF, if_neg (fun z => hp z.2), ih j (by omega), List.take_succ_cons, show j + 1 + old.length = (j + old.length) + 1 from by omega, List.drop_succ_cons]; rfl
theorem replaceK_rep (old new : List UInt8) (hold : old ≠ []) (k : Nat) : ∀ s, Lib.count s old = k → Lib.replaceK old new k s = repF old new s := by
  induction k with
  | zero =>
    intro s h
    rcases Lib.index_spec s old with ⟨h1, _⟩ | ⟨i, h1, _⟩
    · rw [repF_miss old new s h1]; rfl
    · rw [Lib.count_hit hold h1] at h; omega
  | succ k ih =>
    intro s h
    obtain ⟨i, hi⟩ := Lib.index_of_count (s := s) (old := old) (by omega)
    have hc := Lib.count_hit hold hi
    rw [Lib.replaceK_hit old new k s i hi, ih _ (by omega), repF_hit old new hold s i hi]
theorem replaceAll_rep (s old new : List UInt8) (hold : old ≠ []) (hne : old ≠ new) : Lib.replaceAll s old new = repF old new s := by
  unfold Lib.replaceAll Lib.replace
  rw [if_neg (by simpa using hne)]
  have : Lib.replaceNum s old (-1) = Lib.count s old := by unfold Lib.replaceNum; rw [if_pos (Or.inl (by decide))]
  rw [this]
  exact replaceK_rep old new hold _ s rfl
/-- A byte set ahead of the first of some lists. -/
def pushH (x : UInt8) : List (List UInt8) → List (List UInt8)
  | [] => [[x]]
  | h :: t => (x :: h) :: t
def splF : List UInt8 → List (List UInt8)
  | [] => [[]]
  | b :: l => if b = 10 then [] :: splF l else pushH b (splF l)
theorem splF_ne (l : List UInt8) : splF l ≠ [] := by
  cases l with
  | nil => simp [splF]
  | cons b l => rw [splF]; split; simp; cases splF l <;> simp [pushH]
theorem pre10 (b : UInt8) (l : List UInt8) : ([10] : List UInt8).isPrefixOf (b :: l) = true ↔ b = 10 := by simp [List.isPrefixOf]; exact eq_comm
theorem splF_miss (s : List UInt8) (h : Lib.index s [10] = -1) : splF s = [s] := by
  induction s with
  | nil => rfl
  | cons b l ih =>
    rw [Lib.index] at h
    have hg := Lib.index_ge l [10]
    split at h
    · omega
    · rename_i hp
      split at h
      · rename_i hm
        rw [splF, if_neg (fun z => hp ((pre10 b l).2 z)), ih (beq_iff_eq.1 hm)]; rfl
      · omega
theorem splF_hit (s : List UInt8) : ∀ i : Nat, Lib.index s [10] = i → splF s = s.take i :: splF (s.drop (i + 1)) := by
  induction s with
  | nil => intro i h; simp [Lib.index] at h
  | cons b l ih =>
    intro i h
    rw [Lib.index] at h
    have hg := Lib.index_ge l [10]
    split at h
    · rename_i hp
      have hi : i = 0 := by omega
      subst hi
      rw [splF, if_pos ((pre10 b l).1 hp)]; rfl
    · rename_i hp
      split at h
      · omega
      · rename_i hm
        have hne : Lib.index l [10] ≠ -1 := fun z => hm (beq_iff_eq.2 z)
        obtain ⟨j, rfl⟩ : ∃ j, i = j + 1 := ⟨i - 1, by omega⟩
        rw [splF, if_neg (fun z => hp ((pre10 b l).2 z)), ih j (by omega), List.take_succ_cons, List.drop_succ_cons]; rfl
theorem splitB_spl (sep : ByteArray) (hsep : sep.data.toList = [10]) (k : Nat) : ∀ s : ByteArray, Lib.countB s sep = k → (Lib.splitB sep 0 k s).map (·.data.toList) = splF s.data.toList := by
  have hs1 : sep.size = 1 := by show sep.data.size = 1; rw [← Array.length_toList, hsep]; rfl
  have hi : ∀ s : ByteArray, Lib.indexB s sep = Lib.index s.data.toList [10] := by intro s; unfold Lib.indexB; rw [hsep]
  induction k with
  | zero =>
    intro s h
    rcases Lib.index_spec s.data.toList [10] with ⟨h1, _⟩ | ⟨i, h1, _⟩
    · rw [splF_miss _ h1]; rfl
    · rw [Lib.countB_hit s sep i (by omega) (by rw [hi]; exact h1)] at h; omega
  | succ k ih =>
    intro s h
    rcases Lib.index_spec s.data.toList [10] with ⟨h1, _⟩ | ⟨i, h1, _⟩
    · rw [Lib.countB_miss s sep (by rw [hi]; exact h1)] at h; omega
    · have hc := Lib.countB_hit s sep i (by omega) (by rw [hi]; exact h1)
      rw [Lib.splitB_hit sep 0 k s i (by rw [hi]; exact h1), List.map_cons, ih _ (by omega), splF_hit _ i h1]
      have e1 : (s.extract 0 (i + 0)).data.toList = s.data.toList.take i := by rw [extract_mk]; simp
      have e2 : (s.extract (i + sep.size) s.size).data.toList = s.data.toList.drop (i + 1) := by
        rw [extract_mk, hs1, List.toList_toArray, List.take_of_length_le (by rw [Array.length_toList]; exact Nat.le_refl _)]
      rw [e1, e2]
/-- The lines of a text: behind 13 10, 13 or 10 a new one begins; p: the byte ahead was a 13. -/
def lnS : Bool → List UInt8 → List (List UInt8)
  | _, [] => [[]]
  | p, b :: l => if p = true ∧ b = 10 then lnS false l else if b = 13 then [] :: lnS true l else if b = 10 then [] :: lnS false l else pushH b (lnS false l)
theorem repF_skip (old new : List UInt8) (b : UInt8) (l : List UInt8) (h : ¬ old.isPrefixOf (b :: l) = true) : repF old new (b :: l) = b :: repF old new l := by
  rw [repF, if_neg (fun z => h z.2)]
theorem repF_take (old new : List UInt8) (hold : old ≠ []) (b : UInt8) (l : List UInt8) (h : old.isPrefixOf (b :: l) = true) : repF old new (b :: l) = new ++ repF old new ((b :: l).drop old.length) := by
  rw [repF, if_pos ⟨hold, h⟩]
theorem pre13 (b : UInt8) (l : List UInt8) : ([13] : List UInt8).isPrefixOf (b :: l) = true ↔ b = 13 := by simp [List.isPrefixOf]; exact eq_comm
theorem lnS_head (l : List UInt8) (h : ∀ c r, l = c :: r → c ≠ 10) : lnS true l = lnS false l := by
  cases l with
  | nil => rfl
  | cons c r => have := h c r rfl; simp [lnS, this]
theorem lines_eq (n : Nat) : ∀ s : List UInt8, s.length ≤ n → splF (repF [13] [10] (repF [13, 10] [10] s)) = lnS false s := by
  induction n with
  | zero =>
    intro s h
    obtain rfl : s = [] := List.eq_nil_of_length_eq_zero (by omega)
    rw [repF, repF]; rfl
  | succ n ih =>
    intro s h
    cases s with
    | nil => rw [repF, repF]; rfl
    | cons b l =>
      rw [List.length_cons] at h
      have k10 : ∀ X, splF (repF [13] [10] (10 :: X)) = [] :: splF (repF [13] [10] X) := by
        intro X
        rw [repF_skip [13] [10] 10 X (by rw [pre13]; decide), splF, if_pos rfl]
      by_cases hb : b = 13
      · subst hb
        by_cases hc : ∃ r, l = 10 :: r
        · obtain ⟨r, rfl⟩ := hc
          rw [repF_take [13, 10] [10] (by simp) 13 (10 :: r) (by simp [List.isPrefixOf])]
          show splF (repF [13] [10] (10 :: repF [13, 10] [10] r)) = _
          rw [k10, ih r (by simp at h; omega)]
          simp [lnS]
        · have hh : ∀ c r, l = c :: r → c ≠ 10 := by
            rintro c r rfl rfl; exact hc ⟨r, rfl⟩
          have hp : ¬ ([13, 10] : List UInt8).isPrefixOf (13 :: l) = true := by
            cases l with
            | nil => simp [List.isPrefixOf]
            | cons c r =>
              have := hh c r rfl
              simp [List.isPrefixOf]; exact fun z => this z.symm
          rw [repF_skip [13, 10] [10] 13 l hp, repF_take [13] [10] (by simp) 13 _ (by rw [pre13])]
          show splF (10 :: repF [13] [10] (repF [13, 10] [10] l)) = _
          rw [splF, if_pos rfl, ih l (by omega), ← lnS_head l hh]
          simp [lnS]
      · have hp : ¬ ([13, 10] : List UInt8).isPrefixOf (b :: l) = true := by
          simp only [List.isPrefixOf, Bool.and_eq_true, beq_iff_eq]
          exact fun z => hb z.1.symm
        rw [repF_skip [13, 10] [10] b l hp, repF_skip [13] [10] b _ (by rw [pre13]; exact hb)]
        by_cases h10 : b = 10
        · subst h10
          rw [splF, if_pos rfl, ih l (by omega)]
          simp [lnS]
        · rw [splF, if_neg h10, ih l (by omega)]
          simp [lnS, hb, h10]
def asB (L : List (List UInt8)) : List ByteArray := L.map fun l => ⟨l.toArray⟩

theorem repF_len (old new : List UInt8) (h : new.length ≤ old.length) (n : Nat) : ∀ l : List UInt8, l.length ≤ n → (repF old new l).length ≤ l.length := by
  induction n with
  | zero =>
    intro l hl
    obtain rfl : l = [] := List.eq_nil_of_length_eq_zero (by omega)
    rw [repF]; simp
  | succ n ih =>
    intro l hl
    cases l with
    | nil => rw [repF]; simp
    | cons b l =>
      rw [List.length_cons] at hl
      rw [repF]
      split
      · rename_i hp
        have hpl : old.length ≤ (b :: l).length := (List.isPrefixOf_iff_prefix.1 hp.2).length_le
        have h0 := List.length_pos_iff.2 hp.1
        have := ih ((b :: l).drop old.length) (by rw [List.length_drop, List.length_cons]; omega)
        rw [List.length_append]
        rw [List.length_drop] at this
        rw [List.length_cons] at hpl this ⊢
        omega
      · have := ih l (by omega)
        simp only [List.length_cons]; omega
theorem replace_eq (s old new : ByteArray) (hold : old.data.toList ≠ []) (hne : old.data.toList ≠ new.data.toList) (h1 : 1 ≤ old.size) (hn : new.size ≤ 1) (hs : s.size ≤ 4000000) : strings_ReplaceAll.f s old new = some ⟨(repF old.data.toList new.data.toList s.data.toList).toArray⟩ := by
  have hc := Lib.countB_le old h1 s.size s (Nat.le_refl _)
  have hm : Lib.countB s old * new.size ≤ s.size * 1 := Nat.mul_le_mul hc hn
  unfold strings_ReplaceAll.f
  rw [if_pos ⟨by omega, h1, by omega⟩, replaceAll_rep _ _ _ hold hne]
theorem impl_LinesIn.eq (s : ByteArray) (hs : s.size ≤ 4000000) : impl_LinesIn.f s = some (asB (lnS false s.data.toList)) := by
  have hl : s.data.toList.length = s.size := by rw [Array.length_toList]; rfl
  have r1 := repF_len [13, 10] [10] (by decide) _ s.data.toList (Nat.le_refl _)
  obtain ⟨t, ht⟩ : ∃ t : ByteArray, (⟨(repF [13, 10] [10] s.data.toList).toArray⟩ : ByteArray) = t := ⟨_, rfl⟩
  have htl : t.data.toList = repF [13, 10] [10] s.data.toList := by rw [← ht]
  have htz : t.size ≤ 4000000 := by show t.data.size ≤ _; rw [← Array.length_toList, htl]; omega
  have r2 := repF_len [13] [10] (by decide) _ t.data.toList (Nat.le_refl _)
  obtain ⟨u, hu⟩ : ∃ u : ByteArray, (⟨(repF [13] [10] t.data.toList).toArray⟩ : ByteArray) = u := ⟨_, rfl⟩
  have hul : u.data.toList = repF [13] [10] t.data.toList := by rw [← hu]
  have htl2 : t.data.toList.length = t.size := by rw [Array.length_toList]; rfl
  have huz : u.size ≤ 4000000 := by show u.data.size ≤ _; rw [← Array.length_toList, hul]; omega
  have f1 := replace_eq s (⟨#[13, 10]⟩ : ByteArray) (⟨#[10]⟩ : ByteArray) (by decide) (by decide) (by decide) (by decide) hs
  have f2 := replace_eq t (⟨#[13]⟩ : ByteArray) (⟨#[10]⟩ : ByteArray) (by decide) (by decide) (by decide) (by decide) htz
  have f1 : strings_ReplaceAll.f s (⟨#[13, 10]⟩ : ByteArray) (⟨#[10]⟩ : ByteArray) = some t := f1.trans (congrArg some ht)
  have f2 : strings_ReplaceAll.f t (⟨#[13]⟩ : ByteArray) (⟨#[10]⟩ : ByteArray) = some u := f2.trans (congrArg some hu)
  have hcu := Lib.countB_le (⟨#[10]⟩ : ByteArray) (by decide) u.size u (Nat.le_refl _)
  have f3 : strings_Split.f u (⟨#[10]⟩ : ByteArray) = some (Lib.splitB (⟨#[10]⟩ : ByteArray) 0 (Lib.countB u (⟨#[10]⟩ : ByteArray)) u) := by
    unfold strings_Split.f
    rw [if_pos ⟨by omega, by decide, Lib.splitB_all (⟨#[10]⟩ : ByteArray) (by decide) 0 _ u rfl, by unfold maxLen; omega⟩]
  have hsp := splitB_spl (⟨#[10]⟩ : ByteArray) rfl _ u rfl
  have hfin : Lib.splitB (⟨#[10]⟩ : ByteArray) 0 (Lib.countB u (⟨#[10]⟩ : ByteArray)) u = asB (lnS false s.data.toList) := by
    rw [← lines_eq _ s.data.toList (Nat.le_refl _), ← htl, ← hul, ← hsp]
    unfold asB
    rw [List.map_map]
    conv => lhs; rw [← List.map_id (Lib.splitB (⟨#[10]⟩ : ByteArray) 0 (Lib.countB u (⟨#[10]⟩ : ByteArray)) u)]
    apply List.map_congr_left
    intro x _
    rfl
  unfold impl_LinesIn.f
  rw [f1, Option.bind_some, f2, Option.bind_some, f3, Option.bind_some, hfin]

def blB (x : Int) : Bool := x == 32 || x == 9
/-- How many blanks stand at the begin. -/
def indN (l : List Int) : Nat := (l.takeWhile blB).length
theorem indN_cons (x : Int) (r : List Int) : indN (x :: r) = if blB x = true then indN r + 1 else 0 := by
  unfold indN; rw [List.takeWhile_cons]; cases blB x <;> simp
theorem indN_le (l : List Int) : indN l ≤ l.length := (List.takeWhile_sublist blB).length_le
theorem trimLeft_len (l : List UInt8) : (Lib.trimLeftS l [32, 9]).length + indN (l.map fun b => (b.toNat : Int)) = l.length := by
  unfold Lib.trimLeftS
  induction l with
  | nil => rfl
  | cons b l ih =>
    have e : blB (b.toNat : Int) = ([32, 9] : List UInt8).contains b := by
      unfold blB
      rw [Bool.eq_iff_iff]
      simp only [Bool.or_eq_true, beq_iff_eq, List.contains_cons, List.contains_nil, Bool.or_false]
      constructor
      · rintro (h | h)
        · left; apply UInt8.toNat_inj.1; show b.toNat = 32; omega
        · right; apply UInt8.toNat_inj.1; show b.toNat = 9; omega
      · rintro (h | h)
        · left; subst h; rfl
        · right; subst h; rfl
    rw [List.dropWhile_cons, List.map_cons, indN_cons, e, List.length_cons]
    cases h : ([32, 9] : List UInt8).contains b with
    | true => simp only [if_true]; omega
    | false => simp

theorem impl_Indent.eq (s : ByteArray) (hs : s.size ≤ 140737488351232) : impl_Indent.f s = some ((indN (bytesOf s) : Nat) : Int) := by
  have h := trimLeft_len s.data.toList
  have hl : s.data.toList.length = s.size := by rw [Array.length_toList]; rfl
  have e : (⟨(Lib.trimLeftS s.data.toList [32, 9]).toArray⟩ : ByteArray).size = (Lib.trimLeftS s.data.toList [32, 9]).length := by
    show (Lib.trimLeftS s.data.toList [32, 9]).toArray.size = _; simp
  have hb : bytesOf s = s.data.toList.map fun b => (b.toNat : Int) := rfl
  unfold impl_Indent.f strings_TrimLeft.f
  rw [if_pos ⟨by omega, by decide, by decide⟩]
  show some (wrap64 ((s.size : Int) - ((⟨(Lib.trimLeftS s.data.toList [32, 9]).toArray⟩ : ByteArray).size : Int))) = _
  rw [e, hb, w64 (by omega) (by omega)]
  congr 1; omega

theorem lnS_ne (l : List UInt8) : ∀ p, lnS p l ≠ [] := by
  induction l with
  | nil => intro p; simp [lnS]
  | cons b l ih =>
    intro p
    rw [lnS]
    split
    · exact ih _
    · split
      · simp
      · split
        · simp
        · cases lnS false l <;> simp [pushH]
/-- The lines, as both sides tell them. -/
def linesB (s : ByteArray) : List ByteArray := asB (lnS false s.data.toList)
theorem linesB_len (s : ByteArray) : (linesB s).length ≤ s.size + 1 := by
  have h : ∀ (l : List UInt8) (p : Bool), (lnS p l).length ≤ l.length + 1 := by
    intro l
    induction l with
    | nil => intro p; simp [lnS]
    | cons b l ih =>
      intro p
      have h1 := ih false
      have h2 := ih true
      rw [lnS]
      split
      · simp only [List.length_cons]; omega
      · split
        · simp only [List.length_cons]; omega
        · split
          · simp only [List.length_cons]; omega
          · cases hq : lnS false l with
            | nil => simp [pushH]
            | cons a t => rw [hq] at h1; simp only [pushH, List.length_cons] at h1 ⊢; omega
  have := h s.data.toList false
  unfold linesB asB
  rw [List.length_map]
  have hl : s.data.toList.length = s.size := by rw [Array.length_toList]; rfl
  omega
theorem linesB_ne (s : ByteArray) : linesB s ≠ [] := by
  unfold linesB asB
  intro h
  exact lnS_ne s.data.toList false (List.map_eq_nil_iff.1 h)
theorem linesB_size (s : ByteArray) : ∀ x ∈ linesB s, x.size ≤ s.size := by
  have h : ∀ (l : List UInt8) (p : Bool), ∀ x ∈ lnS p l, x.length ≤ l.length := by
    intro l
    induction l with
    | nil => intro p x hx; simp [lnS] at hx; subst hx; simp
    | cons b l ih =>
      intro p x hx
      rw [lnS] at hx
      rw [List.length_cons]
      split at hx
      · have := ih _ x hx; omega
      · split at hx
        · rcases List.mem_cons.1 hx with rfl | hx
          · simp
          · have := ih _ x hx; omega
        · split at hx
          · rcases List.mem_cons.1 hx with rfl | hx
            · simp
            · have := ih _ x hx; omega
          · cases hq : lnS false l with
            | nil => rw [hq] at hx; simp [pushH] at hx; subst hx; simp
            | cons a t =>
              rw [hq] at hx
              rcases List.mem_cons.1 hx with rfl | hx
              · have := ih false a (by rw [hq]; simp); simp; omega
              · have := ih false x (by rw [hq]; simp [hx]); omega
  intro x hx
  obtain ⟨l, hl, rfl⟩ := List.mem_map.1 hx
  have := h s.data.toList false l hl
  have e : (⟨l.toArray⟩ : ByteArray).size = l.length := by show l.toArray.size = _; simp
  have hz : s.data.toList.length = s.size := by rw [Array.length_toList]; rfl
  omega

theorem str_append (a b : List Int) : strOfNums a ++ strOfNums b = strOfNums (a ++ b) := by
  unfold strOfNums
  apply ByteArray.ext
  rw [ByteArray.data_append]; simp
theorem str_size (a : List Int) : (strOfNums a).size = a.length := by
  unfold strOfNums
  show (List.toArray _).size = _
  simp
theorem str_one (s : ByteArray) (i : Int) (h0 : 0 ≤ i) (h1 : i < (s.size : Int)) : s.extract i.toNat (i + 1).toNat = strOfNums [bt s i] := by
  apply bytes_inj
  have hr := bt_range s i
  rw [bytes_extract, bytes_strOfNums _ (by intro x hx; simp at hx; subst hx; exact hr)]
  have ht := tl_cons h0 h1
  unfold tl at ht
  rw [List.drop_take, ht, show (i + 1).toNat - i.toNat = 1 from by omega]; rfl

def bareB (s : ByteArray) : Bool := decide (indN (bytesOf s) = s.size)
/-- The least indent of the lines that are not bare; m: of those ahead; -1: there is none. -/
def leastF : Int → List ByteArray → Int
  | m, [] => m
  | m, s :: r => leastF (if bareB s = false ∧ (m < 0 ∨ (indN (bytesOf s) : Int) < m) then (indN (bytesOf s) : Int) else m) r
def cutN (m : Int) (s : ByteArray) : Nat := (max 0 (min m (indN (bytesOf s) : Int))).toNat
def cutF (m : Int) (s : ByteArray) : ByteArray := s.extract (cutN m s) s.size
def joinL : List (List Int) → List Int
  | [] => []
  | [x] => x
  | x :: y :: r => x ++ 10 :: joinL (y :: r)
def trimR (L : List ByteArray) : List ByteArray := (L.reverse.dropWhile bareB).reverse
def joinB (L : List ByteArray) : ByteArray := strOfNums (joinL (L.map bytesOf))
def blockV : List ByteArray → ByteArray
  | [] => (⟨#[]⟩ : ByteArray)
  | h :: t => joinB (trimR ((h :: t.map (cutF (leastF (-1) t))).dropWhile bareB))
theorem indN_size (s : ByteArray) : indN (bytesOf s) ≤ s.size := by have := indN_le (bytesOf s); rwa [size_bytes] at this
theorem cutF_size (m : Int) (s : ByteArray) : (cutF m s).size ≤ s.size := by unfold cutF; rw [size_extract]; omega
theorem leastF_range (B : Int) (L : List ByteArray) (h : ∀ s ∈ L, (s.size : Int) ≤ B) : ∀ m, -1 ≤ m → m ≤ B → -1 ≤ leastF m L ∧ leastF m L ≤ B := by
  induction L with
  | nil => intro m h0 h1; exact ⟨h0, h1⟩
  | cons s r ih =>
    intro m h0 h1
    have hs := h s (by simp)
    have hi := indN_size s
    exact ih (fun x hx => h x (by simp [hx])) _ (by split <;> omega) (by split <;> omega)
theorem joinL_snoc (M : List (List Int)) (x : List Int) (h : M ≠ []) : joinL (M ++ [x]) = joinL M ++ 10 :: x := by
  induction M with
  | nil => exact absurd rfl h
  | cons a M ih =>
    cases M with
    | nil => rfl
    | cons b M =>
      have := ih (by simp)
      rw [List.cons_append] at this ⊢
      rw [List.cons_append, joinL, joinL, this]; simp
theorem joinL_len (B : Nat) (M : List (List Int)) (h : ∀ x ∈ M, x.length ≤ B) : (joinL M).length ≤ M.length * (B + 1) := by
  induction M with
  | nil => simp [joinL]
  | cons a M ih =>
    cases M with
    | nil => have := h a (by simp); simp [joinL]; omega
    | cons b M =>
      have h1 := ih fun x hx => h x (by simp [hx])
      have h2 := h a (by simp)
      rw [joinL, List.length_append, List.length_cons]
      rw [show (a :: b :: M).length * (B + 1) = (b :: M).length * (B + 1) + (B + 1) from by rw [show (a :: b :: M).length = (b :: M).length + 1 from rfl, Nat.add_mul, Nat.one_mul]]
      omega
theorem rd_mid (A B : List ByteArray) (b : ByteArray) : rdOf ByteArray.empty (A ++ b :: B) ((A.length : Nat) : Int) = b := by
  unfold rdOf
  rw [Int.toNat_natCast, List.getD_eq_getElem?_getD, List.getElem?_append_right (Nat.le_refl _)]; simp
theorem set_mid (A B : List ByteArray) (b c : ByteArray) : (A ++ b :: B).set ((A.length : Nat) : Int).toNat c = A ++ c :: B := by
  rw [Int.toNat_natCast, List.set_append_right _ _ (Nat.le_refl _)]; simp
theorem trimR_nil : trimR [] = [] := rfl
theorem trimR_snoc (M : List ByteArray) (s : ByteArray) : trimR (M ++ [s]) = if bareB s = true then trimR M else M ++ [s] := by
  unfold trimR
  rw [List.reverse_append, List.reverse_singleton, List.singleton_append, List.dropWhile_cons]
  split
  · rfl
  · simp
theorem bareB_eq (s : ByteArray) : bareB s = (((indN (bytesOf s) : Nat) : Int) == (s.size : Int)) := by
  unfold bareB
  rw [Bool.eq_iff_iff, decide_eq_true_eq, beq_iff_eq]; omega

theorem impl_bare.eq (s : ByteArray) (hs : s.size ≤ 140737488351232) : impl_bare.f s = some (bareB s) := by
  unfold impl_bare.f
  rw [impl_Indent.eq s hs, bareB_eq]; rfl

theorem join_ints (L : List ByteArray) : (Lib.join (L.map (·.data.toList)) [10]).map (fun b => (b.toNat : Int)) = joinL (L.map bytesOf) := by
  have tail : ∀ (L : List ByteArray) (x : ByteArray), (x.data.toList ++ Lib.joinTail [10] (L.map (·.data.toList))).map (fun b => (b.toNat : Int)) = joinL (bytesOf x :: L.map bytesOf) := by
    intro L
    induction L with
    | nil => intro x; simp [Lib.joinTail, joinL, bytesOf]
    | cons y L ih =>
      intro x
      have h := ih y
      rw [List.map_cons (f := bytesOf), joinL, ← h]
      simp [Lib.joinTail, bytesOf]
  cases L with
  | nil => rfl
  | cons x L => rw [List.map_cons, Lib.join_cons, tail]; rfl
theorem strings_Join.eq (L : List ByteArray) (hl : L.length ≤ 4000000) (h : ∀ s ∈ L, s.size ≤ 4000000) : strings_Join.f L (⟨#[10]⟩ : ByteArray) = some (joinB L) := by
  have hi := join_ints L
  have hb := joinL_len 4000000 (L.map bytesOf) (by
    intro x hx
    obtain ⟨s, hs, rfl⟩ := List.mem_map.1 hx
    rw [size_bytes]; exact h s hs)
  rw [List.length_map] at hb
  have hlen : (Lib.join (L.map (·.data.toList)) [10]).length = (joinL (L.map bytesOf)).length := by rw [← hi, List.length_map]
  have hbig : L.length * (4000000 + 1) ≤ 4000000 * 4000001 := Nat.mul_le_mul_right _ hl
  unfold strings_Join.f
  rw [if_pos ⟨by omega, by show (Lib.join (L.map (·.data.toList)) [10]).length ≤ _; omega⟩]
  congr 1
  apply bytes_inj
  have e : bytesOf (⟨(Lib.join (L.map (·.data.toList)) [10]).toArray⟩ : ByteArray) = joinL (L.map bytesOf) := by rw [bytes_mk]; exact hi
  have e2 : bytesOf (joinB L) = joinL (L.map bytesOf) := by
    unfold joinB
    rw [← hi]
    apply bytes_strOfNums
    intro x hx
    obtain ⟨b, _, rfl⟩ := List.mem_map.1 hx
    have := b.toNat_lt
    omega
  exact e.trans e2.symm

theorem impl_BlockValue.l3_ev (hN : Nat) (n : Nat) : ∀ M : List ByteArray, M.length = n → M.length ≤ hN → hN ≤ 4000000 → (∀ s ∈ M, s.size ≤ 4000000) → Ev (fun k => impl_BlockValue.l3 k M) (joinB (trimR M)) := by
  induction n with
  | zero =>
    intro M hn h1 h2 hM
    obtain rfl := List.eq_nil_of_length_eq_zero hn
    apply Ev.succ; simp only [impl_BlockValue.l3]
    exact Ev.ite_neg (by simp) (Ev.bindc (strings_Join.eq [] (by simp) (by simp)) (Ev.done rfl))
  | succ n ih =>
    intro M hn h1 h2 hM
    obtain ⟨M', s, rfl⟩ : ∃ M' s, M = M' ++ [s] := ⟨M.dropLast, M.getLast (by rintro rfl; simp at hn), (List.dropLast_concat_getLast _).symm⟩
    have hl : (M' ++ [s]).length = M'.length + 1 := by simp
    have hw : wrap64 (((M' ++ [s]).length : Int) - 1) = ((M'.length : Nat) : Int) := by rw [hl, w64 (by omega) (by omega)]; omega
    have hs := hM s (by simp)
    apply Ev.succ; simp only [impl_BlockValue.l3]
    rw [hw, rd_mid]
    refine Ev.ite_pos (by omega) (Ev.ite_pos (by omega) (Ev.ite_pos (by omega) (Ev.bindc (impl_bare.eq s (by omega)) ?_)))
    rw [trimR_snoc]
    cases hb : bareB s with
    | true =>
      rw [if_pos rfl]
      refine Ev.ite_pos rfl (Ev.ite_pos (by omega) ?_)
      rw [Int.toNat_natCast, List.take_left]
      exact ih M' (by omega) (by omega) h2 (fun x hx => hM x (by simp [hx]))
    | false =>
      rw [if_neg (by decide)]
      exact Ev.ite_neg (by decide) (Ev.bindc (strings_Join.eq _ (by omega) hM) (Ev.done rfl))
theorem impl_BlockValue.l2_ev (M : List ByteArray) : M.length ≤ 4000000 → (∀ s ∈ M, s.size ≤ 4000000) → Ev (fun k => impl_BlockValue.l2 k M) (joinB (trimR (M.dropWhile bareB))) := by
  have j3 : ∀ M : List ByteArray, M.length ≤ 4000000 → (∀ s ∈ M, s.size ≤ 4000000) → Ev (fun k => impl_BlockValue.j3 k M) (joinB (trimR M)) := by
    intro M h1 h2
    apply Ev.succ; simp only [impl_BlockValue.j3]
    exact impl_BlockValue.l3_ev M.length M.length M rfl (Nat.le_refl _) h1 h2
  induction M with
  | nil =>
    intro h1 h2
    apply Ev.succ; simp only [impl_BlockValue.l2]
    exact Ev.ite_neg (by simp) (j3 [] h1 h2)
  | cons s M ih =>
    intro h1 h2
    have hs := h2 s (by simp)
    rw [List.length_cons] at h1
    apply Ev.succ; simp only [impl_BlockValue.l2]
    have hrd : rdOf ByteArray.empty (s :: M) 0 = s := rd_mid [] M s
    rw [hrd, List.dropWhile_cons]
    refine Ev.ite_pos (by rw [List.length_cons]; omega) (Ev.ite_pos (by rw [List.length_cons]; omega) (Ev.bindc (impl_bare.eq s (by omega)) ?_))
    cases hb : bareB s with
    | true =>
      rw [if_pos rfl]
      exact Ev.ite_pos rfl (Ev.ite_pos (by rw [List.length_cons]; omega) (ih (by omega) (fun x hx => h2 x (by simp [hx]))))
    | false =>
      rw [if_neg (by decide)]
      exact Ev.ite_neg (by decide) (j3 (s :: M) (by rw [List.length_cons]; omega) h2)
theorem mx_mn (m : Int) (s : ByteArray) : mx 0 (mn m (indN (bytesOf s) : Int)) = ((cutN m s : Nat) : Int) := by
  unfold mx mn cutN
  split <;> split <;> omega
theorem impl_BlockValue.l1_ev (m : Int) (hm0 : -1 ≤ m) (hm1 : m ≤ 4000000) (B : List ByteArray) : ∀ A : List ByteArray, (A ++ B).length ≤ 4000000 → (∀ s ∈ A ++ B, s.size ≤ 4000000) → Ev (fun k => impl_BlockValue.l1 k (A ++ B) m ((A.length : Nat) : Int)) (joinB (trimR ((A ++ B.map (cutF m)).dropWhile bareB))) := by
  induction B with
  | nil =>
    intro A h1 h2
    apply Ev.succ; simp only [impl_BlockValue.l1]
    rw [List.append_nil] at h1 h2 ⊢
    rw [List.map_nil, List.append_nil]
    exact Ev.ite_neg (by omega) (impl_BlockValue.l2_ev A h1 h2)
  | cons s B ih =>
    intro A h1 h2
    have hs := h2 s (by simp)
    have hc := indN_size s
    rw [List.length_append, List.length_cons] at h1
    apply Ev.succ; simp only [impl_BlockValue.l1]
    rw [rd_mid, w64 (x := ((A.length : Nat) : Int) + 1) (by omega) (by omega)]
    refine Ev.ite_pos (by rw [List.length_append, List.length_cons]; omega) (Ev.ite_pos (by omega) (Ev.bindc (impl_Indent.eq s (by omega)) ?_))
    rw [mx_mn, set_mid, Int.toNat_natCast]
    have hcn : cutN m s ≤ s.size := by unfold cutN; omega
    refine Ev.ite_pos (by omega) (Ev.ite_pos (by omega) ?_)
    have hE := ih (A ++ [cutF m s]) (by rw [List.length_append, List.length_append]; simp; omega) (by
      intro x hx
      rcases List.mem_append.1 hx with hx | hx
      · rcases List.mem_append.1 hx with hx | hx
        · exact h2 x (by simp [hx])
        · simp at hx; subst hx; have := cutF_size m s; omega
      · exact h2 x (by simp [hx]))
    rw [List.length_append, List.length_singleton, List.append_assoc, List.append_assoc, List.singleton_append, List.singleton_append, show ((A.length + 1 : Nat) : Int) = ((A.length : Nat) : Int) + 1 from by omega] at hE
    rw [List.map_cons]
    exact hE
theorem impl_BlockValue.l0_ev (L : List ByteArray) (R : ByteArray) (B : List ByteArray) : ∀ (A : List ByteArray) (m : Int), -1 ≤ m → m ≤ 4000000 → (A ++ B).length ≤ 4000000 → (∀ s ∈ A ++ B, s.size ≤ 4000000) →
    Ev (fun k => impl_BlockValue.l1 k L (leastF m B) 1) R → Ev (fun k => impl_BlockValue.l0 k L m (A ++ B) ((A ++ B).length : Int) ((A.length : Nat) : Int)) R := by
  induction B with
  | nil =>
    intro A m hm0 hm1 h1 h2 hE
    apply Ev.succ; simp only [impl_BlockValue.l0]
    exact Ev.ite_neg (by rw [List.append_nil]; omega) hE
  | cons s B ih =>
    intro A m hm0 hm1 h1 h2 hE
    have hs := h2 s (by simp)
    have hc := indN_size s
    have hsplit : A ++ s :: B = (A ++ [s]) ++ B := by simp
    have hlen : ((A ++ [s]).length : Int) = ((A.length : Nat) : Int) + 1 := by simp
    have next : ∀ m', m' = (if bareB s = false ∧ (m < 0 ∨ (indN (bytesOf s) : Int) < m) then (indN (bytesOf s) : Int) else m) → Ev (fun k => impl_BlockValue.l0 k L m' (A ++ s :: B) ((A ++ s :: B).length : Int) (((A.length : Nat) : Int) + 1)) R := by
      rintro m' rfl
      have := ih (A ++ [s]) _ (by split <;> omega) (by split <;> omega) (by rw [← hsplit]; exact h1) (by rw [← hsplit]; exact h2) hE
      rw [← hsplit, hlen] at this
      exact this
    rw [List.length_append, List.length_cons] at h1
    apply Ev.succ; simp only [impl_BlockValue.l0]
    rw [rd_mid, w64 (x := ((A.length : Nat) : Int) + 1) (by omega) (by omega)]
    refine Ev.ite_pos (by rw [List.length_append, List.length_cons]; omega) (Ev.ite_pos (by omega) (Ev.ite_pos (by rw [List.length_append, List.length_cons]; omega) (Ev.bindc (impl_bare.eq s (by omega)) ?_)))
    cases hb : bareB s with
    | true => exact Ev.ite_pos rfl (next m (by rw [if_neg (by rw [hb]; simp)]))
    | false =>
      refine Ev.ite_neg (by decide) ?_
      by_cases c : m < 0
      · exact Ev.ite_pos c (Ev.bindc (impl_Indent.eq s (by omega)) (next _ (by rw [if_pos ⟨hb, Or.inl c⟩])))
      · refine Ev.ite_neg c (Ev.bindc (impl_Indent.eq s (by omega)) ?_)
        by_cases d : (indN (bytesOf s) : Int) < m
        · exact Ev.ite_pos d (Ev.bindc (impl_Indent.eq s (by omega)) (next _ (by rw [if_pos ⟨hb, Or.inr d⟩])))
        · exact Ev.ite_neg d (next m (by rw [if_neg (fun z => z.2.elim c d)]))
theorem impl_BlockValue.ev (s : ByteArray) (hs : s.size ≤ 3000000) : Ev (fun k => impl_BlockValue.f k s) (blockV (linesB s)) := by
  have hl := linesB_len s
  have hz := linesB_size s
  have hne := linesB_ne s
  have hI : impl_LinesIn.f s = some (linesB s) := impl_LinesIn.eq s (by omega)
  unfold impl_BlockValue.f
  refine Ev.bindc hI ?_
  generalize linesB s = L at *
  cases L with
  | nil => exact absurd rfl hne
  | cons h t =>
    have hz' : ∀ x ∈ h :: t, x.size ≤ 4000000 := fun x hx => by have := hz x hx; omega
    rw [List.length_cons] at hl
    have hr := leastF_range 4000000 t (fun x hx => by have := hz' x (by simp [hx]); omega) (-1) (by omega) (by omega)
    refine Ev.ite_pos (by rw [List.length_cons]; omega) (Ev.bindc rfl ?_)
    show Ev (fun k => impl_BlockValue.l0 k (h :: t) (-1) t (t.length : Int) 0) _
    have h1 := impl_BlockValue.l1_ev (leastF (-1) t) hr.1 hr.2 t [h] (by simp; omega) (by simpa using hz')
    have h0 := impl_BlockValue.l0_ev (h :: t) (blockV (h :: t)) t [] (-1) (by omega) (by omega) (by simp; omega) (fun x hx => hz' x (by simp at hx; simp [hx])) h1
    exact h0

theorem impl_in.eq (x a b : Int) : impl_in.f x a b = some (decide (a ≤ x ∧ x ≤ b)) := by
  unfold impl_in.f
  by_cases h : x ≥ a
  · rw [if_pos h]; congr 1; rw [Bool.eq_iff_iff]; simp only [decide_eq_true_eq, Bool.or_eq_true, beq_iff_eq, Bool.false_eq_true, true_iff, false_iff]; omega
  · rw [if_neg h]; congr 1; rw [Bool.eq_iff_iff]; simp only [decide_eq_true_eq, Bool.or_eq_true, beq_iff_eq, Bool.false_eq_true, true_iff, false_iff]; omega

/-- Does a list begin with p. -/
def preB (p l : List Int) : Bool := l.take p.length == p
theorem preB_length {p l : List Int} (h : preB p l = true) : p.length ≤ l.length := by
  unfold preB at h; rw [beq_iff_eq] at h
  have := congrArg List.length h
  rw [List.length_take] at this; omega

theorem stringslite_HasPrefix.eq (a b : ByteArray) : stringslite_HasPrefix.f a b = some (preB (bytesOf b) (bytesOf a)) := by
  have la := size_bytes a
  have lb := size_bytes b
  unfold stringslite_HasPrefix.f
  by_cases h : (a.size : Int) ≥ (b.size : Int)
  · rw [if_pos h, if_pos (by omega), if_pos (by omega), toList_beq, bytes_extract]
    unfold preB; simp [lb]
  · rw [if_neg h]
    cases hp : preB (bytesOf b) (bytesOf a) with
    | false => rfl
    | true => have := preB_length hp; omega

theorem strings_HasPrefix.eq (a b : ByteArray) : strings_HasPrefix.f a b = some (preB (bytesOf b) (bytesOf a)) := by
  unfold strings_HasPrefix.f; rw [stringslite_HasPrefix.eq]; rfl

/-- Where a block ends, from place i on; k: bytes that are passed over. -/
def blkE : Nat → List Int → Int → Int
  | _, [], _ => -1
  | k + 1, _ :: r, i => blkE k r (i + 1)
  | 0, x :: r, i => if preB [92, 34, 34, 34] (x :: r) = true then blkE 3 r (i + 1) else if preB [34, 34, 34] (x :: r) = true then i + 3 else blkE 0 r (i + 1)
def blkEndL (s : ByteArray) (i : Int) : Int := if 0 ≤ i ∧ i < (s.size : Int) ∧ preB [34, 34, 34] (tl s i) = true then blkE 0 (tl s (i + 3)) (i + 3) else -1
theorem tl_length {s : ByteArray} {i : Int} (h0 : 0 ≤ i) : ((tl s i).length : Int) = max 0 ((s.size : Int) - i) := by
  unfold tl; rw [List.length_drop, size_bytes]; omega
theorem blkE_four {s : ByteArray} {i : Int} (h0 : 0 ≤ i) (h : preB [92, 34, 34, 34] (tl s i) = true) : i + 4 ≤ (s.size : Int) ∧ blkE 3 (tl s (i + 1)) (i + 1) = blkE 0 (tl s (i + 4)) (i + 4) := by
  have hl := preB_length h
  have ht := tl_length (s := s) h0
  simp only [List.length_cons, List.length_nil] at hl
  have h4 : i + 4 ≤ (s.size : Int) := by omega
  refine ⟨h4, ?_⟩
  have sk : ∀ (k : Nat) (x : Int) (r : List Int) (i : Int), blkE (k + 1) (x :: r) i = blkE k r (i + 1) := fun k x r i => by simp [blkE]
  have e : i + 1 + 1 + 1 + 1 = i + 4 := by omega
  rw [tl_cons (i := i + 1) (by omega) (by omega), sk 2, tl_cons (i := i + 1 + 1) (by omega) (by omega), sk 1, tl_cons (i := i + 1 + 1 + 1) (by omega) (by omega), sk 0, e]

theorem impl_BlockEnd.l0_ev (s : ByteArray) (hs : s.size ≤ 140737488351232) (n : Nat) : ∀ (i : Int), 0 ≤ i → i ≤ (s.size : Int) + 8 → (s.size : Int) - i ≤ n →
    Ev (fun k => impl_BlockEnd.l0 k s i) (blkE 0 (tl s i) i) := by
  induction n with
  | zero =>
    intro i h0 h2 hn
    apply Ev.succ; simp only [impl_BlockEnd.l0]
    rw [tl_nil (by omega)]
    exact Ev.ite_neg (by omega) (Ev.done (by simp [blkE]))
  | succ n ih =>
    intro i h0 h2 hn
    by_cases h1 : i < (s.size : Int)
    · have w1 : wrap64 (i + 1) = i + 1 := w64 (by omega) (by omega)
      have w3 : wrap64 (i + 3) = i + 3 := w64 (by omega) (by omega)
      have w4 : wrap64 (i + 4) = i + 4 := w64 (by omega) (by omega)
      have ih1 := ih (i + 1) (by omega) (by omega) (by omega)
      have hc := tl_cons h0 h1
      have b4 : bytesOf (⟨#[92, 34, 34, 34]⟩ : ByteArray) = [92, 34, 34, 34] := by decide
      have b3 : bytesOf (⟨#[34, 34, 34]⟩ : ByteArray) = [34, 34, 34] := by decide
      apply Ev.succ
      simp only [impl_BlockEnd.l0, h0, h1, if_true, strings_HasPrefix.eq, extract_tl, b4, b3, Option.bind_some, w1, w3, w4]
      refine Ev.ite_pos (by omega) ?_
      rw [hc]; unfold blkE; rw [← hc]
      by_cases c4 : preB [92, 34, 34, 34] (tl s i) = true
      · rw [if_pos c4, (blkE_four h0 c4).2]
        exact Ev.ite_pos c4 (ih (i + 4) (by omega) (by have := (blkE_four h0 c4).1; omega) (by omega))
      · rw [if_neg c4]
        refine Ev.ite_neg c4 ?_
        by_cases hp : preB [34, 34, 34] (tl s i) = true
        · rw [if_pos hp]; exact Ev.ite_pos hp (Ev.done rfl)
        · rw [if_neg hp]; exact Ev.ite_neg hp ih1
    · apply Ev.succ; simp only [impl_BlockEnd.l0]
      rw [tl_nil (by omega)]
      exact Ev.ite_neg (by omega) (Ev.done (by simp [blkE]))
theorem impl_BlockEnd.ev (s : ByteArray) (hs : s.size ≤ 140737488351232) (i : Int) : Ev (fun k => impl_BlockEnd.f k s i) (blkEndL s i) := by
  have hj : Ev (fun k => impl_BlockEnd.j0 k s i true) (-1) := by
    apply Ev.succ; simp only [impl_BlockEnd.j0, if_true]; exact Ev.done rfl
  have b3 : bytesOf (⟨#[34, 34, 34]⟩ : ByteArray) = [34, 34, 34] := by decide
  unfold impl_BlockEnd.f blkEndL
  simp only [impl_in.eq, Option.bind_some, w64 (x := (s.size : Int) - 1) (by omega) (by omega), strings_HasPrefix.eq, extract_tl, b3]
  by_cases h0 : 0 ≤ i ∧ i ≤ (s.size : Int) - 1
  · refine Ev.ite_pos (by simp; omega) (Ev.ite_pos (by omega) (Ev.ite_pos (by omega) ?_))
    by_cases h2 : preB [34, 34, 34] (tl s i) = true
    · rw [if_pos ⟨by omega, by omega, h2⟩, h2]
      have hl := preB_length h2
      have ht := tl_length (s := s) (i := i) (by omega)
      simp only [List.length_cons, List.length_nil] at hl
      apply Ev.succ; simp only [impl_BlockEnd.j0, w64 (x := i + 3) (by omega) (by omega)]
      exact Ev.ite_neg (by simp) (impl_BlockEnd.l0_ev s hs s.size _ (by omega) (by omega) (by omega))
    · rw [if_neg (fun h => h2 h.2.2)]
      have h3 := Bool.eq_false_iff.2 h2
      rw [h3]; exact hj
  · rw [if_neg (by omega)]
    exact Ev.ite_neg (by simp; omega) hj

/-- The bytes of a scalar. -/
def runeL (n : Int) : List Int :=
  if n < 128 then [n] else if n < 2048 then [192 + n / 64, 128 + n % 64]
  else if n < 65536 then [224 + n / 4096, 128 + n / 64 % 64, 128 + n % 64]
  else [240 + n / 262144, 128 + n / 4096 % 64, 128 + n / 64 % 64, 128 + n % 64]
def scalB (n : Int) : Bool := decide (0 ≤ n ∧ n ≤ 1114111) && !decide (55296 ≤ n ∧ n ≤ 57343)
def runeTextL (n : Int) : ByteArray := if scalB n = true then strOfNums (runeL n) else (⟨#[]⟩ : ByteArray)
theorem or_low (h : Nat) (hh : h = 192 ∨ h = 224 ∨ h = 240 ∨ h = 128) (b m : Nat) (hb : b < m) (hm : m = if h = 192 then 32 else if h = 224 then 16 else if h = 240 then 8 else 64) : Go.bits .or .u8 (h : Int) (b : Int) = (h : Int) + b := by
  have t : (∀ b : Fin 32, Go.bits .or .u8 ((192 : Nat) : Int) (b.val : Int) = ((192 : Nat) : Int) + b.val) ∧ (∀ b : Fin 16, Go.bits .or .u8 ((224 : Nat) : Int) (b.val : Int) = ((224 : Nat) : Int) + b.val) ∧ (∀ b : Fin 8, Go.bits .or .u8 ((240 : Nat) : Int) (b.val : Int) = ((240 : Nat) : Int) + b.val) ∧ (∀ b : Fin 64, Go.bits .or .u8 ((128 : Nat) : Int) (b.val : Int) = ((128 : Nat) : Int) + b.val) := by decide +kernel
  obtain ⟨t1, t2, t3, t4⟩ := t
  rcases hh with rfl | rfl | rfl | rfl
  · exact t1 ⟨b, by simp at hm; omega⟩
  · exact t2 ⟨b, by simp at hm; omega⟩
  · exact t3 ⟨b, by simp at hm; omega⟩
  · exact t4 ⟨b, by simp at hm; omega⟩
theorem or192 {x : Int} (h0 : 0 ≤ x) (h1 : x < 32) : Go.bits .or .u8 192 x = 192 + x := by
  have := or_low 192 (by simp) x.toNat 32 (by omega) (by simp)
  rw [show ((x.toNat : Nat) : Int) = x from by omega] at this; exact this
theorem or224 {x : Int} (h0 : 0 ≤ x) (h1 : x < 16) : Go.bits .or .u8 224 x = 224 + x := by
  have := or_low 224 (by simp) x.toNat 16 (by omega) (by simp)
  rw [show ((x.toNat : Nat) : Int) = x from by omega] at this; exact this
theorem or240 {x : Int} (h0 : 0 ≤ x) (h1 : x < 8) : Go.bits .or .u8 240 x = 240 + x := by
  have := or_low 240 (by simp) x.toNat 8 (by omega) (by simp)
  rw [show ((x.toNat : Nat) : Int) = x from by omega] at this; exact this
theorem or128 {x : Int} (h0 : 0 ≤ x) (h1 : x < 64) : Go.bits .or .u8 128 x = 128 + x := by
  have := or_low 128 (by simp) x.toNat 64 (by omega) (by simp)
  rw [show ((x.toNat : Nat) : Int) = x from by omega] at this; exact this
theorem and63T : ∀ n : Fin 256, Go.bits .and .u8 (n.val : Int) 63 = (n.val : Int) % 64 := by decide +kernel
theorem and63 {x : Int} : Go.bits .and .u8 (x % 256) 63 = x % 64 := by
  have := and63T ⟨(x % 256).toNat, by omega⟩
  simp only at this
  rw [show (((x % 256).toNat : Nat) : Int) = x % 256 from by omega] at this; rw [this]; omega

/-- The scalar at the begin of what is left (n bytes, the first four of them b0 .. b3), and how many bytes it takes; -1: none. -/
def decZ (n b0 b1 b2 b3 : Int) : Int × Int :=
  if n ≤ 0 then (-1, 0)
  else if b0 < 128 then (b0, 1)
  else if 194 ≤ b0 ∧ b0 < 224 ∧ 2 ≤ n ∧ 128 ≤ b1 ∧ b1 ≤ 191 then ((b0 - 192) * 64 + b1 - 128, 2)
  else if 224 ≤ b0 ∧ b0 < 240 ∧ 3 ≤ n ∧ 128 ≤ b1 ∧ b1 ≤ 191 ∧ 128 ≤ b2 ∧ b2 ≤ 191 ∧ 2048 ≤ ((b0 - 224) * 64 + b1 - 128) * 64 + b2 - 128 ∧ ¬ (55296 ≤ ((b0 - 224) * 64 + b1 - 128) * 64 + b2 - 128 ∧ ((b0 - 224) * 64 + b1 - 128) * 64 + b2 - 128 ≤ 57343) then (((b0 - 224) * 64 + b1 - 128) * 64 + b2 - 128, 3)
  else if 240 ≤ b0 ∧ b0 < 245 ∧ 4 ≤ n ∧ 128 ≤ b1 ∧ b1 ≤ 191 ∧ 128 ≤ b2 ∧ b2 ≤ 191 ∧ 128 ≤ b3 ∧ b3 ≤ 191 ∧ 65536 ≤ (((b0 - 240) * 64 + b1 - 128) * 64 + b2 - 128) * 64 + b3 - 128 ∧ (((b0 - 240) * 64 + b1 - 128) * 64 + b2 - 128) * 64 + b3 - 128 ≤ 1114111 then ((((b0 - 240) * 64 + b1 - 128) * 64 + b2 - 128) * 64 + b3 - 128, 4)
  else (-1, 0)
def decAt (s : ByteArray) (i : Int) : Int × Int := decZ ((s.size : Int) - i) (bt s i) (bt s (i + 1)) (bt s (i + 2)) (bt s (i + 3))
/-- Go's decoder's answer, as RuneAt tells it. -/
def asAt (d : Nat × Nat) : Int × Int := if d.1 = 65533 ∧ d.2 < 2 then (-1, 0) else ((d.1 : Int), (d.2 : Int))
theorem asAt_bad : asAt (65533, 1) = (-1, 0) := rfl
theorem asAt_ok (a b : Nat) (h : ¬ (a = 65533 ∧ b < 2)) : asAt (a, b) = ((a : Int), (b : Int)) := by unfold asAt; rw [if_neg h]
theorem dec_go (n b0 b1 b2 b3 : Nat) (hn : 1 ≤ n) (h0 : b0 < 256) (h1 : b1 < 256) (h2 : b2 < 256) (h3 : b3 < 256) :
    asAt (Lib.decodeN n b0 b1 b2 b3) = decZ n b0 b1 b2 b3 := by
  by_cases c0 : b0 < 128
  · have l : Lib.decodeN n b0 b1 b2 b3 = (b0, 1) := by unfold Lib.decodeN; rw [if_pos c0]
    have r : decZ n b0 b1 b2 b3 = ((b0 : Int), 1) := by unfold decZ; rw [if_neg (by omega), if_pos (by omega)]
    rw [l, r, asAt_ok _ _ (by omega)]; rfl
  by_cases k2 : b0 / 32 = 6 ∧ (1 < n ∧ b1 / 64 = 2)
  · by_cases c : b0 % 32 * 64 + b1 % 64 ≥ 128
    · have l : Lib.decodeN n b0 b1 b2 b3 = (b0 % 32 * 64 + b1 % 64, 2) := by unfold Lib.decodeN; rw [if_neg c0, if_pos k2, if_pos c]
      have r : decZ n b0 b1 b2 b3 = (((b0 : Int) - 192) * 64 + b1 - 128, 2) := by unfold decZ; rw [if_neg (by omega), if_neg (by omega), if_pos (by omega)]
      rw [l, r, asAt_ok _ _ (by omega)]
      refine Prod.ext ?_ ?_ <;> simp only [] <;> omega
    · have l : Lib.decodeN n b0 b1 b2 b3 = (65533, 1) := by unfold Lib.decodeN; rw [if_neg c0, if_pos k2, if_neg c]
      have r : decZ n b0 b1 b2 b3 = (-1, 0) := by unfold decZ; rw [if_neg (by omega), if_neg (by omega), if_neg (by omega), if_neg (by omega), if_neg (by omega)]
      rw [l, r]; rfl
  by_cases k3 : b0 / 16 = 14 ∧ (1 < n ∧ b1 / 64 = 2) ∧ (2 < n ∧ b2 / 64 = 2)
  · by_cases c : b0 % 16 * 4096 + b1 % 64 * 64 + b2 % 64 ≥ 2048 ∧ (b0 % 16 * 4096 + b1 % 64 * 64 + b2 % 64 < 55296 ∨ (57344 ≤ b0 % 16 * 4096 + b1 % 64 * 64 + b2 % 64 ∧ b0 % 16 * 4096 + b1 % 64 * 64 + b2 % 64 ≤ 1114111))
    · have l : Lib.decodeN n b0 b1 b2 b3 = (b0 % 16 * 4096 + b1 % 64 * 64 + b2 % 64, 3) := by unfold Lib.decodeN; rw [if_neg c0, if_neg k2, if_pos k3, if_pos c]
      have r : decZ n b0 b1 b2 b3 = ((((b0 : Int) - 224) * 64 + b1 - 128) * 64 + b2 - 128, 3) := by unfold decZ; rw [if_neg (by omega), if_neg (by omega), if_neg (by omega), if_pos (by omega)]
      rw [l, r, asAt_ok _ _ (by omega)]
      refine Prod.ext ?_ ?_ <;> simp only [] <;> omega
    · have l : Lib.decodeN n b0 b1 b2 b3 = (65533, 1) := by unfold Lib.decodeN; rw [if_neg c0, if_neg k2, if_pos k3, if_neg c]
      have r : decZ n b0 b1 b2 b3 = (-1, 0) := by unfold decZ; rw [if_neg (by omega), if_neg (by omega), if_neg (by omega), if_neg (by omega), if_neg (by omega)]
      rw [l, r]; rfl
  by_cases k4 : b0 / 8 = 30 ∧ (1 < n ∧ b1 / 64 = 2) ∧ (2 < n ∧ b2 / 64 = 2) ∧ (3 < n ∧ b3 / 64 = 2)
  · by_cases c : b0 % 8 * 262144 + b1 % 64 * 4096 + b2 % 64 * 64 + b3 % 64 ≥ 65536 ∧ (b0 % 8 * 262144 + b1 % 64 * 4096 + b2 % 64 * 64 + b3 % 64 < 55296 ∨ (57344 ≤ b0 % 8 * 262144 + b1 % 64 * 4096 + b2 % 64 * 64 + b3 % 64 ∧ b0 % 8 * 262144 + b1 % 64 * 4096 + b2 % 64 * 64 + b3 % 64 ≤ 1114111))
    · have l : Lib.decodeN n b0 b1 b2 b3 = (b0 % 8 * 262144 + b1 % 64 * 4096 + b2 % 64 * 64 + b3 % 64, 4) := by unfold Lib.decodeN; rw [if_neg c0, if_neg k2, if_neg k3, if_pos k4, if_pos c]
      have r : decZ n b0 b1 b2 b3 = (((((b0 : Int) - 240) * 64 + b1 - 128) * 64 + b2 - 128) * 64 + b3 - 128, 4) := by unfold decZ; rw [if_neg (by omega), if_neg (by omega), if_neg (by omega), if_neg (by omega), if_pos (by omega)]
      rw [l, r, asAt_ok _ _ (by omega)]
      refine Prod.ext ?_ ?_ <;> simp only [] <;> omega
    · have l : Lib.decodeN n b0 b1 b2 b3 = (65533, 1) := by unfold Lib.decodeN; rw [if_neg c0, if_neg k2, if_neg k3, if_pos k4, if_neg c]
      have r : decZ n b0 b1 b2 b3 = (-1, 0) := by unfold decZ; rw [if_neg (by omega), if_neg (by omega), if_neg (by omega), if_neg (by omega), if_neg (by omega)]
      rw [l, r]; rfl
  have l : Lib.decodeN n b0 b1 b2 b3 = (65533, 1) := by unfold Lib.decodeN; rw [if_neg c0, if_neg k2, if_neg k3, if_neg k4]
  have r : decZ n b0 b1 b2 b3 = (-1, 0) := by unfold decZ; rw [if_neg (by omega), if_neg (by omega), if_neg (by omega), if_neg (by omega), if_neg (by omega)]
  rw [l, r]; rfl
theorem bt_get (s : ByteArray) (k : Nat) : (((s.get! k).toNat : Nat) : Int) = bt s k := by
  unfold bt
  by_cases h : k < s.size
  · rw [dif_pos (by simpa using h)]
    have : s.get! k = s[k]'h := by
      show s.data[k]! = s.data[k]'h
      exact getElem!_pos s.data k h
    rw [this]; rfl
  · rw [dif_neg (by simpa using h)]
    have : s.get! k = 0 := by
      show s.data[k]! = 0
      rw [getElem!_neg s.data k (by exact h)]; rfl
    rw [this]; rfl
theorem bt_tl (s : ByteArray) (i : Int) (h0 : 0 ≤ i) (k : Nat) : bt (s.extract i.toNat s.size) k = bt s (i + k) := by
  rw [← rd_bytesOf, ← rd_bytesOf, extract_tl]
  unfold rd tl
  simp only [Int.toNat_natCast, List.getD_eq_getElem?_getD, List.getElem?_drop]
  rw [show (i + (k : Int)).toNat = i.toNat + k from by omega]
theorem get_lt (s : ByteArray) (k : Nat) : (s.get! k).toNat < 256 := (s.get! k).toNat_lt
theorem decAt_zero (t : ByteArray) (h : 0 < t.size) : asAt (Utf8.decode t 0) = decAt t 0 := by
  rw [Lib.decode_at t 0, dec_go _ _ _ _ _ (by omega) (get_lt _ _) (get_lt _ _) (get_lt _ _) (get_lt _ _)]
  unfold decAt
  rw [bt_get, bt_get, bt_get, bt_get]
  simp
theorem decAt_tl (s : ByteArray) (i : Int) (h0 : 0 ≤ i) (h1 : i < (s.size : Int)) : decAt (s.extract i.toNat s.size) 0 = decAt s i := by
  have hs : ((s.extract i.toNat s.size).size : Int) = (s.size : Int) - i := by rw [size_extract]; omega
  unfold decAt
  rw [hs]
  have e0 := bt_tl s i h0 0
  have e1 := bt_tl s i h0 1
  have e2 := bt_tl s i h0 2
  have e3 := bt_tl s i h0 3
  have z0 : bt (s.extract i.toNat s.size) 0 = bt s i := by have := e0; rwa [show ((0 : Nat) : Int) = 0 from rfl, Int.add_zero] at this
  have z1 : bt (s.extract i.toNat s.size) (0 + 1) = bt s (i + 1) := e1
  have z2 : bt (s.extract i.toNat s.size) (0 + 2) = bt s (i + 2) := e2
  have z3 : bt (s.extract i.toNat s.size) (0 + 3) = bt s (i + 3) := e3
  rw [z0, z1, z2, z3, Int.sub_zero]
theorem decAt_out (s : ByteArray) (i : Int) (h1 : (s.size : Int) ≤ i) : decAt s i = (-1, 0) := by
  unfold decAt decZ; rw [if_pos (by omega)]
theorem runeText_size (n : Int) : ((runeTextL n).size : Int) = if scalB n = true then (if n < 128 then 1 else if n < 2048 then 2 else if n < 65536 then 3 else 4) else 0 := by
  unfold runeTextL
  by_cases h : scalB n = true
  · rw [if_pos h, if_pos h, ← size_bytes]
    unfold strOfNums bytesOf runeL
    by_cases c1 : n < 128
    · rw [if_pos c1, if_pos c1]; rfl
    · rw [if_neg c1, if_neg c1]
      by_cases c2 : n < 2048
      · rw [if_pos c2, if_pos c2]; rfl
      · rw [if_neg c2, if_neg c2]
        by_cases c3 : n < 65536
        · rw [if_pos c3, if_pos c3]; rfl
        · rw [if_neg c3, if_neg c3]; rfl
  · rw [if_neg h, if_neg h]; rfl
theorem rs2 (n : Int) : ((runeTextL n).size : Int) = 2 ↔ 128 ≤ n ∧ n < 2048 := by
  rw [runeText_size]
  by_cases h : scalB n = true
  · rw [if_pos h]; repeat' split
    all_goals omega
  · rw [if_neg h]
    constructor
    · intro h; omega
    · intro g; exfalso; apply h; unfold scalB; simp; omega
theorem rs3 (n : Int) : ((runeTextL n).size : Int) = 3 ↔ (2048 ≤ n ∧ n < 65536 ∧ ¬ (55296 ≤ n ∧ n ≤ 57343)) := by
  rw [runeText_size]
  by_cases h : scalB n = true
  · have g := h
    unfold scalB at g; simp only [Bool.and_eq_true, decide_eq_true_eq, Bool.not_eq_true', decide_eq_false_iff_not] at g
    rw [if_pos h]; repeat' split
    all_goals omega
  · rw [if_neg h]
    constructor
    · intro h; omega
    · intro g; exfalso; apply h; unfold scalB; simp; omega
theorem rs4 (n : Int) : ((runeTextL n).size : Int) = 4 ↔ (65536 ≤ n ∧ n ≤ 1114111) := by
  rw [runeText_size]
  by_cases h : scalB n = true
  · have g := h
    unfold scalB at g; simp only [Bool.and_eq_true, decide_eq_true_eq, Bool.not_eq_true', decide_eq_false_iff_not] at g
    rw [if_pos h]; repeat' split
    all_goals omega
  · rw [if_neg h]
    constructor
    · intro h; omega
    · intro g; exfalso; apply h; unfold scalB; simp; omega

def textOkS (s : ByteArray) : Bool := Lib.validD s.data.toList
theorem decAt_of (s : ByteArray) (i : Nat) (h : i < s.size) : asAt (Utf8.decode s i) = decAt s i := by
  rw [Lib.decode_at s i, dec_go _ _ _ _ _ (by omega) (get_lt _ _) (get_lt _ _) (get_lt _ _) (get_lt _ _)]
  unfold decAt
  rw [bt_get, bt_get, bt_get, bt_get]
  rw [show ((s.size - i : Nat) : Int) = (s.size : Int) - (i : Int) from by omega]; rfl
/-- What a step of the decoder comes to. -/
theorem dec_step (s : ByteArray) (i : Int) (h0 : 0 ≤ i) (h1 : i < (s.size : Int)) :
    (decAt s i = (-1, 0) ∧ Lib.validD (s.data.toList.drop i.toNat) = false) ∨
    (0 ≤ (decAt s i).1 ∧ 1 ≤ (decAt s i).2 ∧ (decAt s i).2 ≤ 4 ∧ i + (decAt s i).2 ≤ (s.size : Int) ∧ Lib.validD (s.data.toList.drop i.toNat) = Lib.validD (s.data.toList.drop (i + (decAt s i).2).toNat)) := by
  obtain ⟨p, rfl⟩ := Int.eq_ofNat_of_zero_le h0
  have hp : p < s.size := by omega
  have hl : s.data.toList.length = s.size := by rw [Array.length_toList]; rfl
  have hne : s.data.toList.drop p ≠ [] := by
    intro h; have := congrArg List.length h; rw [List.length_drop, hl] at this; simp at this; omega
  have hw := Lib.decodeL_width (s.data.toList.drop p)
  have hle := Lib.decodeL_le (s.data.toList.drop p) hne
  have hst := Lib.validD_step (s.data.toList.drop p) hne
  rw [Lib.decodeL_drop] at hw hle hst
  have ha := decAt_of s p hp
  have h4 : (Utf8.decode s p).2 ≤ 4 := by
    rw [Lib.decode_at]; unfold Lib.decodeN
    repeat' split
    all_goals (simp only []; omega)
  rw [List.length_drop, hl] at hle
  rw [Int.toNat_natCast]
  by_cases c : (Utf8.decode s p).1 = 65533 ∧ (Utf8.decode s p).2 = 1
  · left
    rw [if_pos c] at hst
    refine ⟨?_, hst⟩
    rw [← ha]; unfold asAt; rw [if_pos ⟨c.1, by omega⟩]
  · right
    rw [if_neg c] at hst
    have e : decAt s p = (((Utf8.decode s p).1 : Int), ((Utf8.decode s p).2 : Int)) := by
      rw [← ha]; unfold asAt; rw [if_neg (fun h => c ⟨h.1, by omega⟩)]
    rw [e]
    refine ⟨by simp only []; omega, by simp only []; omega, by simp only []; omega, by simp only []; omega, ?_⟩
    rw [hst, List.drop_drop]
    congr 2

theorem impl_TextOk.eq (s : ByteArray) (hs : s.size ≤ 9223372036854775807) : impl_TextOk.f s = some (textOkS s) := by
  unfold impl_TextOk.f utf8_ValidString.f; rw [if_pos hs]; rfl

def okC (b : Int) : Bool := decide (¬ (b < 32 ∧ b ≠ 9 ∧ b ≠ 10 ∧ b ≠ 13))
def noT : ByteArray × Bool := ((⟨#[]⟩ : ByteArray), false)
def fin200 (v : ByteArray) : ByteArray × Bool := if (v.size : Int) > 200 then noT else (v, true)
/-- What stands between the quotes, without the signs that hide three quotes. -/
def uq : List Int → List Int
  | [] => []
  | b :: l => if b = 92 ∧ preB [34, 34, 34] l = true then uq l else b :: uq l
def inB (s : ByteArray) (i : Int) : List Int := (tl s i).take ((s.size : Int) - 3 - i).toNat
def blockT (s : ByteArray) : ByteArray × Bool :=
  if (s.size : Int) > 1000 ∨ blkEndL s 0 ≠ (s.size : Int) ∨ textOkS s = false then noT
  else if (inB s 3).all okC = true then fin200 (blockV (linesB (strOfNums (uq (inB s 3))))) else noT
theorem preB_cons (b : Int) (l : List Int) : preB [92, 34, 34, 34] (b :: l) = (b == 92 && preB [34, 34, 34] l) := by unfold preB; simp
theorem preB_take (p l : List Int) (n : Nat) (h : preB p (l.take n) = true) : preB p l = true := by
  have hl := preB_length h
  unfold preB at h ⊢
  rw [List.length_take] at hl
  rw [List.take_take, Nat.min_eq_left (by omega)] at h
  exact h
theorem blkE_end (l : List Int) : ∀ (k : Nat) (i e : Int), blkE k l i = e → e ≠ -1 → i + k + 3 ≤ e ∧ preB [34, 34, 34] (l.drop (e - 3 - i).toNat) = true := by
  induction l with
  | nil => intro k i e h he; cases k <;> (simp [blkE] at h; omega)
  | cons b l ih =>
    intro k i e h he
    cases k with
    | succ k =>
      have h := ih k (i + 1) e (by simpa [blkE] using h) he
      refine ⟨by omega, ?_⟩
      rw [show (e - 3 - i).toNat = (e - 3 - (i + 1)).toNat + 1 from by omega, List.drop_succ_cons]
      exact h.2
    | zero =>
      rw [blkE] at h
      split at h
      · have h := ih 3 (i + 1) e h he
        refine ⟨by omega, ?_⟩
        rw [show (e - 3 - i).toNat = (e - 3 - (i + 1)).toNat + 1 from by omega, List.drop_succ_cons]
        exact h.2
      · split at h
        · rename_i hp
          refine ⟨by omega, ?_⟩
          rw [show (e - 3 - i).toNat = 0 from by omega]
          exact hp
        · have h := ih 0 (i + 1) e h he
          refine ⟨by omega, ?_⟩
          rw [show (e - 3 - i).toNat = (e - 3 - (i + 1)).toNat + 1 from by omega, List.drop_succ_cons]
          exact h.2
theorem inB_nil (s : ByteArray) (i : Int) (h : (s.size : Int) - 3 ≤ i) : inB s i = [] := by
  unfold inB; rw [show ((s.size : Int) - 3 - i).toNat = 0 from by omega]; rfl
theorem inB_cons (s : ByteArray) (i : Int) (h0 : 0 ≤ i) (h : i < (s.size : Int) - 3) : inB s i = bt s i :: inB s (i + 1) := by
  unfold inB
  rw [tl_cons h0 (by omega), show ((s.size : Int) - 3 - i).toNat = ((s.size : Int) - 3 - (i + 1)).toNat + 1 from by omega, List.take_succ_cons]
theorem preB_three (s : ByteArray) (i : Int) (h0 : 0 ≤ i) (h : preB [34, 34, 34] (tl s i) = true) : bt s i = 34 ∧ bt s (i + 1) = 34 ∧ bt s (i + 2) = 34 ∧ i + 3 ≤ (s.size : Int) := by
  have hl := preB_length h
  have ht := tl_length (s := s) h0
  simp only [List.length_cons, List.length_nil] at hl
  rw [tl_cons h0 (by omega), tl_cons (i := i + 1) (by omega) (by omega), tl_cons (i := i + 1 + 1) (by omega) (by omega), show i + 1 + 1 = i + 2 from by omega] at h
  unfold preB at h
  simp at h
  exact ⟨h.1, h.2.1, h.2.2, by omega⟩
/-- What is known of a block that ends where the text ends. -/
theorem block_whole (s : ByteArray) (h : blkEndL s 0 = (s.size : Int)) : 6 ≤ (s.size : Int) ∧ blkE 0 (tl s 3) 3 = (s.size : Int) ∧ (bytesOf s).all okC = (inB s 3).all okC := by
  unfold blkEndL at h
  split at h
  · rename_i c
    have h3 := blkE_end _ _ _ _ h (by omega)
    have a := preB_three s 0 (by omega) c.2.2
    have e : (tl s (0 + 3)).drop ((s.size : Int) - 3 - (0 + 3)).toNat = tl s ((s.size : Int) - 3) := by
      unfold tl; rw [List.drop_drop]; congr 1; omega
    rw [e] at h3
    have b := preB_three s ((s.size : Int) - 3) (by omega) h3.2
    have hT : tl s 3 = inB s 3 ++ tl s ((s.size : Int) - 3) := by
      have := List.take_append_drop ((s.size : Int) - 3 - (0 + 3)).toNat (tl s (0 + 3))
      rw [e] at this
      exact this.symm
    have ok34 : okC 34 = true := by decide
    refine ⟨by omega, h, ?_⟩
    have hS : bytesOf s = bt s 0 :: bt s 1 :: bt s 2 :: tl s 3 := by
      rw [← tl_zero, tl_cons (i := 0) (by omega) (by omega), tl_cons (i := 0 + 1) (by omega) (by omega), tl_cons (i := 0 + 1 + 1) (by omega) (by omega)]; rfl
    have hE : tl s ((s.size : Int) - 3) = [34, 34, 34] := by
      rw [tl_cons (i := (s.size : Int) - 3) (by omega) (by omega), tl_cons (i := (s.size : Int) - 3 + 1) (by omega) (by omega), tl_cons (i := (s.size : Int) - 3 + 1 + 1) (by omega) (by omega), tl_nil (by omega), b.1, b.2.1, show (s.size : Int) - 3 + 1 + 1 = (s.size : Int) - 3 + 2 from by omega, b.2.2.1]
    rw [hS, hT, hE, a.1, show bt s 1 = 34 from a.2.1, show bt s 2 = 34 from a.2.2.1]
    simp [ok34]
  · have := s.size; omega
theorem uq_rep (n : Nat) : ∀ l : List UInt8, l.length ≤ n → (repF [92, 34, 34, 34] [34, 34, 34] l).map (fun b => (b.toNat : Int)) = uq (l.map fun b => (b.toNat : Int)) := by
  have nat : ∀ (b : UInt8) (c : UInt8), ((b.toNat : Int) = (c.toNat : Int)) ↔ b = c := by
    intro b c
    constructor
    · intro h; exact UInt8.toNat_inj.1 (by omega)
    · rintro rfl; rfl
  have pre : ∀ l : List UInt8, preB [34, 34, 34] (l.map fun b => (b.toNat : Int)) = true ↔ ([34, 34, 34] : List UInt8).isPrefixOf l = true := by
    intro l
    have n34 : ∀ b : UInt8, ((b.toNat : Int) = 34) ↔ b = 34 := fun b => nat b 34
    have c34 : ∀ b : UInt8, (34 = b) ↔ b = 34 := fun b => eq_comm
    rcases l with _ | ⟨a, _ | ⟨b, _ | ⟨c, r⟩⟩⟩ <;> simp [preB, List.isPrefixOf, n34, c34]
  induction n with
  | zero =>
    intro l hl
    obtain rfl : l = [] := List.eq_nil_of_length_eq_zero (by omega)
    rw [repF]; rfl
  | succ n ih =>
    intro l hl
    cases l with
    | nil => rw [repF]; rfl
    | cons b l =>
      rw [List.length_cons] at hl
      have n92 : ((b.toNat : Int) = 92) ↔ b = 92 := nat b 92
      rw [List.map_cons, uq]
      by_cases hp : ([92, 34, 34, 34] : List UInt8).isPrefixOf (b :: l) = true
      · rw [repF_take _ _ (by simp) b l hp]
        simp only [List.isPrefixOf, Bool.and_eq_true, beq_iff_eq] at hp
        obtain ⟨hb, hl3⟩ := hp
        rcases l with _ | ⟨x, _ | ⟨y, _ | ⟨z, r⟩⟩⟩
        · simp [List.isPrefixOf] at hl3
        · simp [List.isPrefixOf] at hl3
        · simp [List.isPrefixOf] at hl3
        · simp only [List.isPrefixOf, Bool.and_eq_true, beq_iff_eq] at hl3
          obtain ⟨hx, hy, hz, _⟩ := hl3
          subst hx hy hz hb
          have := ih r (by simp at hl; omega)
          simp only [List.length_cons, List.length_nil, List.drop_succ_cons, List.drop_zero, List.map_append, List.map_cons, List.map_nil, this]
          have u34 : (((34 : UInt8).toNat : Nat) : Int) = 34 := rfl
          have u92 : (((92 : UInt8).toNat : Nat) : Int) = 92 := rfl
          rw [u34, u92]
          simp [uq, preB]
      · rw [repF_skip _ _ b l hp, List.map_cons, ih l (by omega), if_neg]
        rintro ⟨h1, h2⟩
        apply hp
        rw [show ([92, 34, 34, 34] : List UInt8).isPrefixOf (b :: l) = ((92 == b) && ([34, 34, 34] : List UInt8).isPrefixOf l) from rfl, (n92.1 h1), (pre l).1 h2]; rfl
theorem uq_len (l : List Int) : (uq l).length ≤ l.length := by
  induction l with
  | nil => simp [uq]
  | cons b l ih => rw [uq]; split <;> simp only [List.length_cons] <;> omega
theorem uq_mem (l : List Int) : ∀ x ∈ uq l, x ∈ l := by
  induction l with
  | nil => simp [uq]
  | cons b l ih =>
    intro x hx
    rw [uq] at hx
    split at hx
    · exact List.mem_cons_of_mem _ (ih x hx)
    · rcases List.mem_cons.1 hx with rfl | hx
      · simp
      · exact List.mem_cons_of_mem _ (ih x hx)
theorem inB_mem (s : ByteArray) (i x : Int) (h : x ∈ inB s i) : 0 ≤ x ∧ x ≤ 255 := bytes_range (s := s) (List.drop_subset _ _ (List.take_subset _ _ h))
theorem inB_len (s : ByteArray) (i : Int) (h : 0 ≤ i) : (inB s i).length ≤ s.size := by unfold inB tl; rw [List.length_take, List.length_drop, size_bytes]; omega

theorem unq_eq (s : ByteArray) (h6 : 6 ≤ (s.size : Int)) (hs : s.size ≤ 1000) : strings_ReplaceAll.f (s.extract 3 ((s.size : Int) - 3).toNat) (⟨#[92, 34, 34, 34]⟩ : ByteArray) (⟨#[34, 34, 34]⟩ : ByteArray) = some (strOfNums (uq (inB s 3))) := by
  obtain ⟨t, ht⟩ : ∃ t : ByteArray, s.extract 3 ((s.size : Int) - 3).toNat = t := ⟨_, rfl⟩
  have hz : t.size = s.size - 6 := by rw [← ht, size_extract]; omega
  have hb : bytesOf t = inB s 3 := by
    rw [← ht, bytes_extract]
    unfold inB tl
    rw [List.drop_take]
    congr 1; omega
  have hc := Lib.countB_mul_le (⟨#[92, 34, 34, 34]⟩ : ByteArray) (by decide) t.size t (Nat.le_refl _)
  have h4 : (⟨#[92, 34, 34, 34]⟩ : ByteArray).size = 4 := rfl
  have h3 : (⟨#[34, 34, 34]⟩ : ByteArray).size = 3 := rfl
  rw [h4] at hc
  rw [ht]
  unfold strings_ReplaceAll.f
  rw [if_pos ⟨by omega, by decide, by rw [h3]; omega⟩]
  congr 1
  apply bytes_inj
  rw [bytes_mk, bytes_strOfNums _ (fun x hx => inB_mem s 3 x (uq_mem _ x hx)), ← hb]
  rw [replaceAll_rep _ _ _ (by simp) (by simp)]
  exact uq_rep _ _ (Nat.le_refl _)
theorem impl_BlockText.l0_ev (s : ByteArray) (h6 : 6 ≤ (s.size : Int)) (hs : s.size ≤ 1000) (n : Nat) : ∀ i : Int, 0 ≤ i → i ≤ (s.size : Int) → (s.size : Int) - i ≤ n →
    Ev (fun k => impl_BlockText.l0 k s (s.size : Int) i) (if (tl s i).all okC = true then fin200 (blockV (linesB (strOfNums (uq (inB s 3))))) else noT) := by
  have hend : ∀ i : Int, i = (s.size : Int) → Ev (fun k => impl_BlockText.l0 k s (s.size : Int) i) (if (tl s i).all okC = true then fin200 (blockV (linesB (strOfNums (uq (inB s 3))))) else noT) := by
    intro i hi
    apply Ev.succ; simp only [impl_BlockText.l0]
    rw [tl_nil (by omega), if_pos (by rfl), w64 (x := (s.size : Int) - 3) (by omega) (by omega)]
    have hl := uq_len (inB s 3)
    have hl2 := inB_len s 3 (by omega)
    refine Ev.ite_neg (by omega) (Ev.ite_pos (by omega) (Ev.ite_pos (by omega) (Ev.bindc (unq_eq s h6 hs) ((impl_BlockValue.ev _ (by rw [str_size]; omega)).bind ?_))))
    unfold fin200
    by_cases c : ((blockV (linesB (strOfNums (uq (inB s 3))))).size : Int) > 200
    · exact Ev.ite_pos c (Ev.done (if_pos c).symm)
    · exact Ev.ite_neg c (Ev.done (if_neg c).symm)
  induction n with
  | zero => intro i h0 h1 hn; exact hend i (by omega)
  | succ n ih =>
    intro i h0 h1 hn
    by_cases h2 : i < (s.size : Int)
    · have hE := ih (i + 1) (by omega) (by omega) (by omega)
      apply Ev.succ; simp only [impl_BlockText.l0]
      rw [tl_cons h0 h2, List.all_cons, w64 (x := i + 1) (by omega) (by omega)]
      refine Ev.ite_pos h2 (Ev.ite_pos h0 (Ev.ite_pos h2 ?_))
      have good : okC (bt s i) = true → Ev (fun k => impl_BlockText.l0 k s (s.size : Int) (i + 1)) (if (okC (bt s i) && (tl s (i + 1)).all okC) = true then fin200 (blockV (linesB (strOfNums (uq (inB s 3))))) else noT) := by
        intro h; rw [h, Bool.true_and]; exact hE
      have hok : okC (bt s i) = decide (¬ (bt s i < 32 ∧ bt s i ≠ 9 ∧ bt s i ≠ 10 ∧ bt s i ≠ 13)) := rfl
      by_cases c : bt s i < 32
      · refine Ev.ite_pos c ?_
        by_cases c9 : bt s i = 9
        · exact Ev.ite_pos c9 (good (by rw [hok]; simp [c9]))
        refine Ev.ite_neg c9 ?_
        by_cases c10 : bt s i = 10
        · exact Ev.ite_pos c10 (good (by rw [hok]; simp [c10]))
        refine Ev.ite_neg c10 ?_
        by_cases c13 : bt s i = 13
        · exact Ev.ite_pos c13 (good (by rw [hok]; simp [c13]))
        refine Ev.ite_neg c13 (Ev.done ?_)
        have : okC (bt s i) = false := by rw [hok]; simp [c, c9, c10, c13]
        rw [this]; rfl
      · exact Ev.ite_neg c (good (by rw [hok]; simp [c]))
    · exact hend i (by omega)
theorem impl_BlockText.ev (s : ByteArray) (hs : s.size ≤ 140737488351232) : Ev (fun k => impl_BlockText.f k s) (blockT s) := by
  have jT : Ev (fun k => impl_BlockText.j0 k s true) noT := by
    apply Ev.succ; simp only [impl_BlockText.j0, if_true]; exact Ev.done rfl
  unfold impl_BlockText.f blockT
  by_cases h1 : (s.size : Int) > 1000
  · rw [if_pos (Or.inl h1)]; exact Ev.ite_pos h1 jT
  · refine Ev.ite_neg h1 ((impl_BlockEnd.ev s hs 0).bind ?_)
    by_cases h2 : blkEndL s 0 = (s.size : Int)
    · refine Ev.ite_pos h2 (Ev.bindc (impl_TextOk.eq s (by omega)) ?_)
      cases h3 : textOkS s with
      | false => rw [if_pos (Or.inr (Or.inr rfl))]; exact jT
      | true =>
        rw [if_neg (by simp [h2]; omega)]
        obtain ⟨a, b, c⟩ := block_whole s h2
        have := impl_BlockText.l0_ev s a (by omega) s.size 0 (by omega) (by omega) (by omega)
        rw [tl_zero, c] at this
        apply Ev.succ; simp only [impl_BlockText.j0]
        exact Ev.ite_neg (by simp) this
    · rw [if_pos (Or.inr (Or.inl h2))]
      exact Ev.ite_neg h2 jT

def curH (cur : List UInt8) : List (List UInt8) → List (List UInt8)
  | [] => [cur]
  | h :: t => (cur ++ h) :: t
theorem curH_push (cur : List UInt8) (x : UInt8) (L : List (List UInt8)) (h : L ≠ []) : curH cur (pushH x L) = curH (cur ++ [x]) L := by
  cases L with
  | nil => exact absurd rfl h
  | cons a t => simp [curH, pushH]
theorem curH_nil (L : List (List UInt8)) (h : L ≠ []) : curH [] L = L := by
  cases L with
  | nil => exact absurd rfl h
  | cons a t => simp [curH]
theorem spec_LinesIn.l0_ev (s : ByteArray) (hs : s.size ≤ 4000000) (n : Nat) : ∀ (acc : List ByteArray) (b i : Nat), b ≤ i → i ≤ s.size → s.size - i ≤ n → acc.length ≤ i →
    Ev (fun k => spec_LinesIn.l0 k s acc (b : Int) (i : Int)) (acc ++ asB (curH ((s.data.toList.take i).drop b) (lnS false (s.data.toList.drop i)))) := by
  have hlen : s.data.toList.length = s.size := by rw [Array.length_toList]; rfl
  have fin : ∀ (acc : List ByteArray) (b i : Nat), b ≤ i → i ≤ s.size → s.size - i = 0 → acc.length ≤ i → Ev (fun k => spec_LinesIn.l0 k s acc (b : Int) (i : Int)) (acc ++ asB (curH ((s.data.toList.take i).drop b) (lnS false (s.data.toList.drop i)))) := by
    intro acc b i hb hi hn ha
    obtain rfl : i = s.size := by omega
    have hd : s.data.toList.drop s.size = [] := List.drop_eq_nil_of_le (by omega)
    rw [hd, lnS]
    apply Ev.succ; simp only [spec_LinesIn.l0]
    refine Ev.ite_neg (by omega) (Ev.ite_pos (by omega) (Ev.ite_pos (by omega) (Ev.ite_pos (by omega) (Ev.done ?_))))
    rw [Int.toNat_natCast, extract_mk]; simp [curH, asB]
  induction n with
  | zero => intro acc b i hb hi hn ha; exact fin acc b i hb hi (by omega) ha
  | succ n ih =>
    intro acc b i hb hi hn ha
    by_cases hend : i = s.size
    · exact fin acc b i hb hi (by omega) ha
    obtain ⟨x, hx1, hx2, hx3⟩ := byte_at s i (by omega)
    have e1 : ((i : Int) + 1) = ((i + 1 : Nat) : Int) := by omega
    have e2 : ((i : Int) + 1 + 1) = ((i + 2 : Nat) : Int) := by omega
    have hbx : ∀ c : UInt8, (bt s (i : Int) = (c.toNat : Int)) ↔ x = c := by
      intro c
      rw [hx2]
      constructor
      · intro h; apply UInt8.toNat_inj.1; omega
      · rintro rfl; rfl
    have h13 : bt s (i : Int) = 13 ↔ x = 13 := hbx 13
    have h10 : bt s (i : Int) = 10 ↔ x = 10 := hbx 10
    have hempty : ∀ j, ((s.data.toList.take j).drop j) = [] := fun j => List.drop_eq_nil_of_le (by rw [List.length_take]; omega)
    have hj : ∀ c, c = decide (x = 13 ∨ x = 10) → Ev (fun k => spec_LinesIn.j1 k s acc (b : Int) (i : Int) c) (acc ++ asB (curH ((s.data.toList.take i).drop b) (lnS false (s.data.toList.drop i)))) := by
      rintro c rfl
      apply Ev.succ; simp only [spec_LinesIn.j1]
      rw [w64 (x := (i : Int) + 1) (by omega) (by omega), w64 (x := (i : Int) + 1 + 1) (by omega) (by omega), hx1, lnS, if_neg (by simp)]
      by_cases c1 : x = 13 ∨ x = 10
      · refine Ev.ite_pos (decide_eq_true c1) (Ev.ite_pos (by omega) (Ev.ite_pos (by omega) (Ev.ite_pos (by omega) (Ev.ite_pos (by omega) (Ev.bindc rfl (Ev.ite_pos (by omega) (Ev.ite_pos (by omega) ?_)))))))
        rw [Int.toNat_natCast, Int.toNat_natCast, extract_mk]
        have step : ∀ j : Nat, i < j → j ≤ s.size → Ev (fun k => spec_LinesIn.l0 k s (acc ++ [(⟨((s.data.toList.take i).drop b).toArray⟩ : ByteArray)]) (j : Int) (j : Int)) (acc ++ asB (curH ((s.data.toList.take i).drop b) ([] :: lnS false (s.data.toList.drop j)))) := by
          intro j hj1 hj2
          refine (ih (acc ++ [(⟨((s.data.toList.take i).drop b).toArray⟩ : ByteArray)]) j j (Nat.le_refl _) hj2 (by omega) (by rw [List.length_append]; simp; omega)).get ?_
          rw [hempty, curH_nil _ (lnS_ne _ _)]; simp [curH, asB]
        by_cases c13 : x = 13
        · rw [if_pos c13]
          refine Ev.ite_pos (h13.2 c13) ?_
          by_cases d : (i : Int) + 1 < (s.size : Int)
          · obtain ⟨y, hy1, hy2, _⟩ := byte_at s (i + 1) (by omega)
            have hy10 : bt s ((i : Int) + 1) = 10 ↔ y = 10 := by
              rw [e1, hy2]
              constructor
              · intro h; apply UInt8.toNat_inj.1; show y.toNat = 10; omega
              · rintro rfl; rfl
            refine Ev.ite_pos d (Ev.ite_pos (by omega) ?_)
            by_cases e : y = 10
            · rw [hy1, lnS, if_pos ⟨rfl, e⟩, e2]
              exact Ev.ite_pos (hy10.2 e) (step (i + 2) (by omega) (by omega))
            · rw [e1, lnS_head _ (by rintro c r h; rw [hy1] at h; injection h with h _; rw [← h]; exact e)]
              exact Ev.ite_neg (fun z => e (hy10.1 (by rw [e1]; exact z))) (step (i + 1) (by omega) (by omega))
          · rw [e1, lnS_head _ (by rintro c r h; rw [List.drop_eq_nil_of_le (by omega)] at h; cases h)]
            exact Ev.ite_neg (by omega) (step (i + 1) (by omega) (by omega))
        · rw [if_neg c13, if_pos (c1.resolve_left c13), e1]
          exact Ev.ite_neg (fun z => c13 (h13.1 z)) (step (i + 1) (by omega) (by omega))
      · rw [if_neg (fun z => c1 (Or.inl z)), if_neg (fun z => c1 (Or.inr z)), e1, curH_push _ _ _ (lnS_ne _ _)]
        refine Ev.ite_neg (by simpa using c1) ((ih acc b (i + 1) (by omega) (by omega) (by omega) (by omega)).get ?_)
        have hc : (s.data.toList.take i).drop b ++ [x] = (s.data.toList.take (i + 1)).drop b := by
          rw [hx3, List.drop_append_of_le_length (by rw [List.length_take, hlen]; omega)]
        rw [hc]
    apply Ev.succ; simp only [spec_LinesIn.l0]
    refine Ev.ite_pos (by omega) (Ev.ite_pos (by omega) ?_)
    by_cases c : bt s (i : Int) = 13
    · exact Ev.ite_pos c (hj _ (by simp [h13.1 c]))
    · refine Ev.ite_neg c (hj _ ?_)
      rw [Bool.eq_iff_iff, beq_iff_eq, decide_eq_true_eq, h10]
      constructor
      · exact Or.inr
      · exact fun z => z.resolve_left fun q => c (h13.2 q)
theorem spec_LinesIn.ev (s : ByteArray) (hs : s.size ≤ 4000000) : Ev (fun k => spec_LinesIn.f k s) (linesB s) := by
  unfold spec_LinesIn.f linesB
  refine (spec_LinesIn.l0_ev s hs s.size [] 0 0 (by omega) (by omega) (by omega) (by simp)).get ?_
  simp only [List.take_zero, List.drop_zero, List.nil_append]
  have : ([] : List UInt8).drop 0 = [] := rfl
  rw [curH_nil _ (lnS_ne _ _)]

theorem spec_Indent.l0_ev (s : ByteArray) (hs : s.size ≤ 140737488351232) (n : Nat) : ∀ i : Int, 0 ≤ i → (s.size : Int) - i ≤ n → Ev (fun k => spec_Indent.l0 k s i) (i + indN (tl s i)) := by
  induction n with
  | zero =>
    intro i h0 hn
    apply Ev.succ; simp only [spec_Indent.l0]
    rw [tl_nil (by omega)]
    exact Ev.ite_neg (by omega) (Ev.done (by simp [indN]))
  | succ n ih =>
    intro i h0 hn
    apply Ev.succ; simp only [spec_Indent.l0]
    by_cases c : i < (s.size : Int)
    · have hE := ih (i + 1) (by omega) (by omega)
      rw [tl_cons h0 c, indN_cons, w64 (x := i + 1) (by omega) (by omega)]
      refine Ev.ite_pos c (Ev.ite_pos h0 ?_)
      by_cases d : bt s i = 32
      · rw [if_pos (by unfold blB; simp [d])]
        exact Ev.ite_pos d (hE.get (by omega))
      · refine Ev.ite_neg d ?_
        by_cases e : bt s i = 9
        · rw [if_pos (by unfold blB; simp [e])]
          exact Ev.ite_pos e (hE.get (by omega))
        · rw [if_neg (by unfold blB; simp [d, e])]
          exact Ev.ite_neg e (Ev.done (by omega))
    · rw [tl_nil (by omega)]
      exact Ev.ite_neg c (Ev.done (by simp [indN]))
theorem spec_Indent.ev (s : ByteArray) (hs : s.size ≤ 140737488351232) : Ev (fun k => spec_Indent.f k s) ((indN (bytesOf s) : Nat) : Int) := by
  unfold spec_Indent.f
  refine (spec_Indent.l0_ev s hs s.size 0 (by omega) (by omega)).get ?_
  rw [tl_zero]; omega

theorem rd_join (A B C : List ByteArray) (b : ByteArray) (i : Int) (hi : i = ((A.length + B.length : Nat) : Int)) : rdOf ByteArray.empty (A ++ (B ++ b :: C)) i = b := by
  subst hi
  have := rd_mid (A ++ B) C b
  rw [List.length_append, List.append_assoc] at this
  exact this
theorem spec_BlockValue.l4_ev (A C : List ByteArray) (N : List ByteArray) : ∀ M : List ByteArray, (A ++ ((M ++ N) ++ C)).length ≤ 4000000 → (∀ s ∈ A ++ ((M ++ N) ++ C), s.size ≤ 4000000) →
    Ev (fun k => spec_BlockValue.l4 k (A ++ ((M ++ N) ++ C)) ((A.length : Nat) : Int) ((A.length + (M ++ N).length : Nat) : Int) (joinL (M.map bytesOf)) ((A.length + M.length : Nat) : Int)) (joinB (M ++ N)) := by
  induction N with
  | nil =>
    intro M h1 h2
    apply Ev.succ; simp only [spec_BlockValue.l4]
    rw [List.append_nil]
    exact Ev.ite_neg (by omega) (Ev.done rfl)
  | cons s N ih =>
    intro M h1 h2
    have hs := h2 s (by simp)
    have hlen : (A ++ ((M ++ s :: N) ++ C)).length = A.length + (M.length + (N.length + 1) + C.length) := by simp; omega
    have hjl := joinL_len 4000000 (M.map bytesOf) (by
      intro x hx
      obtain ⟨y, hy, rfl⟩ := List.mem_map.1 hx
      rw [size_bytes]; exact h2 y (by simp [hy]))
    rw [List.length_map] at hjl
    have hMl : M.length ≤ 4000000 := by omega
    have hbig : M.length * (4000000 + 1) ≤ 4000000 * 4000001 := Nat.mul_le_mul_right _ hMl
    have hrd : rdOf ByteArray.empty (A ++ ((M ++ s :: N) ++ C)) ((A.length + M.length : Nat) : Int) = s := by
      have := rd_join A M (N ++ C) s _ rfl
      simpa using this
    have hsplit : A ++ ((M ++ s :: N) ++ C) = A ++ (((M ++ [s]) ++ N) ++ C) := by simp
    have hE := ih (M ++ [s]) (by rw [← hsplit]; exact h1) (by rw [← hsplit]; exact h2)
    rw [← hsplit] at hE
    have hMs : (M ++ [s]) ++ N = M ++ s :: N := by simp
    rw [hMs] at hE
    have hidx : ((A.length + (M ++ [s]).length : Nat) : Int) = ((A.length + M.length : Nat) : Int) + 1 := by rw [List.length_append, List.length_singleton]; omega
    rw [hidx] at hE
    have hml2 : (M ++ s :: N).length = M.length + (N.length + 1) := by simp
    apply Ev.succ; simp only [spec_BlockValue.l4]
    rw [hrd, w64 (x := ((A.length + M.length : Nat) : Int) + 1) (by omega) (by omega)]
    refine Ev.ite_pos (by omega) ?_
    by_cases c : ((A.length + M.length : Nat) : Int) > ((A.length : Nat) : Int)
    · have hM : M ≠ [] := by rintro rfl; simp at c
      refine Ev.ite_pos c (Ev.ite_pos (by omega) (Ev.bindc rfl (Ev.ite_pos (by omega) (Ev.ite_pos (by omega) (Ev.ite_pos (by simp; omega) ?_)))))
      have e : joinL ((M ++ [s]).map bytesOf) = joinL (M.map bytesOf) ++ [10] ++ bytesOf s := by rw [List.map_append, List.map_singleton, joinL_snoc _ _ (by simpa using hM)]; simp
      rw [e] at hE
      exact hE
    · have hM : M = [] := List.eq_nil_of_length_eq_zero (by omega)
      subst hM
      refine Ev.ite_neg c (Ev.ite_pos (by omega) (Ev.ite_pos (by omega) (Ev.ite_pos (by show 0 + s.size < _; omega) ?_)))
      exact hE
theorem spec_BlockValue.l3_ev (A C0 : List ByteArray) (n : Nat) : ∀ (M C : List ByteArray), M.length = n → C0 = M ++ C → (A ++ C0).length ≤ 4000000 → (∀ s ∈ A ++ C0, s.size ≤ 4000000) →
    Ev (fun k => spec_BlockValue.l3 k (A ++ C0) ((A.length : Nat) : Int) ((A.length + M.length : Nat) : Int)) (joinB (trimR M)) := by
  have j6 : ∀ (M C : List ByteArray), C0 = M ++ C → (A ++ C0).length ≤ 4000000 → (∀ s ∈ A ++ C0, s.size ≤ 4000000) → Ev (fun k => spec_BlockValue.j6 k (A ++ C0) ((A.length : Nat) : Int) ((A.length + M.length : Nat) : Int)) (joinB M) := by
    intro M C hC h1 h2
    subst hC
    apply Ev.succ; simp only [spec_BlockValue.j6]
    have := spec_BlockValue.l4_ev A C M [] h1 h2
    simpa [joinL] using this
  induction n with
  | zero =>
    intro M C hn hC h1 h2
    obtain rfl := List.eq_nil_of_length_eq_zero hn
    apply Ev.succ; simp only [spec_BlockValue.l3]
    exact Ev.ite_neg (by simp) (j6 [] C hC h1 h2)
  | succ n ih =>
    intro M C hn hC h1 h2
    obtain ⟨M', s, rfl⟩ : ∃ M' s, M = M' ++ [s] := ⟨M.dropLast, M.getLast (by rintro rfl; simp at hn), (List.dropLast_concat_getLast _).symm⟩
    have hs : s.size ≤ 4000000 := h2 s (by rw [hC]; simp)
    have hlen : (A ++ C0).length = A.length + (M'.length + 1 + C.length) := by rw [hC]; simp; omega
    have hl : (M' ++ [s]).length = M'.length + 1 := by simp
    have hw : wrap64 (((A.length + (M' ++ [s]).length : Nat) : Int) - 1) = ((A.length + M'.length : Nat) : Int) := by rw [hl, w64 (by omega) (by omega)]; omega
    have hrd : rdOf ByteArray.empty (A ++ C0) ((A.length + M'.length : Nat) : Int) = s := by
      have := rd_join A M' C s _ rfl
      rw [hC]; simpa using this
    apply Ev.succ; simp only [spec_BlockValue.l3]
    rw [hw, hrd, trimR_snoc]
    refine Ev.ite_pos (by rw [hl]; omega) (Ev.ite_pos (by omega) (Ev.ite_pos (by omega) ((spec_Indent.ev s (by omega)).bind ?_)))
    by_cases hb : ((indN (bytesOf s) : Nat) : Int) = (s.size : Int)
    · rw [if_pos (by rw [bareB_eq]; exact beq_iff_eq.2 hb)]
      exact Ev.ite_pos hb (ih M' (s :: C) (by omega) (by rw [hC]; simp) h1 h2)
    · rw [if_neg (by rw [bareB_eq]; simpa using hb)]
      exact Ev.ite_neg hb (j6 (M' ++ [s]) C hC h1 h2)
theorem spec_BlockValue.l2_ev (B : List ByteArray) : ∀ A : List ByteArray, (A ++ B).length ≤ 4000000 → (∀ s ∈ A ++ B, s.size ≤ 4000000) → Ev (fun k => spec_BlockValue.l2 k (A ++ B) ((A.length : Nat) : Int)) (joinB (trimR (B.dropWhile bareB))) := by
  have j4 : ∀ A B : List ByteArray, (A ++ B).length ≤ 4000000 → (∀ s ∈ A ++ B, s.size ≤ 4000000) → Ev (fun k => spec_BlockValue.j4 k (A ++ B) ((A.length : Nat) : Int)) (joinB (trimR B)) := by
    intro A B h1 h2
    apply Ev.succ; simp only [spec_BlockValue.j4]
    have := spec_BlockValue.l3_ev A B B.length B [] rfl (by simp) h1 h2
    rw [List.length_append]
    exact this
  induction B with
  | nil =>
    intro A h1 h2
    apply Ev.succ; simp only [spec_BlockValue.l2]
    exact Ev.ite_neg (by rw [List.append_nil]; omega) (j4 A [] h1 h2)
  | cons s B ih =>
    intro A h1 h2
    have hs := h2 s (by simp)
    have hl : (A ++ s :: B).length = A.length + (B.length + 1) := by simp
    apply Ev.succ; simp only [spec_BlockValue.l2]
    rw [rd_mid, w64 (x := ((A.length : Nat) : Int) + 1) (by omega) (by omega), List.dropWhile_cons]
    refine Ev.ite_pos (by omega) (Ev.ite_pos (by omega) ((spec_Indent.ev s (by omega)).bind ?_))
    by_cases hb : ((indN (bytesOf s) : Nat) : Int) = (s.size : Int)
    · rw [if_pos (by rw [bareB_eq]; exact beq_iff_eq.2 hb)]
      have hE := ih (A ++ [s]) (by simpa using h1) (by simpa using h2)
      rw [List.length_append, List.length_singleton, List.append_assoc, List.singleton_append, show ((A.length + 1 : Nat) : Int) = ((A.length : Nat) : Int) + 1 from by omega] at hE
      exact Ev.ite_pos hb hE
    · rw [if_neg (by rw [bareB_eq]; simpa using hb)]
      exact Ev.ite_neg hb (j4 A (s :: B) h1 h2)
theorem spec_BlockValue.l1_ev (m : Int) (hm0 : -1 ≤ m) (hm1 : m ≤ 4000000) (B : List ByteArray) : ∀ A : List ByteArray, (A ++ B).length ≤ 4000000 → (∀ s ∈ A ++ B, s.size ≤ 4000000) → Ev (fun k => spec_BlockValue.l1 k (A ++ B) m ((A.length : Nat) : Int)) (joinB (trimR ((A ++ B.map (cutF m)).dropWhile bareB))) := by
  induction B with
  | nil =>
    intro A h1 h2
    apply Ev.succ; simp only [spec_BlockValue.l1]
    rw [List.append_nil] at h1 h2 ⊢
    rw [List.map_nil, List.append_nil]
    have := spec_BlockValue.l2_ev A [] h1 h2
    exact Ev.ite_neg (by omega) this
  | cons s B ih =>
    intro A h1 h2
    have hs := h2 s (by simp)
    have hc := indN_size s
    have hl : (A ++ s :: B).length = A.length + (B.length + 1) := by simp
    have hcn : cutN m s ≤ s.size := by unfold cutN; omega
    have hE := ih (A ++ [cutF m s]) (by simpa using h1) (by
      intro x hx
      rcases List.mem_append.1 hx with hx | hx
      · rcases List.mem_append.1 hx with hx | hx
        · exact h2 x (by simp [hx])
        · simp at hx; subst hx; have := cutF_size m s; omega
      · exact h2 x (by simp [hx]))
    rw [List.length_append, List.length_singleton, List.append_assoc, List.append_assoc, List.singleton_append, List.singleton_append, show ((A.length + 1 : Nat) : Int) = ((A.length : Nat) : Int) + 1 from by omega] at hE
    rw [List.map_cons]
    have step : ∀ c : Nat, c = cutN m s → Ev (fun k => spec_BlockValue.l1 k ((A ++ s :: B).set ((A.length : Nat) : Int).toNat (s.extract c s.size)) m (((A.length : Nat) : Int) + 1)) (joinB (trimR ((A ++ cutF m s :: B.map (cutF m)).dropWhile bareB))) := by
      rintro c rfl
      rw [set_mid]; exact hE
    have hj : ∀ b, b = decide (0 ≤ m ∧ m < (indN (bytesOf s) : Int)) → Ev (fun k => spec_BlockValue.j2 k (A ++ s :: B) m ((A.length : Nat) : Int) (indN (bytesOf s) : Int) b) (joinB (trimR ((A ++ cutF m s :: B.map (cutF m)).dropWhile bareB))) := by
      rintro b rfl
      apply Ev.succ; simp only [spec_BlockValue.j2]
      rw [rd_mid, w64 (x := ((A.length : Nat) : Int) + 1) (by omega) (by omega)]
      by_cases c : 0 ≤ m ∧ m < (indN (bytesOf s) : Int)
      · refine Ev.ite_pos (decide_eq_true c) (Ev.ite_neg (by omega) (Ev.ite_pos (by omega) (Ev.ite_pos (by omega) (Ev.ite_pos c.1 (Ev.ite_pos (by omega) (step m.toNat (by unfold cutN; omega)))))))
      · refine Ev.ite_neg (by simpa using c) ?_
        by_cases d : m < 0
        · exact Ev.ite_pos d (Ev.ite_pos (by omega) (Ev.ite_pos (by omega) (Ev.ite_pos (by omega) (step 0 (by unfold cutN; omega)))))
        · refine Ev.ite_neg d (Ev.ite_pos (by omega) (Ev.ite_pos (by omega) (Ev.ite_pos (by omega) (Ev.ite_pos (by omega) ?_))))
          rw [Int.toNat_natCast (indN (bytesOf s))]
          exact step _ (by unfold cutN; omega)
    apply Ev.succ; simp only [spec_BlockValue.l1]
    rw [rd_mid]
    refine Ev.ite_pos (by omega) (Ev.ite_pos (by omega) ((spec_Indent.ev s (by omega)).bind ?_))
    by_cases c : m ≥ 0
    · refine Ev.ite_pos c (hj _ ?_)
      rw [Bool.eq_iff_iff, decide_eq_true_eq, decide_eq_true_eq]; omega
    · refine Ev.ite_neg c (hj _ ?_)
      rw [eq_comm, decide_eq_false_iff_not]; omega
theorem spec_BlockValue.l0_ev (H : ByteArray) (R : ByteArray) (B : List ByteArray) : ∀ (A : List ByteArray) (m : Int), -1 ≤ m → m ≤ 4000000 → (H :: (A ++ B)).length ≤ 4000000 → (∀ s ∈ A ++ B, s.size ≤ 4000000) →
    (∀ L, L = H :: (A ++ B) → Ev (fun k => spec_BlockValue.l1 k L (leastF m B) 1) R) → Ev (fun k => spec_BlockValue.l0 k (H :: (A ++ B)) m (((A.length : Nat) : Int) + 1)) R := by
  induction B with
  | nil =>
    intro A m hm0 hm1 h1 h2 hE
    apply Ev.succ; simp only [spec_BlockValue.l0]
    exact Ev.ite_neg (by rw [List.append_nil, List.length_cons]; omega) (hE _ rfl)
  | cons s B ih =>
    intro A m hm0 hm1 h1 h2 hE
    have hs := h2 s (by simp)
    have hc := indN_size s
    have hl : (H :: (A ++ s :: B)).length = A.length + (B.length + 1) + 1 := by simp
    have hrd : rdOf ByteArray.empty (H :: (A ++ s :: B)) (((A.length : Nat) : Int) + 1) = s := by
      have := rd_mid (H :: A) B s
      rw [List.length_cons] at this
      simpa using this
    have next : ∀ m', m' = (if bareB s = false ∧ (m < 0 ∨ (indN (bytesOf s) : Int) < m) then (indN (bytesOf s) : Int) else m) → Ev (fun k => spec_BlockValue.l0 k (H :: (A ++ s :: B)) m' (((A.length : Nat) : Int) + 1 + 1)) R := by
      rintro m' rfl
      have hE2 := ih (A ++ [s]) (if bareB s = false ∧ (m < 0 ∨ (indN (bytesOf s) : Int) < m) then (indN (bytesOf s) : Int) else m) (by split <;> omega) (by split <;> omega) (by simpa using h1) (by simpa using h2) (by
        intro L hL
        exact hE L (by rw [hL]; simp))
      rw [List.length_append, List.length_singleton, List.append_assoc, List.singleton_append, show ((A.length + 1 : Nat) : Int) = ((A.length : Nat) : Int) + 1 from by omega] at hE2
      exact hE2
    apply Ev.succ; simp only [spec_BlockValue.l0]
    rw [hrd, w64 (x := ((A.length : Nat) : Int) + 1 + 1) (by omega) (by omega)]
    refine Ev.ite_pos (by omega) (Ev.ite_pos (by omega) ((spec_Indent.ev s (by omega)).bind ?_))
    by_cases hb : ((indN (bytesOf s) : Nat) : Int) < (s.size : Int)
    · have hbf : bareB s = false := by unfold bareB; simp; omega
      refine Ev.ite_pos hb ?_
      by_cases c : m < 0
      · exact Ev.ite_pos c (next _ (by rw [if_pos ⟨hbf, Or.inl c⟩]))
      · refine Ev.ite_neg c ?_
        by_cases d : (indN (bytesOf s) : Int) < m
        · exact Ev.ite_pos d (next _ (by rw [if_pos ⟨hbf, Or.inr d⟩]))
        · exact Ev.ite_neg d (next m (by rw [if_neg (fun z => z.2.elim c d)]))
    · have hbt : bareB s = true := by unfold bareB; simp; omega
      exact Ev.ite_neg hb (next m (by rw [if_neg (by rw [hbt]; simp)]))
theorem spec_BlockValue.ev (s : ByteArray) (hs : s.size ≤ 3000000) : Ev (fun k => spec_BlockValue.f k s) (blockV (linesB s)) := by
  have hl := linesB_len s
  have hz := linesB_size s
  have hne := linesB_ne s
  unfold spec_BlockValue.f
  refine (spec_LinesIn.ev s (by omega)).bind ?_
  generalize linesB s = L at *
  cases L with
  | nil => exact absurd rfl hne
  | cons h t =>
    have hz' : ∀ x ∈ h :: t, x.size ≤ 4000000 := fun x hx => by have := hz x hx; omega
    rw [List.length_cons] at hl
    have hr := leastF_range 4000000 t (fun x hx => by have := hz' x (by simp [hx]); omega) (-1) (by omega) (by omega)
    have h1 := spec_BlockValue.l1_ev (leastF (-1) t) hr.1 hr.2 t [h] (by simp; omega) (by simpa using hz')
    exact spec_BlockValue.l0_ev h (blockV (h :: t)) t [] (-1) (by omega) (by omega) (by simp; omega) (fun x hx => hz' x (by simp at hx; simp [hx])) (by rintro L rfl; exact h1)

theorem spec_l05Three.eq (s : ByteArray) (hs : s.size ≤ 140737488351232) (i : Int) (h0 : 0 ≤ i) (h1 : i ≤ (s.size : Int) + 8) : spec_l05Three.f s i = some (preB [34, 34, 34] (tl s i)) := by
  unfold spec_l05Three.f
  rw [w64 (x := i + 3) (by omega) (by omega)]
  by_cases h : i + 3 ≤ (s.size : Int)
  · rw [if_pos h, if_pos h0, if_pos (by omega), toList_beq_lit, bytes_extract]
    congr 1
    unfold preB tl
    rw [List.drop_take]
    have : (i + 3).toNat - i.toNat = 3 := by omega
    rw [this]; rfl
  · rw [if_neg h]
    cases hp : preB [34, 34, 34] (tl s i) with
    | false => rfl
    | true =>
      have := preB_length hp
      simp only [List.length_cons, List.length_nil] at this
      unfold tl at this; rw [List.length_drop, size_bytes] at this; omega

theorem spec_BlockEnd.l0_ev (s : ByteArray) (hs : s.size ≤ 140737488351232) (n : Nat) : ∀ (i : Int), 0 ≤ i → i ≤ (s.size : Int) + 8 → (s.size : Int) - i ≤ n →
    Ev (fun k => spec_BlockEnd.l0 k s i) (blkE 0 (tl s i) i) := by
  induction n with
  | zero =>
    intro i h0 h2 hn
    apply Ev.succ; simp only [spec_BlockEnd.l0]
    rw [tl_nil (by omega)]
    exact Ev.ite_neg (by omega) (Ev.done (by simp [blkE]))
  | succ n ih =>
    intro i h0 h2 hn
    by_cases h1 : i < (s.size : Int)
    · have w1 : wrap64 (i + 1) = i + 1 := w64 (by omega) (by omega)
      have w3 : wrap64 (i + 3) = i + 3 := w64 (by omega) (by omega)
      have w4 : wrap64 (i + 3 + 1) = i + 4 := by rw [w64 (by omega) (by omega)]; omega
      have ih1 := ih (i + 1) (by omega) (by omega) (by omega)
      have hc := tl_cons h0 h1
      have hj : ∀ b, b = preB [92, 34, 34, 34] (tl s i) → Ev (fun k => spec_BlockEnd.j2 k s i b) (blkE 0 (tl s i) i) := by
        intro b hb
        apply Ev.succ; simp only [spec_BlockEnd.j2, w1, w3, w4, spec_l05Three.eq s hs i h0 (by omega), Option.bind_some]
        rw [hc]; unfold blkE; rw [← hc, ← hb]
        cases b with
        | true =>
          rw [if_pos rfl, (blkE_four h0 hb.symm).2]
          exact Ev.ite_pos rfl (ih (i + 4) (by omega) (by have := (blkE_four h0 hb.symm).1; omega) (by omega))
        | false =>
          rw [if_neg (by simp)]
          refine Ev.ite_neg (by simp) ?_
          by_cases hp : preB [34, 34, 34] (tl s i) = true
          · rw [if_pos hp]; exact Ev.ite_pos hp (Ev.done rfl)
          · rw [if_neg hp]; exact Ev.ite_neg hp ih1
      apply Ev.succ
      simp only [spec_BlockEnd.l0, h0, h1, if_true, w1, spec_l05Three.eq s hs (i + 1) (by omega) (by omega), Option.bind_some]
      have e4 : preB [92, 34, 34, 34] (tl s i) = (bt s i == 92 && preB [34, 34, 34] (tl s (i + 1))) := by
        rw [hc]; unfold preB; simp
      by_cases c : bt s i = 92
      · exact Ev.ite_pos c (hj _ (by rw [e4]; simp [c]))
      · exact Ev.ite_neg c (hj _ (by rw [e4]; simp [c]))
    · apply Ev.succ; simp only [spec_BlockEnd.l0]
      rw [tl_nil (by omega)]
      exact Ev.ite_neg (by omega) (Ev.done (by simp [blkE]))
theorem spec_BlockEnd.ev (s : ByteArray) (hs : s.size ≤ 140737488351232) (i : Int) : Ev (fun k => spec_BlockEnd.f k s i) (blkEndL s i) := by
  have hj : Ev (fun k => spec_BlockEnd.j0 k s i true) (-1) := by
    apply Ev.succ; simp only [spec_BlockEnd.j0, if_true]; exact Ev.done rfl
  unfold spec_BlockEnd.f blkEndL
  by_cases h0 : i < 0
  · rw [if_neg (by omega)]; exact Ev.ite_pos h0 hj
  · refine Ev.ite_neg h0 ?_
    by_cases h1 : i ≥ (s.size : Int)
    · rw [if_neg (by omega)]; exact Ev.ite_pos h1 hj
    · refine Ev.ite_neg h1 ?_
      simp only [spec_l05Three.eq s hs i (by omega) (by omega), Option.bind_some]
      by_cases h2 : preB [34, 34, 34] (tl s i) = true
      · rw [if_pos ⟨by omega, by omega, h2⟩, h2]
        have hl := preB_length h2
        have ht := tl_length (s := s) (i := i) (by omega)
        simp only [List.length_cons, List.length_nil] at hl
        apply Ev.succ; simp only [spec_BlockEnd.j0, w64 (x := i + 3) (by omega) (by omega)]
        exact Ev.ite_neg (by simp) (spec_BlockEnd.l0_ev s hs s.size _ (by omega) (by omega) (by omega))
      · rw [if_neg (fun h => h2 h.2.2)]
        have h3 := Bool.eq_false_iff.2 h2
        rw [h3]; exact hj

theorem spec_l01In.eq (x a b : Int) : spec_l01In.f x a b = some (decide (a ≤ x ∧ x ≤ b)) := by
  unfold spec_l01In.f
  by_cases h : x ≥ a
  · rw [if_pos h]; congr 1; rw [Bool.eq_iff_iff]; simp only [decide_eq_true_eq]; omega
  · rw [if_neg h]; congr 1; rw [Bool.eq_iff_iff]; simp only [decide_eq_true_eq, Bool.false_eq_true, false_iff]; omega

theorem spec_l02Scalar.eq (x : Int) : spec_l02Scalar.f x = some (scalB x) := by
  unfold spec_l02Scalar.f scalB
  simp only [spec_l01In.eq, Option.bind_some]
  cases decide (0 ≤ x ∧ x ≤ 1114111) <;> simp

theorem spec_RuneText.eq (n : Int) : spec_RuneText.f n = some (runeTextL n) := by
  unfold spec_RuneText.f runeTextL
  rw [spec_l02Scalar.eq]; simp only [Option.bind_some]
  cases hs : scalB n with
  | false => rfl
  | true =>
    have hr : 0 ≤ n ∧ n ≤ 1114111 := by unfold scalB at hs; simp only [Bool.and_eq_true, decide_eq_true_eq] at hs; exact hs.1
    have d1 : ∀ m : Int, 0 < m → Int.tdiv n m = n / m := fun m _ => Int.tdiv_eq_ediv_of_nonneg hr.1
    have d2 : ∀ a m : Int, 0 ≤ a → Int.tmod a m = a % m := fun a m h => Int.tmod_eq_emod_of_nonneg h
    rw [if_pos rfl, if_pos rfl]
    unfold runeL
    rw [d1 64 (by omega), d1 4096 (by omega), d1 262144 (by omega), d2 n 64 hr.1, w64 (x := n / 64) (by omega) (by omega), w64 (x := n / 4096) (by omega) (by omega), w64 (x := n / 262144) (by omega) (by omega), d2 (n / 64) 64 (by omega), d2 (n / 4096) 64 (by omega)]
    rw [w64 (x := 192 + n / 64) (by omega) (by omega), w64 (x := 128 + n % 64) (by omega) (by omega), w64 (x := 224 + n / 4096) (by omega) (by omega), w64 (x := 128 + n / 64 % 64) (by omega) (by omega), w64 (x := 240 + n / 262144) (by omega) (by omega), w64 (x := 128 + n / 4096 % 64) (by omega) (by omega)]
    by_cases c1 : n < 128
    · rw [if_pos c1, if_pos c1]; congr 2; simp; omega
    · rw [if_neg c1, if_neg c1]
      by_cases c2 : n < 2048
      · rw [if_pos c2, if_pos c2]; congr 2; simp; omega
      · rw [if_neg c2, if_neg c2]
        by_cases c3 : n < 65536
        · rw [if_pos c3, if_pos c3]; congr 2; simp; omega
        · rw [if_neg c3, if_neg c3]; congr 2; simp; omega

theorem spec_RuneAt.last (s : ByteArray) (i m n : Int) : Ev (fun k => spec_RuneAt.l0 k s i m n m) (if ((runeTextL n).size : Int) = m then (n, m) else (-1, 0)) := by
  apply Ev.succ; simp only [spec_RuneAt.l0]
  refine Ev.ite_neg (by omega) (Ev.bindc (spec_RuneText.eq n) ?_)
  by_cases c : ((runeTextL n).size : Int) = m
  · have e : (if ((runeTextL n).size : Int) = m then (n, m) else ((-1 : Int), (0 : Int))) = (n, m) := if_pos c
    rw [e]; exact Ev.ite_pos c (Ev.done rfl)
  · have e : (if ((runeTextL n).size : Int) = m then (n, m) else ((-1 : Int), (0 : Int))) = (-1, 0) := if_neg c
    rw [e]; exact Ev.ite_neg c (Ev.done rfl)
theorem spec_RuneAt.step (s : ByteArray) (hs : s.size ≤ 140737488351232) (i m n j : Int) (r : Int × Int) (h0 : 0 ≤ i) (hj0 : 0 ≤ j) (hj : j < m) (hm : m ≤ 4) (hi : i + m ≤ (s.size : Int)) (hn : 0 ≤ n) (hn1 : n ≤ 1000000)
    (h : 128 ≤ bt s (i + j) → bt s (i + j) ≤ 191 → Ev (fun k => spec_RuneAt.l0 k s i m (n * 64 + bt s (i + j) - 128) (j + 1)) r) (hb : ¬ (128 ≤ bt s (i + j) ∧ bt s (i + j) ≤ 191) → r = (-1, 0)) :
    Ev (fun k => spec_RuneAt.l0 k s i m n j) r := by
  have hr := bt_range s (i + j)
  apply Ev.succ; simp only [spec_RuneAt.l0]
  rw [w64 (x := i + j) (by omega) (by omega), w64 (x := bt s (i + j)) (by omega) (by omega), w64 (x := n * 64) (by omega) (by omega), w64 (x := n * 64 + bt s (i + j)) (by omega) (by omega), w64 (x := n * 64 + bt s (i + j) - 128) (by omega) (by omega), w64 (x := j + 1) (by omega) (by omega)]
  refine Ev.ite_pos hj (Ev.ite_pos (by omega) (Ev.ite_pos (by omega) ?_))
  by_cases c1 : bt s (i + j) < 128
  · rw [hb (by omega)]; exact Ev.ite_pos c1 (Ev.done rfl)
  · refine Ev.ite_neg c1 ?_
    by_cases c2 : bt s (i + j) > 191
    · rw [hb (by omega)]; exact Ev.ite_pos c2 (Ev.done rfl)
    · exact Ev.ite_neg c2 (h (by omega) (by omega))
theorem spec_RuneAt.two (s : ByteArray) (hs : s.size ≤ 140737488351232) (i : Int) (h0 : 0 ≤ i) (h1 : i < (s.size : Int)) (hb : 194 ≤ bt s i ∧ bt s i < 224) : Ev (fun k => spec_RuneAt.j3 k s i 2 (bt s i - 192)) (decAt s i) := by
  apply Ev.succ; simp only [spec_RuneAt.j3]
  rw [w64 (x := i + 2) (by omega) (by omega)]
  have hD : decAt s i = if 2 ≤ (s.size : Int) - i ∧ 128 ≤ bt s (i + 1) ∧ bt s (i + 1) ≤ 191 then ((bt s i - 192) * 64 + bt s (i + 1) - 128, 2) else (-1, 0) := by
    unfold decAt decZ
    rw [if_neg (by omega), if_neg (by omega)]
    by_cases g : 2 ≤ (s.size : Int) - i ∧ 128 ≤ bt s (i + 1) ∧ bt s (i + 1) ≤ 191
    · rw [if_pos ⟨hb.1, hb.2, g⟩, if_pos g]
    · rw [if_neg (fun h => g h.2.2), if_neg (by omega), if_neg (by omega), if_neg g]
  by_cases c : i + 2 > (s.size : Int)
  · rw [hD, if_neg (by omega)]; exact Ev.ite_pos c (Ev.done rfl)
  · refine Ev.ite_neg c (spec_RuneAt.step s hs i 2 _ 1 _ h0 (by omega) (by omega) (by omega) (by omega) (by omega) (by omega) ?_ ?_)
    · intro a1 a2
      rw [hD, if_pos (by omega)]
      refine (spec_RuneAt.last s i 2 _).get ?_
      rw [if_pos ((rs2 _).2 (by omega))]
    · intro hn
      rw [hD, if_neg (by omega)]
theorem spec_RuneAt.three (s : ByteArray) (hs : s.size ≤ 140737488351232) (i : Int) (h0 : 0 ≤ i) (h1 : i < (s.size : Int)) (hb : 224 ≤ bt s i ∧ bt s i < 240) : Ev (fun k => spec_RuneAt.j3 k s i 3 (bt s i - 224)) (decAt s i) := by
  apply Ev.succ; simp only [spec_RuneAt.j3]
  rw [w64 (x := i + 3) (by omega) (by omega)]
  have hr1 := bt_range s (i + 1)
  have hr2 := bt_range s (i + 2)
  generalize hN : ((bt s i - 224) * 64 + bt s (i + 1) - 128) * 64 + bt s (i + 2) - 128 = N
  have hD : decAt s i = if 3 ≤ (s.size : Int) - i ∧ 128 ≤ bt s (i + 1) ∧ bt s (i + 1) ≤ 191 ∧ 128 ≤ bt s (i + 2) ∧ bt s (i + 2) ≤ 191 ∧ 2048 ≤ N ∧ ¬ (55296 ≤ N ∧ N ≤ 57343) then (N, 3) else (-1, 0) := by
    unfold decAt decZ
    rw [if_neg (by omega), if_neg (by omega), if_neg (by omega), hN]
    by_cases g : 3 ≤ (s.size : Int) - i ∧ 128 ≤ bt s (i + 1) ∧ bt s (i + 1) ≤ 191 ∧ 128 ≤ bt s (i + 2) ∧ bt s (i + 2) ≤ 191 ∧ 2048 ≤ N ∧ ¬ (55296 ≤ N ∧ N ≤ 57343)
    · rw [if_pos ⟨hb.1, hb.2, g⟩, if_pos g]
    · rw [if_neg (fun h => g h.2.2), if_neg (fun h => absurd h.1 (by omega)), if_neg g]
  by_cases c : i + 3 > (s.size : Int)
  · rw [hD, if_neg (fun h => absurd h.1 (by omega))]; exact Ev.ite_pos c (Ev.done rfl)
  · refine Ev.ite_neg c (spec_RuneAt.step s hs i 3 _ 1 _ h0 (by omega) (by omega) (by omega) (by omega) (by omega) (by omega) ?_ ?_)
    · intro a1 a2
      refine spec_RuneAt.step s hs i 3 _ 2 _ h0 (by omega) (by omega) (by omega) (by omega) (by omega) (by omega) ?_ ?_
      · intro a3 a4
        refine (spec_RuneAt.last s i 3 _).get ?_
        rw [hN, hD]
        by_cases g : 2048 ≤ N ∧ ¬ (55296 ≤ N ∧ N ≤ 57343)
        · rw [if_pos ((rs3 N).2 ⟨g.1, by omega, g.2⟩), if_pos ⟨by omega, a1, a2, a3, a4, g⟩]
        · rw [if_neg (fun h => g ⟨((rs3 N).1 h).1, ((rs3 N).1 h).2.2⟩), if_neg (fun h => g h.2.2.2.2.2)]
      · intro hn
        rw [hD, if_neg (fun h => hn ⟨h.2.2.2.1, h.2.2.2.2.1⟩)]
    · intro hn
      rw [hD, if_neg (fun h => hn ⟨h.2.1, h.2.2.1⟩)]
theorem spec_RuneAt.four (s : ByteArray) (hs : s.size ≤ 140737488351232) (i : Int) (h0 : 0 ≤ i) (h1 : i < (s.size : Int)) (hb : 240 ≤ bt s i ∧ bt s i < 245) : Ev (fun k => spec_RuneAt.j3 k s i 4 (bt s i - 240)) (decAt s i) := by
  apply Ev.succ; simp only [spec_RuneAt.j3]
  rw [w64 (x := i + 4) (by omega) (by omega)]
  have hr1 := bt_range s (i + 1)
  have hr2 := bt_range s (i + 2)
  have hr3 := bt_range s (i + 3)
  generalize hN : (((bt s i - 240) * 64 + bt s (i + 1) - 128) * 64 + bt s (i + 2) - 128) * 64 + bt s (i + 3) - 128 = N
  have hD : decAt s i = if 4 ≤ (s.size : Int) - i ∧ 128 ≤ bt s (i + 1) ∧ bt s (i + 1) ≤ 191 ∧ 128 ≤ bt s (i + 2) ∧ bt s (i + 2) ≤ 191 ∧ 128 ≤ bt s (i + 3) ∧ bt s (i + 3) ≤ 191 ∧ 65536 ≤ N ∧ N ≤ 1114111 then (N, 4) else (-1, 0) := by
    unfold decAt decZ
    rw [if_neg (by omega), if_neg (by omega), if_neg (by omega), if_neg (fun h => absurd h.2.1 (by omega)), hN]
    by_cases g : 4 ≤ (s.size : Int) - i ∧ 128 ≤ bt s (i + 1) ∧ bt s (i + 1) ≤ 191 ∧ 128 ≤ bt s (i + 2) ∧ bt s (i + 2) ≤ 191 ∧ 128 ≤ bt s (i + 3) ∧ bt s (i + 3) ≤ 191 ∧ 65536 ≤ N ∧ N ≤ 1114111
    · rw [if_pos ⟨hb.1, hb.2, g⟩, if_pos g]
    · rw [if_neg (fun h => g h.2.2), if_neg g]
  by_cases c : i + 4 > (s.size : Int)
  · rw [hD, if_neg (fun h => absurd h.1 (by omega))]; exact Ev.ite_pos c (Ev.done rfl)
  · refine Ev.ite_neg c (spec_RuneAt.step s hs i 4 _ 1 _ h0 (by omega) (by omega) (by omega) (by omega) (by omega) (by omega) ?_ ?_)
    · intro a1 a2
      refine spec_RuneAt.step s hs i 4 _ 2 _ h0 (by omega) (by omega) (by omega) (by omega) (by omega) (by omega) ?_ ?_
      · intro a3 a4
        refine spec_RuneAt.step s hs i 4 _ 3 _ h0 (by omega) (by omega) (by omega) (by omega) (by omega) (by omega) ?_ ?_
        · intro a5 a6
          refine (spec_RuneAt.last s i 4 _).get ?_
          rw [hN, hD]
          by_cases g : 65536 ≤ N ∧ N ≤ 1114111
          · rw [if_pos ((rs4 N).2 g), if_pos ⟨by omega, a1, a2, a3, a4, a5, a6, g⟩]
          · rw [if_neg (fun h => g ((rs4 N).1 h)), if_neg (fun h => g h.2.2.2.2.2.2.2)]
        · intro hn
          rw [hD, if_neg (fun h => hn ⟨h.2.2.2.2.2.1, h.2.2.2.2.2.2.1⟩)]
      · intro hn
        rw [hD, if_neg (fun h => hn ⟨h.2.2.2.1, h.2.2.2.2.1⟩)]
    · intro hn
      rw [hD, if_neg (fun h => hn ⟨h.2.1, h.2.2.1⟩)]
theorem spec_RuneAt.ev (s : ByteArray) (hs : s.size ≤ 140737488351232) (i : Int) : Ev (fun k => spec_RuneAt.f k s i) (if 0 ≤ i then decAt s i else (-1, 0)) := by
  unfold spec_RuneAt.f
  by_cases c0 : i < 0
  · rw [if_neg (by omega)]
    refine Ev.ite_pos c0 ?_
    apply Ev.succ; simp only [spec_RuneAt.j0, if_true]; exact Ev.done rfl
  · rw [if_pos (by omega)]
    refine Ev.ite_neg c0 ?_
    apply Ev.succ; simp only [spec_RuneAt.j0]
    by_cases c1 : i ≥ (s.size : Int)
    · rw [decAt_out s i c1]; exact Ev.ite_pos (by simp; omega) (Ev.done rfl)
    · have hr := bt_range s i
      rw [w64 (x := bt s i) (by omega) (by omega)]
      refine Ev.ite_neg (by simp; omega) (Ev.ite_pos (by omega) (Ev.ite_pos (by omega) ?_))
      by_cases c2 : bt s i < 128
      · refine Ev.ite_pos c2 (Ev.done ?_)
        unfold decAt decZ; rw [if_neg (by omega), if_pos c2]
      · refine Ev.ite_neg c2 ?_
        have w1 : wrap64 (bt s i - 192) = bt s i - 192 := w64 (by omega) (by omega)
        have w2 : wrap64 (bt s i - 224) = bt s i - 224 := w64 (by omega) (by omega)
        have w3 : wrap64 (bt s i - 240) = bt s i - 240 := w64 (by omega) (by omega)
        have hbad : ¬ (194 ≤ bt s i ∧ bt s i < 224) → ¬ (224 ≤ bt s i ∧ bt s i < 240) → ¬ (240 ≤ bt s i ∧ bt s i < 245) → decAt s i = (-1, 0) := by
          intro a b c
          unfold decAt decZ; rw [if_neg (by omega), if_neg c2, if_neg (by omega), if_neg (by omega), if_neg (by omega)]
        have hj2 : ¬ (194 ≤ bt s i ∧ bt s i < 224) → ∀ b, b = decide (224 ≤ bt s i ∧ bt s i < 240) → Ev (fun k => spec_RuneAt.j2 k s i (bt s i) b) (decAt s i) := by
          rintro g b rfl
          apply Ev.succ; simp only [spec_RuneAt.j2, w2, w3]
          by_cases d : 224 ≤ bt s i ∧ bt s i < 240
          · exact Ev.ite_pos (by simp [d]) (spec_RuneAt.three s hs i (by omega) (by omega) d)
          · refine Ev.ite_neg (by simpa using d) ?_
            by_cases d2 : bt s i ≥ 240
            · refine Ev.ite_pos d2 ?_
              by_cases d3 : bt s i < 245
              · exact Ev.ite_pos d3 (spec_RuneAt.four s hs i (by omega) (by omega) ⟨d2, d3⟩)
              · rw [hbad g d (by omega)]; exact Ev.ite_neg d3 (Ev.done rfl)
            · rw [hbad g d (by omega)]; exact Ev.ite_neg d2 (Ev.done rfl)
        have hj1 : ∀ b, b = decide (194 ≤ bt s i ∧ bt s i < 224) → Ev (fun k => spec_RuneAt.j1 k s i (bt s i) b) (decAt s i) := by
          rintro b rfl
          apply Ev.succ; simp only [spec_RuneAt.j1, w1]
          by_cases d : 194 ≤ bt s i ∧ bt s i < 224
          · exact Ev.ite_pos (by simp [d]) (spec_RuneAt.two s hs i (by omega) (by omega) d)
          · refine Ev.ite_neg (by simpa using d) ?_
            by_cases d2 : bt s i ≥ 224
            · exact Ev.ite_pos d2 (hj2 d _ (by rw [Bool.eq_iff_iff]; simp; omega))
            · exact Ev.ite_neg d2 (hj2 d _ (by rw [Bool.eq_iff_iff]; simp; omega))
        by_cases d : bt s i ≥ 194
        · exact Ev.ite_pos d (hj1 _ (by rw [Bool.eq_iff_iff]; simp; omega))
        · exact Ev.ite_neg d (hj1 _ (by rw [Bool.eq_iff_iff]; simp; omega))

theorem spec_TextOk.l0_ev (s : ByteArray) (hs : s.size ≤ 140737488351232) (n : Nat) : ∀ i : Int, 0 ≤ i → i ≤ (s.size : Int) → (s.size : Int) - i ≤ n →
    Ev (fun k => spec_TextOk.l0 k s i) (Lib.validD (s.data.toList.drop i.toNat)) := by
  induction n with
  | zero =>
    intro i h0 h2 hn
    apply Ev.succ; simp only [spec_TextOk.l0]
    refine Ev.ite_neg (by omega) (Ev.done ?_)
    rw [List.drop_eq_nil_of_le (by rw [Array.length_toList]; show s.size ≤ i.toNat; omega)]; rfl
  | succ n ih =>
    intro i h0 h2 hn
    by_cases h1 : i < (s.size : Int)
    · have hd := spec_RuneAt.ev s hs i
      rw [if_pos h0] at hd
      apply Ev.succ; simp only [spec_TextOk.l0]
      refine Ev.ite_pos h1 (hd.bind ?_)
      rcases dec_step s i h0 h1 with ⟨e, hv⟩ | ⟨g1, g2, g3, g4, hv⟩
      · rw [hv, e]; exact Ev.ite_pos (by simp) (Ev.done rfl)
      · rw [hv, w64 (x := i + (decAt s i).2) (by omega) (by omega)]
        exact Ev.ite_neg (by omega) (ih _ (by omega) g4 (by omega))
    · apply Ev.succ; simp only [spec_TextOk.l0]
      refine Ev.ite_neg h1 (Ev.done ?_)
      rw [List.drop_eq_nil_of_le (by rw [Array.length_toList]; show s.size ≤ i.toNat; omega)]; rfl
theorem spec_TextOk.ev (s : ByteArray) (hs : s.size ≤ 140737488351232) : Ev (fun k => spec_TextOk.f k s) (textOkS s) := by
  unfold spec_TextOk.f
  exact (spec_TextOk.l0_ev s hs s.size 0 (by omega) (by omega) (by omega)).get (by unfold textOkS; simp)

theorem spec_BlockText.step (s : ByteArray) (hs : s.size ≤ 1000) (i : Int) (acc : List Int) (R : ByteArray × Bool) (h0 : 0 ≤ i) (h1 : i < (s.size : Int) - 3) (ha : (acc.length : Int) ≤ i)
    (hE : Ev (fun k => spec_BlockText.l0 k s (if bt s i = 92 ∧ preB [34, 34, 34] (tl s (i + 1)) = true then acc else acc ++ [bt s i]) (i + 1)) R) :
    Ev (fun k => spec_BlockText.l0 k s acc i) (if okC (bt s i) = true then R else noT) := by
  have w1 : wrap64 (i + 1) = i + 1 := w64 (by omega) (by omega)
  have hj : ∀ b, b = !okC (bt s i) → Ev (fun k => spec_BlockText.j2 k s acc i b) (if okC (bt s i) = true then R else noT) := by
    intro b hb
    apply Ev.succ; simp only [spec_BlockText.j2, w1]
    cases hk : okC (bt s i) with
    | false => rw [hk] at hb; rw [if_neg (by simp)]; exact Ev.ite_pos hb (Ev.done rfl)
    | true =>
      rw [hk] at hb; rw [if_pos rfl]
      refine Ev.ite_neg (by rw [hb]; simp) (Ev.ite_pos h0 (Ev.ite_pos (by omega) ?_))
      by_cases c : bt s i = 92
      · refine Ev.ite_pos c (Ev.bindc (spec_l05Three.eq s (by omega) (i + 1) (by omega) (by omega)) ?_)
        by_cases p : preB [34, 34, 34] (tl s (i + 1)) = true
        · rw [if_pos ⟨c, p⟩] at hE; exact Ev.ite_pos p hE
        · rw [if_neg (fun z => p z.2)] at hE; exact Ev.ite_neg p (Ev.ite_pos (by omega) hE)
      · rw [if_neg (fun z => c z.1)] at hE; exact Ev.ite_neg c (Ev.ite_pos (by omega) hE)
  have hok : okC (bt s i) = decide (¬ (bt s i < 32 ∧ bt s i ≠ 9 ∧ bt s i ≠ 10 ∧ bt s i ≠ 13)) := rfl
  apply Ev.succ; simp only [spec_BlockText.l0]
  rw [w64 (x := (s.size : Int) - 3) (by omega) (by omega)]
  refine Ev.ite_pos h1 (Ev.ite_pos h0 (Ev.ite_pos (by omega) ?_))
  by_cases c : bt s i < 32
  · refine Ev.ite_pos c ?_
    by_cases c9 : bt s i = 9
    · exact Ev.ite_pos c9 (hj _ (by rw [hok]; simp [c9]))
    refine Ev.ite_neg c9 ?_
    by_cases c10 : bt s i = 10
    · exact Ev.ite_pos c10 (hj _ (by rw [hok]; simp [c10]))
    refine Ev.ite_neg c10 (hj _ ?_)
    rw [hok]
    by_cases c13 : bt s i = 13
    · simp [c13]
    · simp [c, c9, c10, c13]
  · exact Ev.ite_neg c (hj _ (by rw [hok]; simp [c]))
theorem spec_BlockText.l0_ev (s : ByteArray) (h6 : 6 ≤ (s.size : Int)) (hs : s.size ≤ 1000) (n : Nat) : ∀ (i : Int) (acc : List Int), 3 ≤ i → i ≤ (s.size : Int) - 3 → (s.size : Int) - i ≤ n → (acc.length : Int) ≤ i → blkE 0 (tl s i) i = (s.size : Int) →
    Ev (fun k => spec_BlockText.l0 k s acc i) (if (inB s i).all okC = true then fin200 (blockV (linesB (strOfNums (acc ++ uq (inB s i))))) else noT) := by
  induction n using Nat.strongRecOn with
  | ind n ih =>
    intro i acc h0 h1 hn ha hb
    by_cases h2 : i < (s.size : Int) - 3
    · have hend := blkE_end _ _ _ _ hb (by omega)
      have hc := tl_cons (s := s) (i := i) (by omega) (by omega)
      have glue : ∀ (b : Int) (l : List Int) (X : ByteArray × Bool), (if okC b = true then (if l.all okC = true then X else noT) else noT) = (if (b :: l).all okC = true then X else noT) := by
        intro b l X
        rw [List.all_cons]
        cases okC b <;> simp
      rw [hc, blkE, ← hc] at hb
      by_cases p4 : preB [92, 34, 34, 34] (tl s i) = true
      · rw [if_pos p4] at hb
        have hf := blkE_four (s := s) (i := i) (by omega) p4
        have hb4 : blkE 0 (tl s (i + 4)) (i + 4) = (s.size : Int) := by rw [← hf.2]; exact hb
        have he4 := blkE_end _ _ _ _ hb4 (by omega)
        rw [hc, preB_cons, Bool.and_eq_true, beq_iff_eq] at p4
        have q := preB_three s (i + 1) (by omega) p4.2
        have hE := ih (n - 1) (by omega) (i + 4) (acc ++ [34] ++ [34] ++ [34]) (by omega) (by omega) (by omega) (by simp; omega) hb4
        have s3 := spec_BlockText.step s hs (i + 3) (acc ++ [34] ++ [34]) _ (by omega) (by omega) (by simp; omega) (by
          rw [show bt s (i + 3) = 34 from by have := q.2.2.1; rwa [show i + 1 + 2 = i + 3 from by omega] at this]
          rw [if_neg (fun z => absurd z.1 (by decide)), show i + 3 + 1 = i + 4 from by omega]
          exact hE)
        have s2 := spec_BlockText.step s hs (i + 2) (acc ++ [34]) _ (by omega) (by omega) (by simp; omega) (by
          rw [show bt s (i + 2) = 34 from by have := q.2.1; rwa [show i + 1 + 1 = i + 2 from by omega] at this]
          rw [if_neg (fun z => absurd z.1 (by decide)), show i + 2 + 1 = i + 3 from by omega]
          exact s3)
        have s1 := spec_BlockText.step s hs (i + 1) acc _ (by omega) (by omega) (by omega) (by
          rw [q.1, if_neg (fun z => absurd z.1 (by decide)), show i + 1 + 1 = i + 2 from by omega]
          exact s2)
        have s0 := spec_BlockText.step s hs i acc _ (by omega) h2 ha (by rw [if_pos p4]; exact s1)
        refine s0.get ?_
        rw [glue, glue, glue, glue, inB_cons s i (by omega) h2, inB_cons s (i + 1) (by omega) (by omega), inB_cons s (i + 1 + 1) (by omega) (by omega), inB_cons s (i + 1 + 1 + 1) (by omega) (by omega)]
        rw [show i + 1 + 1 + 1 + 1 = i + 4 from by omega, show i + 1 + 1 + 1 = i + 3 from by omega, show i + 1 + 1 = i + 2 from by omega]
        rw [p4.1, q.1, show bt s (i + 2) = 34 from by have := q.2.1; rwa [show i + 1 + 1 = i + 2 from by omega] at this, show bt s (i + 3) = 34 from by have := q.2.2.1; rwa [show i + 1 + 2 = i + 3 from by omega] at this]
        have hu : uq (92 :: 34 :: 34 :: 34 :: inB s (i + 4)) = [34, 34, 34] ++ uq (inB s (i + 4)) := by simp [uq, preB]
        rw [hu]
        simp
      · rw [if_neg p4] at hb
        by_cases p3 : preB [34, 34, 34] (tl s i) = true
        · rw [if_pos p3] at hb; omega
        · rw [if_neg p3] at hb
          have hne : ¬ (bt s i = 92 ∧ preB [34, 34, 34] (tl s (i + 1)) = true) := by
            rintro ⟨z1, z2⟩
            apply p4
            rw [hc, preB_cons, z1, z2]; rfl
          have hE := ih (n - 1) (by omega) (i + 1) (acc ++ [bt s i]) (by omega) (by omega) (by omega) (by simp; omega) hb
          refine (spec_BlockText.step s hs i acc _ (by omega) h2 ha (by rw [if_neg hne]; exact hE)).get ?_
          rw [glue, ← inB_cons s i (by omega) h2]
          have hu : uq (inB s i) = bt s i :: uq (inB s (i + 1)) := by
            rw [inB_cons s i (by omega) h2, uq, if_neg]
            rintro ⟨z1, z2⟩
            exact hne ⟨z1, preB_take _ _ _ z2⟩
          rw [hu, List.append_assoc]; rfl
    · rw [inB_nil s i (by omega)]
      apply Ev.succ; simp only [spec_BlockText.l0]
      rw [w64 (x := (s.size : Int) - 3) (by omega) (by omega)]
      have hz : (strOfNums acc).size ≤ 3000000 := by rw [str_size]; omega
      rw [if_pos (by rfl), show uq [] = [] from rfl, List.append_nil]
      refine Ev.ite_neg h2 ((spec_BlockValue.ev _ hz).bind ?_)
      unfold fin200
      by_cases c : ((blockV (linesB (strOfNums acc))).size : Int) > 200
      · exact Ev.ite_pos c (Ev.done (if_pos c).symm)
      · exact Ev.ite_neg c (Ev.done (if_neg c).symm)
theorem spec_BlockText.ev (s : ByteArray) (hs : s.size ≤ 140737488351232) : Ev (fun k => spec_BlockText.f k s) (blockT s) := by
  have jT : Ev (fun k => spec_BlockText.j0 k s true) noT := by
    apply Ev.succ; simp only [spec_BlockText.j0, if_true]; exact Ev.done rfl
  unfold spec_BlockText.f blockT
  by_cases h1 : (s.size : Int) > 1000
  · rw [if_pos (Or.inl h1)]; exact Ev.ite_pos h1 jT
  · refine Ev.ite_neg h1 ((spec_BlockEnd.ev s hs 0).bind ?_)
    by_cases h2 : blkEndL s 0 = (s.size : Int)
    · refine Ev.ite_pos h2 ((spec_TextOk.ev s hs).bind ?_)
      cases h3 : textOkS s with
      | false => rw [if_pos (Or.inr (Or.inr rfl))]; exact jT
      | true =>
        rw [if_neg (by simp [h2]; omega)]
        obtain ⟨a, b, c⟩ := block_whole s h2
        have := spec_BlockText.l0_ev s a (by omega) s.size 3 [] (by omega) (by omega) (by omega) (by simp) b
        apply Ev.succ; simp only [spec_BlockText.j0]
        exact Ev.ite_neg (by simp) this
    · rw [if_pos (Or.inr (Or.inl h2))]
      exact Ev.ite_neg h2 jT

theorem FnExactBlockText : laws_FnExactBlockText.Pure := by
  intro s hs
  apply Ev.out
  unfold laws_FnExactBlockText.f
  by_cases h : (s.size : Int) > 1048576
  · exact Ev.ite_pos h (Ev.done rfl)
  · exact Ev.ite_neg h ((spec_BlockText.ev s (by omega)).bind ((impl_BlockText.ev s (by omega)).bind (Ev.ite_pos rfl (Ev.ite_neg (by simp) (Ev.done rfl)))))


end Go.Proofs.YtmbninphokgbpaaDoor.Pure
