/- For every slice of bytes, a block of lines that the reference draws from it, moved in, is these lines again, as the law FnBlocks says. -/
import Derived.Test.YtmbninphokgbpaaDoorOFnBlocksx14
import Derived.Test.YtmbninphokgbpaaDoorBase
import Derived.Lib.ReplaceLaws
namespace Go.Proofs.YtmbninphokgbpaaDoor.Pure
open Go.RowKit Go.Proofs.YtmbninphokgbpaaDoor.OFnBlocks Go.Proofs.YtmbninphokgbpaaDoorW.PrintWords Go.Proofs.YtmbninphokgbpaaDoorW.PrintLast Go.Proofs.YtmbninphokgbpaaDoorW.PrintMore Go.Proofs.YtmbninphokgbpaaDoor.Base
set_option linter.unusedVariables false
set_option linter.unusedSimpArgs false

theorem byte_at (s : ByteArray) (i : Nat) (h : i < s.size) : ∃ b : UInt8, s.data.toList.drop i = b :: s.data.toList.drop (i + 1) ∧ bt s (i : Int) = (b.toNat : Int) ∧ s.data.toList.take (i + 1) = s.data.toList.take i ++ [b] := by
  have hl : i < s.data.toList.length := by rw [Array.length_toList]; exact h
  refine ⟨s.data.toList[i], List.drop_eq_getElem_cons hl, ?_, List.take_succ_eq_append_getElem hl⟩
  have := tl_cons (s := s) (i := (i : Int)) (by omega) (by omega)
  unfold tl at this
  rw [Int.toNat_natCast] at this
  unfold bytesOf at this
  rw [← List.map_drop, List.drop_eq_getElem_cons hl, List.map_cons] at this
  exact (List.cons.inj this).1.symm
theorem extract_mk (s : ByteArray) (a b : Nat) : s.extract a b = ⟨((s.data.toList.take b).drop a).toArray⟩ := by
  apply ByteArray.ext
  apply Array.toList_inj.1
  rw [ByteArray.data_extract, Array.toList_extract, List.extract_eq_take_drop, List.drop_take]

/-- Every instance of old, from the left, replaced. -/
def repF (old new : List UInt8) : List UInt8 → List UInt8
  | [] => []
  | b :: l => if old ≠ [] ∧ old.isPrefixOf (b :: l) = true then new ++ repF old new ((b :: l).drop old.length) else b :: repF old new l
termination_by l => l.length
decreasing_by
  · rename_i h
    have := List.length_pos_iff.2 h.1
    simp only [List.length_drop, List.length_cons]; omega
  · simp
theorem repF_miss (old new : List UInt8) (s : List UInt8) (h : Lib.index s old = -1) : repF old new s = s := by
  induction s with
  | nil => rw [repF]
  | cons b l ih =>
    rw [Lib.index] at h
    have hg := Lib.index_ge l old
    split at h
    · omega
    · rename_i hp
      split at h
      · rename_i hm
        rw [repF, if_neg (fun z => hp z.2), ih (beq_iff_eq.1 hm)]
      · rename_i hm
        omega
theorem repF_hit (old new : List UInt8) (hold : old ≠ []) (s : List UInt8) : ∀ i : Nat, Lib.index s old = i → repF old new s = s.take i ++ new ++ repF old new (s.drop (i + old.length)) := by
  induction s with
  | nil =>
    intro i h
    rw [Lib.index] at h
    cases old with
    | nil => exact absurd rfl hold
    | cons x r => simp at h
  | cons b l ih =>
    intro i h
    rw [Lib.index] at h
    have hg := Lib.index_ge l old
    split at h
    · rename_i hp
      have hi : i = 0 := by omega
      subst hi
      rw [repF, if_pos ⟨hold, hp⟩, Nat.zero_add]; rfl
    · rename_i hp
      split at h
      · omega
      · rename_i hm
        have hne : Lib.index l old ≠ -1 := fun z => hm (beq_iff_eq.2 z)
        obtain ⟨j, rfl⟩ : ∃ j, i = j + 1 := ⟨i - 1, by omega⟩
        rw [repF, if_neg (fun z => hp z.2), ih j (by omega), List.take_succ_cons, show j + 1 + old.length = (j + old.length) + 1 from by omega, List.drop_succ_cons]; rfl
theorem replaceK_rep (old new : List UInt8) (hold : old ≠ []) (k : Nat) : ∀ s, Lib.count s old = k → Lib.replaceK old new k s = repF old new s := by
  induction k with
  | zero =>
    intro s h
    rcases Lib.index_spec s old with ⟨h1, _⟩ | ⟨i, h1, _⟩
    · rw [repF_miss old new s h1]; rfl
    · rw [Lib.count_hit hold h1] at h; omega
  | succ k ih =>
    intro s h
    obtain ⟨i, hi⟩ := Lib.index_of_count (s := s) (old := old) (by omega)
    have hc := Lib.count_hit hold hi
    rw [Lib.replaceK_hit old new k s i hi, ih _ (by omega), repF_hit old new hold s i hi]
theorem replaceAll_rep (s old new : List UInt8) (hold : old ≠ []) (hne : old ≠ new) : Lib.replaceAll s old new = repF old new s := by
  unfold Lib.replaceAll Lib.replace
  rw [if_neg (by simpa using hne)]
  have : Lib.replaceNum s old (-1) = Lib.count s old := by unfold Lib.replaceNum; rw [if_pos (Or.inl (by decide))]
  rw [this]
  exact replaceK_rep old new hold _ s rfl
/-- A byte set ahead of the first of some lists. -/
def pushH (x : UInt8) : List (List UInt8) → List (List UInt8)
  | [] => [[x]]
  | h :: t => (x :: h) :: t
def splF : List UInt8 → List (List UInt8)
  | [] => [[]]
  | b :: l => if b = 10 then [] :: splF l else pushH b (splF l)
theorem splF_ne (l : List UInt8) : splF l ≠ [] := by
  cases l with
  | nil => simp [splF]
  | cons b l => rw [splF]; split; simp; cases splF l <;> simp [pushH]
theorem pre10 (b : UInt8) (l : List UInt8) : ([10] : List UInt8).isPrefixOf (b :: l) = true ↔ b = 10 := by simp [List.isPrefixOf]; exact eq_comm
theorem splF_miss (s : List UInt8) (h : Lib.index s [10] = -1) : splF s = [s] := by
  induction s with
  | nil => rfl
  | cons b l ih =>
    rw [Lib.index] at h
    have hg := Lib.index_ge l [10]
    split at h
    · omega
    · rename_i hp
      split at h
      · rename_i hm
        rw [splF, if_neg (fun z => hp ((pre10 b l).2 z)), ih (beq_iff_eq.1 hm)]; rfl
      · omega
theorem splF_hit (s : List UInt8) : ∀ i : Nat, Lib.index s [10] = i → splF s = s.take i :: splF (s.drop (i + 1)) := by
  induction s with
  | nil => intro i h; simp [Lib.index] at h
  | cons b l ih =>
    intro i h
    rw [Lib.index] at h
    have hg := Lib.index_ge l [10]
    split at h
    · rename_i hp
      have hi : i = 0 := by omega
      subst hi
      rw [splF, if_pos ((pre10 b l).1 hp)]; rfl
    · rename_i hp
      split at h
      · omega
      · rename_i hm
        have hne : Lib.index l [10] ≠ -1 := fun z => hm (beq_iff_eq.2 z)
        obtain ⟨j, rfl⟩ : ∃ j, i = j + 1 := ⟨i - 1, by omega⟩
        rw [splF, if_neg (fun z => hp ((pre10 b l).2 z)), ih j (by omega), List.take_succ_cons, List.drop_succ_cons]; rfl
theorem splitB_spl (sep : ByteArray) (hsep : sep.data.toList = [10]) (k : Nat) : ∀ s : ByteArray, Lib.countB s sep = k → (Lib.splitB sep 0 k s).map (·.data.toList) = splF s.data.toList := by
  have hs1 : sep.size = 1 := by show sep.data.size = 1; rw [← Array.length_toList, hsep]; rfl
  have hi : ∀ s : ByteArray, Lib.indexB s sep = Lib.index s.data.toList [10] := by intro s; unfold Lib.indexB; rw [hsep]
  induction k with
  | zero =>
    intro s h
    rcases Lib.index_spec s.data.toList [10] with ⟨h1, _⟩ | ⟨i, h1, _⟩
    · rw [splF_miss _ h1]; rfl
    · rw [Lib.countB_hit s sep i (by omega) (by rw [hi]; exact h1)] at h; omega
  | succ k ih =>
    intro s h
    rcases Lib.index_spec s.data.toList [10] with ⟨h1, _⟩ | ⟨i, h1, _⟩
    · rw [Lib.countB_miss s sep (by rw [hi]; exact h1)] at h; omega
    · have hc := Lib.countB_hit s sep i (by omega) (by rw [hi]; exact h1)
      rw [Lib.splitB_hit sep 0 k s i (by rw [hi]; exact h1), List.map_cons, ih _ (by omega), splF_hit _ i h1]
      have e1 : (s.extract 0 (i + 0)).data.toList = s.data.toList.take i := by rw [extract_mk]; simp
      have e2 : (s.extract (i + sep.size) s.size).data.toList = s.data.toList.drop (i + 1) := by
        rw [extract_mk, hs1, List.toList_toArray, List.take_of_length_le (by rw [Array.length_toList]; exact Nat.le_refl _)]
      rw [e1, e2]
/-- The lines of a text: behind 13 10, 13 or 10 a new one begins; p: the byte ahead was a 13. -/
def lnS : Bool → List UInt8 → List (List UInt8)
  | _, [] => [[]]
  | p, b :: l => if p = true ∧ b = 10 then lnS false l else if b = 13 then [] :: lnS true l else if b = 10 then [] :: lnS false l else pushH b (lnS false l)
theorem repF_skip (old new : List UInt8) (b : UInt8) (l : List UInt8) (h : ¬ old.isPrefixOf (b :: l) = true) : repF old new (b :: l) = b :: repF old new l := by
  rw [repF, if_neg (fun z => h z.2)]
theorem repF_take (old new : List UInt8) (hold : old ≠ []) (b : UInt8) (l : List UInt8) (h : old.isPrefixOf (b :: l) = true) : repF old new (b :: l) = new ++ repF old new ((b :: l).drop old.length) := by
  rw [repF, if_pos ⟨hold, h⟩]
theorem pre13 (b : UInt8) (l : List UInt8) : ([13] : List UInt8).isPrefixOf (b :: l) = true ↔ b = 13 := by simp [List.isPrefixOf]; exact eq_comm
theorem lnS_head (l : List UInt8) (h : ∀ c r, l = c :: r → c ≠ 10) : lnS true l = lnS false l := by
  cases l with
  | nil => rfl
  | cons c r => have := h c r rfl; simp [lnS, this]
theorem lines_eq (n : Nat) : ∀ s : List UInt8, s.length ≤ n → splF (repF [13] [10] (repF [13, 10] [10] s)) = lnS false s := by
  induction n with
  | zero =>
    intro s h
    obtain rfl : s = [] := List.eq_nil_of_length_eq_zero (by omega)
    rw [repF, repF]; rfl
  | succ n ih =>
    intro s h
    cases s with
    | nil => rw [repF, repF]; rfl
    | cons b l =>
      rw [List.length_cons] at h
      have k10 : ∀ X, splF (repF [13] [10] (10 :: X)) = [] :: splF (repF [13] [10] X) := by
        intro X
        rw [repF_skip [13] [10] 10 X (by rw [pre13]; decide), splF, if_pos rfl]
      by_cases hb : b = 13
      · subst hb
        by_cases hc : ∃ r, l = 10 :: r
        · obtain ⟨r, rfl⟩ := hc
          rw [repF_take [13, 10] [10] (by simp) 13 (10 :: r) (by simp [List.isPrefixOf])]
          show splF (repF [13] [10] (10 :: repF [13, 10] [10] r)) = _
          rw [k10, ih r (by simp at h; omega)]
          simp [lnS]
        · have hh : ∀ c r, l = c :: r → c ≠ 10 := by
            rintro c r rfl rfl; exact hc ⟨r, rfl⟩
          have hp : ¬ ([13, 10] : List UInt8).isPrefixOf (13 :: l) = true := by
            cases l with
            | nil => simp [List.isPrefixOf]
            | cons c r =>
              have := hh c r rfl
              simp [List.isPrefixOf]; exact fun z => this z.symm
          rw [repF_skip [13, 10] [10] 13 l hp, repF_take [13] [10] (by simp) 13 _ (by rw [pre13])]
          show splF (10 :: repF [13] [10] (repF [13, 10] [10] l)) = _
          rw [splF, if_pos rfl, ih l (by omega), ← lnS_head l hh]
          simp [lnS]
      · have hp : ¬ ([13, 10] : List UInt8).isPrefixOf (b :: l) = true := by
          simp only [List.isPrefixOf, Bool.and_eq_true, beq_iff_eq]
          exact fun z => hb z.1.symm
        rw [repF_skip [13, 10] [10] b l hp, repF_skip [13] [10] b _ (by rw [pre13]; exact hb)]
        by_cases h10 : b = 10
        · subst h10
          rw [splF, if_pos rfl, ih l (by omega)]
          simp [lnS]
        · rw [splF, if_neg h10, ih l (by omega)]
          simp [lnS, hb, h10]
def asB (L : List (List UInt8)) : List ByteArray := L.map fun l => ⟨l.toArray⟩

theorem repF_len (old new : List UInt8) (h : new.length ≤ old.length) (n : Nat) : ∀ l : List UInt8, l.length ≤ n → (repF old new l).length ≤ l.length := by
  induction n with
  | zero =>
    intro l hl
    obtain rfl : l = [] := List.eq_nil_of_length_eq_zero (by omega)
    rw [repF]; simp
  | succ n ih =>
    intro l hl
    cases l with
    | nil => rw [repF]; simp
    | cons b l =>
      rw [List.length_cons] at hl
      rw [repF]
      split
      · rename_i hp
        have hpl : old.length ≤ (b :: l).length := (List.isPrefixOf_iff_prefix.1 hp.2).length_le
        have h0 := List.length_pos_iff.2 hp.1
        have := ih ((b :: l).drop old.length) (by rw [List.length_drop, List.length_cons]; omega)
        rw [List.length_append]
        rw [List.length_drop] at this
        rw [List.length_cons] at hpl this ⊢
        omega
      · have := ih l (by omega)
        simp only [List.length_cons]; omega
theorem replace_eq (s old new : ByteArray) (hold : old.data.toList ≠ []) (hne : old.data.toList ≠ new.data.toList) (h1 : 1 ≤ old.size) (hn : new.size ≤ 1) (hs : s.size ≤ 4000000) : strings_ReplaceAll.f s old new = some ⟨(repF old.data.toList new.data.toList s.data.toList).toArray⟩ := by
  have hc := Lib.countB_le old h1 s.size s (Nat.le_refl _)
  have hm : Lib.countB s old * new.size ≤ s.size * 1 := Nat.mul_le_mul hc hn
  unfold strings_ReplaceAll.f
  rw [if_pos ⟨by omega, h1, by omega⟩, replaceAll_rep _ _ _ hold hne]
theorem impl_LinesIn.eq (s : ByteArray) (hs : s.size ≤ 4000000) : impl_LinesIn.f s = some (asB (lnS false s.data.toList)) := by
  have hl : s.data.toList.length = s.size := by rw [Array.length_toList]; rfl
  have r1 := repF_len [13, 10] [10] (by decide) _ s.data.toList (Nat.le_refl _)
  obtain ⟨t, ht⟩ : ∃ t : ByteArray, (⟨(repF [13, 10] [10] s.data.toList).toArray⟩ : ByteArray) = t := ⟨_, rfl⟩
  have htl : t.data.toList = repF [13, 10] [10] s.data.toList := by rw [← ht]
  have htz : t.size ≤ 4000000 := by show t.data.size ≤ _; rw [← Array.length_toList, htl]; omega
  have r2 := repF_len [13] [10] (by decide) _ t.data.toList (Nat.le_refl _)
  obtain ⟨u, hu⟩ : ∃ u : ByteArray, (⟨(repF [13] [10] t.data.toList).toArray⟩ : ByteArray) = u := ⟨_, rfl⟩
  have hul : u.data.toList = repF [13] [10] t.data.toList := by rw [← hu]
  have htl2 : t.data.toList.length = t.size := by rw [Array.length_toList]; rfl
  have huz : u.size ≤ 4000000 := by show u.data.size ≤ _; rw [← Array.length_toList, hul]; omega
  have f1 := replace_eq s (⟨#[13, 10]⟩ : ByteArray) (⟨#[10]⟩ : ByteArray) (by decide) (by decide) (by decide) (by decide) hs
  have f2 := replace_eq t (⟨#[13]⟩ : ByteArray) (⟨#[10]⟩ : ByteArray) (by decide) (by decide) (by decide) (by decide) htz
  have f1 : strings_ReplaceAll.f s (⟨#[13, 10]⟩ : ByteArray) (⟨#[10]⟩ : ByteArray) = some t := f1.trans (congrArg some ht)
  have f2 : strings_ReplaceAll.f t (⟨#[13]⟩ : ByteArray) (⟨#[10]⟩ : ByteArray) = some u := f2.trans (congrArg some hu)
  have hcu := Lib.countB_le (⟨#[10]⟩ : ByteArray) (by decide) u.size u (Nat.le_refl _)
  have f3 : strings_Split.f u (⟨#[10]⟩ : ByteArray) = some (Lib.splitB (⟨#[10]⟩ : ByteArray) 0 (Lib.countB u (⟨#[10]⟩ : ByteArray)) u) := by
    unfold strings_Split.f
    rw [if_pos ⟨by omega, by decide, Lib.splitB_all (⟨#[10]⟩ : ByteArray) (by decide) 0 _ u rfl, by unfold maxLen; omega⟩]
  have hsp := splitB_spl (⟨#[10]⟩ : ByteArray) rfl _ u rfl
  have hfin : Lib.splitB (⟨#[10]⟩ : ByteArray) 0 (Lib.countB u (⟨#[10]⟩ : ByteArray)) u = asB (lnS false s.data.toList) := by
    rw [← lines_eq _ s.data.toList (Nat.le_refl _), ← htl, ← hul, ← hsp]
    unfold asB
    rw [List.map_map]
    conv => lhs; rw [← List.map_id (Lib.splitB (⟨#[10]⟩ : ByteArray) 0 (Lib.countB u (⟨#[10]⟩ : ByteArray)) u)]
    apply List.map_congr_left
    intro x _
    rfl
  unfold impl_LinesIn.f
  rw [f1, Option.bind_some, f2, Option.bind_some, f3, Option.bind_some, hfin]

def blB (x : Int) : Bool := x == 32 || x == 9
/-- How many blanks stand at the begin. -/
def indN (l : List Int) : Nat := (l.takeWhile blB).length
theorem indN_cons (x : Int) (r : List Int) : indN (x :: r) = if blB x = true then indN r + 1 else 0 := by
  unfold indN; rw [List.takeWhile_cons]; cases blB x <;> simp
theorem indN_le (l : List Int) : indN l ≤ l.length := (List.takeWhile_sublist blB).length_le
theorem trimLeft_len (l : List UInt8) : (Lib.trimLeftS l [32, 9]).length + indN (l.map fun b => (b.toNat : Int)) = l.length := by
  unfold Lib.trimLeftS
  induction l with
  | nil => rfl
  | cons b l ih =>
    have e : blB (b.toNat : Int) = ([32, 9] : List UInt8).contains b := by
      unfold blB
      rw [Bool.eq_iff_iff]
      simp only [Bool.or_eq_true, beq_iff_eq, List.contains_cons, List.contains_nil, Bool.or_false]
      constructor
      · rintro (h | h)
        · left; apply UInt8.toNat_inj.1; show b.toNat = 32; omega
        · right; apply UInt8.toNat_inj.1; show b.toNat = 9; omega
      · rintro (h | h)
        · left; subst h; rfl
        · right; subst h; rfl
    rw [List.dropWhile_cons, List.map_cons, indN_cons, e, List.length_cons]
    cases h : ([32, 9] : List UInt8).contains b with
    | true => simp only [if_true]; omega
    | false => simp

theorem impl_Indent.eq (s : ByteArray) (hs : s.size ≤ 140737488351232) : impl_Indent.f s = some ((indN (bytesOf s) : Nat) : Int) := by
  have h := trimLeft_len s.data.toList
  have hl : s.data.toList.length = s.size := by rw [Array.length_toList]; rfl
  have e : (⟨(Lib.trimLeftS s.data.toList [32, 9]).toArray⟩ : ByteArray).size = (Lib.trimLeftS s.data.toList [32, 9]).length := by
    show (Lib.trimLeftS s.data.toList [32, 9]).toArray.size = _; simp
  have hb : bytesOf s = s.data.toList.map fun b => (b.toNat : Int) := rfl
  unfold impl_Indent.f strings_TrimLeft.f
  rw [if_pos ⟨by omega, by decide, by decide⟩]
  show some (wrap64 ((s.size : Int) - ((⟨(Lib.trimLeftS s.data.toList [32, 9]).toArray⟩ : ByteArray).size : Int))) = _
  rw [e, hb, w64 (by omega) (by omega)]
  congr 1; omega

theorem lnS_ne (l : List UInt8) : ∀ p, lnS p l ≠ [] := by
  induction l with
  | nil => intro p; simp [lnS]
  | cons b l ih =>
    intro p
    rw [lnS]
    split
    · exact ih _
    · split
      · simp
      · split
        · simp
        · cases lnS false l <;> simp [pushH]
/-- The lines, as both sides tell them. -/
def linesB (s : ByteArray) : List ByteArray := asB (lnS false s.data.toList)
theorem linesB_len (s : ByteArray) : (linesB s).length ≤ s.size + 1 := by
  have h : ∀ (l : List UInt8) (p : Bool), (lnS p l).length ≤ l.length + 1 := by
    intro l
    induction l with
    | nil => intro p; simp [lnS]
    | cons b l ih =>
      intro p
      have h1 := ih false
      have h2 := ih true
      rw [lnS]
      split
      · simp only [List.length_cons]; omega
      · split
        · simp only [List.length_cons]; omega
        · split
          · simp only [List.length_cons]; omega
          · cases hq : lnS false l with
            | nil => simp [pushH]
            | cons a t => rw [hq] at h1; simp only [pushH, List.length_cons] at h1 ⊢; omega
  have := h s.data.toList false
  unfold linesB asB
  rw [List.length_map]
  have hl : s.data.toList.length = s.size := by rw [Array.length_toList]; rfl
  omega
theorem linesB_ne (s : ByteArray) : linesB s ≠ [] := by
  unfold linesB asB
  intro h
  exact lnS_ne s.data.toList false (List.map_eq_nil_iff.1 h)
theorem linesB_size (s : ByteArray) : ∀ x ∈ linesB s, x.size ≤ s.size := by
  have h : ∀ (l : List UInt8) (p : Bool), ∀ x ∈ lnS p l, x.length ≤ l.length := by
    intro l
    induction l with
    | nil => intro p x hx; simp [lnS] at hx; subst hx; simp
    | cons b l ih =>
      intro p x hx
      rw [lnS] at hx
      rw [List.length_cons]
      split at hx
      · have := ih _ x hx; omega
      · split at hx
        · rcases List.mem_cons.1 hx with rfl | hx
          · simp
          · have := ih _ x hx; omega
        · split at hx
          · rcases List.mem_cons.1 hx with rfl | hx
            · simp
            · have := ih _ x hx; omega
          · cases hq : lnS false l with
            | nil => rw [hq] at hx; simp [pushH] at hx; subst hx; simp
            | cons a t =>
              rw [hq] at hx
              rcases List.mem_cons.1 hx with rfl | hx
              · have := ih false a (by rw [hq]; simp); simp; omega
              · have := ih false x (by rw [hq]; simp [hx]); omega
  intro x hx
  obtain ⟨l, hl, rfl⟩ := List.mem_map.1 hx
  have := h s.data.toList false l hl
  have e : (⟨l.toArray⟩ : ByteArray).size = l.length := by show l.toArray.size = _; simp
  have hz : s.data.toList.length = s.size := by rw [Array.length_toList]; rfl
  omega

theorem str_append (a b : List Int) : strOfNums a ++ strOfNums b = strOfNums (a ++ b) := by
  unfold strOfNums
  apply ByteArray.ext
  rw [ByteArray.data_append]; simp
theorem str_size (a : List Int) : (strOfNums a).size = a.length := by
  unfold strOfNums
  show (List.toArray _).size = _
  simp
theorem str_one (s : ByteArray) (i : Int) (h0 : 0 ≤ i) (h1 : i < (s.size : Int)) : s.extract i.toNat (i + 1).toNat = strOfNums [bt s i] := by
  apply bytes_inj
  have hr := bt_range s i
  rw [bytes_extract, bytes_strOfNums _ (by intro x hx; simp at hx; subst hx; exact hr)]
  have ht := tl_cons h0 h1
  unfold tl at ht
  rw [List.drop_take, ht, show (i + 1).toNat - i.toNat = 1 from by omega]; rfl

def bareB (s : ByteArray) : Bool := decide (indN (bytesOf s) = s.size)
/-- The least indent of the lines that are not bare; m: of those ahead; -1: there is none. -/
def leastF : Int → List ByteArray → Int
  | m, [] => m
  | m, s :: r => leastF (if bareB s = false ∧ (m < 0 ∨ (indN (bytesOf s) : Int) < m) then (indN (bytesOf s) : Int) else m) r
def cutN (m : Int) (s : ByteArray) : Nat := (max 0 (min m (indN (bytesOf s) : Int))).toNat
def cutF (m : Int) (s : ByteArray) : ByteArray := s.extract (cutN m s) s.size
def joinL : List (List Int) → List Int
  | [] => []
  | [x] => x
  | x :: y :: r => x ++ 10 :: joinL (y :: r)
def trimR (L : List ByteArray) : List ByteArray := (L.reverse.dropWhile bareB).reverse
def joinB (L : List ByteArray) : ByteArray := strOfNums (joinL (L.map bytesOf))
def blockV : List ByteArray → ByteArray
  | [] => (⟨#[]⟩ : ByteArray)
  | h :: t => joinB (trimR ((h :: t.map (cutF (leastF (-1) t))).dropWhile bareB))
theorem indN_size (s : ByteArray) : indN (bytesOf s) ≤ s.size := by have := indN_le (bytesOf s); rwa [size_bytes] at this
theorem cutF_size (m : Int) (s : ByteArray) : (cutF m s).size ≤ s.size := by unfold cutF; rw [size_extract]; omega
theorem leastF_range (B : Int) (L : List ByteArray) (h : ∀ s ∈ L, (s.size : Int) ≤ B) : ∀ m, -1 ≤ m → m ≤ B → -1 ≤ leastF m L ∧ leastF m L ≤ B := by
  induction L with
  | nil => intro m h0 h1; exact ⟨h0, h1⟩
  | cons s r ih =>
    intro m h0 h1
    have hs := h s (by simp)
    have hi := indN_size s
    exact ih (fun x hx => h x (by simp [hx])) _ (by split <;> omega) (by split <;> omega)
theorem joinL_snoc (M : List (List Int)) (x : List Int) (h : M ≠ []) : joinL (M ++ [x]) = joinL M ++ 10 :: x := by
  induction M with
  | nil => exact absurd rfl h
  | cons a M ih =>
    cases M with
    | nil => rfl
    | cons b M =>
      have := ih (by simp)
      rw [List.cons_append] at this ⊢
      rw [List.cons_append, joinL, joinL, this]; simp
theorem joinL_len (B : Nat) (M : List (List Int)) (h : ∀ x ∈ M, x.length ≤ B) : (joinL M).length ≤ M.length * (B + 1) := by
  induction M with
  | nil => simp [joinL]
  | cons a M ih =>
    cases M with
    | nil => have := h a (by simp); simp [joinL]; omega
    | cons b M =>
      have h1 := ih fun x hx => h x (by simp [hx])
      have h2 := h a (by simp)
      rw [joinL, List.length_append, List.length_cons]
      rw [show (a :: b :: M).length * (B + 1) = (b :: M).length * (B + 1) + (B + 1) from by rw [show (a :: b :: M).length = (b :: M).length + 1 from rfl, Nat.add_mul, Nat.one_mul]]
      omega
theorem rd_mid (A B : List ByteArray) (b : ByteArray) : rdOf ByteArray.empty (A ++ b :: B) ((A.length : Nat) : Int) = b := by
  unfold rdOf
  rw [Int.toNat_natCast, List.getD_eq_getElem?_getD, List.getElem?_append_right (Nat.le_refl _)]; simp
theorem set_mid (A B : List ByteArray) (b c : ByteArray) : (A ++ b :: B).set ((A.length : Nat) : Int).toNat c = A ++ c :: B := by
  rw [Int.toNat_natCast, List.set_append_right _ _ (Nat.le_refl _)]; simp
theorem trimR_nil : trimR [] = [] := rfl
theorem trimR_snoc (M : List ByteArray) (s : ByteArray) : trimR (M ++ [s]) = if bareB s = true then trimR M else M ++ [s] := by
  unfold trimR
  rw [List.reverse_append, List.reverse_singleton, List.singleton_append, List.dropWhile_cons]
  split
  · rfl
  · simp
theorem bareB_eq (s : ByteArray) : bareB s = (((indN (bytesOf s) : Nat) : Int) == (s.size : Int)) := by
  unfold bareB
  rw [Bool.eq_iff_iff, decide_eq_true_eq, beq_iff_eq]; omega

theorem impl_bare.eq (s : ByteArray) (hs : s.size ≤ 140737488351232) : impl_bare.f s = some (bareB s) := by
  unfold impl_bare.f
  rw [impl_Indent.eq s hs, bareB_eq]; rfl

theorem join_ints (L : List ByteArray) : (Lib.join (L.map (·.data.toList)) [10]).map (fun b => (b.toNat : Int)) = joinL (L.map bytesOf) := by
  have tail : ∀ (L : List ByteArray) (x : ByteArray), (x.data.toList ++ Lib.joinTail [10] (L.map (·.data.toList))).map (fun b => (b.toNat : Int)) = joinL (bytesOf x :: L.map bytesOf) := by
    intro L
    induction L with
    | nil => intro x; simp [Lib.joinTail, joinL, bytesOf]
    | cons y L ih =>
      intro x
      have h := ih y
      rw [List.map_cons (f := bytesOf), joinL, ← h]
      simp [Lib.joinTail, bytesOf]
  cases L with
  | nil => rfl
  | cons x L => rw [List.map_cons, Lib.join_cons, tail]; rfl
theorem strings_Join.eq (L : List ByteArray) (hl : L.length ≤ 4000000) (h : ∀ s ∈ L, s.size ≤ 4000000) : strings_Join.f L (⟨#[10]⟩ : ByteArray) = some (joinB L) := by
  have hi := join_ints L
  have hb := joinL_len 4000000 (L.map bytesOf) (by
    intro x hx
    obtain ⟨s, hs, rfl⟩ := List.mem_map.1 hx
    rw [size_bytes]; exact h s hs)
  rw [List.length_map] at hb
  have hlen : (Lib.join (L.map (·.data.toList)) [10]).length = (joinL (L.map bytesOf)).length := by rw [← hi, List.length_map]
  have hbig : L.length * (4000000 + 1) ≤ 4000000 * 4000001 := Nat.mul_le_mul_right _ hl
  unfold strings_Join.f
  rw [if_pos ⟨by omega, by show (Lib.join (L.map (·.data.toList)) [10]).length ≤ _; omega⟩]
  congr 1
  apply bytes_inj
  have e : bytesOf (⟨(Lib.join (L.map (·.data.toList)) [10]).toArray⟩ : ByteArray) = joinL (L.map bytesOf) := by rw [bytes_mk]; exact hi
  have e2 : bytesOf (joinB L) = joinL (L.map bytesOf) := by
    unfold joinB
    rw [← hi]
    apply bytes_strOfNums
    intro x hx
    obtain ⟨b, _, rfl⟩ := List.mem_map.1 hx
    have := b.toNat_lt
    omega
  exact e.trans e2.symm

theorem impl_BlockValue.l3_ev (hN : Nat) (n : Nat) : ∀ M : List ByteArray, M.length = n → M.length ≤ hN → hN ≤ 4000000 → (∀ s ∈ M, s.size ≤ 4000000) → Ev (fun k => impl_BlockValue.l3 k M) (joinB (trimR M)) := by
  induction n with
  | zero =>
    intro M hn h1 h2 hM
    obtain rfl := List.eq_nil_of_length_eq_zero hn
    apply Ev.succ; simp only [impl_BlockValue.l3]
    exact Ev.ite_neg (by simp) (Ev.bindc (strings_Join.eq [] (by simp) (by simp)) (Ev.done rfl))
  | succ n ih =>
    intro M hn h1 h2 hM
    obtain ⟨M', s, rfl⟩ : ∃ M' s, M = M' ++ [s] := ⟨M.dropLast, M.getLast (by rintro rfl; simp at hn), (List.dropLast_concat_getLast _).symm⟩
    have hl : (M' ++ [s]).length = M'.length + 1 := by simp
    have hw : wrap64 (((M' ++ [s]).length : Int) - 1) = ((M'.length : Nat) : Int) := by rw [hl, w64 (by omega) (by omega)]; omega
    have hs := hM s (by simp)
    apply Ev.succ; simp only [impl_BlockValue.l3]
    rw [hw, rd_mid]
    refine Ev.ite_pos (by omega) (Ev.ite_pos (by omega) (Ev.ite_pos (by omega) (Ev.bindc (impl_bare.eq s (by omega)) ?_)))
    rw [trimR_snoc]
    cases hb : bareB s with
    | true =>
      rw [if_pos rfl]
      refine Ev.ite_pos rfl (Ev.ite_pos (by omega) ?_)
      rw [Int.toNat_natCast, List.take_left]
      exact ih M' (by omega) (by omega) h2 (fun x hx => hM x (by simp [hx]))
    | false =>
      rw [if_neg (by decide)]
      exact Ev.ite_neg (by decide) (Ev.bindc (strings_Join.eq _ (by omega) hM) (Ev.done rfl))
theorem impl_BlockValue.l2_ev (M : List ByteArray) : M.length ≤ 4000000 → (∀ s ∈ M, s.size ≤ 4000000) → Ev (fun k => impl_BlockValue.l2 k M) (joinB (trimR (M.dropWhile bareB))) := by
  have j3 : ∀ M : List ByteArray, M.length ≤ 4000000 → (∀ s ∈ M, s.size ≤ 4000000) → Ev (fun k => impl_BlockValue.j3 k M) (joinB (trimR M)) := by
    intro M h1 h2
    apply Ev.succ; simp only [impl_BlockValue.j3]
    exact impl_BlockValue.l3_ev M.length M.length M rfl (Nat.le_refl _) h1 h2
  induction M with
  | nil =>
    intro h1 h2
    apply Ev.succ; simp only [impl_BlockValue.l2]
    exact Ev.ite_neg (by simp) (j3 [] h1 h2)
  | cons s M ih =>
    intro h1 h2
    have hs := h2 s (by simp)
    rw [List.length_cons] at h1
    apply Ev.succ; simp only [impl_BlockValue.l2]
    have hrd : rdOf ByteArray.empty (s :: M) 0 = s := rd_mid [] M s
    rw [hrd, List.dropWhile_cons]
    refine Ev.ite_pos (by rw [List.length_cons]; omega) (Ev.ite_pos (by rw [List.length_cons]; omega) (Ev.bindc (impl_bare.eq s (by omega)) ?_))
    cases hb : bareB s with
    | true =>
      rw [if_pos rfl]
      exact Ev.ite_pos rfl (Ev.ite_pos (by rw [List.length_cons]; omega) (ih (by omega) (fun x hx => h2 x (by simp [hx]))))
    | false =>
      rw [if_neg (by decide)]
      exact Ev.ite_neg (by decide) (j3 (s :: M) (by rw [List.length_cons]; omega) h2)
theorem mx_mn (m : Int) (s : ByteArray) : mx 0 (mn m (indN (bytesOf s) : Int)) = ((cutN m s : Nat) : Int) := by
  unfold mx mn cutN
  split <;> split <;> omega
theorem impl_BlockValue.l1_ev (m : Int) (hm0 : -1 ≤ m) (hm1 : m ≤ 4000000) (B : List ByteArray) : ∀ A : List ByteArray, (A ++ B).length ≤ 4000000 → (∀ s ∈ A ++ B, s.size ≤ 4000000) → Ev (fun k => impl_BlockValue.l1 k (A ++ B) m ((A.length : Nat) : Int)) (joinB (trimR ((A ++ B.map (cutF m)).dropWhile bareB))) := by
  induction B with
  | nil =>
    intro A h1 h2
    apply Ev.succ; simp only [impl_BlockValue.l1]
    rw [List.append_nil] at h1 h2 ⊢
    rw [List.map_nil, List.append_nil]
    exact Ev.ite_neg (by omega) (impl_BlockValue.l2_ev A h1 h2)
  | cons s B ih =>
    intro A h1 h2
    have hs := h2 s (by simp)
    have hc := indN_size s
    rw [List.length_append, List.length_cons] at h1
    apply Ev.succ; simp only [impl_BlockValue.l1]
    rw [rd_mid, w64 (x := ((A.length : Nat) : Int) + 1) (by omega) (by omega)]
    refine Ev.ite_pos (by rw [List.length_append, List.length_cons]; omega) (Ev.ite_pos (by omega) (Ev.bindc (impl_Indent.eq s (by omega)) ?_))
    rw [mx_mn, set_mid, Int.toNat_natCast]
    have hcn : cutN m s ≤ s.size := by unfold cutN; omega
    refine Ev.ite_pos (by omega) (Ev.ite_pos (by omega) ?_)
    have hE := ih (A ++ [cutF m s]) (by rw [List.length_append, List.length_append]; simp; omega) (by
      intro x hx
      rcases List.mem_append.1 hx with hx | hx
      · rcases List.mem_append.1 hx with hx | hx
        · exact h2 x (by simp [hx])
        · simp at hx; subst hx; have := cutF_size m s; omega
      · exact h2 x (by simp [hx]))
    rw [List.length_append, List.length_singleton, List.append_assoc, List.append_assoc, List.singleton_append, List.singleton_append, show ((A.length + 1 : Nat) : Int) = ((A.length : Nat) : Int) + 1 from by omega] at hE
    rw [List.map_cons]
    exact hE
theorem impl_BlockValue.l0_ev (L : List ByteArray) (R : ByteArray) (B : List ByteArray) : ∀ (A : List ByteArray) (m : Int), -1 ≤ m → m ≤ 4000000 → (A ++ B).length ≤ 4000000 → (∀ s ∈ A ++ B, s.size ≤ 4000000) →
    Ev (fun k => impl_BlockValue.l1 k L (leastF m B) 1) R → Ev (fun k => impl_BlockValue.l0 k L m (A ++ B) ((A ++ B).length : Int) ((A.length : Nat) : Int)) R := by
  induction B with
  | nil =>
    intro A m hm0 hm1 h1 h2 hE
    apply Ev.succ; simp only [impl_BlockValue.l0]
    exact Ev.ite_neg (by rw [List.append_nil]; omega) hE
  | cons s B ih =>
    intro A m hm0 hm1 h1 h2 hE
    have hs := h2 s (by simp)
    have hc := indN_size s
    have hsplit : A ++ s :: B = (A ++ [s]) ++ B := by simp
    have hlen : ((A ++ [s]).length : Int) = ((A.length : Nat) : Int) + 1 := by simp
    have next : ∀ m', m' = (if bareB s = false ∧ (m < 0 ∨ (indN (bytesOf s) : Int) < m) then (indN (bytesOf s) : Int) else m) → Ev (fun k => impl_BlockValue.l0 k L m' (A ++ s :: B) ((A ++ s :: B).length : Int) (((A.length : Nat) : Int) + 1)) R := by
      rintro m' rfl
      have := ih (A ++ [s]) _ (by split <;> omega) (by split <;> omega) (by rw [← hsplit]; exact h1) (by rw [← hsplit]; exact h2) hE
      rw [← hsplit, hlen] at this
      exact this
    rw [List.length_append, List.length_cons] at h1
    apply Ev.succ; simp only [impl_BlockValue.l0]
    rw [rd_mid, w64 (x := ((A.length : Nat) : Int) + 1) (by omega) (by omega)]
    refine Ev.ite_pos (by rw [List.length_append, List.length_cons]; omega) (Ev.ite_pos (by omega) (Ev.ite_pos (by rw [List.length_append, List.length_cons]; omega) (Ev.bindc (impl_bare.eq s (by omega)) ?_)))
    cases hb : bareB s with
    | true => exact Ev.ite_pos rfl (next m (by rw [if_neg (by rw [hb]; simp)]))
    | false =>
      refine Ev.ite_neg (by decide) ?_
      by_cases c : m < 0
      · exact Ev.ite_pos c (Ev.bindc (impl_Indent.eq s (by omega)) (next _ (by rw [if_pos ⟨hb, Or.inl c⟩])))
      · refine Ev.ite_neg c (Ev.bindc (impl_Indent.eq s (by omega)) ?_)
        by_cases d : (indN (bytesOf s) : Int) < m
        · exact Ev.ite_pos d (Ev.bindc (impl_Indent.eq s (by omega)) (next _ (by rw [if_pos ⟨hb, Or.inr d⟩])))
        · exact Ev.ite_neg d (next m (by rw [if_neg (fun z => z.2.elim c d)]))
theorem impl_BlockValue.ev (s : ByteArray) (hs : s.size ≤ 3000000) : Ev (fun k => impl_BlockValue.f k s) (blockV (linesB s)) := by
  have hl := linesB_len s
  have hz := linesB_size s
  have hne := linesB_ne s
  have hI : impl_LinesIn.f s = some (linesB s) := impl_LinesIn.eq s (by omega)
  unfold impl_BlockValue.f
  refine Ev.bindc hI ?_
  generalize linesB s = L at *
  cases L with
  | nil => exact absurd rfl hne
  | cons h t =>
    have hz' : ∀ x ∈ h :: t, x.size ≤ 4000000 := fun x hx => by have := hz x hx; omega
    rw [List.length_cons] at hl
    have hr := leastF_range 4000000 t (fun x hx => by have := hz' x (by simp [hx]); omega) (-1) (by omega) (by omega)
    refine Ev.ite_pos (by rw [List.length_cons]; omega) (Ev.bindc rfl ?_)
    show Ev (fun k => impl_BlockValue.l0 k (h :: t) (-1) t (t.length : Int) 0) _
    have h1 := impl_BlockValue.l1_ev (leastF (-1) t) hr.1 hr.2 t [h] (by simp; omega) (by simpa using hz')
    have h0 := impl_BlockValue.l0_ev (h :: t) (blockV (h :: t)) t [] (-1) (by omega) (by omega) (by simp; omega) (fun x hx => hz' x (by simp at hx; simp [hx])) h1
    exact h0

theorem impl_in.eq (x a b : Int) : impl_in.f x a b = some (decide (a ≤ x ∧ x ≤ b)) := by
  unfold impl_in.f
  by_cases h : x ≥ a
  · rw [if_pos h]; congr 1; rw [Bool.eq_iff_iff]; simp only [decide_eq_true_eq, Bool.or_eq_true, beq_iff_eq, Bool.false_eq_true, true_iff, false_iff]; omega
  · rw [if_neg h]; congr 1; rw [Bool.eq_iff_iff]; simp only [decide_eq_true_eq, Bool.or_eq_true, beq_iff_eq, Bool.false_eq_true, true_iff, false_iff]; omega

/-- Does a list begin with p. -/
def preB (p l : List Int) : Bool := l.take p.length == p
theorem preB_length {p l : List Int} (h : preB p l = true) : p.length ≤ l.length := by
  unfold preB at h; rw [beq_iff_eq] at h
  have := congrArg List.length h
  rw [List.length_take] at this; omega

theorem stringslite_HasPrefix.eq (a b : ByteArray) : stringslite_HasPrefix.f a b = some (preB (bytesOf b) (bytesOf a)) := by
  have la := size_bytes a
  have lb := size_bytes b
  unfold stringslite_HasPrefix.f
  by_cases h : (a.size : Int) ≥ (b.size : Int)
  · rw [if_pos h, if_pos (by omega), if_pos (by omega), toList_beq, bytes_extract]
    unfold preB; simp [lb]
  · rw [if_neg h]
    cases hp : preB (bytesOf b) (bytesOf a) with
    | false => rfl
    | true => have := preB_length hp; omega

theorem strings_HasPrefix.eq (a b : ByteArray) : strings_HasPrefix.f a b = some (preB (bytesOf b) (bytesOf a)) := by
  unfold strings_HasPrefix.f; rw [stringslite_HasPrefix.eq]; rfl

/-- Where a block ends, from place i on; k: bytes that are passed over. -/
def blkE : Nat → List Int → Int → Int
  | _, [], _ => -1
  | k + 1, _ :: r, i => blkE k r (i + 1)
  | 0, x :: r, i => if preB [92, 34, 34, 34] (x :: r) = true then blkE 3 r (i + 1) else if preB [34, 34, 34] (x :: r) = true then i + 3 else blkE 0 r (i + 1)
def blkEndL (s : ByteArray) (i : Int) : Int := if 0 ≤ i ∧ i < (s.size : Int) ∧ preB [34, 34, 34] (tl s i) = true then blkE 0 (tl s (i + 3)) (i + 3) else -1
theorem tl_length {s : ByteArray} {i : Int} (h0 : 0 ≤ i) : ((tl s i).length : Int) = max 0 ((s.size : Int) - i) := by
  unfold tl; rw [List.length_drop, size_bytes]; omega
theorem blkE_four {s : ByteArray} {i : Int} (h0 : 0 ≤ i) (h : preB [92, 34, 34, 34] (tl s i) = true) : i + 4 ≤ (s.size : Int) ∧ blkE 3 (tl s (i + 1)) (i + 1) = blkE 0 (tl s (i + 4)) (i + 4) := by
  have hl := preB_length h
  have ht := tl_length (s := s) h0
  simp only [List.length_cons, List.length_nil] at hl
  have h4 : i + 4 ≤ (s.size : Int) := by omega
  refine ⟨h4, ?_⟩
  have sk : ∀ (k : Nat) (x : Int) (r : List Int) (i : Int), blkE (k + 1) (x :: r) i = blkE k r (i + 1) := fun k x r i => by simp [blkE]
  have e : i + 1 + 1 + 1 + 1 = i + 4 := by omega
  rw [tl_cons (i := i + 1) (by omega) (by omega), sk 2, tl_cons (i := i + 1 + 1) (by omega) (by omega), sk 1, tl_cons (i := i + 1 + 1 + 1) (by omega) (by omega), sk 0, e]

theorem impl_BlockEnd.l0_ev (s : ByteArray) (hs : s.size ≤ 140737488351232) (n : Nat) : ∀ (i : Int), 0 ≤ i → i ≤ (s.size : Int) + 8 → (s.size : Int) - i ≤ n →
    Ev (fun k => impl_BlockEnd.l0 k s i) (blkE 0 (tl s i) i) := by
  induction n with
  | zero =>
    intro i h0 h2 hn
    apply Ev.succ; simp only [impl_BlockEnd.l0]
    rw [tl_nil (by omega)]
    exact Ev.ite_neg (by omega) (Ev.done (by simp [blkE]))
  | succ n ih =>
    intro i h0 h2 hn
    by_cases h1 : i < (s.size : Int)
    · have w1 : wrap64 (i + 1) = i + 1 := w64 (by omega) (by omega)
      have w3 : wrap64 (i + 3) = i + 3 := w64 (by omega) (by omega)
      have w4 : wrap64 (i + 4) = i + 4 := w64 (by omega) (by omega)
      have ih1 := ih (i + 1) (by omega) (by omega) (by omega)
      have hc := tl_cons h0 h1
      have b4 : bytesOf (⟨#[92, 34, 34, 34]⟩ : ByteArray) = [92, 34, 34, 34] := by decide
      have b3 : bytesOf (⟨#[34, 34, 34]⟩ : ByteArray) = [34, 34, 34] := by decide
      apply Ev.succ
      simp only [impl_BlockEnd.l0, h0, h1, if_true, strings_HasPrefix.eq, extract_tl, b4, b3, Option.bind_some, w1, w3, w4]
      refine Ev.ite_pos (by omega) ?_
      rw [hc]; unfold blkE; rw [← hc]
      by_cases c4 : preB [92, 34, 34, 34] (tl s i) = true
      · rw [if_pos c4, (blkE_four h0 c4).2]
        exact Ev.ite_pos c4 (ih (i + 4) (by omega) (by have := (blkE_four h0 c4).1; omega) (by omega))
      · rw [if_neg c4]
        refine Ev.ite_neg c4 ?_
        by_cases hp : preB [34, 34, 34] (tl s i) = true
        · rw [if_pos hp]; exact Ev.ite_pos hp (Ev.done rfl)
        · rw [if_neg hp]; exact Ev.ite_neg hp ih1
    · apply Ev.succ; simp only [impl_BlockEnd.l0]
      rw [tl_nil (by omega)]
      exact Ev.ite_neg (by omega) (Ev.done (by simp [blkE]))
theorem impl_BlockEnd.ev (s : ByteArray) (hs : s.size ≤ 140737488351232) (i : Int) : Ev (fun k => impl_BlockEnd.f k s i) (blkEndL s i) := by
  have hj : Ev (fun k => impl_BlockEnd.j0 k s i true) (-1) := by
    apply Ev.succ; simp only [impl_BlockEnd.j0, if_true]; exact Ev.done rfl
  have b3 : bytesOf (⟨#[34, 34, 34]⟩ : ByteArray) = [34, 34, 34] := by decide
  unfold impl_BlockEnd.f blkEndL
  simp only [impl_in.eq, Option.bind_some, w64 (x := (s.size : Int) - 1) (by omega) (by omega), strings_HasPrefix.eq, extract_tl, b3]
  by_cases h0 : 0 ≤ i ∧ i ≤ (s.size : Int) - 1
  · refine Ev.ite_pos (by simp; omega) (Ev.ite_pos (by omega) (Ev.ite_pos (by omega) ?_))
    by_cases h2 : preB [34, 34, 34] (tl s i) = true
    · rw [if_pos ⟨by omega, by omega, h2⟩, h2]
      have hl := preB_length h2
      have ht := tl_length (s := s) (i := i) (by omega)
      simp only [List.length_cons, List.length_nil] at hl
      apply Ev.succ; simp only [impl_BlockEnd.j0, w64 (x := i + 3) (by omega) (by omega)]
      exact Ev.ite_neg (by simp) (impl_BlockEnd.l0_ev s hs s.size _ (by omega) (by omega) (by omega))
    · rw [if_neg (fun h => h2 h.2.2)]
      have h3 := Bool.eq_false_iff.2 h2
      rw [h3]; exact hj
  · rw [if_neg (by omega)]
    exact Ev.ite_neg (by simp; omega) hj

/-- The bytes of a scalar. -/
def runeL (n : Int) : List Int :=
  if n < 128 then [n] else if n < 2048 then [192 + n / 64, 128 + n % 64]
  else if n < 65536 then [224 + n / 4096, 128 + n / 64 % 64, 128 + n % 64]
  else [240 + n / 262144, 128 + n / 4096 % 64, 128 + n / 64 % 64, 128 + n % 64]
def scalB (n : Int) : Bool := decide (0 ≤ n ∧ n ≤ 1114111) && !decide (55296 ≤ n ∧ n ≤ 57343)
def runeTextL (n : Int) : ByteArray := if scalB n = true then strOfNums (runeL n) else (⟨#[]⟩ : ByteArray)
theorem or_low (h : Nat) (hh : h = 192 ∨ h = 224 ∨ h = 240 ∨ h = 128) (b m : Nat) (hb : b < m) (hm : m = if h = 192 then 32 else if h = 224 then 16 else if h = 240 then 8 else 64) : Go.bits .or .u8 (h : Int) (b : Int) = (h : Int) + b := by
  have t : (∀ b : Fin 32, Go.bits .or .u8 ((192 : Nat) : Int) (b.val : Int) = ((192 : Nat) : Int) + b.val) ∧ (∀ b : Fin 16, Go.bits .or .u8 ((224 : Nat) : Int) (b.val : Int) = ((224 : Nat) : Int) + b.val) ∧ (∀ b : Fin 8, Go.bits .or .u8 ((240 : Nat) : Int) (b.val : Int) = ((240 : Nat) : Int) + b.val) ∧ (∀ b : Fin 64, Go.bits .or .u8 ((128 : Nat) : Int) (b.val : Int) = ((128 : Nat) : Int) + b.val) := by decide +kernel
  obtain ⟨t1, t2, t3, t4⟩ := t
  rcases hh with rfl | rfl | rfl | rfl
  · exact t1 ⟨b, by simp at hm; omega⟩
  · exact t2 ⟨b, by simp at hm; omega⟩
  · exact t3 ⟨b, by simp at hm; omega⟩
  · exact t4 ⟨b, by simp at hm; omega⟩
theorem or192 {x : Int} (h0 : 0 ≤ x) (h1 : x < 32) : Go.bits .or .u8 192 x = 192 + x := by
  have := or_low 192 (by simp) x.toNat 32 (by omega) (by simp)
  rw [show ((x.toNat : Nat) : Int) = x from by omega] at this; exact this
theorem or224 {x : Int} (h0 : 0 ≤ x) (h1 : x < 16) : Go.bits .or .u8 224 x = 224 + x := by
  have := or_low 224 (by simp) x.toNat 16 (by omega) (by simp)
  rw [show ((x.toNat : Nat) : Int) = x from by omega] at this; exact this
theorem or240 {x : Int} (h0 : 0 ≤ x) (h1 : x < 8) : Go.bits .or .u8 240 x = 240 + x := by
  have := or_low 240 (by simp) x.toNat 8 (by omega) (by simp)
  rw [show ((x.toNat : Nat) : Int) = x from by omega] at this; exact this
theorem or128 {x : Int} (h0 : 0 ≤ x) (h1 : x < 64) : Go.bits .or .u8 128 x = 128 + x := by
  have := or_low 128 (by simp) x.toNat 64 (by omega) (by simp)
  rw [show ((x.toNat : Nat) : Int) = x from by omega] at this; exact this
theorem and63T : ∀ n : Fin 256, Go.bits .and .u8 (n.val : Int) 63 = (n.val : Int) % 64 := by decide +kernel
theorem and63 {x : Int} : Go.bits .and .u8 (x % 256) 63 = x % 64 := by
  have := and63T ⟨(x % 256).toNat, by omega⟩
  simp only at this
  rw [show (((x % 256).toNat : Nat) : Int) = x % 256 from by omega] at this; rw [this]; omega

/-- The scalar at the begin of what is left (n bytes, the first four of them b0 .. b3), and how many bytes it takes; -1: none. -/
def decZ (n b0 b1 b2 b3 : Int) : Int × Int :=
  if n ≤ 0 then (-1, 0)
  else if b0 < 128 then (b0, 1)
  else if 194 ≤ b0 ∧ b0 < 224 ∧ 2 ≤ n ∧ 128 ≤ b1 ∧ b1 ≤ 191 then ((b0 - 192) * 64 + b1 - 128, 2)
  else if 224 ≤ b0 ∧ b0 < 240 ∧ 3 ≤ n ∧ 128 ≤ b1 ∧ b1 ≤ 191 ∧ 128 ≤ b2 ∧ b2 ≤ 191 ∧ 2048 ≤ ((b0 - 224) * 64 + b1 - 128) * 64 + b2 - 128 ∧ ¬ (55296 ≤ ((b0 - 224) * 64 + b1 - 128) * 64 + b2 - 128 ∧ ((b0 - 224) * 64 + b1 - 128) * 64 + b2 - 128 ≤ 57343) then (((b0 - 224) * 64 + b1 - 128) * 64 + b2 - 128, 3)
  else if 240 ≤ b0 ∧ b0 < 245 ∧ 4 ≤ n ∧ 128 ≤ b1 ∧ b1 ≤ 191 ∧ 128 ≤ b2 ∧ b2 ≤ 191 ∧ 128 ≤ b3 ∧ b3 ≤ 191 ∧ 65536 ≤ (((b0 - 240) * 64 + b1 - 128) * 64 + b2 - 128) * 64 + b3 - 128 ∧ (((b0 - 240) * 64 + b1 - 128) * 64 + b2 - 128) * 64 + b3 - 128 ≤ 1114111 then ((((b0 - 240) * 64 + b1 - 128) * 64 + b2 - 128) * 64 + b3 - 128, 4)
  else (-1, 0)
def decAt (s : ByteArray) (i : Int) : Int × Int := decZ ((s.size : Int) - i) (bt s i) (bt s (i + 1)) (bt s (i + 2)) (bt s (i + 3))
/-- Go's decoder's answer, as RuneAt tells it. -/
def asAt (d : Nat × Nat) : Int × Int := if d.1 = 65533 ∧ d.2 < 2 then (-1, 0) else ((d.1 : Int), (d.2 : Int))
theorem asAt_bad : asAt (65533, 1) = (-1, 0) := rfl
theorem asAt_ok (a b : Nat) (h : ¬ (a = 65533 ∧ b < 2)) : asAt (a, b) = ((a : Int), (b : Int)) := by unfold asAt; rw [if_neg h]
theorem dec_go (n b0 b1 b2 b3 : Nat) (hn : 1 ≤ n) (h0 : b0 < 256) (h1 : b1 < 256) (h2 : b2 < 256) (h3 : b3 < 256) :
    asAt (Lib.decodeN n b0 b1 b2 b3) = decZ n b0 b1 b2 b3 := by
  by_cases c0 : b0 < 128
  · have l : Lib.decodeN n b0 b1 b2 b3 = (b0, 1) := by unfold Lib.decodeN; rw [if_pos c0]
    have r : decZ n b0 b1 b2 b3 = ((b0 : Int), 1) := by unfold decZ; rw [if_neg (by omega), if_pos (by omega)]
    rw [l, r, asAt_ok _ _ (by omega)]; rfl
  by_cases k2 : b0 / 32 = 6 ∧ (1 < n ∧ b1 / 64 = 2)
  · by_cases c : b0 % 32 * 64 + b1 % 64 ≥ 128
    · have l : Lib.decodeN n b0 b1 b2 b3 = (b0 % 32 * 64 + b1 % 64, 2) := by unfold Lib.decodeN; rw [if_neg c0, if_pos k2, if_pos c]
      have r : decZ n b0 b1 b2 b3 = (((b0 : Int) - 192) * 64 + b1 - 128, 2) := by unfold decZ; rw [if_neg (by omega), if_neg (by omega), if_pos (by omega)]
      rw [l, r, asAt_ok _ _ (by omega)]
      refine Prod.ext ?_ ?_ <;> simp only [] <;> omega
    · have l : Lib.decodeN n b0 b1 b2 b3 = (65533, 1) := by unfold Lib.decodeN; rw [if_neg c0, if_pos k2, if_neg c]
      have r : decZ n b0 b1 b2 b3 = (-1, 0) := by unfold decZ; rw [if_neg (by omega), if_neg (by omega), if_neg (by omega), if_neg (by omega), if_neg (by omega)]
      rw [l, r]; rfl
  by_cases k3 : b0 / 16 = 14 ∧ (1 < n ∧ b1 / 64 = 2) ∧ (2 < n ∧ b2 / 64 = 2)
  · by_cases c : b0 % 16 * 4096 + b1 % 64 * 64 + b2 % 64 ≥ 2048 ∧ (b0 % 16 * 4096 + b1 % 64 * 64 + b2 % 64 < 55296 ∨ (57344 ≤ b0 % 16 * 4096 + b1 % 64 * 64 + b2 % 64 ∧ b0 % 16 * 4096 + b1 % 64 * 64 + b2 % 64 ≤ 1114111))
    · have l : Lib.decodeN n b0 b1 b2 b3 = (b0 % 16 * 4096 + b1 % 64 * 64 + b2 % 64, 3) := by unfold Lib.decodeN; rw [if_neg c0, if_neg k2, if_pos k3, if_pos c]
      have r : decZ n b0 b1 b2 b3 = ((((b0 : Int) - 224) * 64 + b1 - 128) * 64 + b2 - 128, 3) := by unfold decZ; rw [if_neg (by omega), if_neg (by omega), if_neg (by omega), if_pos (by omega)]
      rw [l, r, asAt_ok _ _ (by omega)]
      refine Prod.ext ?_ ?_ <;> simp only [] <;> omega
    · have l : Lib.decodeN n b0 b1 b2 b3 = (65533, 1) := by unfold Lib.decodeN; rw [if_neg c0, if_neg k2, if_pos k3, if_neg c]
      have r : decZ n b0 b1 b2 b3 = (-1, 0) := by unfold decZ; rw [if_neg (by omega), if_neg (by omega), if_neg (by omega), if_neg (by omega), if_neg (by omega)]
      rw [l, r]; rfl
  by_cases k4 : b0 / 8 = 30 ∧ (1 < n ∧ b1 / 64 = 2) ∧ (2 < n ∧ b2 / 64 = 2) ∧ (3 < n ∧ b3 / 64 = 2)
  · by_cases c : b0 % 8 * 262144 + b1 % 64 * 4096 + b2 % 64 * 64 + b3 % 64 ≥ 65536 ∧ (b0 % 8 * 262144 + b1 % 64 * 4096 + b2 % 64 * 64 + b3 % 64 < 55296 ∨ (57344 ≤ b0 % 8 * 262144 + b1 % 64 * 4096 + b2 % 64 * 64 + b3 % 64 ∧ b0 % 8 * 262144 + b1 % 64 * 4096 + b2 % 64 * 64 + b3 % 64 ≤ 1114111))
    · have l : Lib.decodeN n b0 b1 b2 b3 = (b0 % 8 * 262144 + b1 % 64 * 4096 + b2 % 64 * 64 + b3 % 64, 4) := by unfold Lib.decodeN; rw [if_neg c0, if_neg k2, if_neg k3, if_pos k4, if_pos c]
      have r : decZ n b0 b1 b2 b3 = (((((b0 : Int) - 240) * 64 + b1 - 128) * 64 + b2 - 128) * 64 + b3 - 128, 4) := by unfold decZ; rw [if_neg (by omega), if_neg (by omega), if_neg (by omega), if_neg (by omega), if_pos (by omega)]
      rw [l, r, asAt_ok _ _ (by omega)]
      refine Prod.ext ?_ ?_ <;> simp only [] <;> omega
    · have l : Lib.decodeN n b0 b1 b2 b3 = (65533, 1) := by unfold Lib.decodeN; rw [if_neg c0, if_neg k2, if_neg k3, if_pos k4, if_neg c]
      have r : decZ n b0 b1 b2 b3 = (-1, 0) := by unfold decZ; rw [if_neg (by omega), if_neg (by omega), if_neg (by omega), if_neg (by omega), if_neg (by omega)]
      rw [l, r]; rfl
  have l : Lib.decodeN n b0 b1 b2 b3 = (65533, 1) := by unfold Lib.decodeN; rw [if_neg c0, if_neg k2, if_neg k3, if_neg k4]
  have r : decZ n b0 b1 b2 b3 = (-1, 0) := by unfold decZ; rw [if_neg (by omega), if_neg (by omega), if_neg (by omega), if_neg (by omega), if_neg (by omega)]
  rw [l, r]; rfl
theorem bt_get (s : ByteArray) (k : Nat) : (((s.get! k).toNat : Nat) : Int) = bt s k := by
  unfold bt
  by_cases h : k < s.size
  · rw [dif_pos (by simpa using h)]
    have : s.get! k = s[k]'h := by
      show s.data[k]! = s.data[k]'h
      exact getElem!_pos s.data k h
    rw [this]; rfl
  · rw [dif_neg (by simpa using h)]
    have : s.get! k = 0 := by
      show s.data[k]! = 0
      rw [getElem!_neg s.data k (by exact h)]; rfl
    rw [this]; rfl
theorem bt_tl (s : ByteArray) (i : Int) (h0 : 0 ≤ i) (k : Nat) : bt (s.extract i.toNat s.size) k = bt s (i + k) := by
  rw [← rd_bytesOf, ← rd_bytesOf, extract_tl]
  unfold rd tl
  simp only [Int.toNat_natCast, List.getD_eq_getElem?_getD, List.getElem?_drop]
  rw [show (i + (k : Int)).toNat = i.toNat + k from by omega]
theorem get_lt (s : ByteArray) (k : Nat) : (s.get! k).toNat < 256 := (s.get! k).toNat_lt
theorem decAt_zero (t : ByteArray) (h : 0 < t.size) : asAt (Utf8.decode t 0) = decAt t 0 := by
  rw [Lib.decode_at t 0, dec_go _ _ _ _ _ (by omega) (get_lt _ _) (get_lt _ _) (get_lt _ _) (get_lt _ _)]
  unfold decAt
  rw [bt_get, bt_get, bt_get, bt_get]
  simp
theorem decAt_tl (s : ByteArray) (i : Int) (h0 : 0 ≤ i) (h1 : i < (s.size : Int)) : decAt (s.extract i.toNat s.size) 0 = decAt s i := by
  have hs : ((s.extract i.toNat s.size).size : Int) = (s.size : Int) - i := by rw [size_extract]; omega
  unfold decAt
  rw [hs]
  have e0 := bt_tl s i h0 0
  have e1 := bt_tl s i h0 1
  have e2 := bt_tl s i h0 2
  have e3 := bt_tl s i h0 3
  have z0 : bt (s.extract i.toNat s.size) 0 = bt s i := by have := e0; rwa [show ((0 : Nat) : Int) = 0 from rfl, Int.add_zero] at this
  have z1 : bt (s.extract i.toNat s.size) (0 + 1) = bt s (i + 1) := e1
  have z2 : bt (s.extract i.toNat s.size) (0 + 2) = bt s (i + 2) := e2
  have z3 : bt (s.extract i.toNat s.size) (0 + 3) = bt s (i + 3) := e3
  rw [z0, z1, z2, z3, Int.sub_zero]
theorem decAt_out (s : ByteArray) (i : Int) (h1 : (s.size : Int) ≤ i) : decAt s i = (-1, 0) := by
  unfold decAt decZ; rw [if_pos (by omega)]
theorem runeText_size (n : Int) : ((runeTextL n).size : Int) = if scalB n = true then (if n < 128 then 1 else if n < 2048 then 2 else if n < 65536 then 3 else 4) else 0 := by
  unfold runeTextL
  by_cases h : scalB n = true
  · rw [if_pos h, if_pos h, ← size_bytes]
    unfold strOfNums bytesOf runeL
    by_cases c1 : n < 128
    · rw [if_pos c1, if_pos c1]; rfl
    · rw [if_neg c1, if_neg c1]
      by_cases c2 : n < 2048
      · rw [if_pos c2, if_pos c2]; rfl
      · rw [if_neg c2, if_neg c2]
        by_cases c3 : n < 65536
        · rw [if_pos c3, if_pos c3]; rfl
        · rw [if_neg c3, if_neg c3]; rfl
  · rw [if_neg h, if_neg h]; rfl
theorem rs2 (n : Int) : ((runeTextL n).size : Int) = 2 ↔ 128 ≤ n ∧ n < 2048 := by
  rw [runeText_size]
  by_cases h : scalB n = true
  · rw [if_pos h]; repeat' split
    all_goals omega
  · rw [if_neg h]
    constructor
    · intro h; omega
    · intro g; exfalso; apply h; unfold scalB; simp; omega
theorem rs3 (n : Int) : ((runeTextL n).size : Int) = 3 ↔ (2048 ≤ n ∧ n < 65536 ∧ ¬ (55296 ≤ n ∧ n ≤ 57343)) := by
  rw [runeText_size]
  by_cases h : scalB n = true
  · have g := h
    unfold scalB at g; simp only [Bool.and_eq_true, decide_eq_true_eq, Bool.not_eq_true', decide_eq_false_iff_not] at g
    rw [if_pos h]; repeat' split
    all_goals omega
  · rw [if_neg h]
    constructor
    · intro h; omega
    · intro g; exfalso; apply h; unfold scalB; simp; omega
theorem rs4 (n : Int) : ((runeTextL n).size : Int) = 4 ↔ (65536 ≤ n ∧ n ≤ 1114111) := by
  rw [runeText_size]
  by_cases h : scalB n = true
  · have g := h
    unfold scalB at g; simp only [Bool.and_eq_true, decide_eq_true_eq, Bool.not_eq_true', decide_eq_false_iff_not] at g
    rw [if_pos h]; repeat' split
    all_goals omega
  · rw [if_neg h]
    constructor
    · intro h; omega
    · intro g; exfalso; apply h; unfold scalB; simp; omega

def textOkS (s : ByteArray) : Bool := Lib.validD s.data.toList
theorem decAt_of (s : ByteArray) (i : Nat) (h : i < s.size) : asAt (Utf8.decode s i) = decAt s i := by
  rw [Lib.decode_at s i, dec_go _ _ _ _ _ (by omega) (get_lt _ _) (get_lt _ _) (get_lt _ _) (get_lt _ _)]
  unfold decAt
  rw [bt_get, bt_get, bt_get, bt_get]
  rw [show ((s.size - i : Nat) : Int) = (s.size : Int) - (i : Int) from by omega]; rfl
/-- What a step of the decoder comes to. -/
theorem dec_step (s : ByteArray) (i : Int) (h0 : 0 ≤ i) (h1 : i < (s.size : Int)) :
    (decAt s i = (-1, 0) ∧ Lib.validD (s.data.toList.drop i.toNat) = false) ∨
    (0 ≤ (decAt s i).1 ∧ 1 ≤ (decAt s i).2 ∧ (decAt s i).2 ≤ 4 ∧ i + (decAt s i).2 ≤ (s.size : Int) ∧ Lib.validD (s.data.toList.drop i.toNat) = Lib.validD (s.data.toList.drop (i + (decAt s i).2).toNat)) := by
  obtain ⟨p, rfl⟩ := Int.eq_ofNat_of_zero_le h0
  have hp : p < s.size := by omega
  have hl : s.data.toList.length = s.size := by rw [Array.length_toList]; rfl
  have hne : s.data.toList.drop p ≠ [] := by
    intro h; have := congrArg List.length h; rw [List.length_drop, hl] at this; simp at this; omega
  have hw := Lib.decodeL_width (s.data.toList.drop p)
  have hle := Lib.decodeL_le (s.data.toList.drop p) hne
  have hst := Lib.validD_step (s.data.toList.drop p) hne
  rw [Lib.decodeL_drop] at hw hle hst
  have ha := decAt_of s p hp
  have h4 : (Utf8.decode s p).2 ≤ 4 := by
    rw [Lib.decode_at]; unfold Lib.decodeN
    repeat' split
    all_goals (simp only []; omega)
  rw [List.length_drop, hl] at hle
  rw [Int.toNat_natCast]
  by_cases c : (Utf8.decode s p).1 = 65533 ∧ (Utf8.decode s p).2 = 1
  · left
    rw [if_pos c] at hst
    refine ⟨?_, hst⟩
    rw [← ha]; unfold asAt; rw [if_pos ⟨c.1, by omega⟩]
  · right
    rw [if_neg c] at hst
    have e : decAt s p = (((Utf8.decode s p).1 : Int), ((Utf8.decode s p).2 : Int)) := by
      rw [← ha]; unfold asAt; rw [if_neg (fun h => c ⟨h.1, by omega⟩)]
    rw [e]
    refine ⟨by simp only []; omega, by simp only []; omega, by simp only []; omega, by simp only []; omega, ?_⟩
    rw [hst, List.drop_drop]
    congr 2

theorem impl_TextOk.eq (s : ByteArray) (hs : s.size ≤ 9223372036854775807) : impl_TextOk.f s = some (textOkS s) := by
  unfold impl_TextOk.f utf8_ValidString.f; rw [if_pos hs]; rfl

def okC (b : Int) : Bool := decide (¬ (b < 32 ∧ b ≠ 9 ∧ b ≠ 10 ∧ b ≠ 13))
def noT : ByteArray × Bool := ((⟨#[]⟩ : ByteArray), false)
def fin200 (v : ByteArray) : ByteArray × Bool := if (v.size : Int) > 200 then noT else (v, true)
/-- What stands between the quotes, without the signs that hide three quotes. -/
def uq : List Int → List Int
  | [] => []
  | b :: l => if b = 92 ∧ preB [34, 34, 34] l = true then uq l else b :: uq l
def inB (s : ByteArray) (i : Int) : List Int := (tl s i).take ((s.size : Int) - 3 - i).toNat
def blockT (s : ByteArray) : ByteArray × Bool :=
  if (s.size : Int) > 1000 ∨ blkEndL s 0 ≠ (s.size : Int) ∨ textOkS s = false then noT
  else if (inB s 3).all okC = true then fin200 (blockV (linesB (strOfNums (uq (inB s 3))))) else noT
theorem preB_cons (b : Int) (l : List Int) : preB [92, 34, 34, 34] (b :: l) = (b == 92 && preB [34, 34, 34] l) := by unfold preB; simp
theorem preB_take (p l : List Int) (n : Nat) (h : preB p (l.take n) = true) : preB p l = true := by
  have hl := preB_length h
  unfold preB at h ⊢
  rw [List.length_take] at hl
  rw [List.take_take, Nat.min_eq_left (by omega)] at h
  exact h
theorem blkE_end (l : List Int) : ∀ (k : Nat) (i e : Int), blkE k l i = e → e ≠ -1 → i + k + 3 ≤ e ∧ preB [34, 34, 34] (l.drop (e - 3 - i).toNat) = true := by
  induction l with
  | nil => intro k i e h he; cases k <;> (simp [blkE] at h; omega)
  | cons b l ih =>
    intro k i e h he
    cases k with
    | succ k =>
      have h := ih k (i + 1) e (by simpa [blkE] using h) he
      refine ⟨by omega, ?_⟩
      rw [show (e - 3 - i).toNat = (e - 3 - (i + 1)).toNat + 1 from by omega, List.drop_succ_cons]
      exact h.2
    | zero =>
      rw [blkE] at h
      split at h
      · have h := ih 3 (i + 1) e h he
        refine ⟨by omega, ?_⟩
        rw [show (e - 3 - i).toNat = (e - 3 - (i + 1)).toNat + 1 from by omega, List.drop_succ_cons]
        exact h.2
      · split at h
        · rename_i hp
          refine ⟨by omega, ?_⟩
          rw [show (e - 3 - i).toNat = 0 from by omega]
          exact hp
        · have h := ih 0 (i + 1) e h he
          refine ⟨by omega, ?_⟩
          rw [show (e - 3 - i).toNat = (e - 3 - (i + 1)).toNat + 1 from by omega, List.drop_succ_cons]
          exact h.2
theorem inB_nil (s : ByteArray) (i : Int) (h : (s.size : Int) - 3 ≤ i) : inB s i = [] := by
  unfold inB; rw [show ((s.size : Int) - 3 - i).toNat = 0 from by omega]; rfl
theorem inB_cons (s : ByteArray) (i : Int) (h0 : 0 ≤ i) (h : i < (s.size : Int) - 3) : inB s i = bt s i :: inB s (i + 1) := by
  unfold inB
  rw [tl_cons h0 (by omega), show ((s.size : Int) - 3 - i).toNat = ((s.size : Int) - 3 - (i + 1)).toNat + 1 from by omega, List.take_succ_cons]
theorem preB_three (s : ByteArray) (i : Int) (h0 : 0 ≤ i) (h : preB [34, 34, 34] (tl s i) = true) : bt s i = 34 ∧ bt s (i + 1) = 34 ∧ bt s (i + 2) = 34 ∧ i + 3 ≤ (s.size : Int) := by
  have hl := preB_length h
  have ht := tl_length (s := s) h0
  simp only [List.length_cons, List.length_nil] at hl
  rw [tl_cons h0 (by omega), tl_cons (i := i + 1) (by omega) (by omega), tl_cons (i := i + 1 + 1) (by omega) (by omega), show i + 1 + 1 = i + 2 from by omega] at h
  unfold preB at h
  simp at h
  exact ⟨h.1, h.2.1, h.2.2, by omega⟩
/-- What is known of a block that ends where the text ends. -/
theorem block_whole (s : ByteArray) (h : blkEndL s 0 = (s.size : Int)) : 6 ≤ (s.size : Int) ∧ blkE 0 (tl s 3) 3 = (s.size : Int) ∧ (bytesOf s).all okC = (inB s 3).all okC := by
  unfold blkEndL at h
  split at h
  · rename_i c
    have h3 := blkE_end _ _ _ _ h (by omega)
    have a := preB_three s 0 (by omega) c.2.2
    have e : (tl s (0 + 3)).drop ((s.size : Int) - 3 - (0 + 3)).toNat = tl s ((s.size : Int) - 3) := by
      unfold tl; rw [List.drop_drop]; congr 1; omega
    rw [e] at h3
    have b := preB_three s ((s.size : Int) - 3) (by omega) h3.2
    have hT : tl s 3 = inB s 3 ++ tl s ((s.size : Int) - 3) := by
      have := List.take_append_drop ((s.size : Int) - 3 - (0 + 3)).toNat (tl s (0 + 3))
      rw [e] at this
      exact this.symm
    have ok34 : okC 34 = true := by decide
    refine ⟨by omega, h, ?_⟩
    have hS : bytesOf s = bt s 0 :: bt s 1 :: bt s 2 :: tl s 3 := by
      rw [← tl_zero, tl_cons (i := 0) (by omega) (by omega), tl_cons (i := 0 + 1) (by omega) (by omega), tl_cons (i := 0 + 1 + 1) (by omega) (by omega)]; rfl
    have hE : tl s ((s.size : Int) - 3) = [34, 34, 34] := by
      rw [tl_cons (i := (s.size : Int) - 3) (by omega) (by omega), tl_cons (i := (s.size : Int) - 3 + 1) (by omega) (by omega), tl_cons (i := (s.size : Int) - 3 + 1 + 1) (by omega) (by omega), tl_nil (by omega), b.1, b.2.1, show (s.size : Int) - 3 + 1 + 1 = (s.size : Int) - 3 + 2 from by omega, b.2.2.1]
    rw [hS, hT, hE, a.1, show bt s 1 = 34 from a.2.1, show bt s 2 = 34 from a.2.2.1]
    simp [ok34]
  · have := s.size; omega
theorem uq_rep (n : Nat) : ∀ l : List UInt8, l.length ≤ n → (repF [92, 34, 34, 34] [34, 34, 34] l).map (fun b => (b.toNat : Int)) = uq (l.map fun b => (b.toNat : Int)) := by
  have nat : ∀ (b : UInt8) (c : UInt8), ((b.toNat : Int) = (c.toNat : Int)) ↔ b = c := by
    intro b c
    constructor
    · intro h; exact UInt8.toNat_inj.1 (by omega)
    · rintro rfl; rfl
  have pre : ∀ l : List UInt8, preB [34, 34, 34] (l.map fun b => (b.toNat : Int)) = true ↔ ([34, 34, 34] : List UInt8).isPrefixOf l = true := by
    intro l
    have n34 : ∀ b : UInt8, ((b.toNat : Int) = 34) ↔ b = 34 := fun b => nat b 34
    have c34 : ∀ b : UInt8, (34 = b) ↔ b = 34 := fun b => eq_comm
    rcases l with _ | ⟨a, _ | ⟨b, _ | ⟨c, r⟩⟩⟩ <;> simp [preB, List.isPrefixOf, n34, c34]
  induction n with
  | zero =>
    intro l hl
    obtain rfl : l = [] := List.eq_nil_of_length_eq_zero (by omega)
    rw [repF]; rfl
  | succ n ih =>
    intro l hl
    cases l with
    | nil => rw [repF]; rfl
    | cons b l =>
      rw [List.length_cons] at hl
      have n92 : ((b.toNat : Int) = 92) ↔ b = 92 := nat b 92
      rw [List.map_cons, uq]
      by_cases hp : ([92, 34, 34, 34] : List UInt8).isPrefixOf (b :: l) = true
      · rw [repF_take _ _ (by simp) b l hp]
        simp only [List.isPrefixOf, Bool.and_eq_true, beq_iff_eq] at hp
        obtain ⟨hb, hl3⟩ := hp
        rcases l with _ | ⟨x, _ | ⟨y, _ | ⟨z, r⟩⟩⟩
        · simp [List.isPrefixOf] at hl3
        · simp [List.isPrefixOf] at hl3
        · simp [List.isPrefixOf] at hl3
        · simp only [List.isPrefixOf, Bool.and_eq_true, beq_iff_eq] at hl3
          obtain ⟨hx, hy, hz, _⟩ := hl3
          subst hx hy hz hb
          have := ih r (by simp at hl; omega)
          simp only [List.length_cons, List.length_nil, List.drop_succ_cons, List.drop_zero, List.map_append, List.map_cons, List.map_nil, this]
          have u34 : (((34 : UInt8).toNat : Nat) : Int) = 34 := rfl
          have u92 : (((92 : UInt8).toNat : Nat) : Int) = 92 := rfl
          rw [u34, u92]
          simp [uq, preB]
      · rw [repF_skip _ _ b l hp, List.map_cons, ih l (by omega), if_neg]
        rintro ⟨h1, h2⟩
        apply hp
        rw [show ([92, 34, 34, 34] : List UInt8).isPrefixOf (b :: l) = ((92 == b) && ([34, 34, 34] : List UInt8).isPrefixOf l) from rfl, (n92.1 h1), (pre l).1 h2]; rfl
theorem uq_len (l : List Int) : (uq l).length ≤ l.length := by
  induction l with
  | nil => simp [uq]
  | cons b l ih => rw [uq]; split <;> simp only [List.length_cons] <;> omega
theorem uq_mem (l : List Int) : ∀ x ∈ uq l, x ∈ l := by
  induction l with
  | nil => simp [uq]
  | cons b l ih =>
    intro x hx
    rw [uq] at hx
    split at hx
    · exact List.mem_cons_of_mem _ (ih x hx)
    · rcases List.mem_cons.1 hx with rfl | hx
      · simp
      · exact List.mem_cons_of_mem _ (ih x hx)
theorem inB_mem (s : ByteArray) (i x : Int) (h : x ∈ inB s i) : 0 ≤ x ∧ x ≤ 255 := bytes_range (s := s) (List.drop_subset _ _ (List.take_subset _ _ h))
theorem inB_len (s : ByteArray) (i : Int) (h : 0 ≤ i) : (inB s i).length ≤ s.size := by unfold inB tl; rw [List.length_take, List.length_drop, size_bytes]; omega

theorem unq_eq (s : ByteArray) (h6 : 6 ≤ (s.size : Int)) (hs : s.size ≤ 1000) : strings_ReplaceAll.f (s.extract 3 ((s.size : Int) - 3).toNat) (⟨#[92, 34, 34, 34]⟩ : ByteArray) (⟨#[34, 34, 34]⟩ : ByteArray) = some (strOfNums (uq (inB s 3))) := by
  obtain ⟨t, ht⟩ : ∃ t : ByteArray, s.extract 3 ((s.size : Int) - 3).toNat = t := ⟨_, rfl⟩
  have hz : t.size = s.size - 6 := by rw [← ht, size_extract]; omega
  have hb : bytesOf t = inB s 3 := by
    rw [← ht, bytes_extract]
    unfold inB tl
    rw [List.drop_take]
    congr 1; omega
  have hc := Lib.countB_mul_le (⟨#[92, 34, 34, 34]⟩ : ByteArray) (by decide) t.size t (Nat.le_refl _)
  have h4 : (⟨#[92, 34, 34, 34]⟩ : ByteArray).size = 4 := rfl
  have h3 : (⟨#[34, 34, 34]⟩ : ByteArray).size = 3 := rfl
  rw [h4] at hc
  rw [ht]
  unfold strings_ReplaceAll.f
  rw [if_pos ⟨by omega, by decide, by rw [h3]; omega⟩]
  congr 1
  apply bytes_inj
  rw [bytes_mk, bytes_strOfNums _ (fun x hx => inB_mem s 3 x (uq_mem _ x hx)), ← hb]
  rw [replaceAll_rep _ _ _ (by simp) (by simp)]
  exact uq_rep _ _ (Nat.le_refl _)
theorem impl_BlockText.l0_ev (s : ByteArray) (h6 : 6 ≤ (s.size : Int)) (hs : s.size ≤ 1000) (n : Nat) : ∀ i : Int, 0 ≤ i → i ≤ (s.size : Int) → (s.size : Int) - i ≤ n →
    Ev (fun k => impl_BlockText.l0 k s (s.size : Int) i) (if (tl s i).all okC = true then fin200 (blockV (linesB (strOfNums (uq (inB s 3))))) else noT) := by
  have hend : ∀ i : Int, i = (s.size : Int) → Ev (fun k => impl_BlockText.l0 k s (s.size : Int) i) (if (tl s i).all okC = true then fin200 (blockV (linesB (strOfNums (uq (inB s 3))))) else noT) := by
    intro i hi
    apply Ev.succ; simp only [impl_BlockText.l0]
    rw [tl_nil (by omega), if_pos (by rfl), w64 (x := (s.size : Int) - 3) (by omega) (by omega)]
    have hl := uq_len (inB s 3)
    have hl2 := inB_len s 3 (by omega)
    refine Ev.ite_neg (by omega) (Ev.ite_pos (by omega) (Ev.ite_pos (by omega) (Ev.bindc (unq_eq s h6 hs) ((impl_BlockValue.ev _ (by rw [str_size]; omega)).bind ?_))))
    unfold fin200
    by_cases c : ((blockV (linesB (strOfNums (uq (inB s 3))))).size : Int) > 200
    · exact Ev.ite_pos c (Ev.done (if_pos c).symm)
    · exact Ev.ite_neg c (Ev.done (if_neg c).symm)
  induction n with
  | zero => intro i h0 h1 hn; exact hend i (by omega)
  | succ n ih =>
    intro i h0 h1 hn
    by_cases h2 : i < (s.size : Int)
    · have hE := ih (i + 1) (by omega) (by omega) (by omega)
      apply Ev.succ; simp only [impl_BlockText.l0]
      rw [tl_cons h0 h2, List.all_cons, w64 (x := i + 1) (by omega) (by omega)]
      refine Ev.ite_pos h2 (Ev.ite_pos h0 (Ev.ite_pos h2 ?_))
      have good : okC (bt s i) = true → Ev (fun k => impl_BlockText.l0 k s (s.size : Int) (i + 1)) (if (okC (bt s i) && (tl s (i + 1)).all okC) = true then fin200 (blockV (linesB (strOfNums (uq (inB s 3))))) else noT) := by
        intro h; rw [h, Bool.true_and]; exact hE
      have hok : okC (bt s i) = decide (¬ (bt s i < 32 ∧ bt s i ≠ 9 ∧ bt s i ≠ 10 ∧ bt s i ≠ 13)) := rfl
      by_cases c : bt s i < 32
      · refine Ev.ite_pos c ?_
        by_cases c9 : bt s i = 9
        · exact Ev.ite_pos c9 (good (by rw [hok]; simp [c9]))
        refine Ev.ite_neg c9 ?_
        by_cases c10 : bt s i = 10
        · exact Ev.ite_pos c10 (good (by rw [hok]; simp [c10]))
        refine Ev.ite_neg c10 ?_
        by_cases c13 : bt s i = 13
        · exact Ev.ite_pos c13 (good (by rw [hok]; simp [c13]))
        refine Ev.ite_neg c13 (Ev.done ?_)
        have : okC (bt s i) = false := by rw [hok]; simp [c, c9, c10, c13]
        rw [this]; rfl
      · exact Ev.ite_neg c (good (by rw [hok]; simp [c]))
    · exact hend i (by omega)
theorem impl_BlockText.ev (s : ByteArray) (hs : s.size ≤ 140737488351232) : Ev (fun k => impl_BlockText.f k s) (blockT s) := by
  have jT : Ev (fun k => impl_BlockText.j0 k s true) noT := by
    apply Ev.succ; simp only [impl_BlockText.j0, if_true]; exact Ev.done rfl
  unfold impl_BlockText.f blockT
  by_cases h1 : (s.size : Int) > 1000
  · rw [if_pos (Or.inl h1)]; exact Ev.ite_pos h1 jT
  · refine Ev.ite_neg h1 ((impl_BlockEnd.ev s hs 0).bind ?_)
    by_cases h2 : blkEndL s 0 = (s.size : Int)
    · refine Ev.ite_pos h2 (Ev.bindc (impl_TextOk.eq s (by omega)) ?_)
      cases h3 : textOkS s with
      | false => rw [if_pos (Or.inr (Or.inr rfl))]; exact jT
      | true =>
        rw [if_neg (by simp [h2]; omega)]
        obtain ⟨a, b, c⟩ := block_whole s h2
        have := impl_BlockText.l0_ev s a (by omega) s.size 0 (by omega) (by omega) (by omega)
        rw [tl_zero, c] at this
        apply Ev.succ; simp only [impl_BlockText.j0]
        exact Ev.ite_neg (by simp) this
    · rw [if_pos (Or.inr (Or.inl h2))]
      exact Ev.ite_neg h2 jT

-- the cursor of the draws
theorem and255 (x : Int) : 0 ≤ Go.bits .and .i64 x 255 ∧ Go.bits .and .i64 x 255 ≤ 255 := by
  simp only [Go.bits, BitVec.toNat_and]
  have h : (BitVec.ofInt IntKind.i64.bits x).toNat &&& (BitVec.ofInt IntKind.i64.bits 255).toNat ≤ 255 := Nat.and_le_right
  generalize (BitVec.ofInt IntKind.i64.bits x).toNat &&& (BitVec.ofInt IntKind.i64.bits 255).toNat = m at *
  rw [IntKind.wrap_i64]; omega
theorem drawByte (b : List Int) (hb : b.length ≤ 140737488351232) (i h : Int) (h0 : 0 ≤ i) : ∃ x j g, spec_l01Byte.f b i h = some (x, j, g) ∧ 0 ≤ x ∧ x ≤ 255 ∧ 0 ≤ j := by
  unfold spec_l01Byte.f
  by_cases c : i < (b.length : Int)
  · rw [if_pos c, if_pos h0]
    refine ⟨_, _, _, rfl, (and255 _).1, (and255 _).2, ?_⟩
    rw [w64 (by omega) (by omega)]; omega
  · rw [if_neg c]
    exact ⟨_, _, _, rfl, (and255 _).1, (and255 _).2, h0⟩
theorem drawBelow (b : List Int) (hb : b.length ≤ 140737488351232) (i h n : Int) (h0 : 0 ≤ i) (n0 : 0 < n) (n1 : n ≤ 256) : ∃ x j g, spec_l01Below.f b i h n = some (x, j, g) ∧ 0 ≤ x ∧ x < n ∧ 0 ≤ j := by
  obtain ⟨x, j, g, e, x0, x1, j0⟩ := drawByte b hb i h h0
  unfold spec_l01Below.f
  rw [if_neg (by omega), if_pos n1, e]
  refine ⟨Int.tmod x n, j, g, ?_, ?_, ?_, j0⟩
  · show (if n = 0 then none else _) = _
    rw [if_neg (by omega)]
  · exact Int.tmod_nonneg _ x0
  · exact Int.tmod_lt_of_pos _ n0
theorem drawBig (b : List Int) (hb : b.length ≤ 140737488351232) (i h n : Int) (h0 : 0 ≤ i) (n0 : 256 < n) (n1 : n ≤ 4000000000) : ∃ x j g, spec_l01Below.f b i h n = some (x, j, g) ∧ 0 ≤ x ∧ x < n ∧ 0 ≤ j := by
  obtain ⟨x, j, g, e, x0, x1, j0⟩ := drawByte b hb i h h0
  obtain ⟨y, j2, g2, e2, y0, y1, j20⟩ := drawByte b hb j g j0
  obtain ⟨z, j3, g3, e3, z0, z1, j30⟩ := drawByte b hb j2 g2 j20
  obtain ⟨u, j4, g4, e4, u0, u1, j40⟩ := drawByte b hb j3 g3 j30
  unfold spec_l01Below.f
  rw [if_neg (by omega), if_neg (by omega), e]
  simp only [Option.bind_some, e2, e3, e4]
  rw [if_neg (by omega), w64 (x := x * 16777216) (by omega) (by omega), w64 (x := y * 65536) (by omega) (by omega), w64 (x := z * 256) (by omega) (by omega), w64 (x := x * 16777216 + y * 65536) (by omega) (by omega), w64 (x := x * 16777216 + y * 65536 + z * 256) (by omega) (by omega), w64 (x := x * 16777216 + y * 65536 + z * 256 + u) (by omega) (by omega)]
  exact ⟨_, _, _, rfl, Int.tmod_nonneg _ (by omega), Int.tmod_lt_of_pos _ (by omega), j40⟩

theorem drawNew (b : List Int) (hb : b.length ≤ 140737488351232) (n : Nat) : ∀ (h i : Int), 0 ≤ i → (b.length : Int) - i ≤ n → ∃ g, Ev (fun k => spec_l01New.l0 k b h i) (b, 0, g) := by
  induction n with
  | zero =>
    intro h i h0 hn
    refine ⟨h, ?_⟩
    apply Ev.succ; simp only [spec_l01New.l0]
    exact Ev.ite_neg (by omega) (Ev.done rfl)
  | succ n ih =>
    intro h i h0 hn
    by_cases c : i < (b.length : Int)
    · by_cases c2 : i < 4000
      · obtain ⟨g, hg⟩ := ih (Go.bits .and .i64 (wrap64 ((wrap64 ((wrap64 (h * 131)) + (wrap64 (rd b i)))) + 7)) 1073741823) (i + 1) (by omega) (by omega)
        refine ⟨g, ?_⟩
        apply Ev.succ; simp only [spec_l01New.l0, w64 (x := i + 1) (by omega) (by omega)]
        exact Ev.ite_pos c (Ev.ite_pos c2 (Ev.ite_pos h0 hg))
      · refine ⟨h, ?_⟩
        apply Ev.succ; simp only [spec_l01New.l0]
        exact Ev.ite_pos c (Ev.ite_neg c2 (Ev.done rfl))
    · refine ⟨h, ?_⟩
      apply Ev.succ; simp only [spec_l01New.l0]
      exact Ev.ite_neg c (Ev.done rfl)

theorem places_l0 (b : List Int) (hb : b.length ≤ 140737488351232) (n : Nat) : ∀ (acc : List Int) (x i h : Int), 0 ≤ i → 0 ≤ x → x ≤ 12 → 12 - x ≤ n → (acc.length : Int) = x → (∀ y ∈ acc, 0 ≤ y ∧ y < 10000) →
    ∃ p : List Int, Ev (fun k => spec_DrawPlaces.l0 k acc x b i h) p ∧ p.length = 12 ∧ ∀ y ∈ p, 0 ≤ y ∧ y < 10000 := by
  induction n with
  | zero =>
    intro acc x i h h0 x0 x12 hn hl ha
    refine ⟨acc, ?_, by omega, ha⟩
    apply Ev.succ; simp only [spec_DrawPlaces.l0]
    exact Ev.ite_neg (by omega) (Ev.done rfl)
  | succ n ih =>
    intro acc x i h h0 x0 x12 hn hl ha
    by_cases c : x < 12
    · obtain ⟨y, j, g, e, y0, y1, j0⟩ := drawBig b hb i h 10000 h0 (by omega) (by omega)
      obtain ⟨p, hE, hp⟩ := ih (acc ++ [y]) (x + 1) j g j0 (by omega) (by omega) (by omega) (by simp; omega) (by
        intro z hz
        rcases List.mem_append.1 hz with hz | hz
        · exact ha z hz
        · simp at hz; omega)
      refine ⟨p, ?_, hp⟩
      apply Ev.succ; simp only [spec_DrawPlaces.l0]
      rw [w64 (x := x + 1) (by omega) (by omega)]
      refine Ev.ite_pos c (Ev.bindc e (Ev.ite_pos (by omega) hE))
    · exact ih acc x i h h0 x0 x12 (by omega) hl ha
theorem drawPlaces (b : List Int) (hb : b.length ≤ 140737488351232) : ∃ p : List Int, Ev (fun k => spec_DrawPlaces.f k b) p ∧ p.length = 12 ∧ ∀ y ∈ p, 0 ≤ y ∧ y < 10000 := by
  obtain ⟨g, hg⟩ := drawNew b hb b.length (wrap64 (94701 + (b.length : Int))) 0 (by omega) (by omega)
  obtain ⟨x, j, g2, e, x0, x1, j0⟩ := drawByte b hb 0 g (by omega)
  obtain ⟨p, hE, hp⟩ := places_l0 b hb 12 [] 0 j g2 j0 (by omega) (by omega) (by omega) rfl (by simp)
  refine ⟨p, ?_, hp⟩
  unfold spec_DrawPlaces.f
  exact Ev.bind (a := (b, 0, g)) hg (Ev.bindc e hE)
theorem place_at (p : List Int) (hl : p.length = 12) (hp : ∀ y ∈ p, 0 ≤ y ∧ y < 10000) (i : Int) (h0 : 0 ≤ i) (h1 : i < 12) : 0 ≤ rd p i ∧ rd p i < 10000 := by
  unfold rd
  rw [List.getD_eq_getElem?_getD, List.getElem?_eq_getElem (by omega)]
  exact hp _ (List.getElem_mem _)

def nameList : List ByteArray := [(⟨#[97]⟩ : ByteArray), (⟨#[98]⟩ : ByteArray), (⟨#[110, 97, 109, 101]⟩ : ByteArray), (⟨#[105, 100]⟩ : ByteArray), (⟨#[85, 115, 101, 114]⟩ : ByteArray), (⟨#[80, 111, 115, 116]⟩ : ByteArray), (⟨#[78, 111, 100, 101]⟩ : ByteArray), (⟨#[111, 110]⟩ : ByteArray), (⟨#[116, 121, 112, 101]⟩ : ByteArray), (⟨#[120, 49]⟩ : ByteArray), (⟨#[95, 121]⟩ : ByteArray), (⟨#[82, 69, 68]⟩ : ByteArray), (⟨#[113, 117, 101, 114, 121]⟩ : ByteArray)]
def inList : List ByteArray := [(⟨#[32]⟩ : ByteArray), (⟨#[32, 32]⟩ : ByteArray), (⟨#[9]⟩ : ByteArray), (⟨#[32, 32, 32, 32, 32, 32]⟩ : ByteArray)]
def rawOf (c n : ByteArray) : ByteArray := (((((((((((⟨#[10]⟩ : ByteArray) ++ c) ++ n) ++ (⟨#[10, 10]⟩ : ByteArray)) ++ c) ++ (⟨#[32, 32]⟩ : ByteArray)) ++ n) ++ (⟨#[120, 13, 10]⟩ : ByteArray)) ++ c) ++ (⟨#[121, 13]⟩ : ByteArray)) ++ c) ++ (⟨#[10, 32, 32]⟩ : ByteArray)
def wantOf (n : ByteArray) : ByteArray := ((n ++ (⟨#[10, 10, 32, 32]⟩ : ByteArray)) ++ n) ++ (⟨#[120, 10, 121]⟩ : ByteArray)
def textA (c n : ByteArray) : ByteArray := ((⟨#[34, 34, 34]⟩ : ByteArray) ++ rawOf c n) ++ (⟨#[34, 34, 34]⟩ : ByteArray)
def textB (n : ByteArray) : ByteArray := ((⟨#[34, 34, 34]⟩ : ByteArray) ++ n) ++ (⟨#[32, 92, 34, 34, 34, 32, 34, 122, 34, 34, 34]⟩ : ByteArray)
def textC (c n : ByteArray) : ByteArray := ((⟨#[34, 34, 34]⟩ : ByteArray) ++ rawOf c n) ++ (⟨#[34, 34, 34, 120]⟩ : ByteArray)
def blocksOk (c n : ByteArray) : Bool :=
  (bytesOf (blockV (linesB (rawOf c n))) == bytesOf (wantOf n)) && (blockT (textA c n)).2 && (bytesOf (blockT (textA c n)).1 == bytesOf (wantOf n)) && (blockT (textB n)).2 && (bytesOf (blockT (textB n)).1 == bytesOf (n ++ (⟨#[32, 34, 34, 34, 32, 34, 122]⟩ : ByteArray))) && decide ((linesB (rawOf c n)).length = 7) && decide (indN (bytesOf (c ++ n)) = c.size) && decide (blkEndL (textC c n) 0 = ((rawOf c n).size : Int) + 6) && decide (n.size ≤ 10) && decide (c.size ≤ 6)
theorem blocks_all : ∀ (i : Fin 13) (j : Fin 4), blocksOk (rdOf ByteArray.empty inList (j.val : Int)) (rdOf ByteArray.empty nameList (i.val : Int)) = true := by decide +kernel
theorem drawNameI (b : List Int) (hb : b.length ≤ 140737488351232) : ∃ i : Fin 13, Ev (fun k => spec_DrawName.f k b) (rdOf ByteArray.empty nameList (i.val : Int)) := by
  obtain ⟨g, hg⟩ := drawNew b hb b.length (wrap64 (94701 + (b.length : Int))) 0 (by omega) (by omega)
  obtain ⟨x, j, g2, e, x0, x1, j0⟩ := drawBelow b hb 0 g 13 (by omega) (by omega) (by omega)
  refine ⟨⟨x.toNat, by omega⟩, ?_⟩
  rw [show ((x.toNat : Nat) : Int) = x from by omega]
  unfold spec_DrawName.f
  refine Ev.bind (a := (b, 0, g)) hg ?_
  have hN : spec_l03Name.f b 0 g = some (rdOf ByteArray.empty nameList x, j, g2) := by
    unfold spec_l03Name.f spec_l01Pick.f
    have e' : spec_l01Below.f b 0 g (nameList.length : Int) = some (x, j, g2) := e
    show (Option.bind (Option.bind (spec_l01Below.f b 0 g (nameList.length : Int)) _) _) = _
    rw [e']
    show (Option.bind (if 0 ≤ x then (if x < 13 then _ else none) else none) _) = _
    rw [if_pos x0, if_pos x1]; rfl
  exact Ev.bindc hN (Ev.done rfl)
theorem FnBlocks : laws_FnBlocks.Pure := by
  intro l0 hl hl2 hx
  have hl3 : l0.length ≤ 140737488351232 := by omega
  apply Ev.out
  unfold laws_FnBlocks.f laws_big.f
  refine Ev.bindc rfl ?_
  by_cases h : (l0.length : Int) > 1048576
  · exact Ev.ite_pos (decide_eq_true h) (Ev.done rfl)
  refine Ev.ite_neg (by simpa using h) ?_
  obtain ⟨p, hP, hp, hp2⟩ := drawPlaces l0 hl3
  obtain ⟨i, hN⟩ := drawNameI l0 hl3
  have p0 := place_at p hp hp2 0 (by omega) (by omega)
  refine hN.bind (hP.bind (Ev.bindc (a := inList) rfl ?_))
  have c0 : 0 ≤ Int.tmod (rd p 0) 4 := Int.tmod_nonneg _ p0.1
  have c1 : Int.tmod (rd p 0) 4 < 4 := Int.tmod_lt_of_pos _ (by omega)
  have hall := blocks_all i ⟨(Int.tmod (rd p 0) 4).toNat, by omega⟩
  simp only [show (((Int.tmod (rd p 0) 4).toNat : Nat) : Int) = Int.tmod (rd p 0) 4 from by omega] at hall
  refine Ev.ite_pos (by omega) (Ev.ite_pos c0 (Ev.ite_pos (show Int.tmod (rd p 0) 4 < 4 from c1) ?_))
  generalize rdOf ByteArray.empty inList (Int.tmod (rd p 0) 4) = c at *
  generalize rdOf ByteArray.empty nameList (i.val : Int) = n at *
  unfold blocksOk at hall
  simp only [Bool.and_eq_true, beq_iff_eq, decide_eq_true_eq] at hall
  obtain ⟨⟨⟨⟨⟨⟨⟨⟨⟨q1, q2⟩, q3⟩, q4⟩, q5⟩, q6⟩, q7⟩, q8⟩, q9⟩, q10⟩ := hall
  have z1 : (⟨#[10]⟩ : ByteArray).size = 1 := rfl
  have z2 : (⟨#[10, 10]⟩ : ByteArray).size = 2 := rfl
  have z3 : (⟨#[32, 32]⟩ : ByteArray).size = 2 := rfl
  have z4 : (⟨#[120, 13, 10]⟩ : ByteArray).size = 3 := rfl
  have z5 : (⟨#[121, 13]⟩ : ByteArray).size = 2 := rfl
  have z6 : (⟨#[10, 32, 32]⟩ : ByteArray).size = 3 := rfl
  have z7 : (⟨#[10, 10, 32, 32]⟩ : ByteArray).size = 4 := rfl
  have z8 : (⟨#[34, 34, 34]⟩ : ByteArray).size = 3 := rfl
  have z9 : (⟨#[34, 34, 34, 120]⟩ : ByteArray).size = 4 := rfl
  have z10 : (⟨#[32, 92, 34, 34, 34, 32, 34, 122, 34, 34, 34]⟩ : ByteArray).size = 11 := rfl
  have zr : (rawOf c n).size ≤ 100 := by unfold rawOf; simp only [ByteArray.size_append]; omega
  iterate 11 refine Ev.ite_pos (by (try simp only [ByteArray.size_append]); omega) ?_
  iterate 3 refine Ev.ite_pos (by (try simp only [ByteArray.size_append]); omega) ?_
  refine Ev.ite_pos (show 3 + (rawOf c n).size ≤ _ by omega) (Ev.ite_pos (show ((⟨#[34, 34, 34]⟩ : ByteArray) ++ rawOf c n).size + 3 ≤ _ by rw [ByteArray.size_append]; omega) ?_)
  have hA : (textA c n).size ≤ 200 := by unfold textA; simp only [ByteArray.size_append]; omega
  have hB : (textB n).size ≤ 200 := by unfold textB; simp only [ByteArray.size_append]; omega
  have hC : (textC c n).size ≤ 200 := by unfold textC; simp only [ByteArray.size_append]; omega
  refine (impl_BlockText.ev (textA c n) (by omega)).bind ?_
  refine Ev.ite_pos (by omega) (Ev.ite_pos (by simp only [ByteArray.size_append]; omega) ?_)
  refine (impl_BlockText.ev (textB n) (by omega)).bind ((impl_BlockValue.ev (rawOf c n) (by omega)).bind ?_)
  refine Ev.ite_pos (toList_iff.2 q1) (Ev.ite_pos q2 (Ev.ite_pos (toList_iff.2 q3) (Ev.ite_pos q4 (Ev.ite_pos (by omega) (Ev.ite_pos (toList_iff.2 q5) ?_)))))
  have hLI : impl_LinesIn.f (rawOf c n) = some (linesB (rawOf c n)) := impl_LinesIn.eq (rawOf c n) (by omega)
  refine Ev.bindc hLI (Ev.ite_pos (by rw [q6]; rfl) (Ev.ite_pos (by omega) ?_))
  refine Ev.bindc (impl_Indent.eq (c ++ n) (by rw [ByteArray.size_append]; omega)) (Ev.ite_pos (by rw [q7]) (Ev.ite_pos (show ((⟨#[34, 34, 34]⟩ : ByteArray) ++ rawOf c n).size + 4 ≤ _ by rw [ByteArray.size_append]; omega) ?_))
  refine (impl_BlockEnd.ev (textC c n) (by omega) 0).bind (Ev.done ?_)
  rw [q8]
  show ((((rawOf c n).size : Int) + 6) == wrap64 (((rawOf c n).size : Int) + 6)) = true
  rw [w64 (by omega) (by omega)]
  exact beq_self_eq_true _


end Go.Proofs.YtmbninphokgbpaaDoor.Pure
