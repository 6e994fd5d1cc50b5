/- For every string of at most 140737488351232 bytes the program's BlockValue and the reference's return the same text (strings above 2^20 bytes are not asked by the law). -/
import Derived.Test.YtmbninphokgbpaaDoorOFnExactBlockValuex5
import Derived.Test.YtmbninphokgbpaaDoorBase
namespace Go.Proofs.YtmbninphokgbpaaDoor.Pure
open Go.RowKit Go.Proofs.YtmbninphokgbpaaDoor.OFnExactBlockValue Go.Proofs.YtmbninphokgbpaaDoorW.PrintWords Go.Proofs.YtmbninphokgbpaaDoorW.PrintLast Go.Proofs.YtmbninphokgbpaaDoorW.PrintMore Go.Proofs.YtmbninphokgbpaaDoor.Base
set_option linter.unusedVariables false
set_option linter.unusedSimpArgs false

theorem byte_at (s : ByteArray) (i : Nat) (h : i < s.size) : ∃ b : UInt8, s.data.toList.drop i = b :: s.data.toList.drop (i + 1) ∧ bt s (i : Int) = (b.toNat : Int) ∧ s.data.toList.take (i + 1) = s.data.toList.take i ++ [b] := by
  have hl : i < s.data.toList.length := by rw [Array.length_toList]; exact h
  refine ⟨s.data.toList[i], List.drop_eq_getElem_cons hl, ?_, List.take_succ_eq_append_getElem hl⟩
  have := tl_cons (s := s) (i := (i : Int)) (by omega) (by omega)
  unfold tl at this
  rw [Int.toNat_natCast] at this
  unfold bytesOf at this
  rw [← List.map_drop, List.drop_eq_getElem_cons hl, List.map_cons] at this
  exact (List.cons.inj this).1.symm
theorem extract_mk (s : ByteArray) (a b : Nat) : s.extract a b = ⟨((s.data.toList.take b).drop a).toArray⟩ := by
  apply ByteArray.ext
  apply Array.toList_inj.1
  rw [ByteArray.data_extract, Array.toList_extract, List.extract_eq_take_drop, List.drop_take]

/-- Every instance of old, from the left, replaced. -/
def repF (old new : List UInt8) : List UInt8 → List UInt8
  | [] => []
  | b :: l => if old ≠ [] ∧ old.isPrefixOf (b :: l) = true then new ++ repF old new ((b :: l).drop old.length) else b :: repF old new l
termination_by l => l.length
decreasing_by
  · rename_i h
    have := List.length_pos_iff.2 h.1
    simp only [List.length_drop, List.length_cons]; omega
  · simp
theorem repF_miss (old new : List UInt8) (s : List UInt8) (h : Lib.index s old = -1) : repF old new s = s := by
  induction s with
  | nil => rw [repF]
  | cons b l ih =>
    rw [Lib.index] at h
    have hg := Lib.index_ge l old
    split at h
    · omega
    · rename_i hp
      split at h
      · rename_i hm
        rw [repF, if_neg (fun z => hp z.2), ih (beq_iff_eq.1 hm)]
      · rename_i hm
        omega
theorem repF_hit (old new : List UInt8) (hold : old ≠ []) (s : List UInt8) : ∀ i : Nat, Lib.index s old = i → repF old new s = s.take i ++ new ++ repF old new (s.drop (i + old.length)) := by
  induction s with
  | nil =>
    intro i h
    rw [Lib.index] at h
    cases old with
    | nil => exact absurd rfl hold
    | cons x r => simp at h
  | cons b l ih =>
    intro i h
    rw [Lib.index] at h
    have hg := Lib.index_ge l old
    split at h
    · rename_i hp
      have hi : i = 0 := by omega
      subst hi
      rw [repF, if_pos ⟨hold, hp⟩, Nat.zero_add]; rfl
    · rename_i hp
      split at h
      · omega
      · rename_i hm
        have hne : Lib.index l old ≠ -1 := fun z => hm (beq_iff_eq.2 z)
        obtain ⟨j, rfl⟩ : ∃ j, i = j + 1 := ⟨i - 1, by omega⟩
        rw [repF, if_neg (fun z => hp z.2), ih j (by omega), List.take_succ_cons, show j + 1 + old.length = (j + old.length) + 1 from by omega, List.drop_succ_cons]; rfl
theorem replaceK_rep (old new : List UInt8) (hold : old ≠ []) (k : Nat) : ∀ s, Lib.count s old = k → Lib.replaceK old new k s = repF old new s := by
  induction k with
  | zero =>
    intro s h
    rcases Lib.index_spec s old with ⟨h1, _⟩ | ⟨i, h1, _⟩
    · rw [repF_miss old new s h1]; rfl
    · rw [Lib.count_hit hold h1] at h; omega
  | succ k ih =>
    intro s h
    obtain ⟨i, hi⟩ := Lib.index_of_count (s := s) (old := old) (by omega)
    have hc := Lib.count_hit hold hi
    rw [Lib.replaceK_hit old new k s i hi, ih _ (by omega), repF_hit old new hold s i hi]
theorem replaceAll_rep (s old new : List UInt8) (hold : old ≠ []) (hne : old ≠ new) : Lib.replaceAll s old new = repF old new s := by
  unfold Lib.replaceAll Lib.replace
  rw [if_neg (by simpa using hne)]
  have : Lib.replaceNum s old (-1) = Lib.count s old := by unfold Lib.replaceNum; rw [if_pos (Or.inl (by decide))]
  rw [this]
  exact replaceK_rep old new hold _ s rfl
/-- A byte set ahead of the first of some lists. -/
def pushH (x : UInt8) : List (List UInt8) → List (List UInt8)
  | [] => [[x]]
  | h :: t => (x :: h) :: t
def splF : List UInt8 → List (List UInt8)
  | [] => [[]]
  | b :: l => if b = 10 then [] :: splF l else pushH b (splF l)
theorem splF_ne (l : List UInt8) : splF l ≠ [] := by
  cases l with
  | nil => simp [splF]
  | cons b l => rw [splF]; split; simp; cases splF l <;> simp [pushH]
theorem pre10 (b : UInt8) (l : List UInt8) : ([10] : List UInt8).isPrefixOf (b :: l) = true ↔ b = 10 := by simp [List.isPrefixOf]; exact eq_comm
theorem splF_miss (s : List UInt8) (h : Lib.index s [10] = -1) : splF s = [s] := by
  induction s with
  | nil => rfl
  | cons b l ih =>
    rw [Lib.index] at h
    have hg := Lib.index_ge l [10]
    split at h
    · omega
    · rename_i hp
      split at h
      · rename_i hm
        rw [splF, if_neg (fun z => hp ((pre10 b l).2 z)), ih (beq_iff_eq.1 hm)]; rfl
      · omega
theorem splF_hit (s : List UInt8) : ∀ i : Nat, Lib.index s [10] = i → splF s = s.take i :: splF (s.drop (i + 1)) := by
  induction s with
  | nil => intro i h; simp [Lib.index] at h
  | cons b l ih =>
    intro i h
    rw [Lib.index] at h
    have hg := Lib.index_ge l [10]
    split at h
    · rename_i hp
      have hi : i = 0 := by omega
      subst hi
      rw [splF, if_pos ((pre10 b l).1 hp)]; rfl
    · rename_i hp
      split at h
      · omega
      · rename_i hm
        have hne : Lib.index l [10] ≠ -1 := fun z => hm (beq_iff_eq.2 z)
        obtain ⟨j, rfl⟩ : ∃ j, i = j + 1 := ⟨i - 1, by omega⟩
        rw [splF, if_neg (fun z => hp ((pre10 b l).2 z)), ih j (by omega), List.take_succ_cons, List.drop_succ_cons]; rfl
theorem splitB_spl (sep : ByteArray) (hsep : sep.data.toList = [10]) (k : Nat) : ∀ s : ByteArray, Lib.countB s sep = k → (Lib.splitB sep 0 k s).map (·.data.toList) = splF s.data.toList := by
  have hs1 : sep.size = 1 := by show sep.data.size = 1; rw [← Array.length_toList, hsep]; rfl
  have hi : ∀ s : ByteArray, Lib.indexB s sep = Lib.index s.data.toList [10] := by intro s; unfold Lib.indexB; rw [hsep]
  induction k with
  | zero =>
    intro s h
    rcases Lib.index_spec s.data.toList [10] with ⟨h1, _⟩ | ⟨i, h1, _⟩
    · rw [splF_miss _ h1]; rfl
    · rw [Lib.countB_hit s sep i (by omega) (by rw [hi]; exact h1)] at h; omega
  | succ k ih =>
    intro s h
    rcases Lib.index_spec s.data.toList [10] with ⟨h1, _⟩ | ⟨i, h1, _⟩
    · rw [Lib.countB_miss s sep (by rw [hi]; exact h1)] at h; omega
    · have hc := Lib.countB_hit s sep i (by omega) (by rw [hi]; exact h1)
      rw [Lib.splitB_hit sep 0 k s i (by rw [hi]; exact h1), List.map_cons, ih _ (by omega), splF_hit _ i h1]
      have e1 : (s.extract 0 (i + 0)).data.toList = s.data.toList.take i := by rw [extract_mk]; simp
      have e2 : (s.extract (i + sep.size) s.size).data.toList = s.data.toList.drop (i + 1) := by
        rw [extract_mk, hs1, List.toList_toArray, List.take_of_length_le (by rw [Array.length_toList]; exact Nat.le_refl _)]
      rw [e1, e2]
/-- The lines of a text: behind 13 10, 13 or 10 a new one begins; p: the byte ahead was a 13. -/
def lnS : Bool → List UInt8 → List (List UInt8)
  | _, [] => [[]]
  | p, b :: l => if p = true ∧ b = 10 then lnS false l else if b = 13 then [] :: lnS true l else if b = 10 then [] :: lnS false l else pushH b (lnS false l)
theorem repF_skip (old new : List UInt8) (b : UInt8) (l : List UInt8) (h : ¬ old.isPrefixOf (b :: l) = true) : repF old new (b :: l) = b :: repF old new l := by
  rw [repF, if_neg (fun z => h z.2)]
theorem repF_take (old new : List UInt8) (hold : old ≠ []) (b : UInt8) (l : List UInt8) (h : old.isPrefixOf (b :: l) = true) : repF old new (b :: l) = new ++ repF old new ((b :: l).drop old.length) := by
  rw [repF, if_pos ⟨hold, h⟩]
theorem pre13 (b : UInt8) (l : List UInt8) : ([13] : List UInt8).isPrefixOf (b :: l) = true ↔ b = 13 := by simp [List.isPrefixOf]; exact eq_comm
theorem lnS_head (l : List UInt8) (h : ∀ c r, l = c :: r → c ≠ 10) : lnS true l = lnS false l := by
  cases l with
  | nil => rfl
  | cons c r => have := h c r rfl; simp [lnS, this]
theorem lines_eq (n : Nat) : ∀ s : List UInt8, s.length ≤ n → splF (repF [13] [10] (repF [13, 10] [10] s)) = lnS false s := by
  induction n with
  | zero =>
    intro s h
    obtain rfl : s = [] := List.eq_nil_of_length_eq_zero (by omega)
    rw [repF, repF]; rfl
  | succ n ih =>
    intro s h
    cases s with
    | nil => rw [repF, repF]; rfl
    | cons b l =>
      rw [List.length_cons] at h
      have k10 : ∀ X, splF (repF [13] [10] (10 :: X)) = [] :: splF (repF [13] [10] X) := by
        intro X
        rw [repF_skip [13] [10] 10 X (by rw [pre13]; decide), splF, if_pos rfl]
      by_cases hb : b = 13
      · subst hb
        by_cases hc : ∃ r, l = 10 :: r
        · obtain ⟨r, rfl⟩ := hc
          rw [repF_take [13, 10] [10] (by simp) 13 (10 :: r) (by simp [List.isPrefixOf])]
          show splF (repF [13] [10] (10 :: repF [13, 10] [10] r)) = _
          rw [k10, ih r (by simp at h; omega)]
          simp [lnS]
        · have hh : ∀ c r, l = c :: r → c ≠ 10 := by
            rintro c r rfl rfl; exact hc ⟨r, rfl⟩
          have hp : ¬ ([13, 10] : List UInt8).isPrefixOf (13 :: l) = true := by
            cases l with
            | nil => simp [List.isPrefixOf]
            | cons c r =>
              have := hh c r rfl
              simp [List.isPrefixOf]; exact fun z => this z.symm
          rw [repF_skip [13, 10] [10] 13 l hp, repF_take [13] [10] (by simp) 13 _ (by rw [pre13])]
          show splF (10 :: repF [13] [10] (repF [13, 10] [10] l)) = _
          rw [splF, if_pos rfl, ih l (by omega), ← lnS_head l hh]
          simp [lnS]
      · have hp : ¬ ([13, 10] : List UInt8).isPrefixOf (b :: l) = true := by
          simp only [List.isPrefixOf, Bool.and_eq_true, beq_iff_eq]
          exact fun z => hb z.1.symm
        rw [repF_skip [13, 10] [10] b l hp, repF_skip [13] [10] b _ (by rw [pre13]; exact hb)]
        by_cases h10 : b = 10
        · subst h10
          rw [splF, if_pos rfl, ih l (by omega)]
          simp [lnS]
        · rw [splF, if_neg h10, ih l (by omega)]
          simp [lnS, hb, h10]
def asB (L : List (List UInt8)) : List ByteArray := L.map fun l => ⟨l.toArray⟩

theorem repF_len (old new : List UInt8) (h : new.length ≤ old.length) (n : Nat) : ∀ l : List UInt8, l.length ≤ n → (repF old new l).length ≤ l.length := by
  induction n with
  | zero =>
    intro l hl
    obtain rfl : l = [] := List.eq_nil_of_length_eq_zero (by omega)
    rw [repF]; simp
  | succ n ih =>
    intro l hl
    cases l with
    | nil => rw [repF]; simp
    | cons b l =>
      rw [List.length_cons] at hl
      rw [repF]
      split
      · rename_i hp
        have hpl : old.length ≤ (b :: l).length := (List.isPrefixOf_iff_prefix.1 hp.2).length_le
        have h0 := List.length_pos_iff.2 hp.1
        have := ih ((b :: l).drop old.length) (by rw [List.length_drop, List.length_cons]; omega)
        rw [List.length_append]
        rw [List.length_drop] at this
        rw [List.length_cons] at hpl this ⊢
        omega
      · have := ih l (by omega)
        simp only [List.length_cons]; omega
theorem replace_eq (s old new : ByteArray) (hold : old.data.toList ≠ []) (hne : old.data.toList ≠ new.data.toList) (h1 : 1 ≤ old.size) (hn : new.size ≤ 1) (hs : s.size ≤ 4000000) : strings_ReplaceAll.f s old new = some ⟨(repF old.data.toList new.data.toList s.data.toList).toArray⟩ := by
  have hc := Lib.countB_le old h1 s.size s (Nat.le_refl _)
  have hm : Lib.countB s old * new.size ≤ s.size * 1 := Nat.mul_le_mul hc hn
  unfold strings_ReplaceAll.f
  rw [if_pos ⟨by omega, h1, by omega⟩, replaceAll_rep _ _ _ hold hne]
theorem impl_LinesIn.eq (s : ByteArray) (hs : s.size ≤ 4000000) : impl_LinesIn.f s = some (asB (lnS false s.data.toList)) := by
  have hl : s.data.toList.length = s.size := by rw [Array.length_toList]; rfl
  have r1 := repF_len [13, 10] [10] (by decide) _ s.data.toList (Nat.le_refl _)
  obtain ⟨t, ht⟩ : ∃ t : ByteArray, (⟨(repF [13, 10] [10] s.data.toList).toArray⟩ : ByteArray) = t := ⟨_, rfl⟩
  have htl : t.data.toList = repF [13, 10] [10] s.data.toList := by rw [← ht]
  have htz : t.size ≤ 4000000 := by show t.data.size ≤ _; rw [← Array.length_toList, htl]; omega
  have r2 := repF_len [13] [10] (by decide) _ t.data.toList (Nat.le_refl _)
  obtain ⟨u, hu⟩ : ∃ u : ByteArray, (⟨(repF [13] [10] t.data.toList).toArray⟩ : ByteArray) = u := ⟨_, rfl⟩
  have hul : u.data.toList = repF [13] [10] t.data.toList := by rw [← hu]
  have htl2 : t.data.toList.length = t.size := by rw [Array.length_toList]; rfl
  have huz : u.size ≤ 4000000 := by show u.data.size ≤ _; rw [← Array.length_toList, hul]; omega
  have f1 := replace_eq s (⟨#[13, 10]⟩ : ByteArray) (⟨#[10]⟩ : ByteArray) (by decide) (by decide) (by decide) (by decide) hs
  have f2 := replace_eq t (⟨#[13]⟩ : ByteArray) (⟨#[10]⟩ : ByteArray) (by decide) (by decide) (by decide) (by decide) htz
  have f1 : strings_ReplaceAll.f s (⟨#[13, 10]⟩ : ByteArray) (⟨#[10]⟩ : ByteArray) = some t := f1.trans (congrArg some ht)
  have f2 : strings_ReplaceAll.f t (⟨#[13]⟩ : ByteArray) (⟨#[10]⟩ : ByteArray) = some u := f2.trans (congrArg some hu)
  have hcu := Lib.countB_le (⟨#[10]⟩ : ByteArray) (by decide) u.size u (Nat.le_refl _)
  have f3 : strings_Split.f u (⟨#[10]⟩ : ByteArray) = some (Lib.splitB (⟨#[10]⟩ : ByteArray) 0 (Lib.countB u (⟨#[10]⟩ : ByteArray)) u) := by
    unfold strings_Split.f
    rw [if_pos ⟨by omega, by decide, Lib.splitB_all (⟨#[10]⟩ : ByteArray) (by decide) 0 _ u rfl, by unfold maxLen; omega⟩]
  have hsp := splitB_spl (⟨#[10]⟩ : ByteArray) rfl _ u rfl
  have hfin : Lib.splitB (⟨#[10]⟩ : ByteArray) 0 (Lib.countB u (⟨#[10]⟩ : ByteArray)) u = asB (lnS false s.data.toList) := by
    rw [← lines_eq _ s.data.toList (Nat.le_refl _), ← htl, ← hul, ← hsp]
    unfold asB
    rw [List.map_map]
    conv => lhs; rw [← List.map_id (Lib.splitB (⟨#[10]⟩ : ByteArray) 0 (Lib.countB u (⟨#[10]⟩ : ByteArray)) u)]
    apply List.map_congr_left
    intro x _
    rfl
  unfold impl_LinesIn.f
  rw [f1, Option.bind_some, f2, Option.bind_some, f3, Option.bind_some, hfin]

def blB (x : Int) : Bool := x == 32 || x == 9
/-- How many blanks stand at the begin. -/
def indN (l : List Int) : Nat := (l.takeWhile blB).length
theorem indN_cons (x : Int) (r : List Int) : indN (x :: r) = if blB x = true then indN r + 1 else 0 := by
  unfold indN; rw [List.takeWhile_cons]; cases blB x <;> simp
theorem indN_le (l : List Int) : indN l ≤ l.length := (List.takeWhile_sublist blB).length_le
theorem trimLeft_len (l : List UInt8) : (Lib.trimLeftS l [32, 9]).length + indN (l.map fun b => (b.toNat : Int)) = l.length := by
  unfold Lib.trimLeftS
  induction l with
  | nil => rfl
  | cons b l ih =>
    have e : blB (b.toNat : Int) = ([32, 9] : List UInt8).contains b := by
      unfold blB
      rw [Bool.eq_iff_iff]
      simp only [Bool.or_eq_true, beq_iff_eq, List.contains_cons, List.contains_nil, Bool.or_false]
      constructor
      · rintro (h | h)
        · left; apply UInt8.toNat_inj.1; show b.toNat = 32; omega
        · right; apply UInt8.toNat_inj.1; show b.toNat = 9; omega
      · rintro (h | h)
        · left; subst h; rfl
        · right; subst h; rfl
    rw [List.dropWhile_cons, List.map_cons, indN_cons, e, List.length_cons]
    cases h : ([32, 9] : List UInt8).contains b with
    | true => simp only [if_true]; omega
    | false => simp

theorem impl_Indent.eq (s : ByteArray) (hs : s.size ≤ 140737488351232) : impl_Indent.f s = some ((indN (bytesOf s) : Nat) : Int) := by
  have h := trimLeft_len s.data.toList
  have hl : s.data.toList.length = s.size := by rw [Array.length_toList]; rfl
  have e : (⟨(Lib.trimLeftS s.data.toList [32, 9]).toArray⟩ : ByteArray).size = (Lib.trimLeftS s.data.toList [32, 9]).length := by
    show (Lib.trimLeftS s.data.toList [32, 9]).toArray.size = _; simp
  have hb : bytesOf s = s.data.toList.map fun b => (b.toNat : Int) := rfl
  unfold impl_Indent.f strings_TrimLeft.f
  rw [if_pos ⟨by omega, by decide, by decide⟩]
  show some (wrap64 ((s.size : Int) - ((⟨(Lib.trimLeftS s.data.toList [32, 9]).toArray⟩ : ByteArray).size : Int))) = _
  rw [e, hb, w64 (by omega) (by omega)]
  congr 1; omega

theorem lnS_ne (l : List UInt8) : ∀ p, lnS p l ≠ [] := by
  induction l with
  | nil => intro p; simp [lnS]
  | cons b l ih =>
    intro p
    rw [lnS]
    split
    · exact ih _
    · split
      · simp
      · split
        · simp
        · cases lnS false l <;> simp [pushH]
/-- The lines, as both sides tell them. -/
def linesB (s : ByteArray) : List ByteArray := asB (lnS false s.data.toList)
theorem linesB_len (s : ByteArray) : (linesB s).length ≤ s.size + 1 := by
  have h : ∀ (l : List UInt8) (p : Bool), (lnS p l).length ≤ l.length + 1 := by
    intro l
    induction l with
    | nil => intro p; simp [lnS]
    | cons b l ih =>
      intro p
      have h1 := ih false
      have h2 := ih true
      rw [lnS]
      split
      · simp only [List.length_cons]; omega
      · split
        · simp only [List.length_cons]; omega
        · split
          · simp only [List.length_cons]; omega
          · cases hq : lnS false l with
            | nil => simp [pushH]
            | cons a t => rw [hq] at h1; simp only [pushH, List.length_cons] at h1 ⊢; omega
  have := h s.data.toList false
  unfold linesB asB
  rw [List.length_map]
  have hl : s.data.toList.length = s.size := by rw [Array.length_toList]; rfl
  omega
theorem linesB_ne (s : ByteArray) : linesB s ≠ [] := by
  unfold linesB asB
  intro h
  exact lnS_ne s.data.toList false (List.map_eq_nil_iff.1 h)
theorem linesB_size (s : ByteArray) : ∀ x ∈ linesB s, x.size ≤ s.size := by
  have h : ∀ (l : List UInt8) (p : Bool), ∀ x ∈ lnS p l, x.length ≤ l.length := by
    intro l
    induction l with
    | nil => intro p x hx; simp [lnS] at hx; subst hx; simp
    | cons b l ih =>
      intro p x hx
      rw [lnS] at hx
      rw [List.length_cons]
      split at hx
      · have := ih _ x hx; omega
      · split at hx
        · rcases List.mem_cons.1 hx with rfl | hx
          · simp
          · have := ih _ x hx; omega
        · split at hx
          · rcases List.mem_cons.1 hx with rfl | hx
            · simp
            · have := ih _ x hx; omega
          · cases hq : lnS false l with
            | nil => rw [hq] at hx; simp [pushH] at hx; subst hx; simp
            | cons a t =>
              rw [hq] at hx
              rcases List.mem_cons.1 hx with rfl | hx
              · have := ih false a (by rw [hq]; simp); simp; omega
              · have := ih false x (by rw [hq]; simp [hx]); omega
  intro x hx
  obtain ⟨l, hl, rfl⟩ := List.mem_map.1 hx
  have := h s.data.toList false l hl
  have e : (⟨l.toArray⟩ : ByteArray).size = l.length := by show l.toArray.size = _; simp
  have hz : s.data.toList.length = s.size := by rw [Array.length_toList]; rfl
  omega

theorem str_append (a b : List Int) : strOfNums a ++ strOfNums b = strOfNums (a ++ b) := by
  unfold strOfNums
  apply ByteArray.ext
  rw [ByteArray.data_append]; simp
theorem str_size (a : List Int) : (strOfNums a).size = a.length := by
  unfold strOfNums
  show (List.toArray _).size = _
  simp
theorem str_one (s : ByteArray) (i : Int) (h0 : 0 ≤ i) (h1 : i < (s.size : Int)) : s.extract i.toNat (i + 1).toNat = strOfNums [bt s i] := by
  apply bytes_inj
  have hr := bt_range s i
  rw [bytes_extract, bytes_strOfNums _ (by intro x hx; simp at hx; subst hx; exact hr)]
  have ht := tl_cons h0 h1
  unfold tl at ht
  rw [List.drop_take, ht, show (i + 1).toNat - i.toNat = 1 from by omega]; rfl

def bareB (s : ByteArray) : Bool := decide (indN (bytesOf s) = s.size)
/-- The least indent of the lines that are not bare; m: of those ahead; -1: there is none. -/
def leastF : Int → List ByteArray → Int
  | m, [] => m
  | m, s :: r => leastF (if bareB s = false ∧ (m < 0 ∨ (indN (bytesOf s) : Int) < m) then (indN (bytesOf s) : Int) else m) r
def cutN (m : Int) (s : ByteArray) : Nat := (max 0 (min m (indN (bytesOf s) : Int))).toNat
def cutF (m : Int) (s : ByteArray) : ByteArray := s.extract (cutN m s) s.size
def joinL : List (List Int) → List Int
  | [] => []
  | [x] => x
  | x :: y :: r => x ++ 10 :: joinL (y :: r)
def trimR (L : List ByteArray) : List ByteArray := (L.reverse.dropWhile bareB).reverse
def joinB (L : List ByteArray) : ByteArray := strOfNums (joinL (L.map bytesOf))
def blockV : List ByteArray → ByteArray
  | [] => (⟨#[]⟩ : ByteArray)
  | h :: t => joinB (trimR ((h :: t.map (cutF (leastF (-1) t))).dropWhile bareB))
theorem indN_size (s : ByteArray) : indN (bytesOf s) ≤ s.size := by have := indN_le (bytesOf s); rwa [size_bytes] at this
theorem cutF_size (m : Int) (s : ByteArray) : (cutF m s).size ≤ s.size := by unfold cutF; rw [size_extract]; omega
theorem leastF_range (B : Int) (L : List ByteArray) (h : ∀ s ∈ L, (s.size : Int) ≤ B) : ∀ m, -1 ≤ m → m ≤ B → -1 ≤ leastF m L ∧ leastF m L ≤ B := by
  induction L with
  | nil => intro m h0 h1; exact ⟨h0, h1⟩
  | cons s r ih =>
    intro m h0 h1
    have hs := h s (by simp)
    have hi := indN_size s
    exact ih (fun x hx => h x (by simp [hx])) _ (by split <;> omega) (by split <;> omega)
theorem joinL_snoc (M : List (List Int)) (x : List Int) (h : M ≠ []) : joinL (M ++ [x]) = joinL M ++ 10 :: x := by
  induction M with
  | nil => exact absurd rfl h
  | cons a M ih =>
    cases M with
    | nil => rfl
    | cons b M =>
      have := ih (by simp)
      rw [List.cons_append] at this ⊢
      rw [List.cons_append, joinL, joinL, this]; simp
theorem joinL_len (B : Nat) (M : List (List Int)) (h : ∀ x ∈ M, x.length ≤ B) : (joinL M).length ≤ M.length * (B + 1) := by
  induction M with
  | nil => simp [joinL]
  | cons a M ih =>
    cases M with
    | nil => have := h a (by simp); simp [joinL]; omega
    | cons b M =>
      have h1 := ih fun x hx => h x (by simp [hx])
      have h2 := h a (by simp)
      rw [joinL, List.length_append, List.length_cons]
      rw [show (a :: b :: M).length * (B + 1) = (b :: M).length * (B + 1) + (B + 1) from by rw [show (a :: b :: M).length = (b :: M).length + 1 from rfl, Nat.add_mul, Nat.one_mul]]
      omega
theorem rd_mid (A B : List ByteArray) (b : ByteArray) : rdOf ByteArray.empty (A ++ b :: B) ((A.length : Nat) : Int) = b := by
  unfold rdOf
  rw [Int.toNat_natCast, List.getD_eq_getElem?_getD, List.getElem?_append_right (Nat.le_refl _)]; simp
theorem set_mid (A B : List ByteArray) (b c : ByteArray) : (A ++ b :: B).set ((A.length : Nat) : Int).toNat c = A ++ c :: B := by
  rw [Int.toNat_natCast, List.set_append_right _ _ (Nat.le_refl _)]; simp
theorem trimR_nil : trimR [] = [] := rfl
theorem trimR_snoc (M : List ByteArray) (s : ByteArray) : trimR (M ++ [s]) = if bareB s = true then trimR M else M ++ [s] := by
  unfold trimR
  rw [List.reverse_append, List.reverse_singleton, List.singleton_append, List.dropWhile_cons]
  split
  · rfl
  · simp
theorem bareB_eq (s : ByteArray) : bareB s = (((indN (bytesOf s) : Nat) : Int) == (s.size : Int)) := by
  unfold bareB
  rw [Bool.eq_iff_iff, decide_eq_true_eq, beq_iff_eq]; omega

theorem impl_bare.eq (s : ByteArray) (hs : s.size ≤ 140737488351232) : impl_bare.f s = some (bareB s) := by
  unfold impl_bare.f
  rw [impl_Indent.eq s hs, bareB_eq]; rfl

theorem join_ints (L : List ByteArray) : (Lib.join (L.map (·.data.toList)) [10]).map (fun b => (b.toNat : Int)) = joinL (L.map bytesOf) := by
  have tail : ∀ (L : List ByteArray) (x : ByteArray), (x.data.toList ++ Lib.joinTail [10] (L.map (·.data.toList))).map (fun b => (b.toNat : Int)) = joinL (bytesOf x :: L.map bytesOf) := by
    intro L
    induction L with
    | nil => intro x; simp [Lib.joinTail, joinL, bytesOf]
    | cons y L ih =>
      intro x
      have h := ih y
      rw [List.map_cons (f := bytesOf), joinL, ← h]
      simp [Lib.joinTail, bytesOf]
  cases L with
  | nil => rfl
  | cons x L => rw [List.map_cons, Lib.join_cons, tail]; rfl
theorem strings_Join.eq (L : List ByteArray) (hl : L.length ≤ 4000000) (h : ∀ s ∈ L, s.size ≤ 4000000) : strings_Join.f L (⟨#[10]⟩ : ByteArray) = some (joinB L) := by
  have hi := join_ints L
  have hb := joinL_len 4000000 (L.map bytesOf) (by
    intro x hx
    obtain ⟨s, hs, rfl⟩ := List.mem_map.1 hx
    rw [size_bytes]; exact h s hs)
  rw [List.length_map] at hb
  have hlen : (Lib.join (L.map (·.data.toList)) [10]).length = (joinL (L.map bytesOf)).length := by rw [← hi, List.length_map]
  have hbig : L.length * (4000000 + 1) ≤ 4000000 * 4000001 := Nat.mul_le_mul_right _ hl
  unfold strings_Join.f
  rw [if_pos ⟨by omega, by show (Lib.join (L.map (·.data.toList)) [10]).length ≤ _; omega⟩]
  congr 1
  apply bytes_inj
  have e : bytesOf (⟨(Lib.join (L.map (·.data.toList)) [10]).toArray⟩ : ByteArray) = joinL (L.map bytesOf) := by rw [bytes_mk]; exact hi
  have e2 : bytesOf (joinB L) = joinL (L.map bytesOf) := by
    unfold joinB
    rw [← hi]
    apply bytes_strOfNums
    intro x hx
    obtain ⟨b, _, rfl⟩ := List.mem_map.1 hx
    have := b.toNat_lt
    omega
  exact e.trans e2.symm

theorem impl_BlockValue.l3_ev (hN : Nat) (n : Nat) : ∀ M : List ByteArray, M.length = n → M.length ≤ hN → hN ≤ 4000000 → (∀ s ∈ M, s.size ≤ 4000000) → Ev (fun k => impl_BlockValue.l3 k M) (joinB (trimR M)) := by
  induction n with
  | zero =>
    intro M hn h1 h2 hM
    obtain rfl := List.eq_nil_of_length_eq_zero hn
    apply Ev.succ; simp only [impl_BlockValue.l3]
    exact Ev.ite_neg (by simp) (Ev.bindc (strings_Join.eq [] (by simp) (by simp)) (Ev.done rfl))
  | succ n ih =>
    intro M hn h1 h2 hM
    obtain ⟨M', s, rfl⟩ : ∃ M' s, M = M' ++ [s] := ⟨M.dropLast, M.getLast (by rintro rfl; simp at hn), (List.dropLast_concat_getLast _).symm⟩
    have hl : (M' ++ [s]).length = M'.length + 1 := by simp
    have hw : wrap64 (((M' ++ [s]).length : Int) - 1) = ((M'.length : Nat) : Int) := by rw [hl, w64 (by omega) (by omega)]; omega
    have hs := hM s (by simp)
    apply Ev.succ; simp only [impl_BlockValue.l3]
    rw [hw, rd_mid]
    refine Ev.ite_pos (by omega) (Ev.ite_pos (by omega) (Ev.ite_pos (by omega) (Ev.bindc (impl_bare.eq s (by omega)) ?_)))
    rw [trimR_snoc]
    cases hb : bareB s with
    | true =>
      rw [if_pos rfl]
      refine Ev.ite_pos rfl (Ev.ite_pos (by omega) ?_)
      rw [Int.toNat_natCast, List.take_left]
      exact ih M' (by omega) (by omega) h2 (fun x hx => hM x (by simp [hx]))
    | false =>
      rw [if_neg (by decide)]
      exact Ev.ite_neg (by decide) (Ev.bindc (strings_Join.eq _ (by omega) hM) (Ev.done rfl))
theorem impl_BlockValue.l2_ev (M : List ByteArray) : M.length ≤ 4000000 → (∀ s ∈ M, s.size ≤ 4000000) → Ev (fun k => impl_BlockValue.l2 k M) (joinB (trimR (M.dropWhile bareB))) := by
  have j3 : ∀ M : List ByteArray, M.length ≤ 4000000 → (∀ s ∈ M, s.size ≤ 4000000) → Ev (fun k => impl_BlockValue.j3 k M) (joinB (trimR M)) := by
    intro M h1 h2
    apply Ev.succ; simp only [impl_BlockValue.j3]
    exact impl_BlockValue.l3_ev M.length M.length M rfl (Nat.le_refl _) h1 h2
  induction M with
  | nil =>
    intro h1 h2
    apply Ev.succ; simp only [impl_BlockValue.l2]
    exact Ev.ite_neg (by simp) (j3 [] h1 h2)
  | cons s M ih =>
    intro h1 h2
    have hs := h2 s (by simp)
    rw [List.length_cons] at h1
    apply Ev.succ; simp only [impl_BlockValue.l2]
    have hrd : rdOf ByteArray.empty (s :: M) 0 = s := rd_mid [] M s
    rw [hrd, List.dropWhile_cons]
    refine Ev.ite_pos (by rw [List.length_cons]; omega) (Ev.ite_pos (by rw [List.length_cons]; omega) (Ev.bindc (impl_bare.eq s (by omega)) ?_))
    cases hb : bareB s with
    | true =>
      rw [if_pos rfl]
      exact Ev.ite_pos rfl (Ev.ite_pos (by rw [List.length_cons]; omega) (ih (by omega) (fun x hx => h2 x (by simp [hx]))))
    | false =>
      rw [if_neg (by decide)]
      exact Ev.ite_neg (by decide) (j3 (s :: M) (by rw [List.length_cons]; omega) h2)
theorem mx_mn (m : Int) (s : ByteArray) : mx 0 (mn m (indN (bytesOf s) : Int)) = ((cutN m s : Nat) : Int) := by
  unfold mx mn cutN
  split <;> split <;> omega
theorem impl_BlockValue.l1_ev (m : Int) (hm0 : -1 ≤ m) (hm1 : m ≤ 4000000) (B : List ByteArray) : ∀ A : List ByteArray, (A ++ B).length ≤ 4000000 → (∀ s ∈ A ++ B, s.size ≤ 4000000) → Ev (fun k => impl_BlockValue.l1 k (A ++ B) m ((A.length : Nat) : Int)) (joinB (trimR ((A ++ B.map (cutF m)).dropWhile bareB))) := by
  induction B with
  | nil =>
    intro A h1 h2
    apply Ev.succ; simp only [impl_BlockValue.l1]
    rw [List.append_nil] at h1 h2 ⊢
    rw [List.map_nil, List.append_nil]
    exact Ev.ite_neg (by omega) (impl_BlockValue.l2_ev A h1 h2)
  | cons s B ih =>
    intro A h1 h2
    have hs := h2 s (by simp)
    have hc := indN_size s
    rw [List.length_append, List.length_cons] at h1
    apply Ev.succ; simp only [impl_BlockValue.l1]
    rw [rd_mid, w64 (x := ((A.length : Nat) : Int) + 1) (by omega) (by omega)]
    refine Ev.ite_pos (by rw [List.length_append, List.length_cons]; omega) (Ev.ite_pos (by omega) (Ev.bindc (impl_Indent.eq s (by omega)) ?_))
    rw [mx_mn, set_mid, Int.toNat_natCast]
    have hcn : cutN m s ≤ s.size := by unfold cutN; omega
    refine Ev.ite_pos (by omega) (Ev.ite_pos (by omega) ?_)
    have hE := ih (A ++ [cutF m s]) (by rw [List.length_append, List.length_append]; simp; omega) (by
      intro x hx
      rcases List.mem_append.1 hx with hx | hx
      · rcases List.mem_append.1 hx with hx | hx
        · exact h2 x (by simp [hx])
        · simp at hx; subst hx; have := cutF_size m s; omega
      · exact h2 x (by simp [hx]))
    rw [List.length_append, List.length_singleton, List.append_assoc, List.append_assoc, List.singleton_append, List.singleton_append, show ((A.length + 1 : Nat) : Int) = ((A.length : Nat) : Int) + 1 from by omega] at hE
    rw [List.map_cons]
    exact hE
theorem impl_BlockValue.l0_ev (L : List ByteArray) (R : ByteArray) (B : List ByteArray) : ∀ (A : List ByteArray) (m : Int), -1 ≤ m → m ≤ 4000000 → (A ++ B).length ≤ 4000000 → (∀ s ∈ A ++ B, s.size ≤ 4000000) →
    Ev (fun k => impl_BlockValue.l1 k L (leastF m B) 1) R → Ev (fun k => impl_BlockValue.l0 k L m (A ++ B) ((A ++ B).length : Int) ((A.length : Nat) : Int)) R := by
  induction B with
  | nil =>
    intro A m hm0 hm1 h1 h2 hE
    apply Ev.succ; simp only [impl_BlockValue.l0]
    exact Ev.ite_neg (by rw [List.append_nil]; omega) hE
  | cons s B ih =>
    intro A m hm0 hm1 h1 h2 hE
    have hs := h2 s (by simp)
    have hc := indN_size s
    have hsplit : A ++ s :: B = (A ++ [s]) ++ B := by simp
    have hlen : ((A ++ [s]).length : Int) = ((A.length : Nat) : Int) + 1 := by simp
    have next : ∀ m', m' = (if bareB s = false ∧ (m < 0 ∨ (indN (bytesOf s) : Int) < m) then (indN (bytesOf s) : Int) else m) → Ev (fun k => impl_BlockValue.l0 k L m' (A ++ s :: B) ((A ++ s :: B).length : Int) (((A.length : Nat) : Int) + 1)) R := by
      rintro m' rfl
      have := ih (A ++ [s]) _ (by split <;> omega) (by split <;> omega) (by rw [← hsplit]; exact h1) (by rw [← hsplit]; exact h2) hE
      rw [← hsplit, hlen] at this
      exact this
    rw [List.length_append, List.length_cons] at h1
    apply Ev.succ; simp only [impl_BlockValue.l0]
    rw [rd_mid, w64 (x := ((A.length : Nat) : Int) + 1) (by omega) (by omega)]
    refine Ev.ite_pos (by rw [List.length_append, List.length_cons]; omega) (Ev.ite_pos (by omega) (Ev.ite_pos (by rw [List.length_append, List.length_cons]; omega) (Ev.bindc (impl_bare.eq s (by omega)) ?_)))
    cases hb : bareB s with
    | true => exact Ev.ite_pos rfl (next m (by rw [if_neg (by rw [hb]; simp)]))
    | false =>
      refine Ev.ite_neg (by decide) ?_
      by_cases c : m < 0
      · exact Ev.ite_pos c (Ev.bindc (impl_Indent.eq s (by omega)) (next _ (by rw [if_pos ⟨hb, Or.inl c⟩])))
      · refine Ev.ite_neg c (Ev.bindc (impl_Indent.eq s (by omega)) ?_)
        by_cases d : (indN (bytesOf s) : Int) < m
        · exact Ev.ite_pos d (Ev.bindc (impl_Indent.eq s (by omega)) (next _ (by rw [if_pos ⟨hb, Or.inr d⟩])))
        · exact Ev.ite_neg d (next m (by rw [if_neg (fun z => z.2.elim c d)]))
theorem impl_BlockValue.ev (s : ByteArray) (hs : s.size ≤ 3000000) : Ev (fun k => impl_BlockValue.f k s) (blockV (linesB s)) := by
  have hl := linesB_len s
  have hz := linesB_size s
  have hne := linesB_ne s
  have hI : impl_LinesIn.f s = some (linesB s) := impl_LinesIn.eq s (by omega)
  unfold impl_BlockValue.f
  refine Ev.bindc hI ?_
  generalize linesB s = L at *
  cases L with
  | nil => exact absurd rfl hne
  | cons h t =>
    have hz' : ∀ x ∈ h :: t, x.size ≤ 4000000 := fun x hx => by have := hz x hx; omega
    rw [List.length_cons] at hl
    have hr := leastF_range 4000000 t (fun x hx => by have := hz' x (by simp [hx]); omega) (-1) (by omega) (by omega)
    refine Ev.ite_pos (by rw [List.length_cons]; omega) (Ev.bindc rfl ?_)
    show Ev (fun k => impl_BlockValue.l0 k (h :: t) (-1) t (t.length : Int) 0) _
    have h1 := impl_BlockValue.l1_ev (leastF (-1) t) hr.1 hr.2 t [h] (by simp; omega) (by simpa using hz')
    have h0 := impl_BlockValue.l0_ev (h :: t) (blockV (h :: t)) t [] (-1) (by omega) (by omega) (by simp; omega) (fun x hx => hz' x (by simp at hx; simp [hx])) h1
    exact h0

def curH (cur : List UInt8) : List (List UInt8) → List (List UInt8)
  | [] => [cur]
  | h :: t => (cur ++ h) :: t
theorem curH_push (cur : List UInt8) (x : UInt8) (L : List (List UInt8)) (h : L ≠ []) : curH cur (pushH x L) = curH (cur ++ [x]) L := by
  cases L with
  | nil => exact absurd rfl h
  | cons a t => simp [curH, pushH]
theorem curH_nil (L : List (List UInt8)) (h : L ≠ []) : curH [] L = L := by
  cases L with
  | nil => exact absurd rfl h
  | cons a t => simp [curH]
theorem spec_LinesIn.l0_ev (s : ByteArray) (hs : s.size ≤ 4000000) (n : Nat) : ∀ (acc : List ByteArray) (b i : Nat), b ≤ i → i ≤ s.size → s.size - i ≤ n → acc.length ≤ i →
    Ev (fun k => spec_LinesIn.l0 k s acc (b : Int) (i : Int)) (acc ++ asB (curH ((s.data.toList.take i).drop b) (lnS false (s.data.toList.drop i)))) := by
  have hlen : s.data.toList.length = s.size := by rw [Array.length_toList]; rfl
  have fin : ∀ (acc : List ByteArray) (b i : Nat), b ≤ i → i ≤ s.size → s.size - i = 0 → acc.length ≤ i → Ev (fun k => spec_LinesIn.l0 k s acc (b : Int) (i : Int)) (acc ++ asB (curH ((s.data.toList.take i).drop b) (lnS false (s.data.toList.drop i)))) := by
    intro acc b i hb hi hn ha
    obtain rfl : i = s.size := by omega
    have hd : s.data.toList.drop s.size = [] := List.drop_eq_nil_of_le (by omega)
    rw [hd, lnS]
    apply Ev.succ; simp only [spec_LinesIn.l0]
    refine Ev.ite_neg (by omega) (Ev.ite_pos (by omega) (Ev.ite_pos (by omega) (Ev.ite_pos (by omega) (Ev.done ?_))))
    rw [Int.toNat_natCast, extract_mk]; simp [curH, asB]
  induction n with
  | zero => intro acc b i hb hi hn ha; exact fin acc b i hb hi (by omega) ha
  | succ n ih =>
    intro acc b i hb hi hn ha
    by_cases hend : i = s.size
    · exact fin acc b i hb hi (by omega) ha
    obtain ⟨x, hx1, hx2, hx3⟩ := byte_at s i (by omega)
    have e1 : ((i : Int) + 1) = ((i + 1 : Nat) : Int) := by omega
    have e2 : ((i : Int) + 1 + 1) = ((i + 2 : Nat) : Int) := by omega
    have hbx : ∀ c : UInt8, (bt s (i : Int) = (c.toNat : Int)) ↔ x = c := by
      intro c
      rw [hx2]
      constructor
      · intro h; apply UInt8.toNat_inj.1; omega
      · rintro rfl; rfl
    have h13 : bt s (i : Int) = 13 ↔ x = 13 := hbx 13
    have h10 : bt s (i : Int) = 10 ↔ x = 10 := hbx 10
    have hempty : ∀ j, ((s.data.toList.take j).drop j) = [] := fun j => List.drop_eq_nil_of_le (by rw [List.length_take]; omega)
    have hj : ∀ c, c = decide (x = 13 ∨ x = 10) → Ev (fun k => spec_LinesIn.j1 k s acc (b : Int) (i : Int) c) (acc ++ asB (curH ((s.data.toList.take i).drop b) (lnS false (s.data.toList.drop i)))) := by
      rintro c rfl
      apply Ev.succ; simp only [spec_LinesIn.j1]
      rw [w64 (x := (i : Int) + 1) (by omega) (by omega), w64 (x := (i : Int) + 1 + 1) (by omega) (by omega), hx1, lnS, if_neg (by simp)]
      by_cases c1 : x = 13 ∨ x = 10
      · refine Ev.ite_pos (decide_eq_true c1) (Ev.ite_pos (by omega) (Ev.ite_pos (by omega) (Ev.ite_pos (by omega) (Ev.ite_pos (by omega) (Ev.bindc rfl (Ev.ite_pos (by omega) (Ev.ite_pos (by omega) ?_)))))))
        rw [Int.toNat_natCast, Int.toNat_natCast, extract_mk]
        have step : ∀ j : Nat, i < j → j ≤ s.size → Ev (fun k => spec_LinesIn.l0 k s (acc ++ [(⟨((s.data.toList.take i).drop b).toArray⟩ : ByteArray)]) (j : Int) (j : Int)) (acc ++ asB (curH ((s.data.toList.take i).drop b) ([] :: lnS false (s.data.toList.drop j)))) := by
          intro j hj1 hj2
          refine (ih (acc ++ [(⟨((s.data.toList.take i).drop b).toArray⟩ : ByteArray)]) j j (Nat.le_refl _) hj2 (by omega) (by rw [List.length_append]; simp; omega)).get ?_
          rw [hempty, curH_nil _ (lnS_ne _ _)]; simp [curH, asB]
        by_cases c13 : x = 13
        · rw [if_pos c13]
          refine Ev.ite_pos (h13.2 c13) ?_
          by_cases d : (i : Int) + 1 < (s.size : Int)
          · obtain ⟨y, hy1, hy2, _⟩ := byte_at s (i + 1) (by omega)
            have hy10 : bt s ((i : Int) + 1) = 10 ↔ y = 10 := by
              rw [e1, hy2]
              constructor
              · intro h; apply UInt8.toNat_inj.1; show y.toNat = 10; omega
              · rintro rfl; rfl
            refine Ev.ite_pos d (Ev.ite_pos (by omega) ?_)
            by_cases e : y = 10
            · rw [hy1, lnS, if_pos ⟨rfl, e⟩, e2]
              exact Ev.ite_pos (hy10.2 e) (step (i + 2) (by omega) (by omega))
            · rw [e1, lnS_head _ (by rintro c r h; rw [hy1] at h; injection h with h _; rw [← h]; exact e)]
              exact Ev.ite_neg (fun z => e (hy10.1 (by rw [e1]; exact z))) (step (i + 1) (by omega) (by omega))
          · rw [e1, lnS_head _ (by rintro c r h; rw [List.drop_eq_nil_of_le (by omega)] at h; cases h)]
            exact Ev.ite_neg (by omega) (step (i + 1) (by omega) (by omega))
        · rw [if_neg c13, if_pos (c1.resolve_left c13), e1]
          exact Ev.ite_neg (fun z => c13 (h13.1 z)) (step (i + 1) (by omega) (by omega))
      · rw [if_neg (fun z => c1 (Or.inl z)), if_neg (fun z => c1 (Or.inr z)), e1, curH_push _ _ _ (lnS_ne _ _)]
        refine Ev.ite_neg (by simpa using c1) ((ih acc b (i + 1) (by omega) (by omega) (by omega) (by omega)).get ?_)
        have hc : (s.data.toList.take i).drop b ++ [x] = (s.data.toList.take (i + 1)).drop b := by
          rw [hx3, List.drop_append_of_le_length (by rw [List.length_take, hlen]; omega)]
        rw [hc]
    apply Ev.succ; simp only [spec_LinesIn.l0]
    refine Ev.ite_pos (by omega) (Ev.ite_pos (by omega) ?_)
    by_cases c : bt s (i : Int) = 13
    · exact Ev.ite_pos c (hj _ (by simp [h13.1 c]))
    · refine Ev.ite_neg c (hj _ ?_)
      rw [Bool.eq_iff_iff, beq_iff_eq, decide_eq_true_eq, h10]
      constructor
      · exact Or.inr
      · exact fun z => z.resolve_left fun q => c (h13.2 q)
theorem spec_LinesIn.ev (s : ByteArray) (hs : s.size ≤ 4000000) : Ev (fun k => spec_LinesIn.f k s) (linesB s) := by
  unfold spec_LinesIn.f linesB
  refine (spec_LinesIn.l0_ev s hs s.size [] 0 0 (by omega) (by omega) (by omega) (by simp)).get ?_
  simp only [List.take_zero, List.drop_zero, List.nil_append]
  have : ([] : List UInt8).drop 0 = [] := rfl
  rw [curH_nil _ (lnS_ne _ _)]

theorem spec_Indent.l0_ev (s : ByteArray) (hs : s.size ≤ 140737488351232) (n : Nat) : ∀ i : Int, 0 ≤ i → (s.size : Int) - i ≤ n → Ev (fun k => spec_Indent.l0 k s i) (i + indN (tl s i)) := by
  induction n with
  | zero =>
    intro i h0 hn
    apply Ev.succ; simp only [spec_Indent.l0]
    rw [tl_nil (by omega)]
    exact Ev.ite_neg (by omega) (Ev.done (by simp [indN]))
  | succ n ih =>
    intro i h0 hn
    apply Ev.succ; simp only [spec_Indent.l0]
    by_cases c : i < (s.size : Int)
    · have hE := ih (i + 1) (by omega) (by omega)
      rw [tl_cons h0 c, indN_cons, w64 (x := i + 1) (by omega) (by omega)]
      refine Ev.ite_pos c (Ev.ite_pos h0 ?_)
      by_cases d : bt s i = 32
      · rw [if_pos (by unfold blB; simp [d])]
        exact Ev.ite_pos d (hE.get (by omega))
      · refine Ev.ite_neg d ?_
        by_cases e : bt s i = 9
        · rw [if_pos (by unfold blB; simp [e])]
          exact Ev.ite_pos e (hE.get (by omega))
        · rw [if_neg (by unfold blB; simp [d, e])]
          exact Ev.ite_neg e (Ev.done (by omega))
    · rw [tl_nil (by omega)]
      exact Ev.ite_neg c (Ev.done (by simp [indN]))
theorem spec_Indent.ev (s : ByteArray) (hs : s.size ≤ 140737488351232) : Ev (fun k => spec_Indent.f k s) ((indN (bytesOf s) : Nat) : Int) := by
  unfold spec_Indent.f
  refine (spec_Indent.l0_ev s hs s.size 0 (by omega) (by omega)).get ?_
  rw [tl_zero]; omega

theorem rd_join (A B C : List ByteArray) (b : ByteArray) (i : Int) (hi : i = ((A.length + B.length : Nat) : Int)) : rdOf ByteArray.empty (A ++ (B ++ b :: C)) i = b := by
  subst hi
  have := rd_mid (A ++ B) C b
  rw [List.length_append, List.append_assoc] at this
  exact this
theorem spec_BlockValue.l4_ev (A C : List ByteArray) (N : List ByteArray) : ∀ M : List ByteArray, (A ++ ((M ++ N) ++ C)).length ≤ 4000000 → (∀ s ∈ A ++ ((M ++ N) ++ C), s.size ≤ 4000000) →
    Ev (fun k => spec_BlockValue.l4 k (A ++ ((M ++ N) ++ C)) ((A.length : Nat) : Int) ((A.length + (M ++ N).length : Nat) : Int) (joinL (M.map bytesOf)) ((A.length + M.length : Nat) : Int)) (joinB (M ++ N)) := by
  induction N with
  | nil =>
    intro M h1 h2
    apply Ev.succ; simp only [spec_BlockValue.l4]
    rw [List.append_nil]
    exact Ev.ite_neg (by omega) (Ev.done rfl)
  | cons s N ih =>
    intro M h1 h2
    have hs := h2 s (by simp)
    have hlen : (A ++ ((M ++ s :: N) ++ C)).length = A.length + (M.length + (N.length + 1) + C.length) := by simp; omega
    have hjl := joinL_len 4000000 (M.map bytesOf) (by
      intro x hx
      obtain ⟨y, hy, rfl⟩ := List.mem_map.1 hx
      rw [size_bytes]; exact h2 y (by simp [hy]))
    rw [List.length_map] at hjl
    have hMl : M.length ≤ 4000000 := by omega
    have hbig : M.length * (4000000 + 1) ≤ 4000000 * 4000001 := Nat.mul_le_mul_right _ hMl
    have hrd : rdOf ByteArray.empty (A ++ ((M ++ s :: N) ++ C)) ((A.length + M.length : Nat) : Int) = s := by
      have := rd_join A M (N ++ C) s _ rfl
      simpa using this
    have hsplit : A ++ ((M ++ s :: N) ++ C) = A ++ (((M ++ [s]) ++ N) ++ C) := by simp
    have hE := ih (M ++ [s]) (by rw [← hsplit]; exact h1) (by rw [← hsplit]; exact h2)
    rw [← hsplit] at hE
    have hMs : (M ++ [s]) ++ N = M ++ s :: N := by simp
    rw [hMs] at hE
    have hidx : ((A.length + (M ++ [s]).length : Nat) : Int) = ((A.length + M.length : Nat) : Int) + 1 := by rw [List.length_append, List.length_singleton]; omega
    rw [hidx] at hE
    have hml2 : (M ++ s :: N).length = M.length + (N.length + 1) := by simp
    apply Ev.succ; simp only [spec_BlockValue.l4]
    rw [hrd, w64 (x := ((A.length + M.length : Nat) : Int) + 1) (by omega) (by omega)]
    refine Ev.ite_pos (by omega) ?_
    by_cases c : ((A.length + M.length : Nat) : Int) > ((A.length : Nat) : Int)
    · have hM : M ≠ [] := by rintro rfl; simp at c
      refine Ev.ite_pos c (Ev.ite_pos (by omega) (Ev.bindc rfl (Ev.ite_pos (by omega) (Ev.ite_pos (by omega) (Ev.ite_pos (by simp; omega) ?_)))))
      have e : joinL ((M ++ [s]).map bytesOf) = joinL (M.map bytesOf) ++ [10] ++ bytesOf s := by rw [List.map_append, List.map_singleton, joinL_snoc _ _ (by simpa using hM)]; simp
      rw [e] at hE
      exact hE
    · have hM : M = [] := List.eq_nil_of_length_eq_zero (by omega)
      subst hM
      refine Ev.ite_neg c (Ev.ite_pos (by omega) (Ev.ite_pos (by omega) (Ev.ite_pos (by show 0 + s.size < _; omega) ?_)))
      exact hE
theorem spec_BlockValue.l3_ev (A C0 : List ByteArray) (n : Nat) : ∀ (M C : List ByteArray), M.length = n → C0 = M ++ C → (A ++ C0).length ≤ 4000000 → (∀ s ∈ A ++ C0, s.size ≤ 4000000) →
    Ev (fun k => spec_BlockValue.l3 k (A ++ C0) ((A.length : Nat) : Int) ((A.length + M.length : Nat) : Int)) (joinB (trimR M)) := by
  have j6 : ∀ (M C : List ByteArray), C0 = M ++ C → (A ++ C0).length ≤ 4000000 → (∀ s ∈ A ++ C0, s.size ≤ 4000000) → Ev (fun k => spec_BlockValue.j6 k (A ++ C0) ((A.length : Nat) : Int) ((A.length + M.length : Nat) : Int)) (joinB M) := by
    intro M C hC h1 h2
    subst hC
    apply Ev.succ; simp only [spec_BlockValue.j6]
    have := spec_BlockValue.l4_ev A C M [] h1 h2
    simpa [joinL] using this
  induction n with
  | zero =>
    intro M C hn hC h1 h2
    obtain rfl := List.eq_nil_of_length_eq_zero hn
    apply Ev.succ; simp only [spec_BlockValue.l3]
    exact Ev.ite_neg (by simp) (j6 [] C hC h1 h2)
  | succ n ih =>
    intro M C hn hC h1 h2
    obtain ⟨M', s, rfl⟩ : ∃ M' s, M = M' ++ [s] := ⟨M.dropLast, M.getLast (by rintro rfl; simp at hn), (List.dropLast_concat_getLast _).symm⟩
    have hs : s.size ≤ 4000000 := h2 s (by rw [hC]; simp)
    have hlen : (A ++ C0).length = A.length + (M'.length + 1 + C.length) := by rw [hC]; simp; omega
    have hl : (M' ++ [s]).length = M'.length + 1 := by simp
    have hw : wrap64 (((A.length + (M' ++ [s]).length : Nat) : Int) - 1) = ((A.length + M'.length : Nat) : Int) := by rw [hl, w64 (by omega) (by omega)]; omega
    have hrd : rdOf ByteArray.empty (A ++ C0) ((A.length + M'.length : Nat) : Int) = s := by
      have := rd_join A M' C s _ rfl
      rw [hC]; simpa using this
    apply Ev.succ; simp only [spec_BlockValue.l3]
    rw [hw, hrd, trimR_snoc]
    refine Ev.ite_pos (by rw [hl]; omega) (Ev.ite_pos (by omega) (Ev.ite_pos (by omega) ((spec_Indent.ev s (by omega)).bind ?_)))
    by_cases hb : ((indN (bytesOf s) : Nat) : Int) = (s.size : Int)
    · rw [if_pos (by rw [bareB_eq]; exact beq_iff_eq.2 hb)]
      exact Ev.ite_pos hb (ih M' (s :: C) (by omega) (by rw [hC]; simp) h1 h2)
    · rw [if_neg (by rw [bareB_eq]; simpa using hb)]
      exact Ev.ite_neg hb (j6 (M' ++ [s]) C hC h1 h2)
theorem spec_BlockValue.l2_ev (B : List ByteArray) : ∀ A : List ByteArray, (A ++ B).length ≤ 4000000 → (∀ s ∈ A ++ B, s.size ≤ 4000000) → Ev (fun k => spec_BlockValue.l2 k (A ++ B) ((A.length : Nat) : Int)) (joinB (trimR (B.dropWhile bareB))) := by
  have j4 : ∀ A B : List ByteArray, (A ++ B).length ≤ 4000000 → (∀ s ∈ A ++ B, s.size ≤ 4000000) → Ev (fun k => spec_BlockValue.j4 k (A ++ B) ((A.length : Nat) : Int)) (joinB (trimR B)) := by
    intro A B h1 h2
    apply Ev.succ; simp only [spec_BlockValue.j4]
    have := spec_BlockValue.l3_ev A B B.length B [] rfl (by simp) h1 h2
    rw [List.length_append]
    exact this
  induction B with
  | nil =>
    intro A h1 h2
    apply Ev.succ; simp only [spec_BlockValue.l2]
    exact Ev.ite_neg (by rw [List.append_nil]; omega) (j4 A [] h1 h2)
  | cons s B ih =>
    intro A h1 h2
    have hs := h2 s (by simp)
    have hl : (A ++ s :: B).length = A.length + (B.length + 1) := by simp
    apply Ev.succ; simp only [spec_BlockValue.l2]
    rw [rd_mid, w64 (x := ((A.length : Nat) : Int) + 1) (by omega) (by omega), List.dropWhile_cons]
    refine Ev.ite_pos (by omega) (Ev.ite_pos (by omega) ((spec_Indent.ev s (by omega)).bind ?_))
    by_cases hb : ((indN (bytesOf s) : Nat) : Int) = (s.size : Int)
    · rw [if_pos (by rw [bareB_eq]; exact beq_iff_eq.2 hb)]
      have hE := ih (A ++ [s]) (by simpa using h1) (by simpa using h2)
      rw [List.length_append, List.length_singleton, List.append_assoc, List.singleton_append, show ((A.length + 1 : Nat) : Int) = ((A.length : Nat) : Int) + 1 from by omega] at hE
      exact Ev.ite_pos hb hE
    · rw [if_neg (by rw [bareB_eq]; simpa using hb)]
      exact Ev.ite_neg hb (j4 A (s :: B) h1 h2)
theorem spec_BlockValue.l1_ev (m : Int) (hm0 : -1 ≤ m) (hm1 : m ≤ 4000000) (B : List ByteArray) : ∀ A : List ByteArray, (A ++ B).length ≤ 4000000 → (∀ s ∈ A ++ B, s.size ≤ 4000000) → Ev (fun k => spec_BlockValue.l1 k (A ++ B) m ((A.length : Nat) : Int)) (joinB (trimR ((A ++ B.map (cutF m)).dropWhile bareB))) := by
  induction B with
  | nil =>
    intro A h1 h2
    apply Ev.succ; simp only [spec_BlockValue.l1]
    rw [List.append_nil] at h1 h2 ⊢
    rw [List.map_nil, List.append_nil]
    have := spec_BlockValue.l2_ev A [] h1 h2
    exact Ev.ite_neg (by omega) this
  | cons s B ih =>
    intro A h1 h2
    have hs := h2 s (by simp)
    have hc := indN_size s
    have hl : (A ++ s :: B).length = A.length + (B.length + 1) := by simp
    have hcn : cutN m s ≤ s.size := by unfold cutN; omega
    have hE := ih (A ++ [cutF m s]) (by simpa using h1) (by
      intro x hx
      rcases List.mem_append.1 hx with hx | hx
      · rcases List.mem_append.1 hx with hx | hx
        · exact h2 x (by simp [hx])
        · simp at hx; subst hx; have := cutF_size m s; omega
      · exact h2 x (by simp [hx]))
    rw [List.length_append, List.length_singleton, List.append_assoc, List.append_assoc, List.singleton_append, List.singleton_append, show ((A.length + 1 : Nat) : Int) = ((A.length : Nat) : Int) + 1 from by omega] at hE
    rw [List.map_cons]
    have step : ∀ c : Nat, c = cutN m s → Ev (fun k => spec_BlockValue.l1 k ((A ++ s :: B).set ((A.length : Nat) : Int).toNat (s.extract c s.size)) m (((A.length : Nat) : Int) + 1)) (joinB (trimR ((A ++ cutF m s :: B.map (cutF m)).dropWhile bareB))) := by
      rintro c rfl
      rw [set_mid]; exact hE
    have hj : ∀ b, b = decide (0 ≤ m ∧ m < (indN (bytesOf s) : Int)) → Ev (fun k => spec_BlockValue.j2 k (A ++ s :: B) m ((A.length : Nat) : Int) (indN (bytesOf s) : Int) b) (joinB (trimR ((A ++ cutF m s :: B.map (cutF m)).dropWhile bareB))) := by
      rintro b rfl
      apply Ev.succ; simp only [spec_BlockValue.j2]
      rw [rd_mid, w64 (x := ((A.length : Nat) : Int) + 1) (by omega) (by omega)]
      by_cases c : 0 ≤ m ∧ m < (indN (bytesOf s) : Int)
      · refine Ev.ite_pos (decide_eq_true c) (Ev.ite_neg (by omega) (Ev.ite_pos (by omega) (Ev.ite_pos (by omega) (Ev.ite_pos c.1 (Ev.ite_pos (by omega) (step m.toNat (by unfold cutN; omega)))))))
      · refine Ev.ite_neg (by simpa using c) ?_
        by_cases d : m < 0
        · exact Ev.ite_pos d (Ev.ite_pos (by omega) (Ev.ite_pos (by omega) (Ev.ite_pos (by omega) (step 0 (by unfold cutN; omega)))))
        · refine Ev.ite_neg d (Ev.ite_pos (by omega) (Ev.ite_pos (by omega) (Ev.ite_pos (by omega) (Ev.ite_pos (by omega) ?_))))
          rw [Int.toNat_natCast (indN (bytesOf s))]
          exact step _ (by unfold cutN; omega)
    apply Ev.succ; simp only [spec_BlockValue.l1]
    rw [rd_mid]
    refine Ev.ite_pos (by omega) (Ev.ite_pos (by omega) ((spec_Indent.ev s (by omega)).bind ?_))
    by_cases c : m ≥ 0
    · refine Ev.ite_pos c (hj _ ?_)
      rw [Bool.eq_iff_iff, decide_eq_true_eq, decide_eq_true_eq]; omega
    · refine Ev.ite_neg c (hj _ ?_)
      rw [eq_comm, decide_eq_false_iff_not]; omega
theorem spec_BlockValue.l0_ev (H : ByteArray) (R : ByteArray) (B : List ByteArray) : ∀ (A : List ByteArray) (m : Int), -1 ≤ m → m ≤ 4000000 → (H :: (A ++ B)).length ≤ 4000000 → (∀ s ∈ A ++ B, s.size ≤ 4000000) →
    (∀ L, L = H :: (A ++ B) → Ev (fun k => spec_BlockValue.l1 k L (leastF m B) 1) R) → Ev (fun k => spec_BlockValue.l0 k (H :: (A ++ B)) m (((A.length : Nat) : Int) + 1)) R := by
  induction B with
  | nil =>
    intro A m hm0 hm1 h1 h2 hE
    apply Ev.succ; simp only [spec_BlockValue.l0]
    exact Ev.ite_neg (by rw [List.append_nil, List.length_cons]; omega) (hE _ rfl)
  | cons s B ih =>
    intro A m hm0 hm1 h1 h2 hE
    have hs := h2 s (by simp)
    have hc := indN_size s
    have hl : (H :: (A ++ s :: B)).length = A.length + (B.length + 1) + 1 := by simp
    have hrd : rdOf ByteArray.empty (H :: (A ++ s :: B)) (((A.length : Nat) : Int) + 1) = s := by
      have := rd_mid (H :: A) B s
      rw [List.length_cons] at this
      simpa using this
    have next : ∀ m', m' = (if bareB s = false ∧ (m < 0 ∨ (indN (bytesOf s) : Int) < m) then (indN (bytesOf s) : Int) else m) → Ev (fun k => spec_BlockValue.l0 k (H :: (A ++ s :: B)) m' (((A.length : Nat) : Int) + 1 + 1)) R := by
      rintro m' rfl
      have hE2 := ih (A ++ [s]) (if bareB s = false ∧ (m < 0 ∨ (indN (bytesOf s) : Int) < m) then (indN (bytesOf s) : Int) else m) (by split <;> omega) (by split <;> omega) (by simpa using h1) (by simpa using h2) (by
        intro L hL
        exact hE L (by rw [hL]; simp))
      rw [List.length_append, List.length_singleton, List.append_assoc, List.singleton_append, show ((A.length + 1 : Nat) : Int) = ((A.length : Nat) : Int) + 1 from by omega] at hE2
      exact hE2
    apply Ev.succ; simp only [spec_BlockValue.l0]
    rw [hrd, w64 (x := ((A.length : Nat) : Int) + 1 + 1) (by omega) (by omega)]
    refine Ev.ite_pos (by omega) (Ev.ite_pos (by omega) ((spec_Indent.ev s (by omega)).bind ?_))
    by_cases hb : ((indN (bytesOf s) : Nat) : Int) < (s.size : Int)
    · have hbf : bareB s = false := by unfold bareB; simp; omega
      refine Ev.ite_pos hb ?_
      by_cases c : m < 0
      · exact Ev.ite_pos c (next _ (by rw [if_pos ⟨hbf, Or.inl c⟩]))
      · refine Ev.ite_neg c ?_
        by_cases d : (indN (bytesOf s) : Int) < m
        · exact Ev.ite_pos d (next _ (by rw [if_pos ⟨hbf, Or.inr d⟩]))
        · exact Ev.ite_neg d (next m (by rw [if_neg (fun z => z.2.elim c d)]))
    · have hbt : bareB s = true := by unfold bareB; simp; omega
      exact Ev.ite_neg hb (next m (by rw [if_neg (by rw [hbt]; simp)]))
theorem spec_BlockValue.ev (s : ByteArray) (hs : s.size ≤ 3000000) : Ev (fun k => spec_BlockValue.f k s) (blockV (linesB s)) := by
  have hl := linesB_len s
  have hz := linesB_size s
  have hne := linesB_ne s
  unfold spec_BlockValue.f
  refine (spec_LinesIn.ev s (by omega)).bind ?_
  generalize linesB s = L at *
  cases L with
  | nil => exact absurd rfl hne
  | cons h t =>
    have hz' : ∀ x ∈ h :: t, x.size ≤ 4000000 := fun x hx => by have := hz x hx; omega
    rw [List.length_cons] at hl
    have hr := leastF_range 4000000 t (fun x hx => by have := hz' x (by simp [hx]); omega) (-1) (by omega) (by omega)
    have h1 := spec_BlockValue.l1_ev (leastF (-1) t) hr.1 hr.2 t [h] (by simp; omega) (by simpa using hz')
    exact spec_BlockValue.l0_ev h (blockV (h :: t)) t [] (-1) (by omega) (by omega) (by simp; omega) (fun x hx => hz' x (by simp at hx; simp [hx])) (by rintro L rfl; exact h1)

theorem FnExactBlockValue : laws_FnExactBlockValue.Pure := by
  intro s hs
  apply Ev.out
  unfold laws_FnExactBlockValue.f
  by_cases h : (s.size : Int) > 1048576
  · exact Ev.ite_pos h (Ev.done rfl)
  · exact Ev.ite_neg h ((spec_BlockValue.ev s (by omega)).bind ((impl_BlockValue.ev s (by omega)).bind (Ev.ite_pos rfl (Ev.done rfl))))


end Go.Proofs.YtmbninphokgbpaaDoor.Pure
