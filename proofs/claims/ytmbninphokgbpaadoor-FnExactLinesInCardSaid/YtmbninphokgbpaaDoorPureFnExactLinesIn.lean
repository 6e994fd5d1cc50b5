/- For every string of at most 140737488351232 bytes the program's LinesIn and the reference's return the same list, and what the program returned stays as it is written while the function is called again (strings above 2^20 bytes are not asked by the law). -/
import Derived.Test.YtmbninphokgbpaaDoorOFnExactLinesInx2
import Derived.Test.YtmbninphokgbpaaDoorBase
namespace Go.Proofs.YtmbninphokgbpaaDoor.Pure
open Go.RowKit Go.Proofs.YtmbninphokgbpaaDoor.OFnExactLinesIn Go.Proofs.YtmbninphokgbpaaDoorW.PrintWords Go.Proofs.YtmbninphokgbpaaDoorW.PrintLast Go.Proofs.YtmbninphokgbpaaDoorW.PrintMore Go.Proofs.YtmbninphokgbpaaDoor.Base
set_option linter.unusedVariables false
set_option linter.unusedSimpArgs false

theorem byte_at (s : ByteArray) (i : Nat) (h : i < s.size) : ∃ b : UInt8, s.data.toList.drop i = b :: s.data.toList.drop (i + 1) ∧ bt s (i : Int) = (b.toNat : Int) ∧ s.data.toList.take (i + 1) = s.data.toList.take i ++ [b] := by
  have hl : i < s.data.toList.length := by rw [Array.length_toList]; exact h
  refine ⟨s.data.toList[i], List.drop_eq_getElem_cons hl, ?_, List.take_succ_eq_append_getElem hl⟩
  have := tl_cons (s := s) (i := (i : Int)) (by omega) (by omega)
  unfold tl at this
  rw [Int.toNat_natCast] at this
  unfold bytesOf at this
  rw [← List.map_drop, List.drop_eq_getElem_cons hl, List.map_cons] at this
  exact (List.cons.inj this).1.symm
theorem extract_mk (s : ByteArray) (a b : Nat) : s.extract a b = ⟨((s.data.toList.take b).drop a).toArray⟩ := by
  apply ByteArray.ext
  apply Array.toList_inj.1
  rw [ByteArray.data_extract, Array.toList_extract, List.extract_eq_take_drop, List.drop_take]

/-- Every instance of old, from the left, replaced. -/
def repF (old new : List UInt8) : List UInt8 → List UInt8
  | [] => []
  | b :: l => if old ≠ [] ∧ old.isPrefixOf (b :: l) = true then new ++ repF old new ((b :: l).drop old.length) else b :: repF old new l
termination_by l => l.length
decreasing_by
  · rename_i h
    have := List.length_pos_iff.2 h.1
    simp only [List.length_drop, List.length_cons]; omega
  · simp
theorem repF_miss (old new : List UInt8) (s : List UInt8) (h : Lib.index s old = -1) : repF old new s = s := by
  induction s with
  | nil => rw [repF]
  | cons b l ih =>
    rw [Lib.index] at h
    have hg := Lib.index_ge l old
    split at h
    · omega
    · rename_i hp
      split at h
      · rename_i hm
        rw [repF, if_neg (fun z => hp z.2), ih (beq_iff_eq.1 hm)]
      · rename_i hm
        omega
theorem repF_hit (old new : List UInt8) (hold : old ≠ []) (s : List UInt8) : ∀ i : Nat, Lib.index s old = i → repF old new s = s.take i ++ new ++ repF old new (s.drop (i + old.length)) := by
  induction s with
  | nil =>
    intro i h
    rw [Lib.index] at h
    cases old with
    | nil => exact absurd rfl hold
    | cons x r => simp at h
  | cons b l ih =>
    intro i h
    rw [Lib.index] at h
    have hg := Lib.index_ge l old
    split at h
    · rename_i hp
      have hi : i = 0 := by omega
      subst hi
      rw [repF, if_pos ⟨hold, hp⟩, Nat.zero_add]; rfl
    · rename_i hp
      split at h
      · omega
      · rename_i hm
        have hne : Lib.index l old ≠ -1 := fun z => hm (beq_iff_eq.2 z)
        obtain ⟨j, rfl⟩ : ∃ j, i = j + 1 := ⟨i - 1, by omega⟩
        rw [repF, if_neg (fun z => hp z.2), ih j (by omega), List.take_succ_cons, show j + 1 + old.length = (j + old.length) + 1 from by omega, List.drop_succ_cons]; rfl
theorem replaceK_rep (old new : List UInt8) (hold : old ≠ []) (k : Nat) : ∀ s, Lib.count s old = k → Lib.replaceK old new k s = repF old new s := by
  induction k with
  | zero =>
    intro s h
    rcases Lib.index_spec s old with ⟨h1, _⟩ | ⟨i, h1, _⟩
    · rw [repF_miss old new s h1]; rfl
    · rw [Lib.count_hit hold h1] at h; omega
  | succ k ih =>
    intro s h
    obtain ⟨i, hi⟩ := Lib.index_of_count (s := s) (old := old) (by omega)
    have hc := Lib.count_hit hold hi
    rw [Lib.replaceK_hit old new k s i hi, ih _ (by omega), repF_hit old new hold s i hi]
theorem replaceAll_rep (s old new : List UInt8) (hold : old ≠ []) (hne : old ≠ new) : Lib.replaceAll s old new = repF old new s := by
  unfold Lib.replaceAll Lib.replace
  rw [if_neg (by simpa using hne)]
  have : Lib.replaceNum s old (-1) = Lib.count s old := by unfold Lib.replaceNum; rw [if_pos (Or.inl (by decide))]
  rw [this]
  exact replaceK_rep old new hold _ s rfl
/-- A byte set ahead of the first of some lists. -/
def pushH (x : UInt8) : List (List UInt8) → List (List UInt8)
  | [] => [[x]]
  | h :: t => (x :: h) :: t
def splF : List UInt8 → List (List UInt8)
  | [] => [[]]
  | b :: l => if b = 10 then [] :: splF l else pushH b (splF l)
theorem splF_ne (l : List UInt8) : splF l ≠ [] := by
  cases l with
  | nil => simp [splF]
  | cons b l => rw [splF]; split; simp; cases splF l <;> simp [pushH]
theorem pre10 (b : UInt8) (l : List UInt8) : ([10] : List UInt8).isPrefixOf (b :: l) = true ↔ b = 10 := by simp [List.isPrefixOf]; exact eq_comm
theorem splF_miss (s : List UInt8) (h : Lib.index s [10] = -1) : splF s = [s] := by
  induction s with
  | nil => rfl
  | cons b l ih =>
    rw [Lib.index] at h
    have hg := Lib.index_ge l [10]
    split at h
    · omega
    · rename_i hp
      split at h
      · rename_i hm
        rw [splF, if_neg (fun z => hp ((pre10 b l).2 z)), ih (beq_iff_eq.1 hm)]; rfl
      · omega
theorem splF_hit (s : List UInt8) : ∀ i : Nat, Lib.index s [10] = i → splF s = s.take i :: splF (s.drop (i + 1)) := by
  induction s with
  | nil => intro i h; simp [Lib.index] at h
  | cons b l ih =>
    intro i h
    rw [Lib.index] at h
    have hg := Lib.index_ge l [10]
    split at h
    · rename_i hp
      have hi : i = 0 := by omega
      subst hi
      rw [splF, if_pos ((pre10 b l).1 hp)]; rfl
    · rename_i hp
      split at h
      · omega
      · rename_i hm
        have hne : Lib.index l [10] ≠ -1 := fun z => hm (beq_iff_eq.2 z)
        obtain ⟨j, rfl⟩ : ∃ j, i = j + 1 := ⟨i - 1, by omega⟩
        rw [splF, if_neg (fun z => hp ((pre10 b l).2 z)), ih j (by omega), List.take_succ_cons, List.drop_succ_cons]; rfl
theorem splitB_spl (sep : ByteArray) (hsep : sep.data.toList = [10]) (k : Nat) : ∀ s : ByteArray, Lib.countB s sep = k → (Lib.splitB sep 0 k s).map (·.data.toList) = splF s.data.toList := by
  have hs1 : sep.size = 1 := by show sep.data.size = 1; rw [← Array.length_toList, hsep]; rfl
  have hi : ∀ s : ByteArray, Lib.indexB s sep = Lib.index s.data.toList [10] := by intro s; unfold Lib.indexB; rw [hsep]
  induction k with
  | zero =>
    intro s h
    rcases Lib.index_spec s.data.toList [10] with ⟨h1, _⟩ | ⟨i, h1, _⟩
    · rw [splF_miss _ h1]; rfl
    · rw [Lib.countB_hit s sep i (by omega) (by rw [hi]; exact h1)] at h; omega
  | succ k ih =>
    intro s h
    rcases Lib.index_spec s.data.toList [10] with ⟨h1, _⟩ | ⟨i, h1, _⟩
    · rw [Lib.countB_miss s sep (by rw [hi]; exact h1)] at h; omega
    · have hc := Lib.countB_hit s sep i (by omega) (by rw [hi]; exact h1)
      rw [Lib.splitB_hit sep 0 k s i (by rw [hi]; exact h1), List.map_cons, ih _ (by omega), splF_hit _ i h1]
      have e1 : (s.extract 0 (i + 0)).data.toList = s.data.toList.take i := by rw [extract_mk]; simp
      have e2 : (s.extract (i + sep.size) s.size).data.toList = s.data.toList.drop (i + 1) := by
        rw [extract_mk, hs1, List.toList_toArray, List.take_of_length_le (by rw [Array.length_toList]; exact Nat.le_refl _)]
      rw [e1, e2]
/-- The lines of a text: behind 13 10, 13 or 10 a new one begins; p: the byte ahead was a 13. -/
def lnS : Bool → List UInt8 → List (List UInt8)
  | _, [] => [[]]
  | p, b :: l => if p = true ∧ b = 10 then lnS false l else if b = 13 then [] :: lnS true l else if b = 10 then [] :: lnS false l else pushH b (lnS false l)
theorem repF_skip (old new : List UInt8) (b : UInt8) (l : List UInt8) (h : ¬ old.isPrefixOf (b :: l) = true) : repF old new (b :: l) = b :: repF old new l := by
  rw [repF, if_neg (fun z => h z.2)]
theorem repF_take (old new : List UInt8) (hold : old ≠ []) (b : UInt8) (l : List UInt8) (h : old.isPrefixOf (b :: l) = true) : repF old new (b :: l) = new ++ repF old new ((b :: l).drop old.length) := by
  rw [repF, if_pos ⟨hold, h⟩]
theorem pre13 (b : UInt8) (l : List UInt8) : ([13] : List UInt8).isPrefixOf (b :: l) = true ↔ b = 13 := by simp [List.isPrefixOf]; exact eq_comm
theorem lnS_head (l : List UInt8) (h : ∀ c r, l = c :: r → c ≠ 10) : lnS true l = lnS false l := by
  cases l with
  | nil => rfl
  | cons c r => have := h c r rfl; simp [lnS, this]
theorem lines_eq (n : Nat) : ∀ s : List UInt8, s.length ≤ n → splF (repF [13] [10] (repF [13, 10] [10] s)) = lnS false s := by
  induction n with
  | zero =>
    intro s h
    obtain rfl : s = [] := List.eq_nil_of_length_eq_zero (by omega)
    rw [repF, repF]; rfl
  | succ n ih =>
    intro s h
    cases s with
    | nil => rw [repF, repF]; rfl
    | cons b l =>
      rw [List.length_cons] at h
      have k10 : ∀ X, splF (repF [13] [10] (10 :: X)) = [] :: splF (repF [13] [10] X) := by
        intro X
        rw [repF_skip [13] [10] 10 X (by rw [pre13]; decide), splF, if_pos rfl]
      by_cases hb : b = 13
      · subst hb
        by_cases hc : ∃ r, l = 10 :: r
        · obtain ⟨r, rfl⟩ := hc
          rw [repF_take [13, 10] [10] (by simp) 13 (10 :: r) (by simp [List.isPrefixOf])]
          show splF (repF [13] [10] (10 :: repF [13, 10] [10] r)) = _
          rw [k10, ih r (by simp at h; omega)]
          simp [lnS]
        · have hh : ∀ c r, l = c :: r → c ≠ 10 := by
            rintro c r rfl rfl; exact hc ⟨r, rfl⟩
          have hp : ¬ ([13, 10] : List UInt8).isPrefixOf (13 :: l) = true := by
            cases l with
            | nil => simp [List.isPrefixOf]
            | cons c r =>
              have := hh c r rfl
              simp [List.isPrefixOf]; exact fun z => this z.symm
          rw [repF_skip [13, 10] [10] 13 l hp, repF_take [13] [10] (by simp) 13 _ (by rw [pre13])]
          show splF (10 :: repF [13] [10] (repF [13, 10] [10] l)) = _
          rw [splF, if_pos rfl, ih l (by omega), ← lnS_head l hh]
          simp [lnS]
      · have hp : ¬ ([13, 10] : List UInt8).isPrefixOf (b :: l) = true := by
          simp only [List.isPrefixOf, Bool.and_eq_true, beq_iff_eq]
          exact fun z => hb z.1.symm
        rw [repF_skip [13, 10] [10] b l hp, repF_skip [13] [10] b _ (by rw [pre13]; exact hb)]
        by_cases h10 : b = 10
        · subst h10
          rw [splF, if_pos rfl, ih l (by omega)]
          simp [lnS]
        · rw [splF, if_neg h10, ih l (by omega)]
          simp [lnS, hb, h10]
def asB (L : List (List UInt8)) : List ByteArray := L.map fun l => ⟨l.toArray⟩

theorem repF_len (old new : List UInt8) (h : new.length ≤ old.length) (n : Nat) : ∀ l : List UInt8, l.length ≤ n → (repF old new l).length ≤ l.length := by
  induction n with
  | zero =>
    intro l hl
    obtain rfl : l = [] := List.eq_nil_of_length_eq_zero (by omega)
    rw [repF]; simp
  | succ n ih =>
    intro l hl
    cases l with
    | nil => rw [repF]; simp
    | cons b l =>
      rw [List.length_cons] at hl
      rw [repF]
      split
      · rename_i hp
        have hpl : old.length ≤ (b :: l).length := (List.isPrefixOf_iff_prefix.1 hp.2).length_le
        have h0 := List.length_pos_iff.2 hp.1
        have := ih ((b :: l).drop old.length) (by rw [List.length_drop, List.length_cons]; omega)
        rw [List.length_append]
        rw [List.length_drop] at this
        rw [List.length_cons] at hpl this ⊢
        omega
      · have := ih l (by omega)
        simp only [List.length_cons]; omega
theorem replace_eq (s old new : ByteArray) (hold : old.data.toList ≠ []) (hne : old.data.toList ≠ new.data.toList) (h1 : 1 ≤ old.size) (hn : new.size ≤ 1) (hs : s.size ≤ 4000000) : strings_ReplaceAll.f s old new = some ⟨(repF old.data.toList new.data.toList s.data.toList).toArray⟩ := by
  have hc := Lib.countB_le old h1 s.size s (Nat.le_refl _)
  have hm : Lib.countB s old * new.size ≤ s.size * 1 := Nat.mul_le_mul hc hn
  unfold strings_ReplaceAll.f
  rw [if_pos ⟨by omega, h1, by omega⟩, replaceAll_rep _ _ _ hold hne]
theorem impl_LinesIn.eq (s : ByteArray) (hs : s.size ≤ 4000000) : impl_LinesIn.f s = some (asB (lnS false s.data.toList)) := by
  have hl : s.data.toList.length = s.size := by rw [Array.length_toList]; rfl
  have r1 := repF_len [13, 10] [10] (by decide) _ s.data.toList (Nat.le_refl _)
  obtain ⟨t, ht⟩ : ∃ t : ByteArray, (⟨(repF [13, 10] [10] s.data.toList).toArray⟩ : ByteArray) = t := ⟨_, rfl⟩
  have htl : t.data.toList = repF [13, 10] [10] s.data.toList := by rw [← ht]
  have htz : t.size ≤ 4000000 := by show t.data.size ≤ _; rw [← Array.length_toList, htl]; omega
  have r2 := repF_len [13] [10] (by decide) _ t.data.toList (Nat.le_refl _)
  obtain ⟨u, hu⟩ : ∃ u : ByteArray, (⟨(repF [13] [10] t.data.toList).toArray⟩ : ByteArray) = u := ⟨_, rfl⟩
  have hul : u.data.toList = repF [13] [10] t.data.toList := by rw [← hu]
  have htl2 : t.data.toList.length = t.size := by rw [Array.length_toList]; rfl
  have huz : u.size ≤ 4000000 := by show u.data.size ≤ _; rw [← Array.length_toList, hul]; omega
  have f1 := replace_eq s (⟨#[13, 10]⟩ : ByteArray) (⟨#[10]⟩ : ByteArray) (by decide) (by decide) (by decide) (by decide) hs
  have f2 := replace_eq t (⟨#[13]⟩ : ByteArray) (⟨#[10]⟩ : ByteArray) (by decide) (by decide) (by decide) (by decide) htz
  have f1 : strings_ReplaceAll.f s (⟨#[13, 10]⟩ : ByteArray) (⟨#[10]⟩ : ByteArray) = some t := f1.trans (congrArg some ht)
  have f2 : strings_ReplaceAll.f t (⟨#[13]⟩ : ByteArray) (⟨#[10]⟩ : ByteArray) = some u := f2.trans (congrArg some hu)
  have hcu := Lib.countB_le (⟨#[10]⟩ : ByteArray) (by decide) u.size u (Nat.le_refl _)
  have f3 : strings_Split.f u (⟨#[10]⟩ : ByteArray) = some (Lib.splitB (⟨#[10]⟩ : ByteArray) 0 (Lib.countB u (⟨#[10]⟩ : ByteArray)) u) := by
    unfold strings_Split.f
    rw [if_pos ⟨by omega, by decide, Lib.splitB_all (⟨#[10]⟩ : ByteArray) (by decide) 0 _ u rfl, by unfold maxLen; omega⟩]
  have hsp := splitB_spl (⟨#[10]⟩ : ByteArray) rfl _ u rfl
  have hfin : Lib.splitB (⟨#[10]⟩ : ByteArray) 0 (Lib.countB u (⟨#[10]⟩ : ByteArray)) u = asB (lnS false s.data.toList) := by
    rw [← lines_eq _ s.data.toList (Nat.le_refl _), ← htl, ← hul, ← hsp]
    unfold asB
    rw [List.map_map]
    conv => lhs; rw [← List.map_id (Lib.splitB (⟨#[10]⟩ : ByteArray) 0 (Lib.countB u (⟨#[10]⟩ : ByteArray)) u)]
    apply List.map_congr_left
    intro x _
    rfl
  unfold impl_LinesIn.f
  rw [f1, Option.bind_some, f2, Option.bind_some, f3, Option.bind_some, hfin]

def curH (cur : List UInt8) : List (List UInt8) → List (List UInt8)
  | [] => [cur]
  | h :: t => (cur ++ h) :: t
theorem lnS_ne (l : List UInt8) : ∀ p, lnS p l ≠ [] := by
  induction l with
  | nil => intro p; simp [lnS]
  | cons b l ih =>
    intro p
    rw [lnS]
    split
    · exact ih _
    · split
      · simp
      · split
        · simp
        · cases lnS false l <;> simp [pushH]
theorem curH_push (cur : List UInt8) (x : UInt8) (L : List (List UInt8)) (h : L ≠ []) : curH cur (pushH x L) = curH (cur ++ [x]) L := by
  cases L with
  | nil => exact absurd rfl h
  | cons a t => simp [curH, pushH]
theorem curH_nil (L : List (List UInt8)) (h : L ≠ []) : curH [] L = L := by
  cases L with
  | nil => exact absurd rfl h
  | cons a t => simp [curH]
theorem spec_LinesIn.l0_ev (s : ByteArray) (hs : s.size ≤ 4000000) (n : Nat) : ∀ (acc : List ByteArray) (b i : Nat), b ≤ i → i ≤ s.size → s.size - i ≤ n → acc.length ≤ i →
    Ev (fun k => spec_LinesIn.l0 k s acc (b : Int) (i : Int)) (acc ++ asB (curH ((s.data.toList.take i).drop b) (lnS false (s.data.toList.drop i)))) := by
  have hlen : s.data.toList.length = s.size := by rw [Array.length_toList]; rfl
  have fin : ∀ (acc : List ByteArray) (b i : Nat), b ≤ i → i ≤ s.size → s.size - i = 0 → acc.length ≤ i → Ev (fun k => spec_LinesIn.l0 k s acc (b : Int) (i : Int)) (acc ++ asB (curH ((s.data.toList.take i).drop b) (lnS false (s.data.toList.drop i)))) := by
    intro acc b i hb hi hn ha
    obtain rfl : i = s.size := by omega
    have hd : s.data.toList.drop s.size = [] := List.drop_eq_nil_of_le (by omega)
    rw [hd, lnS]
    apply Ev.succ; simp only [spec_LinesIn.l0]
    refine Ev.ite_neg (by omega) (Ev.ite_pos (by omega) (Ev.ite_pos (by omega) (Ev.ite_pos (by omega) (Ev.done ?_))))
    rw [Int.toNat_natCast, extract_mk]; simp [curH, asB]
  induction n with
  | zero => intro acc b i hb hi hn ha; exact fin acc b i hb hi (by omega) ha
  | succ n ih =>
    intro acc b i hb hi hn ha
    by_cases hend : i = s.size
    · exact fin acc b i hb hi (by omega) ha
    obtain ⟨x, hx1, hx2, hx3⟩ := byte_at s i (by omega)
    have e1 : ((i : Int) + 1) = ((i + 1 : Nat) : Int) := by omega
    have e2 : ((i : Int) + 1 + 1) = ((i + 2 : Nat) : Int) := by omega
    have hbx : ∀ c : UInt8, (bt s (i : Int) = (c.toNat : Int)) ↔ x = c := by
      intro c
      rw [hx2]
      constructor
      · intro h; apply UInt8.toNat_inj.1; omega
      · rintro rfl; rfl
    have h13 : bt s (i : Int) = 13 ↔ x = 13 := hbx 13
    have h10 : bt s (i : Int) = 10 ↔ x = 10 := hbx 10
    have hempty : ∀ j, ((s.data.toList.take j).drop j) = [] := fun j => List.drop_eq_nil_of_le (by rw [List.length_take]; omega)
    have hj : ∀ c, c = decide (x = 13 ∨ x = 10) → Ev (fun k => spec_LinesIn.j1 k s acc (b : Int) (i : Int) c) (acc ++ asB (curH ((s.data.toList.take i).drop b) (lnS false (s.data.toList.drop i)))) := by
      rintro c rfl
      apply Ev.succ; simp only [spec_LinesIn.j1]
      rw [w64 (x := (i : Int) + 1) (by omega) (by omega), w64 (x := (i : Int) + 1 + 1) (by omega) (by omega), hx1, lnS, if_neg (by simp)]
      by_cases c1 : x = 13 ∨ x = 10
      · refine Ev.ite_pos (decide_eq_true c1) (Ev.ite_pos (by omega) (Ev.ite_pos (by omega) (Ev.ite_pos (by omega) (Ev.ite_pos (by omega) (Ev.bindc rfl (Ev.ite_pos (by omega) (Ev.ite_pos (by omega) ?_)))))))
        rw [Int.toNat_natCast, Int.toNat_natCast, extract_mk]
        have step : ∀ j : Nat, i < j → j ≤ s.size → Ev (fun k => spec_LinesIn.l0 k s (acc ++ [(⟨((s.data.toList.take i).drop b).toArray⟩ : ByteArray)]) (j : Int) (j : Int)) (acc ++ asB (curH ((s.data.toList.take i).drop b) ([] :: lnS false (s.data.toList.drop j)))) := by
          intro j hj1 hj2
          refine (ih (acc ++ [(⟨((s.data.toList.take i).drop b).toArray⟩ : ByteArray)]) j j (Nat.le_refl _) hj2 (by omega) (by rw [List.length_append]; simp; omega)).get ?_
          rw [hempty, curH_nil _ (lnS_ne _ _)]; simp [curH, asB]
        by_cases c13 : x = 13
        · rw [if_pos c13]
          refine Ev.ite_pos (h13.2 c13) ?_
          by_cases d : (i : Int) + 1 < (s.size : Int)
          · obtain ⟨y, hy1, hy2, _⟩ := byte_at s (i + 1) (by omega)
            have hy10 : bt s ((i : Int) + 1) = 10 ↔ y = 10 := by
              rw [e1, hy2]
              constructor
              · intro h; apply UInt8.toNat_inj.1; show y.toNat = 10; omega
              · rintro rfl; rfl
            refine Ev.ite_pos d (Ev.ite_pos (by omega) ?_)
            by_cases e : y = 10
            · rw [hy1, lnS, if_pos ⟨rfl, e⟩, e2]
              exact Ev.ite_pos (hy10.2 e) (step (i + 2) (by omega) (by omega))
            · rw [e1, lnS_head _ (by rintro c r h; rw [hy1] at h; injection h with h _; rw [← h]; exact e)]
              exact Ev.ite_neg (fun z => e (hy10.1 (by rw [e1]; exact z))) (step (i + 1) (by omega) (by omega))
          · rw [e1, lnS_head _ (by rintro c r h; rw [List.drop_eq_nil_of_le (by omega)] at h; cases h)]
            exact Ev.ite_neg (by omega) (step (i + 1) (by omega) (by omega))
        · rw [if_neg c13, if_pos (c1.resolve_left c13), e1]
          exact Ev.ite_neg (fun z => c13 (h13.1 z)) (step (i + 1) (by omega) (by omega))
      · rw [if_neg (fun z => c1 (Or.inl z)), if_neg (fun z => c1 (Or.inr z)), e1, curH_push _ _ _ (lnS_ne _ _)]
        refine Ev.ite_neg (by simpa using c1) ((ih acc b (i + 1) (by omega) (by omega) (by omega) (by omega)).get ?_)
        have hc : (s.data.toList.take i).drop b ++ [x] = (s.data.toList.take (i + 1)).drop b := by
          rw [hx3, List.drop_append_of_le_length (by rw [List.length_take, hlen]; omega)]
        rw [hc]
    apply Ev.succ; simp only [spec_LinesIn.l0]
    refine Ev.ite_pos (by omega) (Ev.ite_pos (by omega) ?_)
    by_cases c : bt s (i : Int) = 13
    · exact Ev.ite_pos c (hj _ (by simp [h13.1 c]))
    · refine Ev.ite_neg c (hj _ ?_)
      rw [Bool.eq_iff_iff, beq_iff_eq, decide_eq_true_eq, h10]
      constructor
      · exact Or.inr
      · exact fun z => z.resolve_left fun q => c (h13.2 q)
/-- The lines, as both sides tell them. -/
def linesB (s : ByteArray) : List ByteArray := asB (lnS false s.data.toList)
theorem spec_LinesIn.ev (s : ByteArray) (hs : s.size ≤ 4000000) : Ev (fun k => spec_LinesIn.f k s) (linesB s) := by
  unfold spec_LinesIn.f linesB
  refine (spec_LinesIn.l0_ev s hs s.size [] 0 0 (by omega) (by omega) (by omega) (by simp)).get ?_
  simp only [List.take_zero, List.drop_zero, List.nil_append]
  have : ([] : List UInt8).drop 0 = [] := rfl
  rw [curH_nil _ (lnS_ne _ _)]
theorem linesB_len (s : ByteArray) : (linesB s).length ≤ s.size + 1 := by
  have h : ∀ (l : List UInt8) (p : Bool), (lnS p l).length ≤ l.length + 1 := by
    intro l
    induction l with
    | nil => intro p; simp [lnS]
    | cons b l ih =>
      intro p
      have h1 := ih false
      have h2 := ih true
      rw [lnS]
      split
      · simp only [List.length_cons]; omega
      · split
        · simp only [List.length_cons]; omega
        · split
          · simp only [List.length_cons]; omega
          · cases hq : lnS false l with
            | nil => simp [pushH]
            | cons a t => rw [hq] at h1; simp only [pushH, List.length_cons] at h1 ⊢; omega
  have := h s.data.toList false
  unfold linesB asB
  rw [List.length_map]
  have hl : s.data.toList.length = s.size := by rw [Array.length_toList]; rfl
  omega

theorem eqStrs_l0 (L : List ByteArray) (hl : L.length ≤ 140737488351232) (n : Nat) : ∀ i : Int, 0 ≤ i → (L.length : Int) - i ≤ n → Ev (fun k => laws_eqStringS.l0 k L L i) true := by
  induction n with
  | zero =>
    intro i h0 hn
    apply Ev.succ; simp only [laws_eqStringS.l0]
    exact Ev.ite_neg (by omega) (Ev.done rfl)
  | succ n ih =>
    intro i h0 hn
    apply Ev.succ; simp only [laws_eqStringS.l0]
    by_cases c : i < (L.length : Int)
    · refine Ev.ite_pos c (Ev.ite_pos h0 (Ev.ite_pos c (Ev.ite_pos (by first | rfl | trivial) ?_)))
      rw [w64 (by omega) (by omega)]
      exact ih (i + 1) (by omega) (by omega)
    · exact Ev.ite_neg c (Ev.done rfl)
theorem eqStrs_self (L : List ByteArray) (hl : L.length ≤ 140737488351232) : Ev (fun k => laws_eqStringS.f k L L) true := by
  unfold laws_eqStringS.f
  exact Ev.ite_pos rfl (eqStrs_l0 L hl L.length 0 (by omega) (by omega))
theorem str_sz (a : List Int) : (strOfNums a).size = a.length := by
  unfold strOfNums
  show (List.toArray _).size = _
  simp
theorem markText_l0 (n : Nat) : ∀ (x : Int) (s : ByteArray), 0 ≤ x → x < 10 ^ n → s.size ≤ 100 + 10 - n → n ≤ 10 → ∃ t, Ev (fun k => laws_markText.l0 k x s) t := by
  induction n with
  | zero =>
    intro x s h0 h1 hs hn
    refine ⟨(⟨#[109]⟩ : ByteArray) ++ s, ?_⟩
    apply Ev.succ; simp only [laws_markText.l0]
    exact Ev.ite_neg (by omega) (Ev.ite_pos (by omega) (Ev.done rfl))
  | succ n ih =>
    intro x s h0 h1 hs hn
    by_cases c : x > 0
    · have hd : Int.tdiv x 10 = x / 10 := Int.tdiv_eq_ediv_of_nonneg h0
      have hp : (10 : Int) ^ (n + 1) = 10 ^ n * 10 := Int.pow_succ _ _
      have hp2 : (10 : Int) ^ n ≤ 10 ^ 10 := by exact_mod_cast Nat.pow_le_pow_right (by decide) (by omega)
      obtain ⟨t, ht⟩ := ih (x / 10) (strOfNums [(wrap64 (48 + (Int.tmod x 10))) % 256] ++ s) (by omega) (by omega) (by rw [ByteArray.size_append, str_sz]; simp; omega) (by omega)
      refine ⟨t, ?_⟩
      apply Ev.succ; simp only [laws_markText.l0]
      rw [hd, w64 (x := x / 10) (by omega) (by omega)]
      exact Ev.ite_pos c (Ev.bindc rfl (Ev.ite_pos (by rw [str_sz]; simp; omega) ht))
    · refine ⟨(⟨#[109]⟩ : ByteArray) ++ s, ?_⟩
      apply Ev.succ; simp only [laws_markText.l0]
      exact Ev.ite_neg c (Ev.ite_pos (by omega) (Ev.done rfl))
open Classical in
theorem markTexts : ∃ T : Int → ByteArray, ∀ n, 1 ≤ n → n ≤ 1000000000 → Ev (fun k => laws_markText.f k n) (T n) := by
  refine ⟨fun n => if h : ∃ t, Ev (fun k => laws_markText.f k n) t then h.choose else ByteArray.empty, fun n h0 h1 => ?_⟩
  have h : ∃ t, Ev (fun k => laws_markText.f k n) t := by
    obtain ⟨t, ht⟩ := markText_l0 10 n (⟨#[]⟩ : ByteArray) (by omega) (by show n < 10000000000; omega) (by show 0 ≤ _; omega) (by omega)
    refine ⟨t, ?_⟩
    unfold laws_markText.f
    exact Ev.ite_neg (by omega) ht
  simp only [dif_pos h]
  exact h.choose_spec
theorem rdOf_set (L : List ByteArray) (i j : Int) (x : ByteArray) (h0 : 0 ≤ i) (h1 : i < (L.length : Int)) (h2 : 0 ≤ j) : rdOf ByteArray.empty (L.set i.toNat x) j = if j = i then x else rdOf ByteArray.empty L j := by
  unfold rdOf
  rw [List.getD_eq_getElem?_getD, List.getD_eq_getElem?_getD, List.getElem?_set]
  by_cases c : j = i
  · subst c; rw [if_pos rfl, if_pos rfl, if_pos (by omega)]; rfl
  · rw [if_neg (by omega), if_neg c]
theorem markStrs_l0 (T : Int → ByteArray) (hT : ∀ n, 1 ≤ n → n ≤ 1000000000 → Ev (fun k => laws_markText.f k n) (T n)) (N : Nat) (hN : N ≤ 900000000) (n : Nat) : ∀ (ys : List ByteArray) (i : Int), 0 ≤ i → i ≤ N → (N : Int) - i ≤ n → ys.length = N → (∀ j : Int, 0 ≤ j → j < i → rdOf ByteArray.empty ys j = T (j + 1)) →
    ∃ zs : List ByteArray, Ev (fun k => laws_markStringS.l0 k ys (i + 1) i) ((N : Int) + 1, zs) ∧ zs.length = N ∧ ∀ j : Int, 0 ≤ j → j < N → rdOf ByteArray.empty zs j = T (j + 1) := by
  induction n with
  | zero =>
    intro ys i h0 h1 hn hy hp
    refine ⟨ys, ?_, hy, fun j a b => hp j a (by omega)⟩
    apply Ev.succ; simp only [laws_markStringS.l0]
    exact Ev.ite_neg (by omega) (Ev.done (by rw [show i = N from by omega]))
  | succ n ih =>
    intro ys i h0 h1 hn hy hp
    by_cases c : i < (N : Int)
    · obtain ⟨zs, hE, hz, hq⟩ := ih (ys.set i.toNat (T (i + 1))) (i + 1) (by omega) (by omega) (by omega) (by rw [List.length_set, hy]) (by
        intro j a b
        rw [rdOf_set ys i j _ h0 (by omega) a]
        by_cases d : j = i
        · rw [if_pos d, d]
        · rw [if_neg d]; exact hp j a (by omega))
      refine ⟨zs, ?_, hz, hq⟩
      apply Ev.succ; simp only [laws_markStringS.l0]
      rw [w64 (x := i + 1 + 1) (by omega) (by omega), w64 (x := i + 1) (by omega) (by omega)]
      exact Ev.ite_pos (by omega) ((hT (i + 1) (by omega) (by omega)).bind (Ev.ite_pos h0 hE))
    · exact ih ys i h0 h1 (by omega) hy hp
theorem heldStrs_l0 (T : Int → ByteArray) (hT : ∀ n, 1 ≤ n → n ≤ 1000000000 → Ev (fun k => laws_markText.f k n) (T n)) (zs : List ByteArray) (hN : zs.length ≤ 900000000) (hq : ∀ j : Int, 0 ≤ j → j < (zs.length : Int) → rdOf ByteArray.empty zs j = T (j + 1)) (n : Nat) : ∀ i : Int, 0 ≤ i → i ≤ (zs.length : Int) → (zs.length : Int) - i ≤ n → Ev (fun k => laws_heldStringS.l0 k zs (i + 1) i) ((zs.length : Int) + 1) := by
  induction n with
  | zero =>
    intro i h0 h1 hn
    apply Ev.succ; simp only [laws_heldStringS.l0]
    exact Ev.ite_neg (by omega) (Ev.done (by omega))
  | succ n ih =>
    intro i h0 h1 hn
    by_cases c : i < (zs.length : Int)
    · apply Ev.succ; simp only [laws_heldStringS.l0]
      rw [w64 (x := i + 1 + 1) (by omega) (by omega), w64 (x := i + 1) (by omega) (by omega), hq i h0 c]
      exact Ev.ite_pos c (Ev.ite_pos h0 ((hT (i + 1) (by omega) (by omega)).bind (Ev.ite_pos rfl (ih (i + 1) (by omega) (by omega) (by omega)))))
    · exact ih i h0 h1 (by omega)
theorem markStrs (L : List ByteArray) (hl : L.length ≤ 900000000) : ∃ (m : Int) (ys : List ByteArray), 0 ≤ m ∧ Ev (fun k => laws_markStringS.f k L 1) (m, ys) ∧ Ev (fun k => laws_heldStringS.f k ys 1) m := by
  obtain ⟨T, hT⟩ := markTexts
  obtain ⟨zs, hE, hz, hq⟩ := markStrs_l0 T hT L.length hl L.length L 0 (by omega) (by omega) (by omega) rfl (by intro j a b; omega)
  refine ⟨(L.length : Int) + 1, zs, by omega, hE, ?_⟩
  rw [← hz]
  exact heldStrs_l0 T hT zs (by omega) (by rw [hz]; exact hq) zs.length 0 (by omega) (by omega) (by omega)

theorem FnExactLinesIn : laws_FnExactLinesIn.Pure := by
  intro s hs
  apply Ev.out
  unfold laws_FnExactLinesIn.f
  by_cases h : (s.size : Int) > 1048576
  · exact Ev.ite_pos h (Ev.done rfl)
  refine Ev.ite_neg h ((spec_LinesIn.ev s (by omega)).bind (Ev.bindc (impl_LinesIn.eq s (by omega)) ?_))
  have hl := linesB_len s
  have hI : impl_LinesIn.f s = some (linesB s) := impl_LinesIn.eq s (by omega)
  have e : asB (lnS false s.data.toList) = linesB s := rfl
  rw [e]
  generalize linesB s = L at *
  obtain ⟨m, ys, hm, hmk, hh⟩ := markStrs L (by omega)
  refine (eqStrs_self L (by omega)).bind (Ev.ite_pos (by first | rfl | trivial) (hmk.bind (hh.bind (Ev.ite_neg (by omega) (Ev.ite_pos (by first | rfl | trivial) (Ev.bindc hI ?_))))))
  exact (eqStrs_self L (by omega)).bind (Ev.ite_pos (by first | rfl | trivial) (hh.bind (Ev.ite_neg (by omega) (Ev.ite_pos (by first | rfl | trivial) (Ev.done rfl)))))


end Go.Proofs.YtmbninphokgbpaaDoor.Pure
