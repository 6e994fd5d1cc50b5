/- For every string of at most 140737488351232 bytes the program's PartsOf and the reference's return the same list and the same bool, and what the program returned stays as it is written while the function is called again (strings above 2^20 bytes are not asked by the law). -/
import Derived.Test.YtnlhpjapdklfgaaDoorOFnExactPartsOfx2
import Derived.Test.YtnlhpjapdklfgaaDoorBase
namespace Go.Proofs.YtnlhpjapdklfgaaDoor.Pure
open Go.RowKit Go.Proofs.YtnlhpjapdklfgaaDoor.OFnExactPartsOf Go.Proofs.YtnlhpjapdklfgaaDoorW.PrintWords Go.Proofs.YtnlhpjapdklfgaaDoorW.PrintLast Go.Proofs.YtnlhpjapdklfgaaDoorW.PrintMore Go.Proofs.YtnlhpjapdklfgaaDoor.Base
set_option linter.unusedVariables false
set_option linter.unusedSimpArgs false

def okP1 (x : Int) : Bool := decide (32 ≤ x ∧ x ≤ 126)
def finP (o : Option (List ByteArray)) : List ByteArray × Bool := match o with
  | none => ([], false)
  | some l => if (l.length : Int) > 12 then ([], false) else (l, true)
def fieldsB (l : List UInt8) : List ByteArray := (Lib.fields l).map fun l => ⟨l.toArray⟩
def partsB (s : ByteArray) : List ByteArray × Bool := if s.size ≤ 600 then finP (if (bytesOf s).all okP1 = true then some (fieldsB s.data.toList) else none) else ([], false)
theorem partsB_len (s : ByteArray) : (partsB s).1.length ≤ 12 := by
  unfold partsB finP
  split
  · split
    · simp
    · split
      · simp
      · simp only []; omega
  · simp
theorem sp_is32 (b : UInt8) (h : okP1 (b.toNat : Int) = true) : Lib.isSp b = ((b.toNat : Int) == 32) := by
  unfold okP1 at h
  simp only [decide_eq_true_eq] at h
  have e : ∀ c : UInt8, (b == c) = ((b.toNat : Int) == (c.toNat : Int)) := by
    intro c
    rw [Bool.eq_iff_iff, beq_iff_eq, beq_iff_eq]
    constructor
    · rintro rfl; rfl
    · intro h; apply UInt8.toNat_inj.1; omega
  unfold Lib.isSp
  rw [e 9, e 10, e 11, e 12, e 13, e 32]
  rw [show ((b.toNat : Int) == ((9 : UInt8).toNat : Int)) = false from beq_eq_false_iff_ne.2 (by show (b.toNat : Int) ≠ 9; omega), show ((b.toNat : Int) == ((10 : UInt8).toNat : Int)) = false from beq_eq_false_iff_ne.2 (by show (b.toNat : Int) ≠ 10; omega), show ((b.toNat : Int) == ((11 : UInt8).toNat : Int)) = false from beq_eq_false_iff_ne.2 (by show (b.toNat : Int) ≠ 11; omega), show ((b.toNat : Int) == ((12 : UInt8).toNat : Int)) = false from beq_eq_false_iff_ne.2 (by show (b.toNat : Int) ≠ 12; omega), show ((b.toNat : Int) == ((13 : UInt8).toNat : Int)) = false from beq_eq_false_iff_ne.2 (by show (b.toNat : Int) ≠ 13; omega)]
  rfl
theorem byte_at (s : ByteArray) (i : Nat) (h : i < s.size) : ∃ b : UInt8, s.data.toList.drop i = b :: s.data.toList.drop (i + 1) ∧ bt s (i : Int) = (b.toNat : Int) ∧ s.data.toList.take (i + 1) = s.data.toList.take i ++ [b] := by
  have hl : i < s.data.toList.length := by rw [Array.length_toList]; exact h
  refine ⟨s.data.toList[i], List.drop_eq_getElem_cons hl, ?_, List.take_succ_eq_append_getElem hl⟩
  have := tl_cons (s := s) (i := (i : Int)) (by omega) (by omega)
  unfold tl at this
  rw [Int.toNat_natCast] at this
  unfold bytesOf at this
  rw [← List.map_drop, List.drop_eq_getElem_cons hl, List.map_cons] at this
  exact (List.cons.inj this).1.symm
theorem extract_mk (s : ByteArray) (a b : Nat) : s.extract a b = ⟨((s.data.toList.take b).drop a).toArray⟩ := by
  apply ByteArray.ext
  apply Array.toList_inj.1
  rw [ByteArray.data_extract, Array.toList_extract, List.extract_eq_take_drop, List.drop_take]

theorem spec_PartsOf.fin (s : ByteArray) (acc : List ByteArray) (b i : Int) (h : ¬ i ≤ (s.size : Int)) : Ev (fun k => spec_PartsOf.l0 k s acc b i) (finP (some acc)) := by
  apply Ev.succ; simp only [spec_PartsOf.l0]
  refine Ev.ite_neg h ?_
  unfold finP
  by_cases c : (acc.length : Int) > 12
  · exact Ev.ite_pos c (Ev.done (by simp only [if_pos c]))
  · exact Ev.ite_neg c (Ev.done (by simp only [if_neg c]))
theorem spec_PartsOf.l0_ev (s : ByteArray) (hs : s.size ≤ 600) (n : Nat) : ∀ (acc : List ByteArray) (b i : Nat), b ≤ i → i ≤ s.size → s.size - i = n → acc.length ≤ i →
    Ev (fun k => spec_PartsOf.l0 k s acc (b : Int) (i : Int)) (finP (if (tl s (i : Int)).all okP1 = true then some (acc ++ (Lib.fieldsGo ((s.data.toList.take i).drop b) (s.data.toList.drop i)).map fun l => ⟨l.toArray⟩) else none)) := by
  have hlen : s.data.toList.length = s.size := by rw [Array.length_toList]; rfl
  have hcur : ∀ b i : Nat, b ≤ i → i ≤ s.size → ((s.data.toList.take i).drop b).isEmpty = decide (b = i) := by
    intro b i h1 h2
    rw [Bool.eq_iff_iff, List.isEmpty_iff, decide_eq_true_eq]
    constructor
    · intro h
      have := congrArg List.length h
      rw [List.length_drop, List.length_take, hlen] at this
      simp at this; omega
    · rintro rfl
      exact List.drop_eq_nil_of_le (by rw [List.length_take]; omega)
  induction n with
  | zero =>
    intro acc b i hb hi hn ha
    obtain rfl : i = s.size := by omega
    have hd : s.data.toList.drop s.size = [] := List.drop_eq_nil_of_le (by omega)
    rw [tl_nil (by omega), hd, Lib.fieldsGo, hcur b s.size hb (Nat.le_refl _)]
    apply Ev.succ; simp only [spec_PartsOf.l0]
    refine Ev.ite_pos (by omega) (Ev.ite_neg (by omega) ?_)
    apply Ev.succ; simp only [spec_PartsOf.j1]
    refine Ev.ite_neg (by decide) (Ev.ite_neg (by omega) ?_)
    apply Ev.succ; simp only [spec_PartsOf.j2]
    rw [w64 (x := (s.size : Int) + 1) (by omega) (by omega)]
    refine Ev.ite_neg (by decide) ?_
    by_cases c : (b : Int) < (s.size : Int)
    · rw [decide_eq_false (show ¬ b = s.size by omega)]
      refine Ev.ite_pos c (Ev.ite_pos (by omega) (Ev.ite_pos (by omega) (Ev.ite_pos (by omega) (Ev.ite_pos (by omega) ((spec_PartsOf.fin s _ _ _ (by omega)).get ?_)))))
      rw [Int.toNat_natCast, Int.toNat_natCast, extract_mk]; simp
    · rw [decide_eq_true (show b = s.size by omega)]
      refine Ev.ite_neg c ((spec_PartsOf.fin s _ _ _ (by omega)).get ?_)
      simp
  | succ n ih =>
    intro acc b i hb hi hn ha
    obtain ⟨x, hx1, hx2, hx3⟩ := byte_at s i (by omega)
    have ht : tl s (i : Int) = bt s i :: tl s ((i : Int) + 1) := tl_cons (by omega) (by omega)
    apply Ev.succ; simp only [spec_PartsOf.l0]
    refine Ev.ite_pos (by omega) (Ev.ite_pos (by omega) (Ev.ite_pos (by omega) ?_))
    have hj : ∀ c, c = !okP1 (bt s i) → Ev (fun k => spec_PartsOf.j1 k s acc (b : Int) (i : Int) c) (finP (if (tl s (i : Int)).all okP1 = true then some (acc ++ (Lib.fieldsGo ((s.data.toList.take i).drop b) (s.data.toList.drop i)).map fun l => ⟨l.toArray⟩) else none)) := by
      rintro c rfl
      apply Ev.succ; simp only [spec_PartsOf.j1]
      rw [ht, List.all_cons]
      cases hok : okP1 (bt s i) with
      | false =>
        rw [Bool.false_and, if_neg (show ¬ (false = true) by decide)]
        exact Ev.ite_pos (by first | rfl | trivial) (Ev.done rfl)
      | true =>
        rw [Bool.true_and]
        have hsp := sp_is32 x (by rw [← hx2]; exact hok)
        rw [← hx2] at hsp
        refine Ev.ite_neg (by decide) (Ev.ite_pos (by omega) (Ev.ite_pos (by omega) ?_))
        apply Ev.succ; simp only [spec_PartsOf.j2]
        rw [w64 (x := (i : Int) + 1) (by omega) (by omega), hx1, Lib.fieldsGo, hcur b i hb hi]
        have e1 : ((i : Int) + 1) = ((i + 1 : Nat) : Int) := by omega
        by_cases c32 : bt s i = 32
        · rw [hsp, beq_iff_eq.2 c32, if_pos (show true = true from rfl)]
          refine Ev.ite_neg (by rw [c32]; decide) ?_
          have hempty : ((s.data.toList.take (i + 1)).drop (i + 1)) = [] := List.drop_eq_nil_of_le (by rw [List.length_take]; omega)
          by_cases d : (b : Int) < (i : Int)
          · rw [decide_eq_false (show ¬ b = i by omega), if_neg (show ¬ (false = true) by decide)]
            have hE := ih (acc ++ [s.extract ((b : Int)).toNat ((i : Int)).toNat]) (i + 1) (i + 1) (Nat.le_refl _) (by omega) (by omega) (by rw [List.length_append]; simp; omega)
            rw [hempty] at hE
            refine Ev.ite_pos d (Ev.ite_pos (by omega) (Ev.ite_pos (by omega) (Ev.ite_pos (by omega) (Ev.ite_pos (by omega) ?_))))
            rw [e1]
            refine hE.get ?_
            rw [Int.toNat_natCast, Int.toNat_natCast, extract_mk]; simp
          · rw [decide_eq_true (show b = i by omega), if_pos (show true = true from rfl)]
            have hE := ih acc (i + 1) (i + 1) (Nat.le_refl _) (by omega) (by omega) (by omega)
            rw [hempty] at hE
            refine Ev.ite_neg d ?_
            rw [e1]; exact hE
        · rw [hsp, beq_eq_false_iff_ne.2 c32, if_neg (show ¬ (false = true) by decide)]
          have hE := ih acc b (i + 1) (by omega) (by omega) (by omega) (by omega)
          refine Ev.ite_pos (by simpa using c32) ?_
          rw [e1]
          have hc : (s.data.toList.take i).drop b ++ [x] = (s.data.toList.take (i + 1)).drop b := by
            rw [hx3, List.drop_append_of_le_length (by rw [List.length_take, hlen]; omega)]
          rw [hc]; exact hE
    by_cases c : bt s i < 32
    · exact Ev.ite_pos c (hj _ (by unfold okP1; simp; omega))
    · refine Ev.ite_neg c (hj _ ?_)
      unfold okP1
      rw [Bool.eq_iff_iff]; simp; omega
theorem spec_PartsOf.ev (s : ByteArray) : Ev (fun k => spec_PartsOf.f k s) (partsB s) := by
  unfold spec_PartsOf.f partsB
  refine Ev.bindc rfl ?_
  by_cases c : (s.size : Int) > 600
  · rw [if_neg (by omega)]; exact Ev.ite_pos c (Ev.done rfl)
  · rw [if_pos (by omega)]
    refine Ev.ite_neg c ((spec_PartsOf.l0_ev s (by omega) s.size [] 0 0 (by omega) (by omega) (by omega) (by simp)).get ?_)
    rw [show ((0 : Nat) : Int) = 0 from rfl, tl_zero]; rfl

theorem ascii_of_okP {s : ByteArray} (h : (bytesOf s).all okP1 = true) : (s.data.toList.all fun b => decide (b.toNat < 128)) = true := by
  rw [List.all_eq_true] at h ⊢
  intro b hb
  have := h (b.toNat : Int) (List.mem_map.2 ⟨b, hb, rfl⟩)
  unfold okP1 at this
  simp only [decide_eq_true_eq] at this ⊢
  omega
theorem impl_PartsOf.l0_ev (s : ByteArray) (hs : s.size ≤ 600) (hall0 : (Lib.fields s.data.toList).length ≤ maxLen) (n : Nat) : ∀ i : Nat, i ≤ s.size → s.size - i = n → ((bytesOf s).take i).all okP1 = true →
    Ev (fun k => impl_PartsOf.l0 k s (s.size : Int) (i : Int)) (finP (if (bytesOf s).all okP1 = true then some (fieldsB s.data.toList) else none)) := by
  induction n with
  | zero =>
    intro i hi hn hp
    obtain rfl : i = s.size := by omega
    rw [List.take_of_length_le (by rw [size_bytes]; exact Nat.le_refl _)] at hp
    have hf : strings_Fields.f s = some (fieldsB s.data.toList) := by
      unfold strings_Fields.f
      rw [if_pos ⟨by omega, ascii_of_okP hp, hall0⟩]; rfl
    apply Ev.succ; simp only [impl_PartsOf.l0]
    rw [if_pos hp]
    refine Ev.ite_neg (by omega) (Ev.bindc hf ?_)
    unfold finP
    by_cases c : ((fieldsB s.data.toList).length : Int) > 12
    · exact Ev.ite_pos c (Ev.done (by simp only [if_pos c]))
    · exact Ev.ite_neg c (Ev.done (by simp only [if_neg c]))
  | succ n ih =>
    intro i hi hn hp
    have hsplit : (bytesOf s).take (i + 1) = (bytesOf s).take i ++ [bt s (i : Int)] := by
      rw [List.take_succ_eq_append_getElem (by rw [size_bytes]; omega), bytes_get s i (by omega)]
    apply Ev.succ; simp only [impl_PartsOf.l0]
    rw [w64 (x := (i : Int) + 1) (by omega) (by omega)]
    refine Ev.ite_pos (by omega) (Ev.ite_pos (by omega) (Ev.ite_pos (by omega) ?_))
    have bad : okP1 (bt s (i : Int)) = false → ¬ (bytesOf s).all okP1 = true := by
      intro h h2
      have hm : bt s (i : Int) ∈ bytesOf s := by
        have : bt s (i : Int) ∈ (bytesOf s).take (i + 1) := by rw [hsplit]; simp
        exact List.mem_of_mem_take this
      rw [List.all_eq_true.1 h2 _ hm] at h; cases h
    by_cases c : bt s (i : Int) < 32
    · rw [if_neg (bad (by unfold okP1; simp; omega))]
      exact Ev.ite_pos c (Ev.done rfl)
    refine Ev.ite_neg c ?_
    by_cases c2 : bt s (i : Int) > 126
    · rw [if_neg (bad (by unfold okP1; simp; omega))]
      exact Ev.ite_pos c2 (Ev.done rfl)
    · refine Ev.ite_neg c2 ?_
      have hE := ih (i + 1) (by omega) (by omega) (by rw [hsplit, List.all_append, hp]; unfold okP1; simp; omega)
      rw [show ((i : Int) + 1) = ((i + 1 : Nat) : Int) from by omega]
      exact hE
theorem fields_len (l : List UInt8) : (Lib.fields l).length ≤ l.length := by
  have h : ∀ (l : List UInt8) (b : Bool), Lib.cntF b l ≤ l.length := by
    intro l
    induction l with
    | nil => intro b; simp [Lib.cntF]
    | cons x l ih =>
      intro b
      have := ih (Lib.isSp x)
      simp only [Lib.cntF, List.length_cons]
      split <;> omega
  have := Lib.fieldsGo_length l []
  unfold Lib.fields
  rw [this]
  have := h l true
  simp; exact this
theorem impl_PartsOf.ev (s : ByteArray) : Ev (fun k => impl_PartsOf.f k s) (partsB s) := by
  unfold impl_PartsOf.f partsB
  by_cases c : (s.size : Int) > 600
  · rw [if_neg (by omega)]; exact Ev.ite_pos c (Ev.done rfl)
  · rw [if_pos (by omega)]
    have hl : s.data.toList.length = s.size := by rw [Array.length_toList]; rfl
    have := fields_len s.data.toList
    exact Ev.ite_neg c (impl_PartsOf.l0_ev s (by omega) (by unfold maxLen; omega) s.size 0 (by omega) (by omega) rfl)

theorem eqStrs_l0 (L : List ByteArray) (hl : L.length ≤ 140737488351232) (n : Nat) : ∀ i : Int, 0 ≤ i → (L.length : Int) - i ≤ n → Ev (fun k => laws_eqStringS.l0 k L L i) true := by
  induction n with
  | zero =>
    intro i h0 hn
    apply Ev.succ; simp only [laws_eqStringS.l0]
    exact Ev.ite_neg (by omega) (Ev.done rfl)
  | succ n ih =>
    intro i h0 hn
    apply Ev.succ; simp only [laws_eqStringS.l0]
    by_cases c : i < (L.length : Int)
    · refine Ev.ite_pos c (Ev.ite_pos h0 (Ev.ite_pos c (Ev.ite_pos (by first | rfl | trivial) ?_)))
      rw [w64 (by omega) (by omega)]
      exact ih (i + 1) (by omega) (by omega)
    · exact Ev.ite_neg c (Ev.done rfl)
theorem eqStrs_self (L : List ByteArray) (hl : L.length ≤ 140737488351232) : Ev (fun k => laws_eqStringS.f k L L) true := by
  unfold laws_eqStringS.f
  exact Ev.ite_pos rfl (eqStrs_l0 L hl L.length 0 (by omega) (by omega))
theorem str_sz (a : List Int) : (strOfNums a).size = a.length := by
  unfold strOfNums
  show (List.toArray _).size = _
  simp
theorem markText_l0 (n : Nat) : ∀ (x : Int) (s : ByteArray), 0 ≤ x → x < 10 ^ n → s.size ≤ 100 + 10 - n → n ≤ 10 → ∃ t, Ev (fun k => laws_markText.l0 k x s) t := by
  induction n with
  | zero =>
    intro x s h0 h1 hs hn
    refine ⟨(⟨#[109]⟩ : ByteArray) ++ s, ?_⟩
    apply Ev.succ; simp only [laws_markText.l0]
    exact Ev.ite_neg (by omega) (Ev.ite_pos (by omega) (Ev.done rfl))
  | succ n ih =>
    intro x s h0 h1 hs hn
    by_cases c : x > 0
    · have hd : Int.tdiv x 10 = x / 10 := Int.tdiv_eq_ediv_of_nonneg h0
      have hp : (10 : Int) ^ (n + 1) = 10 ^ n * 10 := Int.pow_succ _ _
      have hp2 : (10 : Int) ^ n ≤ 10 ^ 10 := by exact_mod_cast Nat.pow_le_pow_right (by decide) (by omega)
      obtain ⟨t, ht⟩ := ih (x / 10) (strOfNums [(wrap64 (48 + (Int.tmod x 10))) % 256] ++ s) (by omega) (by omega) (by rw [ByteArray.size_append, str_sz]; simp; omega) (by omega)
      refine ⟨t, ?_⟩
      apply Ev.succ; simp only [laws_markText.l0]
      rw [hd, w64 (x := x / 10) (by omega) (by omega)]
      exact Ev.ite_pos c (Ev.bindc rfl (Ev.ite_pos (by rw [str_sz]; simp; omega) ht))
    · refine ⟨(⟨#[109]⟩ : ByteArray) ++ s, ?_⟩
      apply Ev.succ; simp only [laws_markText.l0]
      exact Ev.ite_neg c (Ev.ite_pos (by omega) (Ev.done rfl))
open Classical in
theorem markTexts : ∃ T : Int → ByteArray, ∀ n, 1 ≤ n → n ≤ 1000000000 → Ev (fun k => laws_markText.f k n) (T n) := by
  refine ⟨fun n => if h : ∃ t, Ev (fun k => laws_markText.f k n) t then h.choose else ByteArray.empty, fun n h0 h1 => ?_⟩
  have h : ∃ t, Ev (fun k => laws_markText.f k n) t := by
    obtain ⟨t, ht⟩ := markText_l0 10 n (⟨#[]⟩ : ByteArray) (by omega) (by show n < 10000000000; omega) (by show 0 ≤ _; omega) (by omega)
    refine ⟨t, ?_⟩
    unfold laws_markText.f
    exact Ev.ite_neg (by omega) ht
  simp only [dif_pos h]
  exact h.choose_spec
theorem rdOf_set (L : List ByteArray) (i j : Int) (x : ByteArray) (h0 : 0 ≤ i) (h1 : i < (L.length : Int)) (h2 : 0 ≤ j) : rdOf ByteArray.empty (L.set i.toNat x) j = if j = i then x else rdOf ByteArray.empty L j := by
  unfold rdOf
  rw [List.getD_eq_getElem?_getD, List.getD_eq_getElem?_getD, List.getElem?_set]
  by_cases c : j = i
  · subst c; rw [if_pos rfl, if_pos rfl, if_pos (by omega)]; rfl
  · rw [if_neg (by omega), if_neg c]
theorem markStrs_l0 (T : Int → ByteArray) (hT : ∀ n, 1 ≤ n → n ≤ 1000000000 → Ev (fun k => laws_markText.f k n) (T n)) (N : Nat) (hN : N ≤ 900000000) (n : Nat) : ∀ (ys : List ByteArray) (i : Int), 0 ≤ i → i ≤ N → (N : Int) - i ≤ n → ys.length = N → (∀ j : Int, 0 ≤ j → j < i → rdOf ByteArray.empty ys j = T (j + 1)) →
    ∃ zs : List ByteArray, Ev (fun k => laws_markStringS.l0 k ys (i + 1) i) ((N : Int) + 1, zs) ∧ zs.length = N ∧ ∀ j : Int, 0 ≤ j → j < N → rdOf ByteArray.empty zs j = T (j + 1) := by
  induction n with
  | zero =>
    intro ys i h0 h1 hn hy hp
    refine ⟨ys, ?_, hy, fun j a b => hp j a (by omega)⟩
    apply Ev.succ; simp only [laws_markStringS.l0]
    exact Ev.ite_neg (by omega) (Ev.done (by rw [show i = N from by omega]))
  | succ n ih =>
    intro ys i h0 h1 hn hy hp
    by_cases c : i < (N : Int)
    · obtain ⟨zs, hE, hz, hq⟩ := ih (ys.set i.toNat (T (i + 1))) (i + 1) (by omega) (by omega) (by omega) (by rw [List.length_set, hy]) (by
        intro j a b
        rw [rdOf_set ys i j _ h0 (by omega) a]
        by_cases d : j = i
        · rw [if_pos d, d]
        · rw [if_neg d]; exact hp j a (by omega))
      refine ⟨zs, ?_, hz, hq⟩
      apply Ev.succ; simp only [laws_markStringS.l0]
      rw [w64 (x := i + 1 + 1) (by omega) (by omega), w64 (x := i + 1) (by omega) (by omega)]
      exact Ev.ite_pos (by omega) ((hT (i + 1) (by omega) (by omega)).bind (Ev.ite_pos h0 hE))
    · exact ih ys i h0 h1 (by omega) hy hp
theorem heldStrs_l0 (T : Int → ByteArray) (hT : ∀ n, 1 ≤ n → n ≤ 1000000000 → Ev (fun k => laws_markText.f k n) (T n)) (zs : List ByteArray) (hN : zs.length ≤ 900000000) (hq : ∀ j : Int, 0 ≤ j → j < (zs.length : Int) → rdOf ByteArray.empty zs j = T (j + 1)) (n : Nat) : ∀ i : Int, 0 ≤ i → i ≤ (zs.length : Int) → (zs.length : Int) - i ≤ n → Ev (fun k => laws_heldStringS.l0 k zs (i + 1) i) ((zs.length : Int) + 1) := by
  induction n with
  | zero =>
    intro i h0 h1 hn
    apply Ev.succ; simp only [laws_heldStringS.l0]
    exact Ev.ite_neg (by omega) (Ev.done (by omega))
  | succ n ih =>
    intro i h0 h1 hn
    by_cases c : i < (zs.length : Int)
    · apply Ev.succ; simp only [laws_heldStringS.l0]
      rw [w64 (x := i + 1 + 1) (by omega) (by omega), w64 (x := i + 1) (by omega) (by omega), hq i h0 c]
      exact Ev.ite_pos c (Ev.ite_pos h0 ((hT (i + 1) (by omega) (by omega)).bind (Ev.ite_pos rfl (ih (i + 1) (by omega) (by omega) (by omega)))))
    · exact ih i h0 h1 (by omega)
theorem markStrs (L : List ByteArray) (hl : L.length ≤ 900000000) : ∃ (m : Int) (ys : List ByteArray), 0 ≤ m ∧ Ev (fun k => laws_markStringS.f k L 1) (m, ys) ∧ Ev (fun k => laws_heldStringS.f k ys 1) m := by
  obtain ⟨T, hT⟩ := markTexts
  obtain ⟨zs, hE, hz, hq⟩ := markStrs_l0 T hT L.length hl L.length L 0 (by omega) (by omega) (by omega) rfl (by intro j a b; omega)
  refine ⟨(L.length : Int) + 1, zs, by omega, hE, ?_⟩
  rw [← hz]
  exact heldStrs_l0 T hT zs (by omega) (by rw [hz]; exact hq) zs.length 0 (by omega) (by omega) (by omega)

theorem FnExactPartsOf : laws_FnExactPartsOf.Pure := by
  intro s hs
  apply Ev.out
  unfold laws_FnExactPartsOf.f
  by_cases h : (s.size : Int) > 1048576
  · exact Ev.ite_pos h (Ev.done rfl)
  refine Ev.ite_neg h ((spec_PartsOf.ev s).bind ((impl_PartsOf.ev s).bind ?_))
  have hl := partsB_len s
  have hI := impl_PartsOf.ev s
  generalize partsB s = q at *
  obtain ⟨L, b⟩ := q
  simp only at hl
  obtain ⟨m, ys, hm, hmk, hh⟩ := markStrs L (by omega)
  refine (eqStrs_self L (by omega)).bind (Ev.ite_pos (by first | rfl | trivial) ?_)
  have e : ((L, b).2 != (L, b).2) = false := by simp
  rw [e]
  apply Ev.succ; simp only [laws_FnExactPartsOf.j0]
  refine Ev.ite_neg (by decide) (hmk.bind (hh.bind (Ev.ite_neg (by omega) (Ev.ite_pos (by first | rfl | trivial) (hI.bind ((eqStrs_self L (by omega)).bind (Ev.ite_pos (by first | rfl | trivial) ?_)))))))
  rw [e]
  apply Ev.succ; simp only [laws_FnExactPartsOf.j1]
  exact Ev.ite_neg (by decide) (hh.bind (Ev.ite_neg (by omega) (Ev.ite_pos (by first | rfl | trivial) (Ev.done rfl))))


end Go.Proofs.YtnlhpjapdklfgaaDoor.Pure
