/- The program's copy of a value: of its own memory; under the conditions that it names. -/
import Derived.Test.YtkcomfmdcmjagaaCa
namespace Go.Proofs.Ytkcomfmdcmjagaa.OFnExactAllSels
open Go.Proofs.Ytkcomfmdcmjagaa.Lay Go.Proofs.Ytkcomfmdcmjagaa.Mark
open Go.RowKit Go.Proofs.YtkcomfmdcmjagaaW.PrintWords Go.Proofs.YtkcomfmdcmjagaaW.PrintLast Go.Proofs.YtkcomfmdcmjagaaW.PrintMore
set_option linter.unusedVariables false
set_option linter.unusedSimpArgs false
theorem put4 {W : World} {g t : Nat} {a b c d : Value} (h : W.heap[g]? = some (.cells #[a, b, c, d] t (0, 0))) (a' b' c' d' : Value) :
    ((((W.setCell ⟨g, 0, none⟩ a').setCell ⟨g, 1, none⟩ b').setCell ⟨g, 2, none⟩ c').setCell ⟨g, 3, none⟩ d').heap[g]? = some (.cells #[a', b', c', d'] t (0, 0)) ∧
    (∀ k, k ≠ g → ((((W.setCell ⟨g, 0, none⟩ a').setCell ⟨g, 1, none⟩ b').setCell ⟨g, 2, none⟩ c').setCell ⟨g, 3, none⟩ d').heap[k]? = W.heap[k]?) ∧
    ((((W.setCell ⟨g, 0, none⟩ a').setCell ⟨g, 1, none⟩ b').setCell ⟨g, 2, none⟩ c').setCell ⟨g, 3, none⟩ d').heap.size = W.heap.size :=
  ⟨by simpa using blk_set (blk_set (blk_set (blk_set h 0 a') 1 b') 2 c') 3 d',
   fun k hk => (Below.heap_setCell _ _ d' k hk).trans ((Below.heap_setCell _ _ c' k hk).trans ((Below.heap_setCell _ _ b' k hk).trans (Below.heap_setCell _ _ a' k hk))), by simp [World.setCell]⟩
/-- Cells that come back: data of its own. -/
structure FreshC (w w' : World) (d : D) (cs : List Value) : Prop where
  at_ : Cells w'.cell? d cs
  nd : (cb w'.cell? d cs).Nodup
  blk : ∀ b ∈ cb w'.cell? d cs, Blk w' w.heap.size w'.heap.size b
  low : Below w.heap.size w w'
theorem Ow.sl {W : World} {lo e size n : Nat} {v : Value} {c : D} {bs : List Nat} (h : Ow W lo e size n v c bs) : ∃ A cap, v = .slice A n cap := by
  obtain ⟨inner, ho, _, _⟩ := h.ex
  exact own_slice ho
theorem fits_mem {α : Type} {f : α → D} : ∀ {l : List α} {y : α}, (D.list f l).fits → y ∈ l → (f y).fits
  | x :: l, y, h, hy => by
    rcases List.mem_cons.1 hy with rfl | hy
    · exact h.1
    · exact fits_mem h.2 hy
theorem freshV {w w' : World} {x : S30} {A2 A3 : Option Addr} {c2 c3 N M lo hi : Nat} (o1 : Tr w' N M x.f2.length (D.list dV x.f2) (.slice A2 x.f2.length c2)) (o2 : (rbl w'.cell? (D.list dV x.f2) (.slice A2 x.f2.length c2)).Nodup)
    (t1 : Tr w' lo hi x.f3.length (D.list dT x.f3) (.slice A3 x.f3.length c3)) (t2 : (rbl w'.cell? (D.list dT x.f3) (.slice A3 x.f3.length c3)).Nodup) (h1 : w.heap.size ≤ N) (h2 : w.heap.size ≤ lo) (h3 : hi ≤ N) (hlow : Below w.heap.size w w') :
    FreshC w w' (dV x) [.int .i64 x.f0, .string x.f1, .slice A2 x.f2.length c2, .slice A3 x.f3.length c3] := by
  have hb : cb w'.cell? (dV x) [.int .i64 x.f0, .string x.f1, .slice A2 x.f2.length c2, .slice A3 x.f3.length c3] = rbl w'.cell? (D.list dV x.f2) (.slice A2 x.f2.length c2) ++ (rbl w'.cell? (D.list dT x.f3) (.slice A3 x.f3.length c3) ++ []) := by
    rw [dV_eq]
    rfl
  refine ⟨?_, ?_, ?_, hlow⟩
  · rw [dV_eq]
    exact ⟨[_], _, rfl, rfl, [_], _, rfl, rfl, [_], _, rfl, ⟨_, rfl, o1.at_⟩, [_], [], rfl, ⟨_, rfl, t1.at_⟩, rfl⟩
  · rw [hb, List.append_nil]
    exact List.nodup_append.2 ⟨o2, t2, fun a ha b hb he => by
      have q1 := (o1.blk a ha).1
      have q2 := (t1.blk b hb).2.1
      omega⟩
  · rw [hb, List.append_nil]
    intro b hb
    rcases List.mem_append.1 hb with hb | hb
    · exact (o1.blk b hb).mono h1 o1.le
    · exact (t1.blk b hb).mono h2 t1.le
set_option maxHeartbeats 8000000 in
set_option maxRecDepth 100000 in
theorem cloneV (x : S30) : ∀ (A2 : Option Addr) (c2 : Nat) (A3 : Option Addr) (c3 : Nat) (w : World), (dV x).fits → In w x.f2.length (D.list dV x.f2) (.slice A2 x.f2.length c2) → In w x.f3.length (D.list dT x.f3) (.slice A3 x.f3.length c3) →
    Calls Try.prog 79 #[.agg #[.int .i64 x.f0, .string x.f1, .slice A2 x.f2.length c2, .slice A3 x.f3.length c3]] w fun e w' => ∃ A2' c2' A3' c3', e = .returned (.agg #[.int .i64 x.f0, .string x.f1, .slice A2' x.f2.length c2', .slice A3' x.f3.length c3']) ∧ FreshC w w' (dV x) [.int .i64 x.f0, .string x.f1, .slice A2' x.f2.length c2', .slice A3' x.f3.length c3'] := by
  induction x using indV with
  | h x ih =>
  intro A2 c2 A3 c3 w hfit h2 h3
  have HF := Aside0.mk hfit
  have IN2 := Aside0.mk h2
  have IN3 := Aside0.mk h3
  have IH := Aside0.mk ih
  have HB := Aside0.mk (Below.refl w.heap.size w)
  have hu30 := Try.underlying30
  have HL3 := Aside0.mk (show x.f3.length ≤ 1073741824 by have := hfit; rw [dV_eq] at this; exact this.2.2.2.1.1)
  have HL2 := Aside0.mk (show x.f2.length ≤ 1073741824 by have := hfit; rw [dV_eq] at this; exact this.2.2.1.1)
  clear hfit h2 h3 ih
  go_enter Try.func79, Try.ntmps79
  try go_wp2_with (first
    | ((with_reducible refine gate_dst (N := 1) rfl ?_); refine box_event ?hg (N := 1) ?hd (cs := #[.int .i64 x.f0, .string x.f1, .slice A2 x.f2.length c2, .slice A3 x.f3.length c3]) (t := 30) ?hr ?_; (case hd => rfl); (case hg => rfl); (case hr => first | (go_simp; done) | (go_simp; rfl))
       intro g1 hg w3 hbox hb
       have GE1 := Aside0.mk (show w.heap.size ≤ g1 by rw [hg]; exact HB.out.size)
       have BK1 := Aside0.mk hbox
       have n_HB := Aside0.mk (below_step HB.out hb)
       clear HB
       have HB := n_HB
       clear n_HB
       clear hb hbox hg)
    | ((with_reducible refine gate_dst (N := 2) rfl ?_); refine box_event ?hg (N := 2) ?hd (cs := #[.int .i64 0, .string (⟨#[]⟩ : ByteArray), .slice none 0 0, .slice none 0 0]) (t := 30) ?hr ?_; (case hd => rfl); (case hg => rfl); (case hr => first | (go_simp; done) | (go_simp; rfl))
       intro g2 hg w4 hbox hb
       have GE2 := Aside0.mk (show g1 < g2 by rw [hg]; exact blk_lt BK1.out)
       have BK2 := Aside0.mk hbox
       have n_BK1 := Aside0.mk (blk_below BK1.out hb)
       have n_HB := Aside0.mk (below_step HB.out hb)
       clear BK1 HB
       have BK1 := n_BK1
       have HB := n_HB
       clear n_BK1 n_HB
       clear hb hbox hg))
  have n1_ := Aside0.mk (blk_drew BK1.out)
  have n2_ := Aside0.mk (blk_drew BK2.out)
  have n3_ := Aside0.mk (below_drew1 HB.out)
  clear BK1 BK2 HB
  have BK1 := n1_
  have BK2 := n2_
  have HB := n3_
  clear n1_ n2_ n3_
  refine start_ (n := 10) (S := fun w' => w'.cell? ⟨g1, 0, none⟩ = some (.int .i64 x.f0) ∧ w'.cell? ⟨g1, 1, none⟩ = some (.string x.f1) ∧ w'.cell? ⟨g1, 2, none⟩ = some (.slice A2 x.f2.length c2) ∧ w'.cell? ⟨g1, 3, none⟩ = some (.slice A3 x.f3.length c3)) (ds := []) #[false, false, false, false, false, false, false, false, false, false] (by kernel_rfl) rfl rfl ⟨(blk_cell BK1.out 0).trans rfl, (blk_cell BK1.out 1).trans rfl, (blk_cell BK1.out 2).trans rfl, (blk_cell BK1.out 3).trans rfl⟩ (fun hHeld => ?_)
  generalize w4.drew = w5 at BK1 BK2 HB hHeld ⊢
  refine pure_ (i := 0) (N := some 6) (v := ?_) (a' := ?_) #[true, false, false, false, false, false, false, false, false, false] rfl rfl (by kernel_rfl) (fun _ _ _ h => h) (Or.inl ⟨by rfl, ?_⟩) ?_ ?_
  rotate_left
  · intro w'
    go_simp
    with_reducible rfl
  rotate_left
  · simp only [Act.put, List.setIfInBounds_toArray, List.set_cons_zero, List.set_cons_succ, i64_w, i32_w]
    rfl
  refine pure_ (i := 2) (N := some 8) (v := ?_) (a' := ?_) #[true, false, true, false, false, false, false, false, false, false] rfl rfl (by kernel_rfl) (fun _ _ _ h => h) (Or.inl ⟨by rfl, ?_⟩) ?_ ?_
  rotate_left
  · intro w'
    go_simp
    with_reducible rfl
  rotate_left
  · simp only [Act.put, List.setIfInBounds_toArray, List.set_cons_zero, List.set_cons_succ, i64_w, i32_w]
    rfl
  refine pure_ (i := 4) (N := some 10) (v := ?_) (a' := ?_) #[true, false, true, false, true, false, false, false, false, false] rfl rfl (by kernel_rfl) (fun _ _ _ h => h) (Or.inl ⟨by rfl, ?_⟩) ?_ ?_
  rotate_left
  · intro w'
    go_simp
    with_reducible rfl
  rotate_left
  · simp only [Act.put, List.setIfInBounds_toArray, List.set_cons_zero, List.set_cons_succ, i64_w, i32_w]
    rfl
  refine take_ (i := 1) (N := some 7) (v := ?_) (a' := ?_) #[true, true, true, false, true, false, false, false, false, false] rfl rfl (by kernel_rfl) (fun _ _ _ h => h) (Or.inl ⟨by rfl, ?_⟩) hHeld ?_ ?_
  rotate_left
  · rintro w' ⟨s0, s1, s2, s3⟩
    go_simp
    with_reducible rfl
  rotate_left
  · simp only [Act.put, List.setIfInBounds_toArray, List.set_cons_zero, List.set_cons_succ, i64_w, i32_w]
    rfl
  refine take_ (i := 3) (N := some 9) (v := ?_) (a' := ?_) #[true, true, true, true, true, false, false, false, false, false] rfl rfl (by kernel_rfl) (fun _ _ _ h => h) (Or.inl ⟨by rfl, ?_⟩) hHeld ?_ ?_
  rotate_left
  · rintro w' ⟨s0, s1, s2, s3⟩
    go_simp
    with_reducible rfl
  rotate_left
  · simp only [Act.put, List.setIfInBounds_toArray, List.set_cons_zero, List.set_cons_succ, i64_w, i32_w]
    rfl
  refine take_ (i := 5) (N := some 11) (v := ?_) (a' := ?_) #[true, true, true, true, true, true, false, false, false, false] rfl rfl (by kernel_rfl) (fun _ _ _ h => h) (Or.inl ⟨by rfl, ?_⟩) hHeld ?_ ?_
  rotate_left
  · rintro w' ⟨s0, s1, s2, s3⟩
    go_simp
    with_reducible rfl
  rotate_left
  · simp only [Act.put, List.setIfInBounds_toArray, List.set_cons_zero, List.set_cons_succ, i64_w, i32_w]
    rfl
  refine join_ (σ := (Option Addr × Nat) × Nat) 1 #[true, true, true, true, true, true, true, true, true, false] (fun s_ => [(12, .slice s_.1.1 x.f3.length s_.1.2), (3, .pointer (some ⟨s_.2, 0, none⟩)), (13, .agg #[.int .i64 x.f0, .string x.f1, .slice none 0 0, .slice s_.1.1 x.f3.length s_.1.2])]) (fun s_ w' => (w'.cell? ⟨g1, 0, none⟩ = some (.int .i64 x.f0) ∧ w'.cell? ⟨g1, 1, none⟩ = some (.string x.f1) ∧ w'.cell? ⟨g1, 2, none⟩ = some (.slice A2 x.f2.length c2) ∧ w'.cell? ⟨g1, 3, none⟩ = some (.slice A3 x.f3.length c3)) ∧ (∃ lo hi, w.heap.size ≤ lo ∧ g1 < lo ∧ g2 < lo ∧ (s_.2 < lo ∨ hi ≤ s_.2) ∧ Tr w' lo hi x.f3.length (D.list dT x.f3) (.slice s_.1.1 x.f3.length s_.1.2) ∧ (rbl w'.cell? (D.list dT x.f3) (.slice s_.1.1 x.f3.length s_.1.2)).Nodup) ∧ (w'.heap[g1]? = some (.cells #[.int .i64 x.f0, .string x.f1, .slice A2 x.f2.length c2, .slice A3 x.f3.length c3] 30 (0, 0))) ∧ (w'.heap[g2]? = some (.cells #[.int .i64 0, .string (⟨#[]⟩ : ByteArray), .slice none 0 0, .slice none 0 0] 30 (0, 0))) ∧ (w'.heap[s_.2]? = some (.cells #[.int .i64 0, .string (⟨#[]⟩ : ByteArray), .slice none 0 0, .slice none 0 0] 30 (0, 0))) ∧ (w.heap.size ≤ s_.2 ∧ g1 < s_.2 ∧ g2 < s_.2) ∧ Below w.heap.size w w') ?_ ?_
  rotate_left
  · intro hCont
    refine two_ (i := 6) (j := 8) (Ni := some 12) (Nj := some 3) #[true, true, true, true, true, true, true, false, false, false] #[true, true, true, true, true, true, false, false, true, false] rfl rfl rfl rfl (by kernel_rfl) (by decide) (by decide) (fun K hK => ?_) (fun K hK => ?_)
    · skip
      refine goes_ Try.func80 (by kernel_rfl) rfl #[.slice A3 x.f3.length c3] (by rfl) rfl rfl (by (try simp only [List.map_toArray, List.map_cons, List.map_nil]); first | done | rfl) ?_
      with_reducible refine (cloneT x.f3 _ _ (IN3.out.later HB.out) HL3.out).mono ?_
      rintro e w6 ⟨v3, rfl, hf⟩
      refine ⟨_, rfl, ?_⟩
      have hb := hf.low
      obtain ⟨Av, cv, ev, _, _⟩ := RowAt.sl hf.tr.at_
      subst ev
      have HT := Aside0.mk (And.intro hf.tr hf.nd)
      have HG := Aside0.mk (And.intro (blk_lt BK1.out) (blk_lt BK2.out))
      have HS := Aside0.mk HB.out.size
      clear hf
      have n_BK1 := Aside0.mk (blk_below BK1.out hb)
      have n_BK2 := Aside0.mk (blk_below BK2.out hb)
      have n_HB := Aside0.mk (below_step HB.out hb)
      clear BK1 BK2 HB
      have BK1 := n_BK1
      have BK2 := n_BK2
      have HB := n_HB
      clear n_BK1 n_BK2 n_HB
      clear hb
      refine hK.out _ _ ⟨(blk_cell BK1.out 0).trans rfl, (blk_cell BK1.out 1).trans rfl, (blk_cell BK1.out 2).trans rfl, (blk_cell BK1.out 3).trans rfl⟩ (fun hHeld => ?_)
      clear hK K
      refine norm_ (a' := ?_) ?_ ?_
      rotate_left
      · show Act.put _ (some 12) _ = _
        simp only [Act.put, List.setIfInBounds_toArray, List.set_cons_zero, List.set_cons_succ, i64_w, i32_w]
        rfl
      refine pure_ (i := 7) (N := some 13) (v := ?_) (a' := ?_) #[true, true, true, true, true, true, true, true, false, false] rfl rfl (by kernel_rfl) (fun _ _ _ h => h) (Or.inl ⟨by rfl, ?_⟩) ?_ ?_
      rotate_left
      · intro w'
        go_simp
        with_reducible rfl
      rotate_left
      · simp only [Act.put, List.setIfInBounds_toArray, List.set_cons_zero, List.set_cons_succ, i64_w, i32_w]
        rfl
      refine one_ (i := 8) (N := some 3) #[true, true, true, true, true, true, true, true, true, false] rfl rfl (by kernel_rfl) (by decide) (fun K hK => ?_)
      refine box_step ?hg (N := 3) ?hd (cs := #[.int .i64 0, .string (⟨#[]⟩ : ByteArray), .slice none 0 0, .slice none 0 0]) (t := 30) ?hr ?_; (case hd => rfl); (case hg => rfl); (case hr => first | (go_simp; done) | (go_simp; rfl))
      intro g3 hg w8 hbox hb
      have HT2 := Aside0.mk (HT.out.1.move hb.size (fun b _ hh => hb.block b (Nat.lt_of_lt_of_le hh HT.out.1.le)))
      have HG3 := Aside0.mk (show w6.heap.size ≤ g3 by rw [hg]; exact Nat.le_refl _)
      have HS3 := Aside0.mk (And.intro (Nat.le_trans HB.out.size HG3.out) (And.intro (Nat.lt_of_lt_of_le (blk_lt BK1.out) HG3.out) (Nat.lt_of_lt_of_le (blk_lt BK2.out) HG3.out)))
      have BK3 := Aside0.mk hbox
      have n_BK1 := Aside0.mk (blk_below BK1.out hb)
      have n_BK2 := Aside0.mk (blk_below BK2.out hb)
      have n_HB := Aside0.mk (below_step HB.out hb)
      clear BK1 BK2 HB
      have BK1 := n_BK1
      have BK2 := n_BK2
      have HB := n_HB
      clear n_BK1 n_BK2 n_HB
      clear hb hbox hg
      refine hK.out _ _ ⟨(blk_cell BK1.out 0).trans rfl, (blk_cell BK1.out 1).trans rfl, (blk_cell BK1.out 2).trans rfl, (blk_cell BK1.out 3).trans rfl⟩ (fun hHeld => ?_)
      clear hK K
      refine norm_ (a' := ?_) ?_ ?_
      rotate_left
      · show Act.put _ (some 3) _ = _
        simp only [Act.put, List.setIfInBounds_toArray, List.set_cons_zero, List.set_cons_succ, i64_w, i32_w]
        rfl
      exact norm_ (by simp only [putAll, Act.put, List.setIfInBounds_toArray, List.set_cons_zero, List.set_cons_succ]) (hCont ((Av, cv), g3) _ ⟨hHeld, ⟨_, _, HS.out, HG.out.1, HG.out.2, .inr HG3.out, HT2.out.1, by rw [HT2.out.2]; exact HT.out.2⟩, BK1.out, BK2.out, BK3.out, HS3.out, HB.out⟩)
    · skip
      refine box_step ?hg (N := 3) ?hd (cs := #[.int .i64 0, .string (⟨#[]⟩ : ByteArray), .slice none 0 0, .slice none 0 0]) (t := 30) ?hr ?_; (case hd => rfl); (case hg => rfl); (case hr => first | (go_simp; done) | (go_simp; rfl))
      intro g3 hg w7 hbox hb
      have HS3 := Aside0.mk (show w.heap.size ≤ g3 ∧ g1 < g3 ∧ g2 < g3 by rw [hg]; exact ⟨HB.out.size, blk_lt BK1.out, blk_lt BK2.out⟩)
      have BK3 := Aside0.mk hbox
      have n_BK1 := Aside0.mk (blk_below BK1.out hb)
      have n_BK2 := Aside0.mk (blk_below BK2.out hb)
      have n_HB := Aside0.mk (below_step HB.out hb)
      clear BK1 BK2 HB
      have BK1 := n_BK1
      have BK2 := n_BK2
      have HB := n_HB
      clear n_BK1 n_BK2 n_HB
      clear hb hbox hg
      refine hK.out _ _ ⟨(blk_cell BK1.out 0).trans rfl, (blk_cell BK1.out 1).trans rfl, (blk_cell BK1.out 2).trans rfl, (blk_cell BK1.out 3).trans rfl⟩ (fun hHeld => ?_)
      clear hK K
      refine norm_ (a' := ?_) ?_ ?_
      rotate_left
      · show Act.put _ (some 3) _ = _
        simp only [Act.put, List.setIfInBounds_toArray, List.set_cons_zero, List.set_cons_succ, i64_w, i32_w]
        rfl
      refine one_ (i := 6) (N := some 12) #[true, true, true, true, true, true, true, false, true, false] rfl rfl (by kernel_rfl) (by decide) (fun K hK => ?_)
      refine goes_ Try.func80 (by kernel_rfl) rfl #[.slice A3 x.f3.length c3] (by rfl) rfl rfl (by (try simp only [List.map_toArray, List.map_cons, List.map_nil]); first | done | rfl) ?_
      with_reducible refine (cloneT x.f3 _ _ (IN3.out.later HB.out) HL3.out).mono ?_
      rintro e w6 ⟨v3, rfl, hf⟩
      refine ⟨_, rfl, ?_⟩
      have hb := hf.low
      obtain ⟨Av, cv, ev, _, _⟩ := RowAt.sl hf.tr.at_
      subst ev
      have HT := Aside0.mk (And.intro hf.tr hf.nd)
      have HG := Aside0.mk (And.intro (blk_lt BK1.out) (And.intro (blk_lt BK2.out) (blk_lt BK3.out)))
      have HS := Aside0.mk HB.out.size
      clear hf
      have n_BK1 := Aside0.mk (blk_below BK1.out hb)
      have n_BK2 := Aside0.mk (blk_below BK2.out hb)
      have n_BK3 := Aside0.mk (blk_below BK3.out hb)
      have n_HB := Aside0.mk (below_step HB.out hb)
      clear BK1 BK2 BK3 HB
      have BK1 := n_BK1
      have BK2 := n_BK2
      have BK3 := n_BK3
      have HB := n_HB
      clear n_BK1 n_BK2 n_BK3 n_HB
      clear hb
      refine hK.out _ _ ⟨(blk_cell BK1.out 0).trans rfl, (blk_cell BK1.out 1).trans rfl, (blk_cell BK1.out 2).trans rfl, (blk_cell BK1.out 3).trans rfl⟩ (fun hHeld => ?_)
      clear hK K
      refine norm_ (a' := ?_) ?_ ?_
      rotate_left
      · show Act.put _ (some 12) _ = _
        simp only [Act.put, List.setIfInBounds_toArray, List.set_cons_zero, List.set_cons_succ, i64_w, i32_w]
        rfl
      refine pure_ (i := 7) (N := some 13) (v := ?_) (a' := ?_) #[true, true, true, true, true, true, true, true, true, false] rfl rfl (by kernel_rfl) (fun _ _ _ h => h) (Or.inl ⟨by rfl, ?_⟩) ?_ ?_
      rotate_left
      · intro w'
        go_simp
        with_reducible rfl
      rotate_left
      · simp only [Act.put, List.setIfInBounds_toArray, List.set_cons_zero, List.set_cons_succ, i64_w, i32_w]
        rfl
      exact norm_ (by simp only [putAll, Act.put, List.setIfInBounds_toArray, List.set_cons_zero, List.set_cons_succ]) (hCont ((Av, cv), g3) _ ⟨hHeld, ⟨_, _, HS.out, HG.out.1, HG.out.2.1, .inl HG.out.2.2, HT.out.1, HT.out.2⟩, BK1.out, BK2.out, BK3.out, HS3.out, HB.out⟩)
  rintro ⟨⟨Av, cv⟩, g3⟩ w9 ⟨hS_, ⟨lo, hi, q1, q2, q3, q4, q5, q6⟩, k1, k2, k3, k4, k5⟩
  clear BK1 BK2 HB hHeld
  have BK1 := Aside0.mk k1
  have BK2 := Aside0.mk k2
  have BK3 := Aside0.mk k3
  have HB := Aside0.mk k5
  have HG3 := Aside0.mk k4
  have HLO := Aside0.mk (And.intro q1 (And.intro q2 (And.intro q3 q4)))
  have HT := Aside0.mk (And.intro q5 q6)
  clear q1 q2 q3 q4 q5 q6 k1 k2 k3 k4 k5
  refine norm_ (a' := ?_) ?_ ?_
  rotate_left
  · simp only [putAll, Act.put, List.setIfInBounds_toArray, List.set_cons_zero, List.set_cons_succ]
    rfl
  refine one_ (i := 9) (N := none) #[true, true, true, true, true, true, true, true, true, true] rfl rfl (by kernel_rfl) (by decide) (fun K hK => ?_)
  have hs0 : w9.cell? ⟨g3, 0, none⟩ = some (.int .i64 0) := (blk_cell BK3.out 0).trans rfl
  have hfs0 := blk_frozen BK3.out 0
  have hs1 : w9.cell? ⟨g3, 1, none⟩ = some (.string (⟨#[]⟩ : ByteArray)) := (blk_cell BK3.out 1).trans rfl
  have hfs1 := blk_frozen BK3.out 1
  have hs2 : w9.cell? ⟨g3, 2, none⟩ = some (.slice none 0 0) := (blk_cell BK3.out 2).trans rfl
  have hfs2 := blk_frozen BK3.out 2
  have hs3 : w9.cell? ⟨g3, 3, none⟩ = some (.slice none 0 0) := (blk_cell BK3.out 3).trans rfl
  have hfs3 := blk_frozen BK3.out 3
  refine skip_ (w1 := ((((w9.setCell ⟨g3, 0, none⟩ (.int .i64 x.f0)).setCell ⟨g3, 1, none⟩ (.string x.f1)).setCell ⟨g3, 2, none⟩ (.slice none 0 0)).setCell ⟨g3, 3, none⟩ (.slice Av x.f3.length cv))) (by rfl) rfl ?_ ?_
  · go_simp
    try rfl
  clear hs0 hs1 hs2 hs3 hfs0 hfs1 hfs2 hfs3
  obtain ⟨p1, p2, p3⟩ := put4 BK3.out (.int .i64 x.f0) (.string x.f1) (.slice none 0 0) (.slice Av x.f3.length cv)
  have n1_ := Aside0.mk ((p2 g1 (by have := HG3.out; omega)).trans BK1.out)
  have n2_ := Aside0.mk ((p2 g2 (by have := HG3.out; omega)).trans BK2.out)
  have n3_ := Aside0.mk p1
  have n4_ := Aside0.mk (HT.out.1.move (Nat.le_of_eq p3.symm) (fun b h1 h2 => p2 b (by have := HLO.out; omega)))
  have n5_ := Aside0.mk (below_set (below_set (below_set (below_set HB.out HG3.out.1) HG3.out.1) HG3.out.1) HG3.out.1 : Below w.heap.size w ((((w9.setCell ⟨g3, 0, none⟩ (.int .i64 x.f0)).setCell ⟨g3, 1, none⟩ (.string x.f1)).setCell ⟨g3, 2, none⟩ (.slice none 0 0)).setCell ⟨g3, 3, none⟩ (.slice Av x.f3.length cv)))
  have n6_ := Aside0.mk (show hi ≤ ((((w9.setCell ⟨g3, 0, none⟩ (.int .i64 x.f0)).setCell ⟨g3, 1, none⟩ (.string x.f1)).setCell ⟨g3, 2, none⟩ (.slice none 0 0)).setCell ⟨g3, 3, none⟩ (.slice Av x.f3.length cv)).heap.size by rw [p3]; exact HT.out.1.le)
  clear BK1 BK2 BK3 HB p1 p2 p3
  generalize ((((w9.setCell ⟨g3, 0, none⟩ (.int .i64 x.f0)).setCell ⟨g3, 1, none⟩ (.string x.f1)).setCell ⟨g3, 2, none⟩ (.slice none 0 0)).setCell ⟨g3, 3, none⟩ (.slice Av x.f3.length cv)) = w10 at n1_ n2_ n3_ n4_ n5_ n6_ ⊢
  have BK1 := n1_
  have BK2 := n2_
  have BK3 := n3_
  have HB := n5_
  have HHI := n6_
  have HT2 := Aside0.mk (show Tr w10 lo hi x.f3.length (D.list dT x.f3) (.slice Av x.f3.length cv) ∧ (rbl w10.cell? (D.list dT x.f3) (.slice Av x.f3.length cv)).Nodup from ⟨n4_.out.1, by rw [n4_.out.2]; exact HT.out.2⟩)
  clear n1_ n2_ n3_ n4_ n5_ n6_ HT hS_
  have HT := HT2
  clear HT2
  refine hK.out _ _ ⟨(blk_cell BK1.out 0).trans rfl, (blk_cell BK1.out 1).trans rfl, (blk_cell BK1.out 2).trans rfl, (blk_cell BK1.out 3).trans rfl⟩ (fun hHeld => ?_)
  clear hK K hHeld
  refine done_ (by kernel_rfl) ?_
  have hz2 : w10.cell? ⟨g1, 2, none⟩ = some (.slice A2 x.f2.length c2) := (blk_cell BK1.out 2).trans rfl
  try go_wp2
  clear hz2
  have HN0 := Aside0.mk (show hi ≤ w10.heap.size from HHI.out)
  have HNB := Aside0.mk (show g2 < w10.heap.size ∧ g3 < w10.heap.size from ⟨blk_lt BK2.out, blk_lt BK3.out⟩)
  have HNW := Aside0.mk HB.out.size
  have GE2w := Aside0.mk (show w.heap.size ≤ g2 from Nat.le_trans GE1.out (Nat.le_of_lt GE2.out))
  go_loopg [17] x.f2.length (fun gg v17 wr => ∃ (x17 : Int) (Au : Option Addr) (cu : Nat) (bs : List Nat) (tk : List S30), v17 = .int .i64 x17 ∧ Aside0 (0 ≤ x17 ∧ x17 ≤ x.f2.length ∧ x.f2.length - x17.toNat ≤ gg) ∧ Aside0 (wr.heap[g2]? = some (.cells #[.int .i64 0, .string (⟨#[]⟩ : ByteArray), .slice none 0 0, .slice none 0 0] 30 (0, 0))) ∧ Aside0 (wr.heap[g3]? = some (.cells #[.int .i64 x.f0, .string x.f1, .slice Au tk.length cu, .slice Av x.f3.length cv] 30 (0, 0))) ∧ Aside0 (Ow wr w10.heap.size 30 4 tk.length (.slice Au tk.length cu) (D.list dV tk) bs) ∧ Aside0 (tk = x.f2.take x17.toNat) ∧ Aside0 (Tr wr lo hi x.f3.length (D.list dT x.f3) (.slice Av x.f3.length cv) ∧ (rbl wr.cell? (D.list dT x.f3) (.slice Av x.f3.length cv)).Nodup) ∧ Aside0 (w10.heap.size ≤ wr.heap.size) ∧ Aside0 (Below w.heap.size w wr))
  case atStart => exact ⟨0, none, 0, [], [], rfl, ⟨⟨by omega, by omega, by omega⟩⟩, BK2, BK3, ⟨Ow.nil _ _ _ _⟩, ⟨rfl⟩, HT, ⟨Nat.le_refl _⟩, HB⟩
  case round =>
    obtain ⟨x17, Au, cu, bs, tk, rfl, HX, BK2, BK3, HO, HTk, HT, HN, HB⟩ := hrel
    clear BK1
    by_cases hlt : x17 < (x.f2.length : Int)
    · have hltb : decide (x17 < (x.f2.length : Int)) = true := decide_eq_true hlt
      have p6 : (0 ≤ x17) = True := eq_true HX.out.1
      have q6 : (x17 < (x.f2.length : Int)) = True := eq_true hlt
      have hj : x17.toNat < x.f2.length := by have := HX.out.1; omega
      obtain ⟨ga, ead, hL, hbl⟩ : ∃ ga, A2 = some ⟨ga, 0, none⟩ ∧ Lay w.cell? (D.list dV x.f2) ga 0 ∧ ∀ b ∈ bl w.cell? (D.list dV x.f2) ga 0, b < w.heap.size := by
        rcases IN2.out with ⟨hq, hr⟩
        rcases hq with ⟨_, hn0, _⟩ | ⟨a, cap', e, _, _, hL⟩
        · omega
        · injection e with e1 e2 e3
          subst e1
          exact ⟨a, rfl, hL, fun b hb => hr b (List.mem_cons_of_mem _ hb)⟩
      obtain ⟨hl, hb⟩ := Lay.drop szV x.f2 0 x17.toNat hL
      have hyl : x.f2[x17.toNat] ∈ x.f2 := List.getElem_mem hj
      have htk : x.f2.take (x17.toNat + 1) = x.f2.take x17.toNat ++ [x.f2[x17.toNat]] := by rw [List.take_succ_eq_append_getElem hj]
      have hnx : x17.toNat + 1 = (x17 + 1).toNat := by have := HX.out.1; omega
      rw [hnx, ← HTk.out] at htk
      rw [List.drop_eq_getElem_cons hj, Nat.zero_add] at hl hb
      generalize x.f2[x17.toNat] = y at hl hb hyl htk
      obtain ⟨B2, d2, B3, d3, e0, e1, e2, e3, r2, r3, hbl2, _⟩ := openV hl.1
      have INy2 := Aside0.mk (show In w y.f2.length (D.list dV y.f2) (.slice B2 y.f2.length d2) from ⟨r2, fun b hq => hbl b (hb b (by rw [D.list, bl, hbl2]; exact List.mem_append_left _ (List.mem_append_left _ hq)))⟩)
      have INy3 := Aside0.mk (show In w y.f3.length (D.list dT y.f3) (.slice B3 y.f3.length d3) from ⟨r3, fun b hq => hbl b (hb b (by rw [D.list, bl, hbl2]; exact List.mem_append_left _ (List.mem_append_right _ (List.mem_append_left _ hq))))⟩)
      have HY := Aside0.mk hyl
      have HTK := Aside0.mk htk
      have W0 := Aside0.mk (show wrap64 (x17 + 1) = x17 + 1 by unfold wrap64; have := HX.out; have := HL2.out; omega)
      have CLT := Aside0.mk hlt
      have HFY := Aside0.mk (show (dV y).fits from fits_mem (by have := HF.out; rw [dV_eq] at this; exact this.2.2.1.2) HY.out)
      have hx0 := (HB.out.cell (World.block_lt_of_cell? w _ e0)).trans e0
      have hx1 := (HB.out.cell (World.block_lt_of_cell? w _ e1)).trans e1
      have hx2 := (HB.out.cell (World.block_lt_of_cell? w _ e2)).trans e2
      have hx3 := (HB.out.cell (World.block_lt_of_cell? w _ e3)).trans e3
      subst ead
      clear hL hbl hl hb hyl htk hnx e0 e1 e2 e3 r2 r3 hbl2 hlt hj
      try go_wp2_with (first
        | ((with_reducible refine gate_dst (N := 5) rfl ?_); refine box_event ?hg (N := 5) ?hd (cs := #[.int .i64 0, .string (⟨#[]⟩ : ByteArray), .slice none 0 0, .slice none 0 0]) (t := 30) ?hr ?_; (case hd => rfl); (case hg => rfl); (case hr => first | (go_simp; done) | (go_simp; rfl))
           intro g5 hg w23 hbox hb
           have GE5 := Aside0.mk (show wr.heap.size ≤ g5 by rw [hg]; exact Nat.le_refl _)
           have HOL := Aside0.mk (fun b hq => Nat.lt_of_lt_of_le (HO.out.lt b hq).2 GE5.out)
           have HB0 := Aside0.mk HB.out.size
           have HNr := Aside0.mk (Nat.le_trans HN.out GE5.out)
           have BK5 := Aside0.mk hbox
           have HT2 := Aside0.mk (HT.out.1.move hb.size (fun b _ hh => hb.block b (Nat.lt_of_lt_of_le hh HT.out.1.le)))
           have HTn := Aside0.mk (show Tr w23 lo hi x.f3.length (D.list dT x.f3) (.slice Av x.f3.length cv) ∧ (rbl w23.cell? (D.list dT x.f3) (.slice Av x.f3.length cv)).Nodup from ⟨HT2.out.1, by rw [HT2.out.2]; exact HT.out.2⟩)
           clear HT HT2
           have HT := HTn
           clear HTn
           have HN2 := Aside0.mk (Nat.le_trans HN.out hb.size)
           clear HN
           have HN := HN2
           clear HN2
           have n_BK2 := Aside0.mk (blk_below BK2.out hb)
           have n_BK3 := Aside0.mk (blk_below BK3.out hb)
           have n_HO := Aside0.mk (HO.out.below hb)
           have n_HB := Aside0.mk (below_step HB.out hb)
           clear BK2 BK3 HO HB
           have BK2 := n_BK2
           have BK3 := n_BK3
           have HO := n_HO
           have HB := n_HB
           clear n_BK2 n_BK3 n_HO n_HB
           clear hb hbox hg
           have hzc0 : w23.cell? ⟨g5, 0, none⟩ = some (.int .i64 0) := (blk_cell BK5.out 0).trans rfl
           have hzc1 : w23.cell? ⟨g5, 1, none⟩ = some (.string (⟨#[]⟩ : ByteArray)) := (blk_cell BK5.out 1).trans rfl
           have hzc2 : w23.cell? ⟨g5, 2, none⟩ = some (.slice none 0 0) := (blk_cell BK5.out 2).trans rfl
           have hzc3 : w23.cell? ⟨g5, 3, none⟩ = some (.slice none 0 0) := (blk_cell BK5.out 3).trans rfl
           have hzf0 := blk_frozen BK5.out 0
           have hzf1 := blk_frozen BK5.out 1
           have hzf2 := blk_frozen BK5.out 2
           have hzf3 := blk_frozen BK5.out 3))
      clear hx0 hx1 hx2 hx3 hzc0 hzc1 hzc2 hzc3 hzf0 hzf1 hzf2 hzf3
      obtain ⟨p1, p2, p3⟩ := put4 BK5.out (.int .i64 y.f0) (.string y.f1) (.slice B2 y.f2.length d2) (.slice B3 y.f3.length d3)
      have HGG := Aside0.mk (show g2 < g5 ∧ g3 < g5 ∧ hi ≤ g5 ∧ g2 < w10.heap.size ∧ g3 < w10.heap.size ∧ hi ≤ w10.heap.size from by have := HNr.out; have := HNB.out; have := HN0.out; omega)
      have n1_ := Aside0.mk ((p2 g2 (by have := HGG.out; omega)).trans BK2.out)
      have n2_ := Aside0.mk ((p2 g3 (by have := HGG.out; omega)).trans BK3.out)
      have n3_ := Aside0.mk p1
      have n4_ := Aside0.mk (HT.out.1.move (Nat.le_of_eq p3.symm) (fun b h1 h2 => p2 b (by have := HGG.out; omega)))
      have n5_ := Aside0.mk (below_set (below_set (below_set (below_set HB.out (Nat.le_trans HB0.out GE5.out)) (Nat.le_trans HB0.out GE5.out)) (Nat.le_trans HB0.out GE5.out)) (Nat.le_trans HB0.out GE5.out) : Below w.heap.size w ((((w23.setCell ⟨g5, 0, none⟩ (.int .i64 y.f0)).setCell ⟨g5, 1, none⟩ (.string y.f1)).setCell ⟨g5, 2, none⟩ (.slice B2 y.f2.length d2)).setCell ⟨g5, 3, none⟩ (.slice B3 y.f3.length d3)))
      have n6_ := Aside0.mk (HO.out.move (Nat.le_of_eq p3.symm) (fun b hq => p2 b (Nat.ne_of_lt (HOL.out b hq))))
      have n7_ := Aside0.mk (show w10.heap.size ≤ ((((w23.setCell ⟨g5, 0, none⟩ (.int .i64 y.f0)).setCell ⟨g5, 1, none⟩ (.string y.f1)).setCell ⟨g5, 2, none⟩ (.slice B2 y.f2.length d2)).setCell ⟨g5, 3, none⟩ (.slice B3 y.f3.length d3)).heap.size by rw [p3]; exact HN.out)
      clear BK2 BK3 BK5 HO HB HN p1 p2 p3
      generalize ((((w23.setCell ⟨g5, 0, none⟩ (.int .i64 y.f0)).setCell ⟨g5, 1, none⟩ (.string y.f1)).setCell ⟨g5, 2, none⟩ (.slice B2 y.f2.length d2)).setCell ⟨g5, 3, none⟩ (.slice B3 y.f3.length d3)) = w28 at n1_ n2_ n3_ n4_ n5_ n6_ n7_ ⊢
      have BK2 := n1_
      have BK3 := n2_
      have BK5 := n3_
      have HB := n5_
      have HO := n6_
      have HN := n7_
      have HT2 := Aside0.mk (show Tr w28 lo hi x.f3.length (D.list dT x.f3) (.slice Av x.f3.length cv) ∧ (rbl w28.cell? (D.list dT x.f3) (.slice Av x.f3.length cv)).Nodup from ⟨n4_.out.1, by rw [n4_.out.2]; exact HT.out.2⟩)
      clear n1_ n2_ n3_ n4_ n5_ n6_ n7_ HT
      have HT := HT2
      clear HT2
      have n1_ := Aside0.mk (blk_drew BK2.out)
      have n2_ := Aside0.mk (blk_drew BK3.out)
      have n3_ := Aside0.mk (blk_drew BK5.out)
      have n4_ := Aside0.mk (below_drew1 HB.out)
      have n5_ := Aside0.mk (HO.out.below (W' := w28.drew) (below_drew1 (Below.refl _ _)))
      have n6_ := Aside0.mk (show Tr w28.drew lo hi x.f3.length (D.list dT x.f3) (.slice Av x.f3.length cv) ∧ (rbl w28.drew.cell? (D.list dT x.f3) (.slice Av x.f3.length cv)).Nodup from have h9 := HT.out.1.move (W' := w28.drew) (Nat.le_refl _) (fun b _ _ => rfl); ⟨h9.1, by rw [h9.2]; exact HT.out.2⟩)
      have n7_ := Aside0.mk (show w10.heap.size ≤ w28.drew.heap.size from HN.out)
      clear BK2 BK3 BK5 HB HO HT HN
      have BK2 := n1_
      have BK3 := n2_
      have BK5 := n3_
      have HB := n4_
      have HO := n5_
      have HT := n6_
      have HN := n7_
      clear n1_ n2_ n3_ n4_ n5_ n6_ n7_
      refine start_ (n := 8) (S := fun w' => w'.cell? ⟨g3, 0, none⟩ = some (.int .i64 x.f0) ∧ w'.cell? ⟨g3, 1, none⟩ = some (.string x.f1) ∧ w'.cell? ⟨g3, 2, none⟩ = some (.slice Au tk.length cu) ∧ w'.cell? ⟨g3, 3, none⟩ = some (.slice Av x.f3.length cv) ∧ w'.cell? ⟨g5, 0, none⟩ = some (.int .i64 y.f0) ∧ w'.cell? ⟨g5, 1, none⟩ = some (.string y.f1) ∧ w'.cell? ⟨g5, 2, none⟩ = some (.slice B2 y.f2.length d2) ∧ w'.cell? ⟨g5, 3, none⟩ = some (.slice B3 y.f3.length d3)) (ds := [7]) #[false, false, false, false, false, false, false, false] (by kernel_rfl) rfl rfl ⟨(blk_cell BK3.out 0).trans rfl, (blk_cell BK3.out 1).trans rfl, (blk_cell BK3.out 2).trans rfl, (blk_cell BK3.out 3).trans rfl, (blk_cell BK5.out 0).trans rfl, (blk_cell BK5.out 1).trans rfl, (blk_cell BK5.out 2).trans rfl, (blk_cell BK5.out 3).trans rfl⟩ (fun hHeld => ?_)
      generalize w28.drew = w29 at BK2 BK3 BK5 HB HO HT HN hHeld ⊢
      refine pure_ (i := 0) (N := some 21) (v := ?_) (a' := ?_) #[true, false, false, false, false, false, false, false] rfl rfl (by kernel_rfl) (fun _ _ _ h => h) (Or.inl ⟨by rfl, ?_⟩) ?_ ?_
      rotate_left
      · intro w'
        go_simp
        with_reducible rfl
      rotate_left
      · simp only [Act.put, List.setIfInBounds_toArray, List.set_cons_zero, List.set_cons_succ, i64_w, i32_w]
        rfl
      refine take_ (i := 1) (N := some 22) (v := ?_) (a' := ?_) #[true, true, false, false, false, false, false, false] rfl rfl (by kernel_rfl) (fun _ _ _ h => h) (Or.inl ⟨by rfl, ?_⟩) hHeld ?_ ?_
      rotate_left
      · rintro w' ⟨s0, s1, s2, s3, s4, s5, s6, s7⟩
        go_simp
        with_reducible rfl
      rotate_left
      · simp only [Act.put, List.setIfInBounds_toArray, List.set_cons_zero, List.set_cons_succ, i64_w, i32_w]
        rfl
      refine take_ (i := 2) (N := some 23) (v := ?_) (a' := ?_) #[true, true, true, false, false, false, false, false] rfl rfl (by kernel_rfl) (fun _ _ _ h => h) (Or.inl ⟨by rfl, ?_⟩) hHeld ?_ ?_
      rotate_left
      · rintro w' ⟨s0, s1, s2, s3, s4, s5, s6, s7⟩
        go_simp
        with_reducible rfl
      rotate_left
      · simp only [Act.put, List.setIfInBounds_toArray, List.set_cons_zero, List.set_cons_succ, i64_w, i32_w]
        rfl
      refine one_ (i := 3) (N := some 24) #[true, true, true, true, false, false, false, false] rfl rfl (by kernel_rfl) (by decide) (fun K hK => ?_)
      refine goes_ Try.func79 (by kernel_rfl) rfl #[.agg #[.int .i64 y.f0, .string y.f1, .slice B2 y.f2.length d2, .slice B3 y.f3.length d3]] (by rfl) rfl rfl (by (try simp only [List.map_toArray, List.map_cons, List.map_nil]); first | done | rfl) ?_
      with_reducible refine (IH.out y HY.out B2 d2 B3 d3 _ HFY.out (INy2.out.later HB.out) (INy3.out.later HB.out)).mono ?_
      rintro e w30 ⟨C2, q2, C3, q3, rfl, hf⟩
      refine ⟨_, rfl, ?_⟩
      have hb := hf.low
      have FC := Aside0.mk (And.intro hf.at_ (And.intro hf.nd hf.blk))
      have HN9 := Aside0.mk (show w10.heap.size ≤ w29.heap.size ∧ (∀ b, (Value.slice Au tk.length cu).ownBlock = some b ∨ b ∈ bs → b < w29.heap.size) from ⟨HN.out, fun b hq => (HO.out.lt b hq).2⟩)
      clear hf
      have HT2 := Aside0.mk (HT.out.1.move hb.size (fun b _ hh => hb.block b (Nat.lt_of_lt_of_le hh HT.out.1.le)))
      have HTn := Aside0.mk (show Tr w30 lo hi x.f3.length (D.list dT x.f3) (.slice Av x.f3.length cv) ∧ (rbl w30.cell? (D.list dT x.f3) (.slice Av x.f3.length cv)).Nodup from ⟨HT2.out.1, by rw [HT2.out.2]; exact HT.out.2⟩)
      clear HT HT2
      have HT := HTn
      clear HTn
      have HN2 := Aside0.mk (Nat.le_trans HN.out hb.size)
      clear HN
      have HN := HN2
      clear HN2
      have n_BK2 := Aside0.mk (blk_below BK2.out hb)
      have n_BK3 := Aside0.mk (blk_below BK3.out hb)
      have n_BK5 := Aside0.mk (blk_below BK5.out hb)
      have n_HO := Aside0.mk (HO.out.below hb)
      have n_HB := Aside0.mk (below_step HB.out hb)
      clear BK2 BK3 BK5 HO HB
      have BK2 := n_BK2
      have BK3 := n_BK3
      have BK5 := n_BK5
      have HO := n_HO
      have HB := n_HB
      clear n_BK2 n_BK3 n_BK5 n_HO n_HB
      clear hb
      refine hK.out _ _ ⟨(blk_cell BK3.out 0).trans rfl, (blk_cell BK3.out 1).trans rfl, (blk_cell BK3.out 2).trans rfl, (blk_cell BK3.out 3).trans rfl, (blk_cell BK5.out 0).trans rfl, (blk_cell BK5.out 1).trans rfl, (blk_cell BK5.out 2).trans rfl, (blk_cell BK5.out 3).trans rfl⟩ (fun hHeld => ?_)
      clear hK K
      refine norm_ (a' := ?_) ?_ ?_
      rotate_left
      · show Act.put _ (some 24) _ = _
        simp only [Act.put, List.setIfInBounds_toArray, List.set_cons_zero, List.set_cons_succ, i64_w, i32_w]
        rfl
      refine one_ (i := 4) (N := some 25) #[true, true, true, true, true, false, false, false] rfl rfl (by kernel_rfl) (by decide) (fun K hK => ?_)
      refine value_ (w1 := ?_) (v := ?_) (by rfl) rfl ?_ ?_
      rotate_left 2
      · go_simp
        constructor
        · rfl
        · rfl
      refine hK.out _ _ ⟨(blk_cell (blk_alloc BK3.out _) 0).trans rfl, (blk_cell (blk_alloc BK3.out _) 1).trans rfl, (blk_cell (blk_alloc BK3.out _) 2).trans rfl, (blk_cell (blk_alloc BK3.out _) 3).trans rfl, (blk_cell (blk_alloc BK5.out _) 0).trans rfl, (blk_cell (blk_alloc BK5.out _) 1).trans rfl, (blk_cell (blk_alloc BK5.out _) 2).trans rfl, (blk_cell (blk_alloc BK5.out _) 3).trans rfl⟩ (fun hHeld => ?_)
      clear hK K
      refine norm_ (a' := ?_) ?_ ?_
      rotate_left
      · show Act.put _ (some 25) _ = _
        simp only [Act.put, List.setIfInBounds_toArray, List.set_cons_zero, List.set_cons_succ, i64_w, i32_w]
        rfl
      refine one_ (i := 5) (N := some 26) #[true, true, true, true, true, true, false, false] rfl rfl (by kernel_rfl) (by decide) (fun K hK => ?_)
      refine Ow.append1_step (f := dV) (l := tk) (bs := bs) (nb := _) w10.heap.size (by rfl) (.tmp 22) (.tmp 25) 28 30 (.agg #[(.int .i64 0), (.string ⟨#[]⟩), (.slice none 0 0), (.slice none 0 0)]) 4 72 rfl Try.underlying28 info30 rfl (by decide) (by decide) (.slice Au tk.length cu) y [.int .i64 y.f0, .string y.f1, .slice C2 y.f2.length q2, .slice C3 y.f3.length q3] rfl rfl (szV y) HO.out FC.out.1 rfl FC.out.2.1 ?hk HN.out ?hl ?_
      (case hk => exact fun b hq => ⟨(FC.out.2.2 b hq).mono HN9.out.1 (Nat.le_refl _), fun he => Nat.not_le.2 (HN9.out.2 b (.inl he.symm)) (FC.out.2.2 b hq).1, fun he => Nat.not_le.2 (HN9.out.2 b (.inr he)) (FC.out.2.2 b hq).1⟩)
      have h8 := Aside0.mk (show tk.length ≤ x.f2.length by rw [HTk.out]; exact List.length_take_le' _ _)
      (case hl => have := HL2.out; have := h8.out; omega)
      intro v1 w31 hO1 hg1
      generalize htn : tk ++ [y] = tn at hO1
      have HTN := Aside0.mk htn
      clear htn
      obtain ⟨A1, k1, ev1⟩ := Ow.sl hO1
      subst ev1
      have HG1 := Aside0.mk hg1
      have hne : ∀ b, b < g5 + 1 → (b = g2 ∨ b = g3 ∨ b = g5 ∨ (lo ≤ b ∧ b < hi)) → some b ≠ (Value.slice Au tk.length cu).ownBlock := fun b _ hq he => by have h1 := HO.out.lt b (.inl he.symm); have h2 := HOL.out b (.inl he.symm); have := HGG.out; omega
      have n1_ := Aside0.mk ((hg1.block g2 (blk_lt BK2.out) (hne g2 (by have := HGG.out; omega) (.inl rfl))).trans BK2.out)
      have n2_ := Aside0.mk ((hg1.block g3 (blk_lt BK3.out) (hne g3 (by have := HGG.out; omega) (.inr (.inl rfl)))).trans BK3.out)
      have n3_ := Aside0.mk ((hg1.block g5 (blk_lt BK5.out) (hne g5 (by omega) (.inr (.inr (.inl rfl))))).trans BK5.out)
      have n4_ := Aside0.mk (HT.out.1.move hg1.size (fun b h1 h2 => hg1.block b (Nat.lt_of_lt_of_le h2 HT.out.1.le) (hne b (by have := HGG.out; omega) (.inr (.inr (.inr ⟨h1, h2⟩))))))
      have n5_ := Aside0.mk (HB.out.grown hg1 (HB.out.size) (fun k hk => Nat.le_trans HNW.out (HO.out.lt k (.inl hk)).1))
      have n6_ := Aside0.mk hO1
      have n7_ := Aside0.mk (Nat.le_trans HN.out hg1.size)
      have HT2 := Aside0.mk (show Tr w31 lo hi x.f3.length (D.list dT x.f3) (.slice Av x.f3.length cv) ∧ (rbl w31.cell? (D.list dT x.f3) (.slice Av x.f3.length cv)).Nodup from ⟨n4_.out.1, by rw [n4_.out.2]; exact HT.out.2⟩)
      clear BK2 BK3 BK5 HO HB HN hg1 hne n4_ HT hO1 HG1
      have BK2 := n1_
      have BK3 := n2_
      have BK5 := n3_
      have HB := n5_
      have HO := n6_
      have HN := n7_
      have HT := HT2
      clear n1_ n2_ n3_ n5_ n6_ n7_ HT2
      refine hK.out _ _ ⟨(blk_cell BK3.out 0).trans rfl, (blk_cell BK3.out 1).trans rfl, (blk_cell BK3.out 2).trans rfl, (blk_cell BK3.out 3).trans rfl, (blk_cell BK5.out 0).trans rfl, (blk_cell BK5.out 1).trans rfl, (blk_cell BK5.out 2).trans rfl, (blk_cell BK5.out 3).trans rfl⟩ (fun hHeld => ?_)
      clear hK K
      refine norm_ (a' := ?_) ?_ ?_
      rotate_left
      · show Act.put _ (some 26) _ = _
        simp only [Act.put, List.setIfInBounds_toArray, List.set_cons_zero, List.set_cons_succ, i64_w, i32_w]
        rfl
      refine pure_ (i := 6) (N := some 27) (v := ?_) (a' := ?_) #[true, true, true, true, true, true, true, false] rfl rfl (by kernel_rfl) (fun _ _ _ h => h) (Or.inl ⟨by rfl, ?_⟩) ?_ ?_
      rotate_left
      · intro w'
        go_simp
        with_reducible rfl
      rotate_left
      · simp only [Act.put, List.setIfInBounds_toArray, List.set_cons_zero, List.set_cons_succ, i64_w, i32_w]
        rfl
      refine last_ (i := 7) (N := none) #[true, true, true, true, true, true, true, true] rfl rfl (by kernel_rfl) (by decide) (fun K hK => ?_)
      have hs35 : w31.cell? ⟨g3, 2, none⟩ = some (.slice Au tk.length cu) := (blk_cell BK3.out 2).trans rfl
      have hfs35 := blk_frozen BK3.out 2
      refine skip_ (w1 := w31.setCell ⟨g3, 2, none⟩ (.slice A1 tn.length k1)) (by rfl) rfl ?_ ?_
      · go_simp
        try rfl
      clear hs35 hfs35
      refine hK.out _ _ ?_
      clear hK K
      refine done_ (by kernel_rfl) ?_
      clear hHeld
      try go_wp2
      go_roundg (x.f2.length - (x17 + 1).toNat)
      case measure => have := HX.out; have := CLT.out; omega
      case rel =>
        have g23 : g2 ≠ g3 := by have := HG3.out; omega
        exact ⟨x17 + 1, A1, k1, _, tn, by rw [W0.out], ⟨⟨by have := HX.out; omega, by have := CLT.out; omega, by omega⟩⟩, ⟨blk_far BK2.out g23 _⟩, ⟨by simpa using blk_set BK3.out 2 (.slice A1 tn.length k1)⟩, ⟨HO.out.far (fun b hq he => by have := (HO.out.lt b hq).1; have := HGG.out; have : b = g3 := he; omega) _⟩, ⟨by rw [← HTN.out]; exact HTK.out.symm⟩, ⟨by have h9 := HT.out.1.move (W' := w31.setCell ⟨g3, 2, none⟩ (.slice A1 tn.length k1)) (by simp [World.setCell]) (fun b h1 h2 => Below.heap_setCell _ _ _ b (by have := HLO.out; show b ≠ g3; omega)); exact ⟨h9.1, by rw [h9.2]; exact HT.out.2⟩⟩, ⟨by simpa [World.setCell] using HN.out⟩, ⟨below_set HB.out HG3.out.1⟩⟩
    · have hltb : decide (x17 < (x.f2.length : Int)) = false := decide_eq_false hlt
      have htk : tk = x.f2 := HTk.out.trans (List.take_of_length_le (by omega))
      have HTK := Aside0.mk htk
      rw [htk] at BK3 HO
      clear htk hlt
      have hyc0 : wr.cell? ⟨g3, 0, none⟩ = some (.int .i64 x.f0) := (blk_cell BK3.out 0).trans rfl
      have hyc1 : wr.cell? ⟨g3, 1, none⟩ = some (.string x.f1) := (blk_cell BK3.out 1).trans rfl
      have hyc2 : wr.cell? ⟨g3, 2, none⟩ = some (.slice Au x.f2.length cu) := (blk_cell BK3.out 2).trans rfl
      have hyc3 : wr.cell? ⟨g3, 3, none⟩ = some (.slice Av x.f3.length cv) := (blk_cell BK3.out 3).trans rfl
      have hyf0 := blk_frozen BK3.out 0
      have hyf1 := blk_frozen BK3.out 1
      have hyf2 := blk_frozen BK3.out 2
      have hyf3 := blk_frozen BK3.out 3
      have hzc0 : wr.cell? ⟨g2, 0, none⟩ = some (.int .i64 0) := (blk_cell BK2.out 0).trans rfl
      have hzc1 : wr.cell? ⟨g2, 1, none⟩ = some (.string (⟨#[]⟩ : ByteArray)) := (blk_cell BK2.out 1).trans rfl
      have hzc2 : wr.cell? ⟨g2, 2, none⟩ = some (.slice none 0 0) := (blk_cell BK2.out 2).trans rfl
      have hzc3 : wr.cell? ⟨g2, 3, none⟩ = some (.slice none 0 0) := (blk_cell BK2.out 3).trans rfl
      have hzf0 := blk_frozen BK2.out 0
      have hzf1 := blk_frozen BK2.out 1
      have hzf2 := blk_frozen BK2.out 2
      have hzf3 := blk_frozen BK2.out 3
      go_wp2
      obtain ⟨p1, p2, p3⟩ := put4 BK2.out (.int .i64 x.f0) (.string x.f1) (.slice Au x.f2.length cu) (.slice Av x.f3.length cv)
      refine bodyPost_ret (results_cell_row rfl _ _ g2 30 #[.int .i64 x.f0, .string x.f1, .slice Au x.f2.length cu, .slice Av x.f3.length cv] (0, 0) _ rfl p1 Try.underlying30 rfl (by kernel_rfl)) rfl ?_
      have h23 := HG3.out
      obtain ⟨o1, o2⟩ := (HO.out.move (Nat.le_of_eq p3.symm) (fun b hq => p2 b (by have := (HO.out.lt b hq).1; have := HNB.out; omega))).tr (fun h0 => by rw [List.eq_nil_of_length_eq_zero h0]; rfl)
      have t9 := HT.out.1.move (Nat.le_of_eq p3.symm) (fun b h1 h2 => p2 b (by have := HLO.out; omega))
      exact ⟨Au, cu, Av, cv, rfl, freshV o1 o2 t9.1 (by rw [t9.2]; exact HT.out.2) HNW.out HLO.out.1 HN0.out (below_set (below_set (below_set (below_set HB.out GE2w.out) GE2w.out) GE2w.out) GE2w.out)⟩
end Go.Proofs.Ytkcomfmdcmjagaa.OFnExactAllSels
