/- The program's copies of arguments and directives: of their own memory; under the conditions that each names. -/
import Derived.Test.YtkcomfmdcmjagaaCb
namespace Go.Proofs.Ytkcomfmdcmjagaa.OFnExactAllSels
open Go.Proofs.Ytkcomfmdcmjagaa.Lay Go.Proofs.Ytkcomfmdcmjagaa.Mark
open Go.RowKit Go.Proofs.YtkcomfmdcmjagaaW.PrintWords Go.Proofs.YtkcomfmdcmjagaaW.PrintLast Go.Proofs.YtkcomfmdcmjagaaW.PrintMore
set_option linter.unusedVariables false
set_option linter.unusedSimpArgs false
theorem put2 {W : World} {g t : Nat} {a b : Value} (h : W.heap[g]? = some (.cells #[a, b] t (0, 0))) (a' b' : Value) :
    ((W.setCell ⟨g, 0, none⟩ a').setCell ⟨g, 1, none⟩ b').heap[g]? = some (.cells #[a', b'] t (0, 0)) ∧ (∀ k, k ≠ g → ((W.setCell ⟨g, 0, none⟩ a').setCell ⟨g, 1, none⟩ b').heap[k]? = W.heap[k]?) ∧ ((W.setCell ⟨g, 0, none⟩ a').setCell ⟨g, 1, none⟩ b').heap.size = W.heap.size :=
  ⟨by simpa using blk_set (blk_set h 0 a') 1 b', fun k hk => (Below.heap_setCell _ _ b' k hk).trans (Below.heap_setCell _ _ a' k hk), by simp [World.setCell]⟩
theorem put5 {W : World} {g t : Nat} {a b c d e : Value} (h : W.heap[g]? = some (.cells #[a, b, c, d, e] t (0, 0))) (a' b' c' d' e' : Value) :
    (((((W.setCell ⟨g, 0, none⟩ a').setCell ⟨g, 1, none⟩ b').setCell ⟨g, 2, none⟩ c').setCell ⟨g, 3, none⟩ d').setCell ⟨g, 4, none⟩ e').heap[g]? = some (.cells #[a', b', c', d', e'] t (0, 0)) ∧ (∀ k, k ≠ g → (((((W.setCell ⟨g, 0, none⟩ a').setCell ⟨g, 1, none⟩ b').setCell ⟨g, 2, none⟩ c').setCell ⟨g, 3, none⟩ d').setCell ⟨g, 4, none⟩ e').heap[k]? = W.heap[k]?) ∧ (((((W.setCell ⟨g, 0, none⟩ a').setCell ⟨g, 1, none⟩ b').setCell ⟨g, 2, none⟩ c').setCell ⟨g, 3, none⟩ d').setCell ⟨g, 4, none⟩ e').heap.size = W.heap.size :=
  ⟨by simpa using blk_set (blk_set (blk_set (blk_set (blk_set h 0 a') 1 b') 2 c') 3 d') 4 e', fun k hk => (Below.heap_setCell _ _ e' k hk).trans ((Below.heap_setCell _ _ d' k hk).trans ((Below.heap_setCell _ _ c' k hk).trans ((Below.heap_setCell _ _ b' k hk).trans (Below.heap_setCell _ _ a' k hk)))), by simp [World.setCell]⟩
theorem put7 {W : World} {g t : Nat} {a b c d e m n : Value} (h : W.heap[g]? = some (.cells #[a, b, c, d, e, m, n] t (0, 0))) (a' b' c' d' e' m' n' : Value) :
    (((((((W.setCell ⟨g, 0, none⟩ a').setCell ⟨g, 1, none⟩ b').setCell ⟨g, 2, none⟩ c').setCell ⟨g, 3, none⟩ d').setCell ⟨g, 4, none⟩ e').setCell ⟨g, 5, none⟩ m').setCell ⟨g, 6, none⟩ n').heap[g]? = some (.cells #[a', b', c', d', e', m', n'] t (0, 0)) ∧ (∀ k, k ≠ g → (((((((W.setCell ⟨g, 0, none⟩ a').setCell ⟨g, 1, none⟩ b').setCell ⟨g, 2, none⟩ c').setCell ⟨g, 3, none⟩ d').setCell ⟨g, 4, none⟩ e').setCell ⟨g, 5, none⟩ m').setCell ⟨g, 6, none⟩ n').heap[k]? = W.heap[k]?) ∧ (((((((W.setCell ⟨g, 0, none⟩ a').setCell ⟨g, 1, none⟩ b').setCell ⟨g, 2, none⟩ c').setCell ⟨g, 3, none⟩ d').setCell ⟨g, 4, none⟩ e').setCell ⟨g, 5, none⟩ m').setCell ⟨g, 6, none⟩ n').heap.size = W.heap.size :=
  ⟨by simpa using blk_set (blk_set (blk_set (blk_set (blk_set (blk_set (blk_set h 0 a') 1 b') 2 c') 3 d') 4 e') 5 m') 6 n', fun k hk => (Below.heap_setCell _ _ n' k hk).trans ((Below.heap_setCell _ _ m' k hk).trans ((Below.heap_setCell _ _ e' k hk).trans ((Below.heap_setCell _ _ d' k hk).trans ((Below.heap_setCell _ _ c' k hk).trans ((Below.heap_setCell _ _ b' k hk).trans (Below.heap_setCell _ _ a' k hk)))))), by simp [World.setCell]⟩
theorem cellsA1 {r : Rd} (y : S78) {cs : List Value} (h : Cells r (dV y.f1) cs) : Cells r (dA y) (.string y.f0 :: cs) ∧ cb r (dA y) (.string y.f0 :: cs) = cb r (dV y.f1) cs := ⟨⟨[_], cs, rfl, rfl, h⟩, rfl⟩
theorem fitsA1 {y : S78} (h : (dA y).fits) : (dV y.f1).fits := (show (D.cons (.str y.f0) (dV y.f1)).fits from h).2
theorem fitsD1 {y : S95} (h : (dD y).fits) : y.f1.length ≤ 1073741824 ∧ (D.list dA y.f1).fits := (show (D.cons (.str y.f0) (.cons (.row y.f1.length (D.list dA y.f1)) .nil)).fits from h).2.1
theorem cellsD1 {r : Rd} (y : S95) {v : Value} (h : RowAt r y.f1.length (D.list dA y.f1) v) : Cells r (dD y) [.string y.f0, v] ∧ cb r (dD y) [.string y.f0, v] = rbl r (D.list dA y.f1) v := ⟨⟨[_], [v], rfl, rfl, [v], [], rfl, ⟨v, rfl, h⟩, rfl⟩, by
  show [] ++ (rbl r (D.list dA y.f1) v ++ []) = _
  rw [List.append_nil, List.nil_append]⟩
set_option maxHeartbeats 8000000 in
set_option maxRecDepth 100000 in
theorem cloneA : ∀ (l : List S78) (v : Value) (w : World), (D.list dA l).fits → l.length ≤ 1073741824 → In w l.length (D.list dA l) v → Calls Try.prog 75 #[v] w fun e w' => ∃ v', e = .returned v' ∧ Fresh w w' l.length (D.list dA l) v' := by
  intro l v w hfit hll hI
  obtain ⟨A, cap, rfl, hn, hm⟩ := RowAt.sl hI.1
  have HF := Aside0.mk hfit
  have HL := Aside0.mk hll
  have IN0 := Aside0.mk hI
  have HB := Aside0.mk (Below.refl w.heap.size w)
  have hu78 := Try.underlying78
  clear hI hfit hll
  go_enter Try.func75, Try.ntmps75
  go_wp2
  go_loopg [3, 8] l.length (fun gg v3 v8 wr => ∃ (x8 : Int) (Au : Option Addr) (cu : Nat) (bs : List Nat) (tk : List S78), v3 = .slice Au tk.length cu ∧ v8 = .int .i64 x8 ∧ Aside0 (0 ≤ x8 ∧ x8 ≤ l.length ∧ l.length - x8.toNat ≤ gg) ∧ Aside0 (Ow wr w.heap.size 78 5 tk.length (.slice Au tk.length cu) (D.list dA tk) bs) ∧ Aside0 (tk = l.take x8.toNat) ∧ Aside0 (Below w.heap.size w wr))
  case atStart => exact ⟨0, none, 0, [], [], rfl, rfl, ⟨⟨by omega, by omega, by omega⟩⟩, ⟨Ow.nil _ _ _ _⟩, ⟨rfl⟩, HB⟩
  case round =>
    clear HB
    obtain ⟨x8, Au, cu, bs, tk, rfl, rfl, HX, HO, HTk, HB⟩ := hrel
    by_cases hlt : x8 < (l.length : Int)
    · have hltb : decide (x8 < (l.length : Int)) = true := decide_eq_true hlt
      have p6 : (0 ≤ x8) = True := eq_true HX.out.1
      have q6 : (x8 < (l.length : Int)) = True := eq_true hlt
      have hj : x8.toNat < l.length := by have := HX.out.1; omega
      obtain ⟨ga, ead, hL, hbl⟩ : ∃ ga, A = some ⟨ga, 0, none⟩ ∧ Lay w.cell? (D.list dA l) ga 0 ∧ ∀ b ∈ bl w.cell? (D.list dA l) ga 0, b < w.heap.size := by
        rcases IN0.out with ⟨hq, hr⟩
        rcases hq with ⟨_, hn0, _⟩ | ⟨a, cap', e, _, _, hL⟩
        · omega
        · injection e with e1 e2 e3
          subst e1
          exact ⟨a, rfl, hL, fun b hb => hr b (List.mem_cons_of_mem _ hb)⟩
      obtain ⟨hl, hb⟩ := Lay.drop szA l 0 x8.toNat hL
      have hyl : l[x8.toNat] ∈ l := List.getElem_mem hj
      have htk : l.take (x8.toNat + 1) = l.take x8.toNat ++ [l[x8.toNat]] := by rw [List.take_succ_eq_append_getElem hj]
      have hnx : x8.toNat + 1 = (x8 + 1).toNat := by have := HX.out.1; omega
      rw [hnx, ← HTk.out] at htk
      rw [List.drop_eq_getElem_cons hj, Nat.zero_add] at hl hb
      generalize l[x8.toNat] = y at hl hb hyl htk
      obtain ⟨B3, d3, B4, d4, e0, e1, e2, e3, e4, r3, r4, hbl2, _⟩ := openA hl.1
      have INy3 := Aside0.mk (show In w y.f1.f2.length (D.list dV y.f1.f2) (.slice B3 y.f1.f2.length d3) from ⟨r3, fun b hq => hbl b (hb b (by rw [D.list, bl, hbl2]; exact List.mem_append_left _ (List.mem_append_left _ hq)))⟩)
      have INy4 := Aside0.mk (show In w y.f1.f3.length (D.list dT y.f1.f3) (.slice B4 y.f1.f3.length d4) from ⟨r4, fun b hq => hbl b (hb b (by rw [D.list, bl, hbl2]; exact List.mem_append_left _ (List.mem_append_right _ (List.mem_append_left _ hq))))⟩)
      have HY := Aside0.mk hyl
      have HTK := Aside0.mk htk
      have W0 := Aside0.mk (show wrap64 (x8 + 1) = x8 + 1 by unfold wrap64; have := HX.out; have := HL.out; omega)
      have CLT := Aside0.mk hlt
      have HFY := Aside0.mk (show (dA y).fits from fits_mem HF.out HY.out)
      have hx0 := (HB.out.cell (World.block_lt_of_cell? w _ e0)).trans e0
      have hx1 := (HB.out.cell (World.block_lt_of_cell? w _ e1)).trans e1
      have hx2 := (HB.out.cell (World.block_lt_of_cell? w _ e2)).trans e2
      have hx3 := (HB.out.cell (World.block_lt_of_cell? w _ e3)).trans e3
      have hx4 := (HB.out.cell (World.block_lt_of_cell? w _ e4)).trans e4
      subst ead
      clear hL hbl hl hb hyl htk hnx hbl2 hlt hj e0 e1 e2 e3 e4 r3 r4
      try go_wp2_with (first
        | ((with_reducible refine gate_dst (N := 5) rfl ?_); refine box_event ?hg (N := 5) ?hd (cs := #[.string (⟨#[]⟩ : ByteArray), .int .i64 0, .string (⟨#[]⟩ : ByteArray), .slice none 0 0, .slice none 0 0]) (t := 78) ?hr ?_; (case hd => rfl); (case hg => rfl); (case hr => first | (go_simp; done) | (go_simp; rfl))
           intro g5 hg w23 hbox hb
           have GE5 := Aside0.mk (show wr.heap.size ≤ g5 by rw [hg]; exact Nat.le_refl _)
           have HOL := Aside0.mk (fun b hq => Nat.lt_of_lt_of_le (HO.out.lt b hq).2 GE5.out)
           have HB0 := Aside0.mk (Nat.le_trans HB.out.size GE5.out)
           have BK5 := Aside0.mk hbox
           have n_HO := Aside0.mk (HO.out.below hb)
           have n_HB := Aside0.mk (below_step HB.out hb)
           clear HO HB
           have HO := n_HO
           have HB := n_HB
           clear n_HO n_HB
           clear hb hbox hg
           have hzc0 : w23.cell? ⟨g5, 0, none⟩ = some (.string (⟨#[]⟩ : ByteArray)) := (blk_cell BK5.out 0).trans rfl
           have hzc1 : w23.cell? ⟨g5, 1, none⟩ = some (.int .i64 0) := (blk_cell BK5.out 1).trans rfl
           have hzc2 : w23.cell? ⟨g5, 2, none⟩ = some (.string (⟨#[]⟩ : ByteArray)) := (blk_cell BK5.out 2).trans rfl
           have hzc3 : w23.cell? ⟨g5, 3, none⟩ = some (.slice none 0 0) := (blk_cell BK5.out 3).trans rfl
           have hzc4 : w23.cell? ⟨g5, 4, none⟩ = some (.slice none 0 0) := (blk_cell BK5.out 4).trans rfl
           have hzf0 := blk_frozen BK5.out 0
           have hzf1 := blk_frozen BK5.out 1
           have hzf2 := blk_frozen BK5.out 2
           have hzf3 := blk_frozen BK5.out 3
           have hzf4 := blk_frozen BK5.out 4))
      clear hx0 hzc0 hzf0 hx1 hzc1 hzf1 hx2 hzc2 hzf2 hx3 hzc3 hzf3 hx4 hzc4 hzf4
      obtain ⟨p1, p2, p3⟩ := put5 BK5.out (.string y.f0) (.int .i64 y.f1.f0) (.string y.f1.f1) (.slice B3 y.f1.f2.length d3) (.slice B4 y.f1.f3.length d4)
      have n3_ := Aside0.mk p1
      have n5_ := Aside0.mk ((below_set (below_set (below_set (below_set (below_set HB.out HB0.out) HB0.out) HB0.out) HB0.out) HB0.out) : Below w.heap.size w (((((w23.setCell ⟨g5, 0, none⟩ (.string y.f0)).setCell ⟨g5, 1, none⟩ (.int .i64 y.f1.f0)).setCell ⟨g5, 2, none⟩ (.string y.f1.f1)).setCell ⟨g5, 3, none⟩ (.slice B3 y.f1.f2.length d3)).setCell ⟨g5, 4, none⟩ (.slice B4 y.f1.f3.length d4)))
      have n6_ := Aside0.mk (HO.out.move (Nat.le_of_eq p3.symm) (fun b hq => p2 b (Nat.ne_of_lt (HOL.out b hq))))
      clear BK5 HO HB p1 p2 p3
      generalize (((((w23.setCell ⟨g5, 0, none⟩ (.string y.f0)).setCell ⟨g5, 1, none⟩ (.int .i64 y.f1.f0)).setCell ⟨g5, 2, none⟩ (.string y.f1.f1)).setCell ⟨g5, 3, none⟩ (.slice B3 y.f1.f2.length d3)).setCell ⟨g5, 4, none⟩ (.slice B4 y.f1.f3.length d4)) = w28 at n3_ n5_ n6_ ⊢
      have BK5 := n3_
      have HB := n5_
      have HO := n6_
      clear n3_ n5_ n6_
      have n_BK5 := Aside0.mk (blk_drew BK5.out)
      have n_HB := Aside0.mk (below_drew1 HB.out)
      have n_HO := Aside0.mk (HO.out.move (W' := w28.drew) (Nat.le_refl _) (fun b _ => rfl))
      clear BK5 HB HO
      have BK5 := n_BK5
      have HB := n_HB
      have HO := n_HO
      clear n_BK5 n_HB n_HO
      refine start_ (n := 10) (S := fun w' => w'.cell? ⟨g5, 0, none⟩ = some (.string y.f0) ∧ w'.cell? ⟨g5, 1, none⟩ = some (.int .i64 y.f1.f0) ∧ w'.cell? ⟨g5, 2, none⟩ = some (.string y.f1.f1) ∧ w'.cell? ⟨g5, 3, none⟩ = some (.slice B3 y.f1.f2.length d3) ∧ w'.cell? ⟨g5, 4, none⟩ = some (.slice B4 y.f1.f3.length d4)) (ds := []) #[false, false, false, false, false, false, false, false, false, false] (by kernel_rfl) rfl rfl ⟨(blk_cell BK5.out 0).trans rfl, (blk_cell BK5.out 1).trans rfl, (blk_cell BK5.out 2).trans rfl, (blk_cell BK5.out 3).trans rfl, (blk_cell BK5.out 4).trans rfl⟩ (fun hHeld => ?_)
      generalize w28.drew = w29 at BK5 HB HO hHeld ⊢
      refine pure_ (i := 0) (N := some 12) (v := ?_) (a' := ?_) #[true, false, false, false, false, false, false, false, false, false] rfl rfl (by kernel_rfl) (fun _ _ _ h => h) (Or.inl ⟨by rfl, ?_⟩) ?_ ?_
      rotate_left
      · intro w'
        go_simp
        with_reducible rfl
      rotate_left
      · simp only [Act.put, List.setIfInBounds_toArray, List.set_cons_zero, List.set_cons_succ, i64_w, i32_w]
        rfl
      refine pure_ (i := 1) (N := some 13) (v := ?_) (a' := ?_) #[true, true, false, false, false, false, false, false, false, false] rfl rfl (by kernel_rfl) (fun _ _ _ h => h) (Or.inl ⟨by rfl, ?_⟩) ?_ ?_
      rotate_left
      · intro w'
        go_simp
        with_reducible rfl
      rotate_left
      · simp only [Act.put, List.setIfInBounds_toArray, List.set_cons_zero, List.set_cons_succ, i64_w, i32_w]
        rfl
      refine pure_ (i := 3) (N := some 15) (v := ?_) (a' := ?_) #[true, true, false, true, false, false, false, false, false, false] rfl rfl (by kernel_rfl) (fun _ _ _ h => h) (Or.inl ⟨by rfl, ?_⟩) ?_ ?_
      rotate_left
      · intro w'
        go_simp
        with_reducible rfl
      rotate_left
      · simp only [Act.put, List.setIfInBounds_toArray, List.set_cons_zero, List.set_cons_succ, i64_w, i32_w]
        rfl
      refine take_ (i := 2) (N := some 14) (v := ?_) (a' := ?_) #[true, true, true, true, false, false, false, false, false, false] rfl rfl (by kernel_rfl) (fun _ _ _ h => h) (Or.inl ⟨by rfl, ?_⟩) hHeld ?_ ?_
      rotate_left
      · rintro w' ⟨s0, s1, s2, s3, s4⟩
        go_simp
        with_reducible rfl
      rotate_left
      · simp only [Act.put, List.setIfInBounds_toArray, List.set_cons_zero, List.set_cons_succ, i64_w, i32_w]
        rfl
      refine take_ (i := 4) (N := some 16) (v := ?_) (a' := ?_) #[true, true, true, true, true, false, false, false, false, false] rfl rfl (by kernel_rfl) (fun _ _ _ h => h) (Or.inl ⟨by rfl, ?_⟩) hHeld ?_ ?_
      rotate_left
      · rintro w' ⟨s0, s1, s2, s3, s4⟩
        go_simp
        with_reducible rfl
      rotate_left
      · simp only [Act.put, List.setIfInBounds_toArray, List.set_cons_zero, List.set_cons_succ, i64_w, i32_w]
        rfl
      refine one_ (i := 5) (N := some 17) #[true, true, true, true, true, true, false, false, false, false] rfl rfl (by kernel_rfl) (by decide) (fun K hK => ?_)
      refine goes_ Try.func79 (by kernel_rfl) rfl #[.agg #[.int .i64 y.f1.f0, .string y.f1.f1, .slice B3 y.f1.f2.length d3, .slice B4 y.f1.f3.length d4]] (by rfl) rfl rfl (by (try simp only [List.map_toArray, List.map_cons, List.map_nil]); first | done | rfl) ?_
      with_reducible refine (cloneV y.f1 B3 d3 B4 d4 _ (fitsA1 HFY.out) (INy3.out.later HB.out) (INy4.out.later HB.out)).mono ?_
      rintro e w30 ⟨N3, n3, N4, n4, rfl, hf⟩
      refine ⟨_, rfl, ?_⟩
      have hb := hf.low
      obtain ⟨f1, f2⟩ := cellsA1 y hf.at_
      have FC := Aside0.mk (show Cells w30.cell? (dA y) [.string y.f0, .int .i64 y.f1.f0, .string y.f1.f1, .slice N3 y.f1.f2.length n3, .slice N4 y.f1.f3.length n4] ∧ (cb w30.cell? (dA y) [.string y.f0, .int .i64 y.f1.f0, .string y.f1.f1, .slice N3 y.f1.f2.length n3, .slice N4 y.f1.f3.length n4]).Nodup ∧ ∀ b ∈ cb w30.cell? (dA y) [.string y.f0, .int .i64 y.f1.f0, .string y.f1.f1, .slice N3 y.f1.f2.length n3, .slice N4 y.f1.f3.length n4], Blk w30 w29.heap.size w30.heap.size b from ⟨f1, by rw [f2]; exact hf.nd, by rw [f2]; exact hf.blk⟩)
      clear f1 f2
      have HN9 := Aside0.mk (show w.heap.size ≤ w29.heap.size ∧ (∀ b, (Value.slice Au tk.length cu).ownBlock = some b ∨ b ∈ bs → b < w29.heap.size) from ⟨HB.out.size, fun b hq => (HO.out.lt b hq).2⟩)
      clear hf
      have n_BK5 := Aside0.mk (blk_below BK5.out hb)
      have n_HO := Aside0.mk (HO.out.below hb)
      have n_HB := Aside0.mk (below_step HB.out hb)
      clear BK5 HO HB
      have BK5 := n_BK5
      have HO := n_HO
      have HB := n_HB
      clear n_BK5 n_HO n_HB
      clear hb
      refine hK.out _ _ ⟨(blk_cell BK5.out 0).trans rfl, (blk_cell BK5.out 1).trans rfl, (blk_cell BK5.out 2).trans rfl, (blk_cell BK5.out 3).trans rfl, (blk_cell BK5.out 4).trans rfl⟩ (fun hHeld => ?_)
      clear hK K
      refine norm_ (a' := ?_) ?_ ?_
      rotate_left
      · show Act.put _ (some 17) _ = _
        simp only [Act.put, List.setIfInBounds_toArray, List.set_cons_zero, List.set_cons_succ, i64_w, i32_w]
        rfl
      refine pure_ (i := 6) (N := some 18) (v := ?_) (a' := ?_) #[true, true, true, true, true, true, true, false, false, false] rfl rfl (by kernel_rfl) (fun _ _ _ h => h) (Or.inl ⟨by rfl, ?_⟩) ?_ ?_
      rotate_left
      · intro w'
        go_simp
        with_reducible rfl
      rotate_left
      · simp only [Act.put, List.setIfInBounds_toArray, List.set_cons_zero, List.set_cons_succ, i64_w, i32_w]
        rfl
      refine one_ (i := 7) (N := some 19) #[true, true, true, true, true, true, true, true, false, false] rfl rfl (by kernel_rfl) (by decide) (fun K hK => ?_)
      refine value_ (w1 := ?_) (v := ?_) (by rfl) rfl ?_ ?_
      rotate_left 2
      · go_simp
        constructor
        · rfl
        · rfl
      refine hK.out _ _ ⟨(blk_cell (blk_alloc BK5.out _) 0).trans rfl, (blk_cell (blk_alloc BK5.out _) 1).trans rfl, (blk_cell (blk_alloc BK5.out _) 2).trans rfl, (blk_cell (blk_alloc BK5.out _) 3).trans rfl, (blk_cell (blk_alloc BK5.out _) 4).trans rfl⟩ (fun hHeld => ?_)
      clear hK K
      refine norm_ (a' := ?_) ?_ ?_
      rotate_left
      · show Act.put _ (some 19) _ = _
        simp only [Act.put, List.setIfInBounds_toArray, List.set_cons_zero, List.set_cons_succ, i64_w, i32_w]
        rfl
      refine one_ (i := 8) (N := some 20) #[true, true, true, true, true, true, true, true, true, false] rfl rfl (by kernel_rfl) (by decide) (fun K hK => ?_)
      have h8 := Aside0.mk (show tk.length ≤ l.length by rw [HTk.out]; exact List.length_take_le' _ _)
      refine Ow.append1_step (f := dA) (l := tk) (bs := bs) (nb := _) w.heap.size (by rfl) (.tmp 12) (.tmp 19) 42 78 (.agg #[(.string ⟨#[]⟩), (.int .i64 0), (.string ⟨#[]⟩), (.slice none 0 0), (.slice none 0 0)]) 5 88 rfl Try.underlying42 info78 rfl (by decide) (by decide) (.slice Au tk.length cu) y [.string y.f0, .int .i64 y.f1.f0, .string y.f1.f1, .slice N3 y.f1.f2.length n3, .slice N4 y.f1.f3.length n4] rfl rfl (szA y) HO.out FC.out.1 rfl FC.out.2.1 ?hk HB.out.size ?hl ?_
      (case hk => exact fun b hq => ⟨(FC.out.2.2 b hq).mono HN9.out.1 (Nat.le_refl _), fun he => Nat.not_le.2 (HN9.out.2 b (.inl he.symm)) (FC.out.2.2 b hq).1, fun he => Nat.not_le.2 (HN9.out.2 b (.inr he)) (FC.out.2.2 b hq).1⟩)
      (case hl => have := HL.out; have := h8.out; omega)
      intro v1 w31 hO1 hg1
      generalize htn : tk ++ [y] = tn at hO1
      have HTN := Aside0.mk htn
      clear htn
      obtain ⟨A1, k1, ev1⟩ := Ow.sl hO1
      subst ev1
      have n3_ := Aside0.mk ((hg1.block g5 (blk_lt BK5.out) (fun he => Nat.lt_irrefl _ (HOL.out g5 (.inl he.symm)))).trans BK5.out)
      have n5_ := Aside0.mk (HB.out.grown hg1 HB.out.size (fun k hk => (HO.out.lt k (.inl hk)).1))
      have n6_ := Aside0.mk hO1
      clear BK5 HO HB hg1 hO1
      have BK5 := n3_
      have HB := n5_
      have HO := n6_
      clear n3_ n5_ n6_
      refine hK.out _ _ ⟨(blk_cell BK5.out 0).trans rfl, (blk_cell BK5.out 1).trans rfl, (blk_cell BK5.out 2).trans rfl, (blk_cell BK5.out 3).trans rfl, (blk_cell BK5.out 4).trans rfl⟩ (fun hHeld => ?_)
      clear hK K
      refine norm_ (a' := ?_) ?_ ?_
      rotate_left
      · show Act.put _ (some 20) _ = _
        simp only [Act.put, List.setIfInBounds_toArray, List.set_cons_zero, List.set_cons_succ, i64_w, i32_w]
        rfl
      refine pure_ (i := 9) (N := some 3) (v := ?_) (a' := ?_) #[true, true, true, true, true, true, true, true, true, true] rfl rfl (by kernel_rfl) (fun _ _ _ h => h) (Or.inl ⟨by rfl, ?_⟩) ?_ ?_
      rotate_left
      · intro w'
        go_simp
        with_reducible rfl
      rotate_left
      · simp only [Act.put, List.setIfInBounds_toArray, List.set_cons_zero, List.set_cons_succ, i64_w, i32_w]
        rfl
      refine done_ (by kernel_rfl) ?_
      clear hHeld
      try go_wp2
      go_roundg (l.length - (x8 + 1).toNat)
      case measure => have := HX.out; have := CLT.out; omega
      case rel => exact ⟨x8 + 1, A1, k1, _, tn, rfl, by rw [W0.out], ⟨⟨by have := HX.out; omega, by have := CLT.out; omega, by omega⟩⟩, HO, ⟨by rw [← HTN.out]; exact HTK.out.symm⟩, HB⟩
    · have hltb : decide (x8 < (l.length : Int)) = false := decide_eq_false hlt
      have htk : tk = l := HTk.out.trans (List.take_of_length_le (by omega))
      have HTK := Aside0.mk htk
      clear hlt htk
      go_wp2
      go_ret
      have htk := HTK.out
      subst htk
      obtain ⟨o1, o2⟩ := HO.out.tr (fun h0 => by rw [List.eq_nil_of_length_eq_zero h0]; rfl)
      exact ⟨_, rfl, ⟨o1, o2, HB.out⟩⟩
set_option maxHeartbeats 8000000 in
set_option maxRecDepth 100000 in
theorem cloneD : ∀ (l : List S95) (v : Value) (w : World), (D.list dD l).fits → l.length ≤ 1073741824 → In w l.length (D.list dD l) v → Calls Try.prog 76 #[v] w fun e w' => ∃ v', e = .returned v' ∧ Fresh w w' l.length (D.list dD l) v' := by
  intro l v w hfit hll hI
  obtain ⟨A, cap, rfl, hn, hm⟩ := RowAt.sl hI.1
  have HF := Aside0.mk hfit
  have HL := Aside0.mk hll
  have IN0 := Aside0.mk hI
  have HB := Aside0.mk (Below.refl w.heap.size w)
  have hu95 := Try.underlying95
  clear hI hfit hll
  go_enter Try.func76, Try.ntmps76
  go_wp2
  go_loopg [3, 8] l.length (fun gg v3 v8 wr => ∃ (x8 : Int) (Au : Option Addr) (cu : Nat) (bs : List Nat) (tk : List S95), v3 = .slice Au tk.length cu ∧ v8 = .int .i64 x8 ∧ Aside0 (0 ≤ x8 ∧ x8 ≤ l.length ∧ l.length - x8.toNat ≤ gg) ∧ Aside0 (Ow wr w.heap.size 95 2 tk.length (.slice Au tk.length cu) (D.list dD tk) bs) ∧ Aside0 (tk = l.take x8.toNat) ∧ Aside0 (Below w.heap.size w wr))
  case atStart => exact ⟨0, none, 0, [], [], rfl, rfl, ⟨⟨by omega, by omega, by omega⟩⟩, ⟨Ow.nil _ _ _ _⟩, ⟨rfl⟩, HB⟩
  case round =>
    clear HB
    obtain ⟨x8, Au, cu, bs, tk, rfl, rfl, HX, HO, HTk, HB⟩ := hrel
    by_cases hlt : x8 < (l.length : Int)
    · have hltb : decide (x8 < (l.length : Int)) = true := decide_eq_true hlt
      have p6 : (0 ≤ x8) = True := eq_true HX.out.1
      have q6 : (x8 < (l.length : Int)) = True := eq_true hlt
      have hj : x8.toNat < l.length := by have := HX.out.1; omega
      obtain ⟨ga, ead, hL, hbl⟩ : ∃ ga, A = some ⟨ga, 0, none⟩ ∧ Lay w.cell? (D.list dD l) ga 0 ∧ ∀ b ∈ bl w.cell? (D.list dD l) ga 0, b < w.heap.size := by
        rcases IN0.out with ⟨hq, hr⟩
        rcases hq with ⟨_, hn0, _⟩ | ⟨a, cap', e, _, _, hL⟩
        · omega
        · injection e with e1 e2 e3
          subst e1
          exact ⟨a, rfl, hL, fun b hb => hr b (List.mem_cons_of_mem _ hb)⟩
      obtain ⟨hl, hb⟩ := Lay.drop szD l 0 x8.toNat hL
      have hyl : l[x8.toNat] ∈ l := List.getElem_mem hj
      have htk : l.take (x8.toNat + 1) = l.take x8.toNat ++ [l[x8.toNat]] := by rw [List.take_succ_eq_append_getElem hj]
      have hnx : x8.toNat + 1 = (x8 + 1).toNat := by have := HX.out.1; omega
      rw [hnx, ← HTk.out] at htk
      rw [List.drop_eq_getElem_cons hj, Nat.zero_add] at hl hb
      generalize l[x8.toNat] = y at hl hb hyl htk
      obtain ⟨B1, d1, e0, e1, r1, hbl2, _⟩ := openD hl.1
      have INy1 := Aside0.mk (show In w y.f1.length (D.list dA y.f1) (.slice B1 y.f1.length d1) from ⟨r1, fun b hq => hbl b (hb b (by rw [D.list, bl, hbl2]; exact List.mem_append_left _ (List.mem_append_left _ hq)))⟩)
      have HY := Aside0.mk hyl
      have HTK := Aside0.mk htk
      have W0 := Aside0.mk (show wrap64 (x8 + 1) = x8 + 1 by unfold wrap64; have := HX.out; have := HL.out; omega)
      have CLT := Aside0.mk hlt
      have HFY := Aside0.mk (show (dD y).fits from fits_mem HF.out HY.out)
      have hx0 := (HB.out.cell (World.block_lt_of_cell? w _ e0)).trans e0
      have hx1 := (HB.out.cell (World.block_lt_of_cell? w _ e1)).trans e1
      subst ead
      clear hL hbl hl hb hyl htk hnx hbl2 hlt hj e0 e1 r1
      try go_wp2_with (first
        | ((with_reducible refine gate_dst (N := 5) rfl ?_); refine box_event ?hg (N := 5) ?hd (cs := #[.string (⟨#[]⟩ : ByteArray), .slice none 0 0]) (t := 95) ?hr ?_; (case hd => rfl); (case hg => rfl); (case hr => first | (go_simp; done) | (go_simp; rfl))
           intro g5 hg w23 hbox hb
           have GE5 := Aside0.mk (show wr.heap.size ≤ g5 by rw [hg]; exact Nat.le_refl _)
           have HOL := Aside0.mk (fun b hq => Nat.lt_of_lt_of_le (HO.out.lt b hq).2 GE5.out)
           have HB0 := Aside0.mk (Nat.le_trans HB.out.size GE5.out)
           have BK5 := Aside0.mk hbox
           have n_HO := Aside0.mk (HO.out.below hb)
           have n_HB := Aside0.mk (below_step HB.out hb)
           clear HO HB
           have HO := n_HO
           have HB := n_HB
           clear n_HO n_HB
           clear hb hbox hg
           have hzc0 : w23.cell? ⟨g5, 0, none⟩ = some (.string (⟨#[]⟩ : ByteArray)) := (blk_cell BK5.out 0).trans rfl
           have hzc1 : w23.cell? ⟨g5, 1, none⟩ = some (.slice none 0 0) := (blk_cell BK5.out 1).trans rfl
           have hzf0 := blk_frozen BK5.out 0
           have hzf1 := blk_frozen BK5.out 1))
      clear hx0 hzc0 hzf0 hx1 hzc1 hzf1
      obtain ⟨p1, p2, p3⟩ := put2 BK5.out (.string y.f0) (.slice B1 y.f1.length d1)
      have n3_ := Aside0.mk p1
      have n5_ := Aside0.mk ((below_set (below_set HB.out HB0.out) HB0.out) : Below w.heap.size w ((w23.setCell ⟨g5, 0, none⟩ (.string y.f0)).setCell ⟨g5, 1, none⟩ (.slice B1 y.f1.length d1)))
      have n6_ := Aside0.mk (HO.out.move (Nat.le_of_eq p3.symm) (fun b hq => p2 b (Nat.ne_of_lt (HOL.out b hq))))
      clear BK5 HO HB p1 p2 p3
      generalize ((w23.setCell ⟨g5, 0, none⟩ (.string y.f0)).setCell ⟨g5, 1, none⟩ (.slice B1 y.f1.length d1)) = w28 at n3_ n5_ n6_ ⊢
      have BK5 := n3_
      have HB := n5_
      have HO := n6_
      clear n3_ n5_ n6_
      have n_BK5 := Aside0.mk (blk_drew BK5.out)
      have n_HB := Aside0.mk (below_drew1 HB.out)
      have n_HO := Aside0.mk (HO.out.move (W' := w28.drew) (Nat.le_refl _) (fun b _ => rfl))
      clear BK5 HB HO
      have BK5 := n_BK5
      have HB := n_HB
      have HO := n_HO
      clear n_BK5 n_HB n_HO
      refine start_ (n := 10) (S := fun w' => w'.cell? ⟨g5, 0, none⟩ = some (.string y.f0) ∧ w'.cell? ⟨g5, 1, none⟩ = some (.slice B1 y.f1.length d1)) (ds := []) #[false, false, false, false, false, false, false, false, false, false] (by kernel_rfl) rfl rfl ⟨(blk_cell BK5.out 0).trans rfl, (blk_cell BK5.out 1).trans rfl⟩ (fun hHeld => ?_)
      generalize w28.drew = w29 at BK5 HB HO hHeld ⊢
      refine pure_ (i := 0) (N := some 12) (v := ?_) (a' := ?_) #[true, false, false, false, false, false, false, false, false, false] rfl rfl (by kernel_rfl) (fun _ _ _ h => h) (Or.inl ⟨by rfl, ?_⟩) ?_ ?_
      rotate_left
      · intro w'
        go_simp
        with_reducible rfl
      rotate_left
      · simp only [Act.put, List.setIfInBounds_toArray, List.set_cons_zero, List.set_cons_succ, i64_w, i32_w]
        rfl
      refine pure_ (i := 1) (N := some 13) (v := ?_) (a' := ?_) #[true, true, false, false, false, false, false, false, false, false] rfl rfl (by kernel_rfl) (fun _ _ _ h => h) (Or.inl ⟨by rfl, ?_⟩) ?_ ?_
      rotate_left
      · intro w'
        go_simp
        with_reducible rfl
      rotate_left
      · simp only [Act.put, List.setIfInBounds_toArray, List.set_cons_zero, List.set_cons_succ, i64_w, i32_w]
        rfl
      refine pure_ (i := 3) (N := some 15) (v := ?_) (a' := ?_) #[true, true, false, true, false, false, false, false, false, false] rfl rfl (by kernel_rfl) (fun _ _ _ h => h) (Or.inl ⟨by rfl, ?_⟩) ?_ ?_
      rotate_left
      · intro w'
        go_simp
        with_reducible rfl
      rotate_left
      · simp only [Act.put, List.setIfInBounds_toArray, List.set_cons_zero, List.set_cons_succ, i64_w, i32_w]
        rfl
      refine take_ (i := 2) (N := some 14) (v := ?_) (a' := ?_) #[true, true, true, true, false, false, false, false, false, false] rfl rfl (by kernel_rfl) (fun _ _ _ h => h) (Or.inl ⟨by rfl, ?_⟩) hHeld ?_ ?_
      rotate_left
      · rintro w' ⟨s0, s1⟩
        go_simp
        with_reducible rfl
      rotate_left
      · simp only [Act.put, List.setIfInBounds_toArray, List.set_cons_zero, List.set_cons_succ, i64_w, i32_w]
        rfl
      refine take_ (i := 4) (N := some 16) (v := ?_) (a' := ?_) #[true, true, true, true, true, false, false, false, false, false] rfl rfl (by kernel_rfl) (fun _ _ _ h => h) (Or.inl ⟨by rfl, ?_⟩) hHeld ?_ ?_
      rotate_left
      · rintro w' ⟨s0, s1⟩
        go_simp
        with_reducible rfl
      rotate_left
      · simp only [Act.put, List.setIfInBounds_toArray, List.set_cons_zero, List.set_cons_succ, i64_w, i32_w]
        rfl
      refine one_ (i := 5) (N := some 17) #[true, true, true, true, true, true, false, false, false, false] rfl rfl (by kernel_rfl) (by decide) (fun K hK => ?_)
      refine goes_ Try.func75 (by kernel_rfl) rfl #[.slice B1 y.f1.length d1] (by rfl) rfl rfl (by (try simp only [List.map_toArray, List.map_cons, List.map_nil]); first | done | rfl) ?_
      with_reducible refine (cloneA y.f1 _ _ (fitsD1 HFY.out).2 (fitsD1 HFY.out).1 (INy1.out.later HB.out)).mono ?_
      rintro e w30 ⟨v9, rfl, hf⟩
      obtain ⟨N1, n1, ev, _, _⟩ := RowAt.sl hf.tr.at_
      subst ev
      refine ⟨_, rfl, ?_⟩
      have hb := hf.low
      obtain ⟨f1, f2⟩ := cellsD1 y hf.tr.at_
      have FC := Aside0.mk (show Cells w30.cell? (dD y) [.string y.f0, .slice N1 y.f1.length n1] ∧ (cb w30.cell? (dD y) [.string y.f0, .slice N1 y.f1.length n1]).Nodup ∧ ∀ b ∈ cb w30.cell? (dD y) [.string y.f0, .slice N1 y.f1.length n1], Blk w30 w29.heap.size w30.heap.size b from ⟨f1, by rw [f2]; exact hf.nd, by rw [f2]; exact hf.tr.blk⟩)
      clear f1 f2
      have HN9 := Aside0.mk (show w.heap.size ≤ w29.heap.size ∧ (∀ b, (Value.slice Au tk.length cu).ownBlock = some b ∨ b ∈ bs → b < w29.heap.size) from ⟨HB.out.size, fun b hq => (HO.out.lt b hq).2⟩)
      clear hf
      have n_BK5 := Aside0.mk (blk_below BK5.out hb)
      have n_HO := Aside0.mk (HO.out.below hb)
      have n_HB := Aside0.mk (below_step HB.out hb)
      clear BK5 HO HB
      have BK5 := n_BK5
      have HO := n_HO
      have HB := n_HB
      clear n_BK5 n_HO n_HB
      clear hb
      refine hK.out _ _ ⟨(blk_cell BK5.out 0).trans rfl, (blk_cell BK5.out 1).trans rfl⟩ (fun hHeld => ?_)
      clear hK K
      refine norm_ (a' := ?_) ?_ ?_
      rotate_left
      · show Act.put _ (some 17) _ = _
        simp only [Act.put, List.setIfInBounds_toArray, List.set_cons_zero, List.set_cons_succ, i64_w, i32_w]
        rfl
      refine pure_ (i := 6) (N := some 18) (v := ?_) (a' := ?_) #[true, true, true, true, true, true, true, false, false, false] rfl rfl (by kernel_rfl) (fun _ _ _ h => h) (Or.inl ⟨by rfl, ?_⟩) ?_ ?_
      rotate_left
      · intro w'
        go_simp
        with_reducible rfl
      rotate_left
      · simp only [Act.put, List.setIfInBounds_toArray, List.set_cons_zero, List.set_cons_succ, i64_w, i32_w]
        rfl
      refine one_ (i := 7) (N := some 19) #[true, true, true, true, true, true, true, true, false, false] rfl rfl (by kernel_rfl) (by decide) (fun K hK => ?_)
      refine value_ (w1 := ?_) (v := ?_) (by rfl) rfl ?_ ?_
      rotate_left 2
      · go_simp
        constructor
        · rfl
        · rfl
      refine hK.out _ _ ⟨(blk_cell (blk_alloc BK5.out _) 0).trans rfl, (blk_cell (blk_alloc BK5.out _) 1).trans rfl⟩ (fun hHeld => ?_)
      clear hK K
      refine norm_ (a' := ?_) ?_ ?_
      rotate_left
      · show Act.put _ (some 19) _ = _
        simp only [Act.put, List.setIfInBounds_toArray, List.set_cons_zero, List.set_cons_succ, i64_w, i32_w]
        rfl
      refine one_ (i := 8) (N := some 20) #[true, true, true, true, true, true, true, true, true, false] rfl rfl (by kernel_rfl) (by decide) (fun K hK => ?_)
      have h8 := Aside0.mk (show tk.length ≤ l.length by rw [HTk.out]; exact List.length_take_le' _ _)
      refine Ow.append1_step (f := dD) (l := tk) (bs := bs) (nb := _) w.heap.size (by rfl) (.tmp 12) (.tmp 19) 51 95 (.agg #[(.string ⟨#[]⟩), (.slice none 0 0)]) 2 40 rfl Try.underlying51 info95 rfl (by decide) (by decide) (.slice Au tk.length cu) y [.string y.f0, .slice N1 y.f1.length n1] rfl rfl (szD y) HO.out FC.out.1 rfl FC.out.2.1 ?hk HB.out.size ?hl ?_
      (case hk => exact fun b hq => ⟨(FC.out.2.2 b hq).mono HN9.out.1 (Nat.le_refl _), fun he => Nat.not_le.2 (HN9.out.2 b (.inl he.symm)) (FC.out.2.2 b hq).1, fun he => Nat.not_le.2 (HN9.out.2 b (.inr he)) (FC.out.2.2 b hq).1⟩)
      (case hl => have := HL.out; have := h8.out; omega)
      intro v1 w31 hO1 hg1
      generalize htn : tk ++ [y] = tn at hO1
      have HTN := Aside0.mk htn
      clear htn
      obtain ⟨A1, k1, ev1⟩ := Ow.sl hO1
      subst ev1
      have n3_ := Aside0.mk ((hg1.block g5 (blk_lt BK5.out) (fun he => Nat.lt_irrefl _ (HOL.out g5 (.inl he.symm)))).trans BK5.out)
      have n5_ := Aside0.mk (HB.out.grown hg1 HB.out.size (fun k hk => (HO.out.lt k (.inl hk)).1))
      have n6_ := Aside0.mk hO1
      clear BK5 HO HB hg1 hO1
      have BK5 := n3_
      have HB := n5_
      have HO := n6_
      clear n3_ n5_ n6_
      refine hK.out _ _ ⟨(blk_cell BK5.out 0).trans rfl, (blk_cell BK5.out 1).trans rfl⟩ (fun hHeld => ?_)
      clear hK K
      refine norm_ (a' := ?_) ?_ ?_
      rotate_left
      · show Act.put _ (some 20) _ = _
        simp only [Act.put, List.setIfInBounds_toArray, List.set_cons_zero, List.set_cons_succ, i64_w, i32_w]
        rfl
      refine pure_ (i := 9) (N := some 3) (v := ?_) (a' := ?_) #[true, true, true, true, true, true, true, true, true, true] rfl rfl (by kernel_rfl) (fun _ _ _ h => h) (Or.inl ⟨by rfl, ?_⟩) ?_ ?_
      rotate_left
      · intro w'
        go_simp
        with_reducible rfl
      rotate_left
      · simp only [Act.put, List.setIfInBounds_toArray, List.set_cons_zero, List.set_cons_succ, i64_w, i32_w]
        rfl
      refine done_ (by kernel_rfl) ?_
      clear hHeld
      try go_wp2
      go_roundg (l.length - (x8 + 1).toNat)
      case measure => have := HX.out; have := CLT.out; omega
      case rel => exact ⟨x8 + 1, A1, k1, _, tn, rfl, by rw [W0.out], ⟨⟨by have := HX.out; omega, by have := CLT.out; omega, by omega⟩⟩, HO, ⟨by rw [← HTN.out]; exact HTK.out.symm⟩, HB⟩
    · have hltb : decide (x8 < (l.length : Int)) = false := decide_eq_false hlt
      have htk : tk = l := HTk.out.trans (List.take_of_length_le (by omega))
      have HTK := Aside0.mk htk
      clear hlt htk
      go_wp2
      go_ret
      have htk := HTK.out
      subst htk
      obtain ⟨o1, o2⟩ := HO.out.tr (fun h0 => by rw [List.eq_nil_of_length_eq_zero h0]; rfl)
      exact ⟨_, rfl, ⟨o1, o2, HB.out⟩⟩
end Go.Proofs.Ytkcomfmdcmjagaa.OFnExactAllSels
