/- The program's AllSels: what comes back, of its own memory; under the conditions that it names. -/
import Derived.Test.YtkcomfmdcmjagaaCs
namespace Go.Proofs.Ytkcomfmdcmjagaa.OFnExactAllSels
open Go.Proofs.Ytkcomfmdcmjagaa.Lay Go.Proofs.Ytkcomfmdcmjagaa.Mark
open Go.RowKit Go.Proofs.YtkcomfmdcmjagaaW.PrintWords Go.Proofs.YtkcomfmdcmjagaaW.PrintLast Go.Proofs.YtkcomfmdcmjagaaW.PrintMore
set_option linter.unusedVariables false
set_option linter.unusedSimpArgs false
mutual
/-- A selection and all that it holds. -/
def aS : S54 → List S54
  | ⟨a, b, c, d, e, f, g⟩ => ⟨a, b, c, d, e, f, g⟩ :: aSs g
def aSs : List S54 → List S54
  | [] => []
  | x :: r => aS x ++ aSs r
end
theorem aS_eq (x : S54) : aS x = x :: aSs x.f6 := by
  cases x
  rw [aS]
theorem aSs_app : ∀ l m : List S54, aSs (l ++ m) = aSs l ++ aSs m
  | [], _ => by rw [aSs]; rfl
  | x :: l, m => by
    rw [List.cons_append, aSs, aSs, aSs_app l m, List.append_assoc]
theorem aSs_take (l : List S54) (n : Nat) : (aSs (l.take n)).length ≤ (aSs l).length := by
  have h := aSs_app (l.take n) (l.drop n)
  rw [List.take_append_drop] at h
  rw [h, List.length_append]
  omega
theorem fits1 {y : S54} (h : (dS y).fits) : (D.list dS [y]).fits := by
  simp only [D.list, D.fits]
  exact ⟨h, trivial⟩
theorem len1 (y : S54) : [y].length ≤ 1073741824 := by simp
theorem rowSome {r : Rd} {n : Nat} {c : D} {v : Value} (h : RowAt r n c v) (hn : 0 < n) : ∃ g cap, v = .slice (some ⟨g, 0, none⟩) n cap ∧ Lay r c g 0 := by
  rcases h with ⟨_, h, _⟩ | ⟨a, cap, e, _, _, hl⟩
  · omega
  · exact ⟨a, cap, e, hl⟩
theorem rowSome' {r : Rd} {n k cap : Nat} {c : D} {g : Nat} (h : RowAt r n c (.slice (some ⟨g, 0, none⟩) k cap)) : ∃ a b, (a = g ∧ b = cap) ∧ Lay r c g 0 := by
  rcases h with ⟨h, _⟩ | ⟨a, cap', e, _, _, hl⟩
  · cases h
  · cases e
    exact ⟨_, _, ⟨rfl, rfl⟩, hl⟩
theorem owSome {W : World} {lo e size n : Nat} {v : Value} {c : D} {bs : List Nat} (h : Ow W lo e size n v c bs) (hv : v ≠ .slice none 0 0) : ∃ g cap, v = .slice (some ⟨g, 0, none⟩) n cap := by
  obtain ⟨inner, ho, _, _⟩ := h.ex
  rcases ho.2 with ⟨e, _⟩ | ⟨g, cap, cur, e, _⟩
  · exact absurd e hv
  · exact ⟨g, cap, e⟩
theorem In.single {W : World} {g : Nat} {y : S54} {A4 A5 A6 : Option Addr} {c4 c5 c6 : Nat} (hb : W.heap[g]? = some (.cells #[.int .i64 y.f0, .string y.f1, .string y.f2, .string y.f3, .slice A4 y.f4.length c4, .slice A5 y.f5.length c5, .slice A6 y.f6.length c6] 54 (0, 0)))
    (h4 : In W y.f4.length (D.list dA y.f4) (.slice A4 y.f4.length c4)) (h5 : In W y.f5.length (D.list dD y.f5) (.slice A5 y.f5.length c5)) (h6 : In W y.f6.length (D.list dS y.f6) (.slice A6 y.f6.length c6)) : In W [y].length (D.list dS [y]) (.slice (some ⟨g, 0, none⟩) 1 1) := by
  have hc : Cells W.cell? (dS y) [.int .i64 y.f0, .string y.f1, .string y.f2, .string y.f3, .slice A4 y.f4.length c4, .slice A5 y.f5.length c5, .slice A6 y.f6.length c6] := by
    rw [dS_eq]
    exact ⟨[_], _, rfl, rfl, [_], _, rfl, rfl, [_], _, rfl, rfl, [_], _, rfl, rfl, [_], _, rfl, ⟨_, rfl, h4.1⟩, [_], _, rfl, ⟨_, rfl, h5.1⟩, [_], [], rfl, ⟨_, rfl, h6.1⟩, rfl⟩
  have hcb : cb W.cell? (dS y) [.int .i64 y.f0, .string y.f1, .string y.f2, .string y.f3, .slice A4 y.f4.length c4, .slice A5 y.f5.length c5, .slice A6 y.f6.length c6] = rbl W.cell? (D.list dA y.f4) (.slice A4 y.f4.length c4) ++ (rbl W.cell? (D.list dD y.f5) (.slice A5 y.f5.length c5) ++ (rbl W.cell? (D.list dS y.f6) (.slice A6 y.f6.length c6) ++ [])) := by
    rw [dS_eq]
    rfl
  obtain ⟨i1, b1⟩ := Cells.single (f := dS) hc
  obtain ⟨i2, b2⟩ := Lay.of_cells (r := W.cell?) (D.list dS [y]) g 0 _ i1 (fun j u hj => by
    rw [Nat.zero_add, blk_cell hb j]
    simpa using hj)
  refine ⟨.inr ⟨g, 1, rfl, Nat.le_refl _, by show 1 ≤ maxLen; decide, i2⟩, fun b hq => ?_⟩
  have hq2 : b ∈ g :: bl W.cell? (D.list dS [y]) g 0 := hq
  rw [b2, b1, hcb] at hq2
  rcases List.mem_cons.1 hq2 with rfl | hq2
  · exact blk_lt hb
  · rcases List.mem_append.1 hq2 with hq2 | hq2
    · exact h4.2 b hq2
    · rcases List.mem_append.1 hq2 with hq2 | hq2
      · exact h5.2 b hq2
      · rw [List.append_nil] at hq2
        exact h6.2 b hq2
set_option maxHeartbeats 8000000 in
set_option maxRecDepth 100000 in
theorem cloneAll : ∀ (l : List S54) (v : Value) (w : World), (D.list dS l).fits → l.length ≤ 1073741824 → (aSs l).length ≤ 1073741824 → In w l.length (D.list dS l) v → Calls Try.prog 35 #[v] w fun e w' => ∃ g cap, e = .returned (.slice (some ⟨g, 0, none⟩) (aSs l).length cap) ∧ Fresh w w' (aSs l).length (D.list dS (aSs l)) (.slice (some ⟨g, 0, none⟩) (aSs l).length cap) := by
  refine indSs (fun l ih => ?_)
  intro v w hfit hll hal hI
  obtain ⟨A, cap, rfl, hn, hm⟩ := RowAt.sl hI.1
  have HF := Aside0.mk hfit
  have HL := Aside0.mk hll
  have IN0 := Aside0.mk hI
  have HB := Aside0.mk (Below.refl w.heap.size w)
  have hu54 := Try.underlying54
  have IH := Aside0.mk ih
  have HAL := Aside0.mk hal
  clear hI hfit hll ih hal
  have HN := Aside0.mk (below_alloc (Below.refl w.heap.size w) (.cells #[] 54))
  have HO0 := Aside0.mk (show Ow (w.alloc (.cells #[] 54)) w.heap.size 54 7 ([] : List S54).length (.slice (some ⟨w.heap.size, 0, none⟩) 0 0) (D.list dS []) [] from
    ⟨⟨[], ⟨rfl, .inr ⟨w.heap.size, 0, #[], rfl, Nat.le_refl _, heap_alloc_new w _, Nat.le_refl _, Nat.zero_le _, rfl, rfl⟩⟩, rfl, rfl⟩, List.nodup_nil, fun b hb => by cases hb⟩)
  go_enter Try.func35, Try.ntmps35
  go_wp2
  go_loopg [3, 9] l.length (fun gg v3 v9 wr => ∃ (x9 : Int) (gu : Nat) (cu : Nat) (bs : List Nat) (tk : List S54), v3 = .slice (some ⟨gu, 0, none⟩) tk.length cu ∧ v9 = .int .i64 x9 ∧ Aside0 (0 ≤ x9 ∧ x9 ≤ l.length ∧ l.length - x9.toNat ≤ gg) ∧ Aside0 (Ow wr w.heap.size 54 7 tk.length (.slice (some ⟨gu, 0, none⟩) tk.length cu) (D.list dS tk) bs) ∧ Aside0 (tk = aSs (l.take x9.toNat)) ∧ Aside0 (Below w.heap.size w wr))
  case atStart => exact ⟨0, w.heap.size, 0, [], [], rfl, rfl, ⟨⟨by omega, by omega, by omega⟩⟩, HO0, ⟨rfl⟩, HN⟩
  case round =>
    clear HB HN HO0
    obtain ⟨x9, gu, cu, bs, tk, rfl, rfl, HX, HO, HTk, HB⟩ := hrel
    by_cases hlt : x9 < (l.length : Int)
    · have hltb : decide (x9 < (l.length : Int)) = true := decide_eq_true hlt
      have p6 : (0 ≤ x9) = True := eq_true HX.out.1
      have q6 : (x9 < (l.length : Int)) = True := eq_true hlt
      have hj : x9.toNat < l.length := by have := HX.out.1; omega
      obtain ⟨ga, ead, hL, hbl⟩ : ∃ ga, A = some ⟨ga, 0, none⟩ ∧ Lay w.cell? (D.list dS l) ga 0 ∧ ∀ b ∈ bl w.cell? (D.list dS l) ga 0, b < w.heap.size := by
        rcases IN0.out with ⟨hq, hr⟩
        rcases hq with ⟨_, hn0, _⟩ | ⟨a, cap', e, _, _, hL⟩
        · omega
        · injection e with e1 e2 e3
          subst e1
          exact ⟨a, rfl, hL, fun b hb => hr b (List.mem_cons_of_mem _ hb)⟩
      obtain ⟨hl, hb⟩ := Lay.drop szS l 0 x9.toNat hL
      have hyl : l[x9.toNat] ∈ l := List.getElem_mem hj
      have htk : l.take (x9.toNat + 1) = l.take x9.toNat ++ [l[x9.toNat]] := by rw [List.take_succ_eq_append_getElem hj]
      have hnx : x9.toNat + 1 = (x9 + 1).toNat := by have := HX.out.1; omega
      rw [hnx] at htk
      rw [List.drop_eq_getElem_cons hj, Nat.zero_add] at hl hb
      generalize l[x9.toNat] = y at hl hb hyl htk
      obtain ⟨B4, d4, B5, d5, B6, d6, e0, e1, e2, e3, e4, e5, e6, r4, r5, r6, hbl2, _⟩ := openS hl.1
      have INy4 := Aside0.mk (show In w y.f4.length (D.list dA y.f4) (.slice B4 y.f4.length d4) from ⟨r4, fun b hq => hbl b (hb b (by rw [D.list, bl, hbl2]; exact List.mem_append_left _ (List.mem_append_left _ hq)))⟩)
      have INy5 := Aside0.mk (show In w y.f5.length (D.list dD y.f5) (.slice B5 y.f5.length d5) from ⟨r5, fun b hq => hbl b (hb b (by rw [D.list, bl, hbl2]; exact List.mem_append_left _ (List.mem_append_right _ (List.mem_append_left _ hq))))⟩)
      have INy6 := Aside0.mk (show In w y.f6.length (D.list dS y.f6) (.slice B6 y.f6.length d6) from ⟨r6, fun b hq => hbl b (hb b (by rw [D.list, bl, hbl2]; exact List.mem_append_left _ (List.mem_append_right _ (List.mem_append_right _ (List.mem_append_left _ hq)))))⟩)
      have HY := Aside0.mk hyl
      have HTK := Aside0.mk (show aSs (l.take (x9 + 1).toNat) = (tk ++ [y]) ++ aSs y.f6 by rw [htk, aSs_app, HTk.out]; simp [aSs, aS_eq])
      have W0 := Aside0.mk (show wrap64 (x9 + 1) = x9 + 1 by unfold wrap64; have := HX.out; have := HL.out; omega)
      have CLT := Aside0.mk hlt
      have HFY := Aside0.mk (show (dS y).fits from fits_mem HF.out HY.out)
      have hx0 := (HB.out.cell (World.block_lt_of_cell? w _ e0)).trans e0
      have hx1 := (HB.out.cell (World.block_lt_of_cell? w _ e1)).trans e1
      have hx2 := (HB.out.cell (World.block_lt_of_cell? w _ e2)).trans e2
      have hx3 := (HB.out.cell (World.block_lt_of_cell? w _ e3)).trans e3
      have hx4 := (HB.out.cell (World.block_lt_of_cell? w _ e4)).trans e4
      have hx5 := (HB.out.cell (World.block_lt_of_cell? w _ e5)).trans e5
      have hx6 := (HB.out.cell (World.block_lt_of_cell? w _ e6)).trans e6
      subst ead
      clear hL hbl hl hb hyl htk hnx hbl2 hlt hj e0 e1 e2 e3 e4 e5 e6 r4 r5 r6
      have HSZ := Aside0.mk (show tk.length + 1 + (aSs y.f6).length ≤ 1073741824 by have h1 := HTK.out; have h2 := aSs_take l (x9 + 1).toNat; rw [h1] at h2; simp at h2; have := HAL.out; omega)
      go_wp2_with (first
        | ((with_reducible refine gate_dst (N := 5) rfl ?_); refine box_event ?hg (N := 5) ?hd (cs := #[.int .i64 0, .string (⟨#[]⟩ : ByteArray), .string (⟨#[]⟩ : ByteArray), .string (⟨#[]⟩ : ByteArray), .slice none 0 0, .slice none 0 0, .slice none 0 0]) (t := 54) ?hr ?_; (case hd => rfl); (case hg => rfl); (case hr => first | (go_simp; done) | (go_simp; rfl))
           intro g5 hg w23 hbox hb
           have GE5 := Aside0.mk (show wr.heap.size ≤ g5 by rw [hg]; exact Nat.le_refl _)
           have HG5 := Aside0.mk (show w.heap.size ≤ g5 by rw [hg]; exact HB.out.size)
           have HOL := Aside0.mk (fun b hq => Nat.lt_of_lt_of_le (HO.out.lt b hq).2 GE5.out)
           have HB0 := Aside0.mk (Nat.le_trans HB.out.size GE5.out)
           have BK5 := Aside0.mk hbox
           have n_HO := Aside0.mk (HO.out.below hb)
           have n_HB := Aside0.mk (below_step HB.out hb)
           clear HO HB
           have HO := n_HO
           have HB := n_HB
           clear n_HO n_HB
           clear hb hbox hg
           have hzc0 : w23.cell? ⟨g5, 0, none⟩ = some (.int .i64 0) := (blk_cell BK5.out 0).trans rfl
           have hzc1 : w23.cell? ⟨g5, 1, none⟩ = some (.string (⟨#[]⟩ : ByteArray)) := (blk_cell BK5.out 1).trans rfl
           have hzc2 : w23.cell? ⟨g5, 2, none⟩ = some (.string (⟨#[]⟩ : ByteArray)) := (blk_cell BK5.out 2).trans rfl
           have hzc3 : w23.cell? ⟨g5, 3, none⟩ = some (.string (⟨#[]⟩ : ByteArray)) := (blk_cell BK5.out 3).trans rfl
           have hzc4 : w23.cell? ⟨g5, 4, none⟩ = some (.slice none 0 0) := (blk_cell BK5.out 4).trans rfl
           have hzc5 : w23.cell? ⟨g5, 5, none⟩ = some (.slice none 0 0) := (blk_cell BK5.out 5).trans rfl
           have hzc6 : w23.cell? ⟨g5, 6, none⟩ = some (.slice none 0 0) := (blk_cell BK5.out 6).trans rfl
           have hzf0 := blk_frozen BK5.out 0
           have hzf1 := blk_frozen BK5.out 1
           have hzf2 := blk_frozen BK5.out 2
           have hzf3 := blk_frozen BK5.out 3
           have hzf4 := blk_frozen BK5.out 4
           have hzf5 := blk_frozen BK5.out 5
           have hzf6 := blk_frozen BK5.out 6)
        | ((with_reducible refine gate_store (t := 54) (p := 5) rfl ?_); refine store_event (t := 54) (p := 5) (v := ?vo) (w1 := (((((((w23.setCell ⟨g5, 0, none⟩ (.int .i64 y.f0)).setCell ⟨g5, 1, none⟩ (.string y.f1)).setCell ⟨g5, 2, none⟩ (.string y.f2)).setCell ⟨g5, 3, none⟩ (.string y.f3)).setCell ⟨g5, 4, none⟩ (.slice B4 y.f4.length d4)).setCell ⟨g5, 5, none⟩ (.slice B5 y.f5.length d5)).setCell ⟨g5, 6, none⟩ (.slice B6 y.f6.length d6))) ?hg ?ho ?hn ?hr ?_; (case ho => rfl); (case hg => rfl); (case hn => rfl); (case hr => first | (go_simp; done) | (go_simp; rfl)); intro w28 hw
           clear hx0 hzc0 hzf0 hx1 hzc1 hzf1 hx2 hzc2 hzf2 hx3 hzc3 hzf3 hx4 hzc4 hzf4 hx5 hzc5 hzf5 hx6 hzc6 hzf6
           obtain ⟨p1, p2, p3⟩ := put7 BK5.out (.int .i64 y.f0) (.string y.f1) (.string y.f2) (.string y.f3) (.slice B4 y.f4.length d4) (.slice B5 y.f5.length d5) (.slice B6 y.f6.length d6)
           have n3_ := Aside0.mk (show w28.heap[g5]? = some (.cells #[.int .i64 y.f0, .string y.f1, .string y.f2, .string y.f3, .slice B4 y.f4.length d4, .slice B5 y.f5.length d5, .slice B6 y.f6.length d6] 54 (0, 0)) by rw [hw]; exact p1)
           have n5_ := Aside0.mk (show Below w.heap.size w w28 by rw [hw]; exact (below_set (below_set (below_set (below_set (below_set (below_set (below_set HB.out HB0.out) HB0.out) HB0.out) HB0.out) HB0.out) HB0.out) HB0.out))
           have n6_ := Aside0.mk (HO.out.move (W' := w28) (by rw [hw]; exact Nat.le_of_eq p3.symm) (fun b hq => by rw [hw]; exact p2 b (Nat.ne_of_lt (HOL.out b hq))))
           clear BK5 HB HO p1 p2 p3 hw
           have BK5 := n3_
           have HB := n5_
           have HO := n6_
           clear n3_ n5_ n6_
           have hx0 : w28.cell? ⟨g5, 0, none⟩ = some (.int .i64 y.f0) := (blk_cell BK5.out 0).trans rfl
           have hx1 : w28.cell? ⟨g5, 1, none⟩ = some (.string y.f1) := (blk_cell BK5.out 1).trans rfl
           have hx2 : w28.cell? ⟨g5, 2, none⟩ = some (.string y.f2) := (blk_cell BK5.out 2).trans rfl
           have hx3 : w28.cell? ⟨g5, 3, none⟩ = some (.string y.f3) := (blk_cell BK5.out 3).trans rfl
           have hx4 : w28.cell? ⟨g5, 4, none⟩ = some (.slice B4 y.f4.length d4) := (blk_cell BK5.out 4).trans rfl
           have hx5 : w28.cell? ⟨g5, 5, none⟩ = some (.slice B5 y.f5.length d5) := (blk_cell BK5.out 5).trans rfl
           have hx6 : w28.cell? ⟨g5, 6, none⟩ = some (.slice B6 y.f6.length d6) := (blk_cell BK5.out 6).trans rfl)
        | ((with_reducible refine gate_callee (f := 63) rfl ?_); refine goesL_ (some 16) rfl rfl Try.func63 (by kernel_rfl) rfl #[.slice (some ⟨w28.heap.size, 0, none⟩) 1 1] rfl (by (try simp only [List.map_toArray, List.map_cons, List.map_nil]); first | done | rfl) ?_
           have ha : Below w28.heap.size w28 (w28.alloc (.cells #[.int .i64 y.f0, .string y.f1, .string y.f2, .string y.f3, .slice B4 y.f4.length d4, .slice B5 y.f5.length d5, .slice B6 y.f6.length d6] 54)) := below_alloc (Below.refl _ _) _
           have hb1 := below_step HB.out ha
           (with_reducible refine (cloneS [y] _ (w28.alloc (.cells #[.int .i64 y.f0, .string y.f1, .string y.f2, .string y.f3, .slice B4 y.f4.length d4, .slice B5 y.f5.length d5, .slice B6 y.f6.length d6] 54)) (fits1 HFY.out) (len1 y) (In.single (blk_new w28 _) (INy4.out.later hb1) (INy5.out.later hb1) (INy6.out.later hb1))).mono ?_)
           rintro e w30 ⟨v9, rfl, hf⟩
           obtain ⟨gn, cn, ev, hn9⟩ := rowSome hf.tr.at_ (by simp)
           subst ev
           refine ⟨_, rfl, ?_⟩
           have hb2 := hf.low
           have hb3 : Below w28.heap.size w28 w30 := below_step ha hb2
           obtain ⟨news, c1, c2, c3⟩ := Lay.cells _ gn 0 hn9
           have FC := Aside0.mk (show Cells w30.cell? (D.list dS [y]) news ∧ (cb w30.cell? (D.list dS [y]) news).Nodup ∧ (∀ b ∈ cb w30.cell? (D.list dS [y]) news, Blk w30 (w28.alloc (.cells #[.int .i64 y.f0, .string y.f1, .string y.f2, .string y.f3, .slice B4 y.f4.length d4, .slice B5 y.f5.length d5, .slice B6 y.f6.length d6] 54)).heap.size w30.heap.size b) ∧ (∀ j u, news[j]? = some u → w30.cell? ⟨gn, j, none⟩ = some u) from ⟨c1, by rw [c2]; exact (List.nodup_cons.1 hf.nd).2, fun b hb => hf.tr.blk b (by rw [c2] at hb; exact List.mem_cons_of_mem _ hb), fun j u hj => by have := c3 j u hj; rwa [Nat.zero_add] at this⟩)
           have HN9 := Aside0.mk (show w.heap.size ≤ (w28.alloc (.cells #[.int .i64 y.f0, .string y.f1, .string y.f2, .string y.f3, .slice B4 y.f4.length d4, .slice B5 y.f5.length d5, .slice B6 y.f6.length d6] 54)).heap.size ∧ g5 < (w28.alloc (.cells #[.int .i64 y.f0, .string y.f1, .string y.f2, .string y.f3, .slice B4 y.f4.length d4, .slice B5 y.f5.length d5, .slice B6 y.f6.length d6] 54)).heap.size ∧ ∀ b, (Value.slice (some ⟨gu, 0, none⟩) tk.length cu).ownBlock = some b ∨ b ∈ bs → b < (w28.alloc (.cells #[.int .i64 y.f0, .string y.f1, .string y.f2, .string y.f3, .slice B4 y.f4.length d4, .slice B5 y.f5.length d5, .slice B6 y.f6.length d6] 54)).heap.size from ⟨hb1.size, Nat.lt_of_lt_of_le (blk_lt BK5.out) ha.size, fun b hq => Nat.lt_of_lt_of_le (HO.out.lt b hq).2 ha.size⟩)
           clear hf hb1 hb2 ha c1 c2 c3 hn9 hx0 hx1 hx2 hx3 hx4 hx5 hx6
           generalize (w28.alloc (.cells #[.int .i64 y.f0, .string y.f1, .string y.f2, .string y.f3, .slice B4 y.f4.length d4, .slice B5 y.f5.length d5, .slice B6 y.f6.length d6] 54)).heap.size = lo9 at FC HN9
           have n_BK5 := Aside0.mk (blk_below BK5.out hb3)
           have n_HO := Aside0.mk (HO.out.below hb3)
           have n_HB := Aside0.mk (below_step HB.out hb3)
           clear BK5 HO HB
           have BK5 := n_BK5
           have HO := n_HO
           have HB := n_HB
           clear n_BK5 n_HO n_HB
           clear hb3)
        | ((with_reducible refine gate_builtin (b := .append) (xs := #[.tmp 13, .tmp 16]) rfl ?_); at_builtin
           refine Ow.appendN (W := w30) (f := dS) (l := tk) (ys := [y]) (bs := _) (nb := _) w.heap.size rfl (.tmp 13) (.tmp 16) 52 54 (.agg #[(.int .i64 0), (.string ⟨#[]⟩), (.string ⟨#[]⟩), (.string ⟨#[]⟩), (.slice none 0 0), (.slice none 0 0), (.slice none 0 0)]) 7 128 rfl Try.underlying52 info54 rfl (by decide) (by decide) (.slice (some ⟨gu, 0, none⟩) tk.length cu) gn cn news rfl rfl szS HO.out FC.out.1 FC.out.2.2.2 rfl FC.out.2.1 ?hk HB.out.size ?hl ?_
           (case hk => exact fun b hq => ⟨(FC.out.2.2.1 b hq).mono HN9.out.1 (Nat.le_refl _), fun he => Nat.not_le.2 (HN9.out.2.2 b (.inl he.symm)) (FC.out.2.2.1 b hq).1, fun he => Nat.not_le.2 (HN9.out.2.2 b (.inr he)) (FC.out.2.2.1 b hq).1⟩)
           (case hl => have := HSZ.out; simp only [List.length_singleton]; omega)
           intro v1 w31 hO1 hg1 hnn
           generalize htn : tk ++ [y] = t1 at hO1
           have HTN_t1 := Aside0.mk htn
           clear htn
           obtain ⟨g1, k1, ev1⟩ := owSome hO1 (hnn (by simp))
           subst ev1
           clear hnn
           have n3_ := Aside0.mk ((hg1.block g5 (blk_lt BK5.out) (fun he => Nat.lt_irrefl _ (HOL.out g5 (.inl he.symm)))).trans BK5.out)
           have n5_ := Aside0.mk (HB.out.grown hg1 HB.out.size (fun k hk => (HO.out.lt k (.inl hk)).1))
           have n6_ := Aside0.mk hO1
           clear BK5 HO HB hg1 hO1
           have BK5 := n3_
           have HB := n5_
           have HO := n6_
           clear n3_ n5_ n6_
           have hx6 : w31.cell? ⟨g5, 6, none⟩ = some (.slice B6 y.f6.length d6) := (blk_cell BK5.out 6).trans rfl)
        | ((with_reducible refine gate_callee (f := 35) rfl ?_); refine goesL_ (some 21) rfl rfl Try.func35 (by kernel_rfl) rfl #[.slice B6 y.f6.length d6] rfl (by (try simp only [List.map_toArray, List.map_cons, List.map_nil]); first | done | rfl) ?_
           clear hx6
           (with_reducible refine (IH.out y HY.out _ _ (fitsS6 HFY.out).2 (fitsS6 HFY.out).1 (by have := HSZ.out; omega) (INy6.out.later HB.out)).mono ?_)
           rintro e w32 ⟨gq, cq, rfl, hf⟩
           refine ⟨_, rfl, ?_⟩
           have hb2 := hf.low
           obtain ⟨gq', cq', eq', hn9⟩ := rowSome' hf.tr.at_
           obtain ⟨news2, c1, c2, c3⟩ := Lay.cells _ gq 0 hn9
           have FC2 := Aside0.mk (show Cells w32.cell? (D.list dS (aSs y.f6)) news2 ∧ (cb w32.cell? (D.list dS (aSs y.f6)) news2).Nodup ∧ (∀ b ∈ cb w32.cell? (D.list dS (aSs y.f6)) news2, Blk w32 w31.heap.size w32.heap.size b) ∧ (∀ j u, news2[j]? = some u → w32.cell? ⟨gq, j, none⟩ = some u) from ⟨c1, by rw [c2]; exact (List.nodup_cons.1 hf.nd).2, fun b hb => hf.tr.blk b (by rw [c2] at hb; exact List.mem_cons_of_mem _ hb), fun j u hj => by have := c3 j u hj; rwa [Nat.zero_add] at this⟩)
           have HN10 := Aside0.mk (show w.heap.size ≤ w31.heap.size ∧ True ∧ ∀ b, (Value.slice (some ⟨g1, 0, none⟩) t1.length k1).ownBlock = some b ∨ b ∈ bs ++ cb w30.cell? (D.list dS [y]) news → b < w31.heap.size from ⟨HB.out.size, trivial, fun b hq => (HO.out.lt b hq).2⟩)
           clear hf c1 c2 c3 hn9
           have n_BK5 := Aside0.mk (blk_below BK5.out hb2)
           have n_HO := Aside0.mk (HO.out.below hb2)
           have n_HB := Aside0.mk (below_step HB.out hb2)
           clear BK5 HO HB
           have BK5 := n_BK5
           have HO := n_HO
           have HB := n_HB
           clear n_BK5 n_HO n_HB
           clear hb2)
        | ((with_reducible refine gate_builtin (b := .append) (xs := #[.tmp 18, .tmp 21]) rfl ?_); at_builtin
           refine Ow.appendN (W := w32) (f := dS) (l := t1) (ys := (aSs y.f6)) (bs := _) (nb := _) w.heap.size rfl (.tmp 18) (.tmp 21) 52 54 (.agg #[(.int .i64 0), (.string ⟨#[]⟩), (.string ⟨#[]⟩), (.string ⟨#[]⟩), (.slice none 0 0), (.slice none 0 0), (.slice none 0 0)]) 7 128 rfl Try.underlying52 info54 rfl (by decide) (by decide) (.slice (some ⟨g1, 0, none⟩) t1.length k1) gq cq news2 rfl rfl szS HO.out FC2.out.1 FC2.out.2.2.2 rfl FC2.out.2.1 ?hk HB.out.size ?hl ?_
           (case hk => exact fun b hq => ⟨(FC2.out.2.2.1 b hq).mono HN10.out.1 (Nat.le_refl _), fun he => Nat.not_le.2 (HN10.out.2.2 b (.inl he.symm)) (FC2.out.2.2.1 b hq).1, fun he => Nat.not_le.2 (HN10.out.2.2 b (.inr he)) (FC2.out.2.2.1 b hq).1⟩)
           (case hl => have := HSZ.out; have h7 := congrArg List.length HTN_t1.out; simp only [List.length_append, List.length_singleton] at h7; omega)
           intro v1 w33 hO1 hg1 hnn
           generalize htn : t1 ++ (aSs y.f6) = t2 at hO1
           have HTN_t2 := Aside0.mk htn
           clear htn
           obtain ⟨g2, k2, ev1⟩ := owSome hO1 (hnn (by simp))
           subst ev1
           clear hnn
           have n5_ := Aside0.mk (HB.out.grown hg1 HB.out.size (fun k hk => (HO.out.lt k (.inl hk)).1))
           have n6_ := Aside0.mk hO1
           clear HO HB hg1 hO1
           skip
           have HB := n5_
           have HO := n6_
           clear n5_ n6_))
      go_roundg (l.length - (x9 + 1).toNat)
      case measure => have := HX.out; have := CLT.out; omega
      case rel => exact ⟨x9 + 1, g2, k2, _, t2, rfl, by rw [W0.out], ⟨⟨by have := HX.out; omega, by have := CLT.out; omega, by omega⟩⟩, HO, ⟨by rw [← HTN_t2.out, ← HTN_t1.out]; exact HTK.out.symm⟩, HB⟩
    · have hltb : decide (x9 < (l.length : Int)) = false := decide_eq_false hlt
      have htk : tk = aSs l := HTk.out.trans (by rw [List.take_of_length_le (by omega)])
      have HTK := Aside0.mk htk
      clear hlt htk
      go_wp2
      go_ret
      have htk := HTK.out
      subst htk
      obtain ⟨o1, o2⟩ := HO.out.tr (fun h0 => by rw [List.eq_nil_of_length_eq_zero h0]; rfl)
      exact ⟨_, _, rfl, ⟨o1, o2, HB.out⟩⟩
end Go.Proofs.Ytkcomfmdcmjagaa.OFnExactAllSels
