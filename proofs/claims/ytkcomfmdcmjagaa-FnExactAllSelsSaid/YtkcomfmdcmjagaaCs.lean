/- The program's copy of selections: of its own memory; under the conditions that it names. -/
import Derived.Test.YtkcomfmdcmjagaaCc
namespace Go.Proofs.Ytkcomfmdcmjagaa.OFnExactAllSels
open Go.Proofs.Ytkcomfmdcmjagaa.Lay Go.Proofs.Ytkcomfmdcmjagaa.Mark
open Go.RowKit Go.Proofs.YtkcomfmdcmjagaaW.PrintWords Go.Proofs.YtkcomfmdcmjagaaW.PrintLast Go.Proofs.YtkcomfmdcmjagaaW.PrintMore
set_option linter.unusedVariables false
set_option linter.unusedSimpArgs false
theorem fitsS {y : S54} (h : (dS y).fits) : (y.f4.length ≤ 1073741824 ∧ (D.list dA y.f4).fits) ∧ (y.f5.length ≤ 1073741824 ∧ (D.list dD y.f5).fits) ∧ (y.f6.length ≤ 1073741824 ∧ (D.list dS y.f6).fits) := by
  rw [dS_eq] at h
  exact ⟨h.2.2.2.2.1, h.2.2.2.2.2.1, h.2.2.2.2.2.2.1⟩
theorem fitsS4 {y : S54} (h : (dS y).fits) : y.f4.length ≤ 1073741824 ∧ (D.list dA y.f4).fits := (fitsS h).1
theorem fitsS5 {y : S54} (h : (dS y).fits) : y.f5.length ≤ 1073741824 ∧ (D.list dD y.f5).fits := (fitsS h).2.1
theorem fitsS6 {y : S54} (h : (dS y).fits) : y.f6.length ≤ 1073741824 ∧ (D.list dS y.f6).fits := (fitsS h).2.2
theorem freshS {w : World} {y : S54} {A4 A5 A6 : Option Addr} {c4 c5 c6 l4 h4 l5 h5 l6 h6 : Nat} (t4 : Tr w l4 h4 y.f4.length (D.list dA y.f4) (.slice A4 y.f4.length c4)) (d4 : (rbl w.cell? (D.list dA y.f4) (.slice A4 y.f4.length c4)).Nodup)
    (t5 : Tr w l5 h5 y.f5.length (D.list dD y.f5) (.slice A5 y.f5.length c5)) (d5 : (rbl w.cell? (D.list dD y.f5) (.slice A5 y.f5.length c5)).Nodup) (t6 : Tr w l6 h6 y.f6.length (D.list dS y.f6) (.slice A6 y.f6.length c6)) (d6 : (rbl w.cell? (D.list dS y.f6) (.slice A6 y.f6.length c6)).Nodup)
    (h45 : h4 ≤ l5) (h56 : h5 ≤ l6) (g4 : l4 ≤ h4) (g5 : l5 ≤ h5) (g6 : l6 ≤ h6) : Cells w.cell? (dS y) [.int .i64 y.f0, .string y.f1, .string y.f2, .string y.f3, .slice A4 y.f4.length c4, .slice A5 y.f5.length c5, .slice A6 y.f6.length c6] ∧ (cb w.cell? (dS y) [.int .i64 y.f0, .string y.f1, .string y.f2, .string y.f3, .slice A4 y.f4.length c4, .slice A5 y.f5.length c5, .slice A6 y.f6.length c6]).Nodup ∧ ∀ b ∈ cb w.cell? (dS y) [.int .i64 y.f0, .string y.f1, .string y.f2, .string y.f3, .slice A4 y.f4.length c4, .slice A5 y.f5.length c5, .slice A6 y.f6.length c6], Blk w l4 h6 b := by
  have hb : cb w.cell? (dS y) [.int .i64 y.f0, .string y.f1, .string y.f2, .string y.f3, .slice A4 y.f4.length c4, .slice A5 y.f5.length c5, .slice A6 y.f6.length c6] = rbl w.cell? (D.list dA y.f4) (.slice A4 y.f4.length c4) ++ (rbl w.cell? (D.list dD y.f5) (.slice A5 y.f5.length c5) ++ (rbl w.cell? (D.list dS y.f6) (.slice A6 y.f6.length c6) ++ [])) := by
    rw [dS_eq]
    rfl
  refine ⟨?_, ?_, ?_⟩
  · rw [dS_eq]
    exact ⟨[_], _, rfl, rfl, [_], _, rfl, rfl, [_], _, rfl, rfl, [_], _, rfl, rfl, [_], _, rfl, ⟨_, rfl, t4.at_⟩, [_], _, rfl, ⟨_, rfl, t5.at_⟩, [_], [], rfl, ⟨_, rfl, t6.at_⟩, rfl⟩
  · rw [hb, List.append_nil]
    refine List.nodup_append.2 ⟨d4, List.nodup_append.2 ⟨d5, d6, fun a ha b hb he => ?_⟩, fun a ha b hb he => ?_⟩
    · have q1 := (t5.blk a ha).2.1
      have q2 := (t6.blk b hb).1
      omega
    · have q1 := (t4.blk a ha).2.1
      rcases List.mem_append.1 hb with hb | hb
      · have q2 := (t5.blk b hb).1
        omega
      · have q2 := (t6.blk b hb).1
        omega
  · rw [hb, List.append_nil]
    intro b hb
    rcases List.mem_append.1 hb with hb | hb
    · exact (t4.blk b hb).mono (Nat.le_refl _) (by omega)
    · rcases List.mem_append.1 hb with hb | hb
      · exact (t5.blk b hb).mono (by omega) (by omega)
      · exact (t6.blk b hb).mono (by omega) (Nat.le_refl _)
set_option maxHeartbeats 8000000 in
set_option maxRecDepth 100000 in
theorem cloneS : ∀ (l : List S54) (v : Value) (w : World), (D.list dS l).fits → l.length ≤ 1073741824 → In w l.length (D.list dS l) v → Calls Try.prog 63 #[v] w fun e w' => ∃ v', e = .returned v' ∧ Fresh w w' l.length (D.list dS l) v' := by
  refine indSs (fun l ih => ?_)
  intro v w hfit hll hI
  obtain ⟨A, cap, rfl, hn, hm⟩ := RowAt.sl hI.1
  have HF := Aside0.mk hfit
  have HL := Aside0.mk hll
  have IN0 := Aside0.mk hI
  have HB := Aside0.mk (Below.refl w.heap.size w)
  have hu54 := Try.underlying54
  have IH := Aside0.mk ih
  clear hI hfit hll ih
  go_enter Try.func63, Try.ntmps63
  go_wp2
  go_loopg [3, 8] l.length (fun gg v3 v8 wr => ∃ (x8 : Int) (Au : Option Addr) (cu : Nat) (bs : List Nat) (tk : List S54), v3 = .slice Au tk.length cu ∧ v8 = .int .i64 x8 ∧ Aside0 (0 ≤ x8 ∧ x8 ≤ l.length ∧ l.length - x8.toNat ≤ gg) ∧ Aside0 (Ow wr w.heap.size 54 7 tk.length (.slice Au tk.length cu) (D.list dS tk) bs) ∧ Aside0 (tk = l.take x8.toNat) ∧ Aside0 (Below w.heap.size w wr))
  case atStart => exact ⟨0, none, 0, [], [], rfl, rfl, ⟨⟨by omega, by omega, by omega⟩⟩, ⟨Ow.nil _ _ _ _⟩, ⟨rfl⟩, HB⟩
  case round =>
    clear HB
    obtain ⟨x8, Au, cu, bs, tk, rfl, rfl, HX, HO, HTk, HB⟩ := hrel
    by_cases hlt : x8 < (l.length : Int)
    · have hltb : decide (x8 < (l.length : Int)) = true := decide_eq_true hlt
      have p6 : (0 ≤ x8) = True := eq_true HX.out.1
      have q6 : (x8 < (l.length : Int)) = True := eq_true hlt
      have hj : x8.toNat < l.length := by have := HX.out.1; omega
      obtain ⟨ga, ead, hL, hbl⟩ : ∃ ga, A = some ⟨ga, 0, none⟩ ∧ Lay w.cell? (D.list dS l) ga 0 ∧ ∀ b ∈ bl w.cell? (D.list dS l) ga 0, b < w.heap.size := by
        rcases IN0.out with ⟨hq, hr⟩
        rcases hq with ⟨_, hn0, _⟩ | ⟨a, cap', e, _, _, hL⟩
        · omega
        · injection e with e1 e2 e3
          subst e1
          exact ⟨a, rfl, hL, fun b hb => hr b (List.mem_cons_of_mem _ hb)⟩
      obtain ⟨hl, hb⟩ := Lay.drop szS l 0 x8.toNat hL
      have hyl : l[x8.toNat] ∈ l := List.getElem_mem hj
      have htk : l.take (x8.toNat + 1) = l.take x8.toNat ++ [l[x8.toNat]] := by rw [List.take_succ_eq_append_getElem hj]
      have hnx : x8.toNat + 1 = (x8 + 1).toNat := by have := HX.out.1; omega
      rw [hnx, ← HTk.out] at htk
      rw [List.drop_eq_getElem_cons hj, Nat.zero_add] at hl hb
      generalize l[x8.toNat] = y at hl hb hyl htk
      obtain ⟨B4, d4, B5, d5, B6, d6, e0, e1, e2, e3, e4, e5, e6, r4, r5, r6, hbl2, _⟩ := openS hl.1
      have INy4 := Aside0.mk (show In w y.f4.length (D.list dA y.f4) (.slice B4 y.f4.length d4) from ⟨r4, fun b hq => hbl b (hb b (by rw [D.list, bl, hbl2]; exact List.mem_append_left _ (List.mem_append_left _ hq)))⟩)
      have INy5 := Aside0.mk (show In w y.f5.length (D.list dD y.f5) (.slice B5 y.f5.length d5) from ⟨r5, fun b hq => hbl b (hb b (by rw [D.list, bl, hbl2]; exact List.mem_append_left _ (List.mem_append_right _ (List.mem_append_left _ hq))))⟩)
      have INy6 := Aside0.mk (show In w y.f6.length (D.list dS y.f6) (.slice B6 y.f6.length d6) from ⟨r6, fun b hq => hbl b (hb b (by rw [D.list, bl, hbl2]; exact List.mem_append_left _ (List.mem_append_right _ (List.mem_append_right _ (List.mem_append_left _ hq)))))⟩)
      have HY := Aside0.mk hyl
      have HTK := Aside0.mk htk
      have W0 := Aside0.mk (show wrap64 (x8 + 1) = x8 + 1 by unfold wrap64; have := HX.out; have := HL.out; omega)
      have CLT := Aside0.mk hlt
      have HFY := Aside0.mk (show (dS y).fits from fits_mem HF.out HY.out)
      have hx0 := (HB.out.cell (World.block_lt_of_cell? w _ e0)).trans e0
      have hx1 := (HB.out.cell (World.block_lt_of_cell? w _ e1)).trans e1
      have hx2 := (HB.out.cell (World.block_lt_of_cell? w _ e2)).trans e2
      have hx3 := (HB.out.cell (World.block_lt_of_cell? w _ e3)).trans e3
      have hx4 := (HB.out.cell (World.block_lt_of_cell? w _ e4)).trans e4
      have hx5 := (HB.out.cell (World.block_lt_of_cell? w _ e5)).trans e5
      have hx6 := (HB.out.cell (World.block_lt_of_cell? w _ e6)).trans e6
      subst ead
      clear hL hbl hl hb hyl htk hnx hbl2 hlt hj e0 e1 e2 e3 e4 e5 e6 r4 r5 r6
      go_wp2_with (first
        | ((with_reducible refine gate_dst (N := 5) rfl ?_); refine box_event ?hg (N := 5) ?hd (cs := #[.int .i64 0, .string (⟨#[]⟩ : ByteArray), .string (⟨#[]⟩ : ByteArray), .string (⟨#[]⟩ : ByteArray), .slice none 0 0, .slice none 0 0, .slice none 0 0]) (t := 54) ?hr ?_; (case hd => rfl); (case hg => rfl); (case hr => first | (go_simp; done) | (go_simp; rfl))
           intro g5 hg w23 hbox hb
           have GE5 := Aside0.mk (show wr.heap.size ≤ g5 by rw [hg]; exact Nat.le_refl _)
           have HG5 := Aside0.mk (show w.heap.size ≤ g5 by rw [hg]; exact HB.out.size)
           have HOL := Aside0.mk (fun b hq => Nat.lt_of_lt_of_le (HO.out.lt b hq).2 GE5.out)
           have HB0 := Aside0.mk (Nat.le_trans HB.out.size GE5.out)
           have BK5 := Aside0.mk hbox
           have n_HO := Aside0.mk (HO.out.below hb)
           have n_HB := Aside0.mk (below_step HB.out hb)
           clear HO HB
           have HO := n_HO
           have HB := n_HB
           clear n_HO n_HB
           clear hb hbox hg
           have hzc0 : w23.cell? ⟨g5, 0, none⟩ = some (.int .i64 0) := (blk_cell BK5.out 0).trans rfl
           have hzc1 : w23.cell? ⟨g5, 1, none⟩ = some (.string (⟨#[]⟩ : ByteArray)) := (blk_cell BK5.out 1).trans rfl
           have hzc2 : w23.cell? ⟨g5, 2, none⟩ = some (.string (⟨#[]⟩ : ByteArray)) := (blk_cell BK5.out 2).trans rfl
           have hzc3 : w23.cell? ⟨g5, 3, none⟩ = some (.string (⟨#[]⟩ : ByteArray)) := (blk_cell BK5.out 3).trans rfl
           have hzc4 : w23.cell? ⟨g5, 4, none⟩ = some (.slice none 0 0) := (blk_cell BK5.out 4).trans rfl
           have hzc5 : w23.cell? ⟨g5, 5, none⟩ = some (.slice none 0 0) := (blk_cell BK5.out 5).trans rfl
           have hzc6 : w23.cell? ⟨g5, 6, none⟩ = some (.slice none 0 0) := (blk_cell BK5.out 6).trans rfl
           have hzf0 := blk_frozen BK5.out 0
           have hzf1 := blk_frozen BK5.out 1
           have hzf2 := blk_frozen BK5.out 2
           have hzf3 := blk_frozen BK5.out 3
           have hzf4 := blk_frozen BK5.out 4
           have hzf5 := blk_frozen BK5.out 5
           have hzf6 := blk_frozen BK5.out 6)
        | ((with_reducible refine gate_callee (f := 75) rfl ?_); refine goesL_ (some 14) rfl rfl Try.func75 (by kernel_rfl) rfl #[.slice B4 y.f4.length d4] rfl (by (try simp only [List.map_toArray, List.map_cons, List.map_nil]); first | done | rfl) ?_
           clear hx0 hzc0 hzf0 hx1 hzc1 hzf1 hx2 hzc2 hzf2 hx3 hzc3 hzf3 hx4 hzc4 hzf4 hx5 hzc5 hzf5 hx6 hzc6 hzf6
           obtain ⟨p1, p2, p3⟩ := put7 BK5.out (.int .i64 y.f0) (.string y.f1) (.string y.f2) (.string y.f3) (.slice B4 y.f4.length d4) (.slice B5 y.f5.length d5) (.slice B6 y.f6.length d6)
           have n5_ := Aside0.mk ((below_set (below_set (below_set (below_set (below_set (below_set (below_set HB.out HB0.out) HB0.out) HB0.out) HB0.out) HB0.out) HB0.out) HB0.out) : Below w.heap.size w (((((((w23.setCell ⟨g5, 0, none⟩ (.int .i64 y.f0)).setCell ⟨g5, 1, none⟩ (.string y.f1)).setCell ⟨g5, 2, none⟩ (.string y.f2)).setCell ⟨g5, 3, none⟩ (.string y.f3)).setCell ⟨g5, 4, none⟩ (.slice B4 y.f4.length d4)).setCell ⟨g5, 5, none⟩ (.slice B5 y.f5.length d5)).setCell ⟨g5, 6, none⟩ (.slice B6 y.f6.length d6)))
           have n6_ := Aside0.mk (HO.out.move (Nat.le_of_eq p3.symm) (fun b hq => p2 b (Nat.ne_of_lt (HOL.out b hq))))
           have n3_ := Aside0.mk p1
           clear BK5 HB HO p1 p2 p3
           have BK5 := n3_
           have HB := n5_
           have HO := n6_
           clear n3_ n5_ n6_
           (with_reducible refine (cloneA y.f4 _ _ (fitsS4 HFY.out).2 (fitsS4 HFY.out).1 (INy4.out.later HB.out)).mono ?_)
           rintro e wa4 ⟨v9, rfl, hf⟩
           obtain ⟨N4, n4, ev4, _, _⟩ := RowAt.sl hf.tr.at_
           subst ev4
           refine ⟨_, rfl, ?_⟩
           have hb := hf.low
           have HLO4 := Aside0.mk (show w.heap.size ≤ (((((((w23.setCell ⟨g5, 0, none⟩ (.int .i64 y.f0)).setCell ⟨g5, 1, none⟩ (.string y.f1)).setCell ⟨g5, 2, none⟩ (.string y.f2)).setCell ⟨g5, 3, none⟩ (.string y.f3)).setCell ⟨g5, 4, none⟩ (.slice B4 y.f4.length d4)).setCell ⟨g5, 5, none⟩ (.slice B5 y.f5.length d5)).setCell ⟨g5, 6, none⟩ (.slice B6 y.f6.length d6)).heap.size ∧ g5 < (((((((w23.setCell ⟨g5, 0, none⟩ (.int .i64 y.f0)).setCell ⟨g5, 1, none⟩ (.string y.f1)).setCell ⟨g5, 2, none⟩ (.string y.f2)).setCell ⟨g5, 3, none⟩ (.string y.f3)).setCell ⟨g5, 4, none⟩ (.slice B4 y.f4.length d4)).setCell ⟨g5, 5, none⟩ (.slice B5 y.f5.length d5)).setCell ⟨g5, 6, none⟩ (.slice B6 y.f6.length d6)).heap.size ∧ (∀ b, (Value.slice Au tk.length cu).ownBlock = some b ∨ b ∈ bs → b < (((((((w23.setCell ⟨g5, 0, none⟩ (.int .i64 y.f0)).setCell ⟨g5, 1, none⟩ (.string y.f1)).setCell ⟨g5, 2, none⟩ (.string y.f2)).setCell ⟨g5, 3, none⟩ (.string y.f3)).setCell ⟨g5, 4, none⟩ (.slice B4 y.f4.length d4)).setCell ⟨g5, 5, none⟩ (.slice B5 y.f5.length d5)).setCell ⟨g5, 6, none⟩ (.slice B6 y.f6.length d6)).heap.size) from ⟨HB.out.size, blk_lt BK5.out, fun b hq => (HO.out.lt b hq).2⟩)
           have HT4 := Aside0.mk (And.intro hf.tr hf.nd)
           have HLE4 := Aside0.mk hb.size
           clear hf
           have n_BK5 := Aside0.mk (blk_below BK5.out hb)
           have n_HO := Aside0.mk (HO.out.below hb)
           have n_HB := Aside0.mk (below_step HB.out hb)
           clear BK5 HO HB
           have BK5 := n_BK5
           have HO := n_HO
           have HB := n_HB
           clear n_BK5 n_HO n_HB
           clear hb
           generalize hlo4 : ((((((((w23.setCell ⟨g5, 0, none⟩ (.int .i64 y.f0)).setCell ⟨g5, 1, none⟩ (.string y.f1)).setCell ⟨g5, 2, none⟩ (.string y.f2)).setCell ⟨g5, 3, none⟩ (.string y.f3)).setCell ⟨g5, 4, none⟩ (.slice B4 y.f4.length d4)).setCell ⟨g5, 5, none⟩ (.slice B5 y.f5.length d5)).setCell ⟨g5, 6, none⟩ (.slice B6 y.f6.length d6))).heap.size = lo4 at HLO4 HT4 HLE4
           generalize hhi4 : wa4.heap.size = hi4 at HT4 HLE4
           have HHI4 := Aside0.mk hhi4
           clear hlo4 hhi4
           have hs4 : wa4.cell? ⟨g5, 4, none⟩ = some (.slice B4 y.f4.length d4) := (blk_cell BK5.out 4).trans rfl
           have hf4 := blk_frozen BK5.out 4)
        | ((with_reducible refine gate_store (t := 42) (p := 15) rfl ?_); refine store_event (t := 42) (p := 15) (v := ?vo_wb4) (w1 := (wa4.setCell ⟨g5, 4, none⟩ (.slice N4 y.f4.length n4))) ?hg ?ho ?hn ?hr ?_; (case ho => rfl); (case hg => rfl); (case hn => rfl); (case hr => first | (go_simp; done) | (go_simp; rfl)); intro wb4 hw
           have n3_ := Aside0.mk (show wb4.heap[g5]? = some (.cells #[.int .i64 y.f0, .string y.f1, .string y.f2, .string y.f3, .slice N4 y.f4.length n4, .slice B5 y.f5.length d5, .slice B6 y.f6.length d6] 54 (0, 0)) by rw [hw]; simpa using blk_set BK5.out 4 (.slice N4 y.f4.length n4))
           have hm : ∀ k, k ≠ g5 → wb4.heap[k]? = wa4.heap[k]? := fun k hk => by rw [hw]; exact Below.heap_setCell _ _ _ k hk
           have hsz : wb4.heap.size = wa4.heap.size := by rw [hw]; simp [World.setCell]
           have n5_ := Aside0.mk (show Below w.heap.size w wb4 by rw [hw]; exact below_set HB.out HG5.out)
           have n6_ := Aside0.mk (HO.out.move (Nat.le_of_eq hsz.symm) (fun b hq => hm b (Nat.ne_of_lt (HOL.out b hq))))
           clear hs4 hf4 hw BK5 HB HO
           have BK5 := n3_
           have HB := n5_
           have HO := n6_
           clear n3_ n5_ n6_
           have h9 := HT4.out.1.move (Nat.le_of_eq hsz.symm) (fun b h1 h2 => hm b (by have := HLO4.out.2.1; omega))
           have n_ := Aside0.mk (show Tr wb4 lo4 hi4 y.f4.length (D.list dA y.f4) (.slice N4 y.f4.length n4) ∧ (rbl wb4.cell? (D.list dA y.f4) (.slice N4 y.f4.length n4)).Nodup from ⟨h9.1, by rw [h9.2]; exact HT4.out.2⟩)
           clear h9 HT4
           have HT4 := n_
           clear n_
           clear hm hsz
           have hx5 : wb4.cell? ⟨g5, 5, none⟩ = some (.slice B5 y.f5.length d5) := (blk_cell BK5.out 5).trans rfl)
        | ((with_reducible refine gate_callee (f := 76) rfl ?_); refine goesL_ (some 18) rfl rfl Try.func76 (by kernel_rfl) rfl #[.slice B5 y.f5.length d5] rfl (by (try simp only [List.map_toArray, List.map_cons, List.map_nil]); first | done | rfl) ?_
           clear hx5
           (with_reducible refine (cloneD y.f5 _ _ (fitsS5 HFY.out).2 (fitsS5 HFY.out).1 (INy5.out.later HB.out)).mono ?_)
           rintro e wa5 ⟨v9, rfl, hf⟩
           obtain ⟨N5, n5, ev5, _, _⟩ := RowAt.sl hf.tr.at_
           subst ev5
           refine ⟨_, rfl, ?_⟩
           have hb := hf.low
           have HLO5 := Aside0.mk (show w.heap.size ≤ wb4.heap.size ∧ g5 < wb4.heap.size ∧ (∀ b, (Value.slice Au tk.length cu).ownBlock = some b ∨ b ∈ bs → b < wb4.heap.size) ∧ hi4 ≤ wb4.heap.size from ⟨HB.out.size, blk_lt BK5.out, fun b hq => (HO.out.lt b hq).2, HT4.out.1.le⟩)
           have HT5 := Aside0.mk (And.intro hf.tr hf.nd)
           have HLE5 := Aside0.mk hb.size
           clear hf
           have h9 := HT4.out.1.move hb.size (fun b _ hh => hb.block b (Nat.lt_of_lt_of_le hh HT4.out.1.le))
           have n_ := Aside0.mk (show Tr wa5 lo4 hi4 y.f4.length (D.list dA y.f4) (.slice N4 y.f4.length n4) ∧ (rbl wa5.cell? (D.list dA y.f4) (.slice N4 y.f4.length n4)).Nodup from ⟨h9.1, by rw [h9.2]; exact HT4.out.2⟩)
           clear h9 HT4
           have HT4 := n_
           clear n_
           have n_BK5 := Aside0.mk (blk_below BK5.out hb)
           have n_HO := Aside0.mk (HO.out.below hb)
           have n_HB := Aside0.mk (below_step HB.out hb)
           clear BK5 HO HB
           have BK5 := n_BK5
           have HO := n_HO
           have HB := n_HB
           clear n_BK5 n_HO n_HB
           clear hb
           generalize hlo5 : wb4.heap.size = lo5 at HLO5 HT5 HLE5
           generalize hhi5 : wa5.heap.size = hi5 at HT5 HLE5
           have HHI5 := Aside0.mk hhi5
           clear hlo5 hhi5
           have hs5 : wa5.cell? ⟨g5, 5, none⟩ = some (.slice B5 y.f5.length d5) := (blk_cell BK5.out 5).trans rfl
           have hf5 := blk_frozen BK5.out 5)
        | ((with_reducible refine gate_store (t := 51) (p := 19) rfl ?_); refine store_event (t := 51) (p := 19) (v := ?vo_wb5) (w1 := (wa5.setCell ⟨g5, 5, none⟩ (.slice N5 y.f5.length n5))) ?hg ?ho ?hn ?hr ?_; (case ho => rfl); (case hg => rfl); (case hn => rfl); (case hr => first | (go_simp; done) | (go_simp; rfl)); intro wb5 hw
           have n3_ := Aside0.mk (show wb5.heap[g5]? = some (.cells #[.int .i64 y.f0, .string y.f1, .string y.f2, .string y.f3, .slice N4 y.f4.length n4, .slice N5 y.f5.length n5, .slice B6 y.f6.length d6] 54 (0, 0)) by rw [hw]; simpa using blk_set BK5.out 5 (.slice N5 y.f5.length n5))
           have hm : ∀ k, k ≠ g5 → wb5.heap[k]? = wa5.heap[k]? := fun k hk => by rw [hw]; exact Below.heap_setCell _ _ _ k hk
           have hsz : wb5.heap.size = wa5.heap.size := by rw [hw]; simp [World.setCell]
           have n5_ := Aside0.mk (show Below w.heap.size w wb5 by rw [hw]; exact below_set HB.out HG5.out)
           have n6_ := Aside0.mk (HO.out.move (Nat.le_of_eq hsz.symm) (fun b hq => hm b (Nat.ne_of_lt (HOL.out b hq))))
           clear hs5 hf5 hw BK5 HB HO
           have BK5 := n3_
           have HB := n5_
           have HO := n6_
           clear n3_ n5_ n6_
           have h9 := HT4.out.1.move (Nat.le_of_eq hsz.symm) (fun b h1 h2 => hm b (by have := HLO4.out.2.1; omega))
           have n_ := Aside0.mk (show Tr wb5 lo4 hi4 y.f4.length (D.list dA y.f4) (.slice N4 y.f4.length n4) ∧ (rbl wb5.cell? (D.list dA y.f4) (.slice N4 y.f4.length n4)).Nodup from ⟨h9.1, by rw [h9.2]; exact HT4.out.2⟩)
           clear h9 HT4
           have HT4 := n_
           clear n_
           have h9 := HT5.out.1.move (Nat.le_of_eq hsz.symm) (fun b h1 h2 => hm b (by have := HLO5.out.2.1; omega))
           have n_ := Aside0.mk (show Tr wb5 lo5 hi5 y.f5.length (D.list dD y.f5) (.slice N5 y.f5.length n5) ∧ (rbl wb5.cell? (D.list dD y.f5) (.slice N5 y.f5.length n5)).Nodup from ⟨h9.1, by rw [h9.2]; exact HT5.out.2⟩)
           clear h9 HT5
           have HT5 := n_
           clear n_
           clear hm hsz
           have hx6 : wb5.cell? ⟨g5, 6, none⟩ = some (.slice B6 y.f6.length d6) := (blk_cell BK5.out 6).trans rfl)
        | ((with_reducible refine gate_callee (f := 63) rfl ?_); refine goesL_ (some 22) rfl rfl Try.func63 (by kernel_rfl) rfl #[.slice B6 y.f6.length d6] rfl (by (try simp only [List.map_toArray, List.map_cons, List.map_nil]); first | done | rfl) ?_
           clear hx6
           (with_reducible refine (IH.out y HY.out _ _ (fitsS6 HFY.out).2 (fitsS6 HFY.out).1 (INy6.out.later HB.out)).mono ?_)
           rintro e wa6 ⟨v9, rfl, hf⟩
           obtain ⟨N6, n6, ev6, _, _⟩ := RowAt.sl hf.tr.at_
           subst ev6
           refine ⟨_, rfl, ?_⟩
           have hb := hf.low
           have HLO6 := Aside0.mk (show w.heap.size ≤ wb5.heap.size ∧ g5 < wb5.heap.size ∧ (∀ b, (Value.slice Au tk.length cu).ownBlock = some b ∨ b ∈ bs → b < wb5.heap.size) ∧ hi5 ≤ wb5.heap.size from ⟨HB.out.size, blk_lt BK5.out, fun b hq => (HO.out.lt b hq).2, HT5.out.1.le⟩)
           have HT6 := Aside0.mk (And.intro hf.tr hf.nd)
           have HLE6 := Aside0.mk hb.size
           clear hf
           have h9 := HT4.out.1.move hb.size (fun b _ hh => hb.block b (Nat.lt_of_lt_of_le hh HT4.out.1.le))
           have n_ := Aside0.mk (show Tr wa6 lo4 hi4 y.f4.length (D.list dA y.f4) (.slice N4 y.f4.length n4) ∧ (rbl wa6.cell? (D.list dA y.f4) (.slice N4 y.f4.length n4)).Nodup from ⟨h9.1, by rw [h9.2]; exact HT4.out.2⟩)
           clear h9 HT4
           have HT4 := n_
           clear n_
           have h9 := HT5.out.1.move hb.size (fun b _ hh => hb.block b (Nat.lt_of_lt_of_le hh HT5.out.1.le))
           have n_ := Aside0.mk (show Tr wa6 lo5 hi5 y.f5.length (D.list dD y.f5) (.slice N5 y.f5.length n5) ∧ (rbl wa6.cell? (D.list dD y.f5) (.slice N5 y.f5.length n5)).Nodup from ⟨h9.1, by rw [h9.2]; exact HT5.out.2⟩)
           clear h9 HT5
           have HT5 := n_
           clear n_
           have n_BK5 := Aside0.mk (blk_below BK5.out hb)
           have n_HO := Aside0.mk (HO.out.below hb)
           have n_HB := Aside0.mk (below_step HB.out hb)
           clear BK5 HO HB
           have BK5 := n_BK5
           have HO := n_HO
           have HB := n_HB
           clear n_BK5 n_HO n_HB
           clear hb
           generalize hlo6 : wb5.heap.size = lo6 at HLO6 HT6 HLE6
           generalize hhi6 : wa6.heap.size = hi6 at HT6 HLE6
           have HHI6 := Aside0.mk hhi6
           clear hlo6 hhi6
           have hs6 : wa6.cell? ⟨g5, 6, none⟩ = some (.slice B6 y.f6.length d6) := (blk_cell BK5.out 6).trans rfl
           have hf6 := blk_frozen BK5.out 6)
        | ((with_reducible refine gate_store (t := 52) (p := 23) rfl ?_); refine store_event (t := 52) (p := 23) (v := ?vo_wb6) (w1 := (wa6.setCell ⟨g5, 6, none⟩ (.slice N6 y.f6.length n6))) ?hg ?ho ?hn ?hr ?_; (case ho => rfl); (case hg => rfl); (case hn => rfl); (case hr => first | (go_simp; done) | (go_simp; rfl)); intro wb6 hw
           have n3_ := Aside0.mk (show wb6.heap[g5]? = some (.cells #[.int .i64 y.f0, .string y.f1, .string y.f2, .string y.f3, .slice N4 y.f4.length n4, .slice N5 y.f5.length n5, .slice N6 y.f6.length n6] 54 (0, 0)) by rw [hw]; simpa using blk_set BK5.out 6 (.slice N6 y.f6.length n6))
           have hm : ∀ k, k ≠ g5 → wb6.heap[k]? = wa6.heap[k]? := fun k hk => by rw [hw]; exact Below.heap_setCell _ _ _ k hk
           have hsz : wb6.heap.size = wa6.heap.size := by rw [hw]; simp [World.setCell]
           have n5_ := Aside0.mk (show Below w.heap.size w wb6 by rw [hw]; exact below_set HB.out HG5.out)
           have n6_ := Aside0.mk (HO.out.move (Nat.le_of_eq hsz.symm) (fun b hq => hm b (Nat.ne_of_lt (HOL.out b hq))))
           clear hs6 hf6 hw BK5 HB HO
           have BK5 := n3_
           have HB := n5_
           have HO := n6_
           clear n3_ n5_ n6_
           have h9 := HT4.out.1.move (Nat.le_of_eq hsz.symm) (fun b h1 h2 => hm b (by have := HLO4.out.2.1; omega))
           have n_ := Aside0.mk (show Tr wb6 lo4 hi4 y.f4.length (D.list dA y.f4) (.slice N4 y.f4.length n4) ∧ (rbl wb6.cell? (D.list dA y.f4) (.slice N4 y.f4.length n4)).Nodup from ⟨h9.1, by rw [h9.2]; exact HT4.out.2⟩)
           clear h9 HT4
           have HT4 := n_
           clear n_
           have h9 := HT5.out.1.move (Nat.le_of_eq hsz.symm) (fun b h1 h2 => hm b (by have := HLO5.out.2.1; omega))
           have n_ := Aside0.mk (show Tr wb6 lo5 hi5 y.f5.length (D.list dD y.f5) (.slice N5 y.f5.length n5) ∧ (rbl wb6.cell? (D.list dD y.f5) (.slice N5 y.f5.length n5)).Nodup from ⟨h9.1, by rw [h9.2]; exact HT5.out.2⟩)
           clear h9 HT5
           have HT5 := n_
           clear n_
           have h9 := HT6.out.1.move (Nat.le_of_eq hsz.symm) (fun b h1 h2 => hm b (by have := HLO6.out.2.1; omega))
           have n_ := Aside0.mk (show Tr wb6 lo6 hi6 y.f6.length (D.list dS y.f6) (.slice N6 y.f6.length n6) ∧ (rbl wb6.cell? (D.list dS y.f6) (.slice N6 y.f6.length n6)).Nodup from ⟨h9.1, by rw [h9.2]; exact HT6.out.2⟩)
           clear h9 HT6
           have HT6 := n_
           clear n_
           clear hm hsz
           have hx0 : wb6.cell? ⟨g5, 0, none⟩ = some (.int .i64 y.f0) := (blk_cell BK5.out 0).trans rfl
           have hx1 : wb6.cell? ⟨g5, 1, none⟩ = some (.string y.f1) := (blk_cell BK5.out 1).trans rfl
           have hx2 : wb6.cell? ⟨g5, 2, none⟩ = some (.string y.f2) := (blk_cell BK5.out 2).trans rfl
           have hx3 : wb6.cell? ⟨g5, 3, none⟩ = some (.string y.f3) := (blk_cell BK5.out 3).trans rfl
           have hx4 : wb6.cell? ⟨g5, 4, none⟩ = some (.slice N4 y.f4.length n4) := (blk_cell BK5.out 4).trans rfl
           have hx5 : wb6.cell? ⟨g5, 5, none⟩ = some (.slice N5 y.f5.length n5) := (blk_cell BK5.out 5).trans rfl
           have hx6 : wb6.cell? ⟨g5, 6, none⟩ = some (.slice N6 y.f6.length n6) := (blk_cell BK5.out 6).trans rfl)
        | ((with_reducible refine gate_builtin (b := .append) (xs := #[.tmp 24, .tmp 26]) rfl ?_); at_builtin
           obtain ⟨f1, f2, f3⟩ := freshS (y := y) HT4.out.1 HT4.out.2 HT5.out.1 HT5.out.2 HT6.out.1 HT6.out.2 HLO5.out.2.2.2 HLO6.out.2.2.2 HLE4.out HLE5.out HLE6.out
           have h8 := Aside0.mk (show tk.length ≤ l.length by rw [HTk.out]; exact List.length_take_le' _ _)
           refine Ow.append1 (W := wb6) (f := dS) (l := tk) (bs := bs) (nb := _) w.heap.size rfl (.tmp 24) (.tmp 26) 52 54 (.agg #[(.int .i64 0), (.string ⟨#[]⟩), (.string ⟨#[]⟩), (.string ⟨#[]⟩), (.slice none 0 0), (.slice none 0 0), (.slice none 0 0)]) 7 128 rfl Try.underlying52 info54 rfl (by decide) (by decide) (.slice Au tk.length cu) y [.int .i64 y.f0, .string y.f1, .string y.f2, .string y.f3, .slice N4 y.f4.length n4, .slice N5 y.f5.length n5, .slice N6 y.f6.length n6] rfl rfl (szS y) HO.out f1 rfl f2 ?hk HB.out.size ?hl ?_
           (case hk => exact fun b hq => ⟨(f3 b hq).mono HLO4.out.1 HT6.out.1.le, fun he => Nat.not_le.2 (HLO4.out.2.2 b (.inl he.symm)) (f3 b hq).1, fun he => Nat.not_le.2 (HLO4.out.2.2 b (.inr he)) (f3 b hq).1⟩)
           (case hl => have := HL.out; have := h8.out; omega)
           clear f1 f2 f3 hx0 hx1 hx2 hx3 hx4 hx5 hx6
           intro v1 w31 hO1 hg1
           generalize htn : tk ++ [y] = tn at hO1
           have HTN := Aside0.mk htn
           clear htn
           obtain ⟨A1, k1, ev1⟩ := Ow.sl hO1
           subst ev1
           have n5_ := Aside0.mk (HB.out.grown hg1 HB.out.size (fun k hk => (HO.out.lt k (.inl hk)).1))
           have n6_ := Aside0.mk hO1
           clear BK5 HO HB hg1 hO1
           have HB := n5_
           have HO := n6_
           clear n5_ n6_))
      go_roundg (l.length - (x8 + 1).toNat)
      case measure => have := HX.out; have := CLT.out; omega
      case rel => exact ⟨x8 + 1, A1, k1, _, tn, rfl, by rw [W0.out], ⟨⟨by have := HX.out; omega, by have := CLT.out; omega, by omega⟩⟩, HO, ⟨by rw [← HTN.out]; exact HTK.out.symm⟩, HB⟩
    · have hltb : decide (x8 < (l.length : Int)) = false := decide_eq_false hlt
      have htk : tk = l := HTk.out.trans (List.take_of_length_le (by omega))
      have HTK := Aside0.mk htk
      clear hlt htk
      go_wp2
      go_ret
      have htk := HTK.out
      subst htk
      obtain ⟨o1, o2⟩ := HO.out.tr (fun h0 => by rw [List.eq_nil_of_length_eq_zero h0]; rfl)
      exact ⟨_, rfl, ⟨o1, o2, HB.out⟩⟩
end Go.Proofs.Ytkcomfmdcmjagaa.OFnExactAllSels
