/- The program's AllSels and the reference's list the same selections for every list of selections within reach; under the conditions that it names. -/
import Derived.Test.YtkcomfmdcmjagaaCz
namespace Go.Proofs.Ytkcomfmdcmjagaa.OFnExactAllSels
open Go.Proofs.Ytkcomfmdcmjagaa.Lay Go.Proofs.Ytkcomfmdcmjagaa.Mark Go.Proofs.Ytkcomfmdcmjagaa.Pure
open Go.RowKit Go.Proofs.YtkcomfmdcmjagaaW.PrintWords Go.Proofs.YtkcomfmdcmjagaaW.PrintLast Go.Proofs.YtkcomfmdcmjagaaW.PrintMore
set_option linter.unusedVariables false
set_option linter.unusedSimpArgs false
theorem TN.move {W W' : World} {lo hi n : Nat} {c : D} {v : Value} (h : Tr W lo hi n c v ∧ (rbl W.cell? c v).Nodup) (hs : W.heap.size ≤ W'.heap.size) (hm : ∀ b, lo ≤ b → b < hi → W'.heap[b]? = W.heap[b]?) : Tr W' lo hi n c v ∧ (rbl W'.cell? c v).Nodup := by
  obtain ⟨i, e⟩ := h.1.move hs hm
  exact ⟨i, by rw [e]; exact h.2⟩
theorem TN.below {M : Nat} {W W' : World} {lo hi n : Nat} {c : D} {v : Value} (h : Tr W lo hi n c v ∧ (rbl W.cell? c v).Nodup) (hb : Below M W W') (hN : hi ≤ M) : Tr W' lo hi n c v ∧ (rbl W'.cell? c v).Nodup := TN.move h hb.size (fun b _ hh => hb.block b (Nat.lt_of_lt_of_le hh hN))
theorem TN.kept {S : Nat → Prop} {W W' : World} {lo hi n : Nat} {c : D} {v : Value} (h : Tr W lo hi n c v ∧ (rbl W.cell? c v).Nodup) (hk : Kept W W' S) (hS : ∀ b, lo ≤ b → b < hi → ¬ S b) : Tr W' lo hi n c v ∧ (rbl W'.cell? c v).Nodup := TN.move h hk.1 (fun b h1 h2 => hk.2 b (Nat.lt_of_lt_of_le h2 h.1.le) (hS b h1 h2))
theorem marked {T : Int → ByteArray} {W w' : World} {base n : Nat} {S : Nat → Prop} {c : D} {v : Value} (hs : St W base S w' (rov T W.cell? c v 1 W.cell?)) (hR : RowAt W.cell? n c v) (hn : (rbl W.cell? c v).Nodup) (hb : ∀ b ∈ rbl W.cell? c v, b < W.heap.size) : In w' n (c.mark T 1) v := by
  obtain ⟨i, e⟩ := rov_row (T := T) 1 hR hn
  obtain ⟨i2, e2⟩ := RowAt.frame (r' := w'.cell?) i (fun a ha => hs.rd a (hb _ (by rw [e] at ha; exact ha)))
  exact ⟨i2, fun b hq => Nat.lt_of_lt_of_le (hb b (by rw [e2, e] at hq; exact hq)) hs.M.kept.1⟩
theorem St.refl {W : World} {base : Nat} (S : Nat → Prop) (hb : base ≤ W.heap.size) : St W base S W W.cell? := ⟨Mk.refl S W hb, fun _ _ => rfl⟩
set_option maxHeartbeats 8000000 in
set_option maxRecDepth 100000 in
theorem laws_FnExactAllSels.calls (A : Option Addr) (c : Nat) (l : List S48) (w : World) (hr : Kd.C k48 w A l.length l) (hc : l.length ≤ c) (hl : l.length * 128 ≤ 140737488351232) (ho : ∀ y ∈ l, OkS y) :
    Calls Try.prog 8 #[.slice A l.length c] w fun e w' => e = .returned (.bool true) ∧ Below w.heap.size w w' := by
  obtain ⟨t, ht, hs⟩ := laws_szSelS.all hl ho 1048576 (by decide) (by decide)
  obtain ⟨k1, hk1⟩ := ht.out
  have HC := Aside0.mk (And.intro hr hc)
  have HZ := Aside0.mk hk1
  have HB := Aside0.mk (Below.refl w.heap.size w)
  by_cases h0 : t < 0
  · have h0a : decide (t < 0) = true := decide_eq_true h0
    have h0b : (t < 0) = True := eq_true h0
    clear ht hk1 hr hc hs h0
    go_enter Try.func8, Try.ntmps8
    go_wp2_with (first
    | ((with_reducible refine gate_dst (N := 13) rfl ?_); (with_reducible refine gate_callee (f := 32) rfl ?_); refine goesL_ (some 13) rfl rfl Try.func32 (by kernel_rfl) rfl #[.slice A l.length c, .int .i64 1048576] rfl (by (try simp only [List.map_toArray, List.map_cons, List.map_nil]); first | done | rfl) ?_
       (with_reducible refine (laws_szSelS.calls k1 A c l 1048576 t w HC.out.1 HC.out.2 HZ.out).mono ?_)
       rintro e w1 ⟨rfl, hb⟩
       refine ⟨_, rfl, ?_⟩
       have n_HB := Aside0.mk (below_step HB.out hb)
       clear hb HB
       have HB := n_HB
       clear n_HB))
    go_ret
    exact ⟨rfl, HB.out⟩
  · have h0a : decide (t < 0) = false := decide_eq_false h0
    have h0b : (t < 0) = False := eq_false h0
    have hto : l.length + (l.map totS).sum ≤ 1048576 := by
      unfold SubL at hs
      split at hs <;> omega
    have hwt : wt (D.list dS (l.map csel)) = (l.map totS).sum := by
      rw [wt_list, List.map_map, List.map_congr_left (f := (fun y => wt (dS y)) ∘ csel) (g := totS) (fun y hy => wtS (ho y hy))]
    have hok : ∀ y ∈ l.map csel, OkIS y := fun y hy => by
      obtain ⟨z, hz, rfl⟩ := List.mem_map.1 hy
      exact (ho z hz).csel
    obtain ⟨k2, hk2⟩ := (laws_toSelS.all hl ho).out
    have hLl : (l.map csel).length = l.length := List.length_map _
    generalize l.map csel = L at hwt hok hk2 hLl
    have h1 := all_len L
    have h2 : wt (D.list dS (aSs L)) ≤ (aSs L).length * 1048576 := by
      rw [wt_list]
      exact sum_le _ _ _ (fun y hy => by have := all_wt L y hy; omega)
    have h3 : (aSs L).length * 1048576 ≤ 1048576 * 1048576 := Nat.mul_le_mul_right _ (by omega)
    have h4 := cSs L
    have h5 := cSs (aSs L)
    have hao := all_ok L hok
    obtain ⟨k3, hk3⟩ := (laws_eqSelS.all (l := aSs L) (by omega) hao).out
    obtain ⟨k5, hk5⟩ := (laws_eqSelS.all (l := L) (by omega) hok).out
    obtain ⟨k4, hk4⟩ := (spec_l11Copy.ev (l := aSs L) (by omega) hao).out
    obtain ⟨T, hT⟩ := texts
    have HTO := Aside0.mk hk2
    have HEG := Aside0.mk hk3
    have HEL := Aside0.mk hk5
    have HCP := Aside0.mk hk4
    have HT := Aside0.mk hT
    have HLL := Aside0.mk (show L.length ≤ 1073741824 by omega)
    have HAL := Aside0.mk (show (aSs L).length ≤ 1073741824 by omega)
    have HFL := Aside0.mk (fits_of_wt (D.list dS L) (by omega))
    have HKL := Aside0.mk (show (1 : Int) + ((D.list dS L).cnt : Int) ≤ 2305843009213693952 by omega)
    have HKG := Aside0.mk (show (1 : Int) + ((D.list dS (aSs L)).cnt : Int) ≤ 2305843009213693952 by omega)
    have n1 : decide ((1 : Int) + ((D.list dS L).cnt : Int) < 0) = false := decide_eq_false (by omega)
    have n2 : ((1 : Int) + ((D.list dS L).cnt : Int) < 0) = False := eq_false (by omega)
    have n3 : decide ((1 : Int) + ((D.list dS (aSs L)).cnt : Int) < 0) = false := decide_eq_false (by omega)
    have n4 : ((1 : Int) + ((D.list dS (aSs L)).cnt : Int) < 0) = False := eq_false (by omega)
    have n5 : ((1 : Int) + ((D.list dS (aSs L)).cnt : Int) != (1 : Int) + ((D.list dS (aSs L)).cnt : Int)) = false := by simp
    clear ht hk1 hr hc hs h0 hto hwt hok hk2 hLl h1 h2 h3 h4 h5 hao hk3 hk4 hk5 hT hl ho
    go_enter Try.func8, Try.ntmps8
    go_wp2_with (first
    | ((with_reducible refine gate_dst (N := 13) rfl ?_); (with_reducible refine gate_callee (f := 32) rfl ?_); refine goesL_ (some 13) rfl rfl Try.func32 (by kernel_rfl) rfl #[.slice A l.length c, .int .i64 1048576] rfl (by (try simp only [List.map_toArray, List.map_cons, List.map_nil]); first | done | rfl) ?_
       (with_reducible refine (laws_szSelS.calls k1 A c l 1048576 t w HC.out.1 HC.out.2 HZ.out).mono ?_)
       rintro e w1 ⟨rfl, hb⟩
       refine ⟨_, rfl, ?_⟩
       have n_HB := Aside0.mk (below_step HB.out hb)
       clear hb HB
       have HB := n_HB
       clear n_HB)
    | ((with_reducible refine gate_dst (N := 17) rfl ?_); (with_reducible refine gate_callee (f := 34) rfl ?_); refine goesL_ (some 17) rfl rfl Try.func34 (by kernel_rfl) rfl #[.slice A l.length c] rfl (by (try simp only [List.map_toArray, List.map_cons, List.map_nil]); first | done | rfl) ?_
       (with_reducible refine (laws_toSelS.calls k2 A c l L _ (Kd.C_below HC.out.1 HB.out) HC.out.2 HTO.out).mono ?_)
       rintro e w2 ⟨va, rfl, hR, hb⟩
       refine ⟨_, rfl, ?_⟩
       obtain ⟨Aa, ca, ea⟩ := Kd.R_slice hR
       subst ea
       have Ta := Aside0.mk (trS hR)
       clear hR
       have n_HB := Aside0.mk (below_step HB.out hb)
       clear hb HB
       have HB := n_HB
       clear n_HB)
    | ((with_reducible refine gate_dst (N := 18) rfl ?_); (with_reducible refine gate_callee (f := 33) rfl ?_); refine goesL_ (some 18) rfl rfl Try.func33 (by kernel_rfl) rfl #[.slice Aa L.length ca] rfl (by (try simp only [List.map_toArray, List.map_cons, List.map_nil]); first | done | rfl) ?_
       (with_reducible refine (specAll L _ _ k4 (Tr.in_ Ta.out) HLL.out HAL.out HCP.out).mono ?_)
       rintro e w3 ⟨vz, rfl, hT, hb⟩
       refine ⟨_, rfl, ?_⟩
       obtain ⟨A0, c0, ez, _, _⟩ := RowAt.sl hT.at_
       subst ez
       have T0 := Aside0.mk hT
       clear hT Ta
       have n_HB := Aside0.mk (below_step HB.out hb)
       clear hb HB
       have HB := n_HB
       clear n_HB)
    | ((with_reducible refine gate_dst (N := 20) rfl ?_); (with_reducible refine gate_callee (f := 34) rfl ?_); refine goesL_ (some 20) rfl rfl Try.func34 (by kernel_rfl) rfl #[.slice A l.length c] rfl (by (try simp only [List.map_toArray, List.map_cons, List.map_nil]); first | done | rfl) ?_
       (with_reducible refine (laws_toSelS.calls k2 A c l L _ (Kd.C_below HC.out.1 HB.out) HC.out.2 HTO.out).mono ?_)
       rintro e w4 ⟨va, rfl, hR, hb⟩
       refine ⟨_, rfl, ?_⟩
       obtain ⟨A1, c1, ea⟩ := Kd.R_slice hR
       subst ea
       have HW34 := Aside0.mk (show w3.heap.size ≤ w4.heap.size from hb.size)
       have HW3 := Aside0.mk HB.out.size
       have T1 := Aside0.mk (trS hR)
       clear hR
       have n_HB := Aside0.mk (below_step HB.out hb)
       have n_T0 := Aside0.mk (T0.out.below hb T0.out.le)
       clear hb HB T0
       have HB := n_HB
       have T0 := n_T0
       clear n_HB n_T0)
    | ((with_reducible refine gate_dst (N := 22) rfl ?_); (with_reducible refine gate_callee (f := 35) rfl ?_); refine goesL_ (some 22) rfl rfl Try.func35 (by kernel_rfl) rfl #[.slice A1 L.length c1] rfl (by (try simp only [List.map_toArray, List.map_cons, List.map_nil]); first | done | rfl) ?_
       (with_reducible refine (cloneAll L _ _ HFL.out HLL.out HAL.out (Tr.in_ T1.out)).mono ?_)
       rintro e w5 ⟨gg, cg, rfl, hF⟩
       refine ⟨_, rfl, ?_⟩
       have HW4 := Aside0.mk HB.out.size
       have T2 := Aside0.mk (And.intro hF.tr hF.nd)
       have hb := hF.low
       clear hF
       have n_HB := Aside0.mk (below_step HB.out hb)
       have n_T0 := Aside0.mk (T0.out.below hb T0.out.le)
       have n_T1 := Aside0.mk (T1.out.below hb T1.out.le)
       clear hb HB T0 T1
       have HB := n_HB
       have T0 := n_T0
       have T1 := n_T1
       clear n_HB n_T0 n_T1)
    | ((with_reducible refine gate_dst (N := 25) rfl ?_); (with_reducible refine gate_callee (f := 36) rfl ?_); refine goesL_ (some 25) rfl rfl Try.func36 (by kernel_rfl) rfl #[.slice (some ⟨gg, 0, none⟩) (aSs L).length cg, .slice A0 (aSs L).length c0] rfl (by (try simp only [List.map_toArray, List.map_cons, List.map_nil]); first | done | rfl) ?_
       obtain ⟨B1, b1, q1, l1, C1⟩ := CS T2.out.1.at_
       obtain ⟨B2, b2, q2, l2, C2⟩ := CS T0.out.at_
       injection q1 with q11 q12 q13
       injection q2 with q21 q22 q23
       rw [← q11] at C1
       rw [← q13] at l1
       rw [← q21] at C2
       rw [← q23] at l2
       clear q11 q12 q13 q21 q22 q23
       (with_reducible refine (laws_eqSelS.calls k3 _ _ (aSs L) _ _ (aSs L) true _ C1 l1 C2 l2 HEG.out).mono ?_)
       rintro e w6 ⟨rfl, hb⟩
       refine ⟨_, rfl, ?_⟩
       skip
       have n_HB := Aside0.mk (below_step HB.out hb)
       have n_T0 := Aside0.mk (T0.out.below hb T0.out.le)
       have n_T1 := Aside0.mk (T1.out.below hb T1.out.le)
       have n_T2 := Aside0.mk (TN.below T2.out hb T2.out.1.le)
       clear hb HB T0 T1 T2
       have HB := n_HB
       have T0 := n_T0
       have T1 := n_T1
       have T2 := n_T2
       clear n_HB n_T0 n_T1 n_T2)
    | ((with_reducible refine gate_dst (N := 29) rfl ?_); (with_reducible refine gate_callee (f := 34) rfl ?_); refine goesL_ (some 29) rfl rfl Try.func34 (by kernel_rfl) rfl #[.slice A l.length c] rfl (by (try simp only [List.map_toArray, List.map_cons, List.map_nil]); first | done | rfl) ?_
       (with_reducible refine (laws_toSelS.calls k2 A c l L _ (Kd.C_below HC.out.1 HB.out) HC.out.2 HTO.out).mono ?_)
       rintro e w7 ⟨va, rfl, hR, hb⟩
       refine ⟨_, rfl, ?_⟩
       obtain ⟨A3, c3, ea⟩ := Kd.R_slice hR
       subst ea
       have T3 := Aside0.mk (trS hR)
       clear hR
       have n_HB := Aside0.mk (below_step HB.out hb)
       have n_T0 := Aside0.mk (T0.out.below hb T0.out.le)
       have n_T1 := Aside0.mk (T1.out.below hb T1.out.le)
       have n_T2 := Aside0.mk (TN.below T2.out hb T2.out.1.le)
       clear hb HB T0 T1 T2
       have HB := n_HB
       have T0 := n_T0
       have T1 := n_T1
       have T2 := n_T2
       clear n_HB n_T0 n_T1 n_T2)
    | ((with_reducible refine gate_dst (N := 30) rfl ?_); (with_reducible refine gate_callee (f := 36) rfl ?_); refine goesL_ (some 30) rfl rfl Try.func36 (by kernel_rfl) rfl #[.slice A1 L.length c1, .slice A3 L.length c3] rfl (by (try simp only [List.map_toArray, List.map_cons, List.map_nil]); first | done | rfl) ?_
       obtain ⟨B1, b1, q1, l1, C1⟩ := CS T1.out.at_
       obtain ⟨B2, b2, q2, l2, C2⟩ := CS T3.out.at_
       injection q1 with q11 q12 q13
       injection q2 with q21 q22 q23
       rw [← q11] at C1
       rw [← q13] at l1
       rw [← q21] at C2
       rw [← q23] at l2
       clear q11 q12 q13 q21 q22 q23
       (with_reducible refine (laws_eqSelS.calls k5 _ _ L _ _ L true _ C1 l1 C2 l2 HEL.out).mono ?_)
       rintro e w8 ⟨rfl, hb⟩
       refine ⟨_, rfl, ?_⟩
       skip
       have n_HB := Aside0.mk (below_step HB.out hb)
       have n_T0 := Aside0.mk (T0.out.below hb T0.out.le)
       have n_T1 := Aside0.mk (T1.out.below hb T1.out.le)
       have n_T2 := Aside0.mk (TN.below T2.out hb T2.out.1.le)
       clear hb HB T0 T1 T2
       have HB := n_HB
       have T0 := n_T0
       have T1 := n_T1
       have T2 := n_T2
       clear n_HB n_T0 n_T1 n_T2)
    | ((with_reducible refine gate_dst (N := 34) rfl ?_); (with_reducible refine gate_callee (f := 37) rfl ?_); refine goesL_ (some 34) rfl rfl Try.func37 (by kernel_rfl) rfl #[.slice A1 L.length c1, .int .i64 1] rfl (by (try simp only [List.map_toArray, List.map_cons, List.map_nil]); first | done | rfl) ?_
       have hbk : ∀ b ∈ rbl w8.cell? (D.list dS L) (.slice A1 L.length c1), (fun b => w3.heap.size ≤ b ∧ b < w4.heap.size) b ∧ Blk w8 w.heap.size w8.heap.size b := fun b hq => ⟨⟨(T1.out.blk b hq).1, (T1.out.blk b hq).2.1⟩, (T1.out.blk b hq).mono HW3.out T1.out.le⟩
       (with_reducible refine (markS HT.out w8 w.heap.size (fun b => w3.heap.size ≤ b ∧ b < w4.heap.size) L _ 1 1 w8.cell? w8 rfl T1.out.at_ hbk (by decide) HKL.out (St.refl _ HB.out.size)).mono ?_)
       rintro e w9 ⟨rfl, hs⟩
       refine ⟨_, rfl, ?_⟩
       clear hbk
       have n_T0 := Aside0.mk (T0.out.kept hs.M.kept (fun b h1 h2 h3 => by have := h3.1; omega))
       have n_T2 := Aside0.mk (TN.kept T2.out hs.M.kept (fun b h1 h2 h3 => by have := h3.2; omega))
       have n_HB := Aside0.mk (HB.out.trans hs.M.low)
       clear T0 T1 T2 HB hs T3
       have T0 := n_T0
       have T2 := n_T2
       have HB := n_HB
       clear n_T0 n_T2 n_HB)
    | (go_at_call 36
       obtain ⟨B1, b1, q1, l1, C1⟩ := CS T2.out.1.at_
       obtain ⟨B2, b2, q2, l2, C2⟩ := CS T0.out.at_
       injection q1 with q11 q12 q13
       injection q2 with q21 q22 q23
       rw [← q11] at C1
       rw [← q13] at l1
       rw [← q21] at C2
       rw [← q23] at l2
       clear q11 q12 q13 q21 q22 q23
       (with_reducible refine (laws_eqSelS.calls k3 _ _ (aSs L) _ _ (aSs L) true _ C1 l1 C2 l2 HEG.out).mono ?_)
       rintro e w10 ⟨rfl, hb⟩
       skip
       have n_HB := Aside0.mk (below_step HB.out hb)
       have n_T0 := Aside0.mk (T0.out.below hb T0.out.le)
       have n_T2 := Aside0.mk (TN.below T2.out hb T2.out.1.le)
       clear hb HB T0 T2
       have HB := n_HB
       have T0 := n_T0
       have T2 := n_T2
       clear n_HB n_T0 n_T2)
    | ((with_reducible refine gate_dst (N := 45) rfl ?_); (with_reducible refine gate_callee (f := 37) rfl ?_); refine goesL_ (some 45) rfl rfl Try.func37 (by kernel_rfl) rfl #[.slice (some ⟨gg, 0, none⟩) (aSs L).length cg, .int .i64 1] rfl (by (try simp only [List.map_toArray, List.map_cons, List.map_nil]); first | done | rfl) ?_
       have hbk : ∀ b ∈ rbl w10.cell? (D.list dS (aSs L)) (.slice (some ⟨gg, 0, none⟩) (aSs L).length cg), (fun b => w4.heap.size ≤ b ∧ b < w5.heap.size) b ∧ Blk w10 w.heap.size w10.heap.size b := fun b hq => ⟨⟨(T2.out.1.blk b hq).1, (T2.out.1.blk b hq).2.1⟩, (T2.out.1.blk b hq).mono HW4.out T2.out.1.le⟩
       (with_reducible refine (markS HT.out w10 w.heap.size (fun b => w4.heap.size ≤ b ∧ b < w5.heap.size) (aSs L) _ 1 1 w10.cell? w10 rfl T2.out.1.at_ hbk (by decide) HKG.out (St.refl _ HB.out.size)).mono ?_)
       rintro e w11 ⟨rfl, hs⟩
       refine ⟨_, rfl, ?_⟩
       clear hbk
       have HG := Aside0.mk (marked hs T2.out.1.at_ T2.out.2 (fun b hq => Nat.lt_of_lt_of_le (T2.out.1.blk b hq).2.1 T2.out.1.le))
       have n_T0 := Aside0.mk (T0.out.kept hs.M.kept (fun b h1 h2 h3 => by have := h3.1; have := HW34.out; omega))
       have n_HB := Aside0.mk (HB.out.trans hs.M.low)
       clear T0 T2 HB hs
       have T0 := n_T0
       have HB := n_HB
       clear n_T0 n_HB)
    | ((with_reducible refine gate_dst (N := 48) rfl ?_); (with_reducible refine gate_callee (f := 38) rfl ?_); refine goesL_ (some 48) rfl rfl Try.func38 (by kernel_rfl) rfl #[.slice (some ⟨gg, 0, none⟩) (aSs L).length cg, .int .i64 1] rfl (by (try simp only [List.map_toArray, List.map_cons, List.map_nil]); first | done | rfl) ?_
       have g1 := HG.out.1
       have g2 := HG.out.2
       (with_reducible refine (heldS HT.out (aSs L) _ 1 1 _ rfl g1 g2 (by decide) HKG.out).mono ?_)
       rintro e w12 ⟨rfl, hb⟩
       refine ⟨_, rfl, ?_⟩
       clear g1 g2
       have n_HB := Aside0.mk (below_step HB.out hb)
       have n_T0 := Aside0.mk (T0.out.below hb T0.out.le)
       have n_HG := Aside0.mk (In.later HG.out hb)
       clear hb HB T0 HG
       have HB := n_HB
       have T0 := n_T0
       have HG := n_HG
       clear n_HB n_T0 n_HG)
    | ((with_reducible refine gate_dst (N := 55) rfl ?_); (with_reducible refine gate_callee (f := 34) rfl ?_); refine goesL_ (some 55) rfl rfl Try.func34 (by kernel_rfl) rfl #[.slice A l.length c] rfl (by (try simp only [List.map_toArray, List.map_cons, List.map_nil]); first | done | rfl) ?_
       (with_reducible refine (laws_toSelS.calls k2 A c l L _ (Kd.C_below HC.out.1 HB.out) HC.out.2 HTO.out).mono ?_)
       rintro e w13 ⟨va, rfl, hR, hb⟩
       refine ⟨_, rfl, ?_⟩
       obtain ⟨A4, c4, ea⟩ := Kd.R_slice hR
       subst ea
       have T4 := Aside0.mk (trS hR)
       clear hR
       have n_HB := Aside0.mk (below_step HB.out hb)
       have n_T0 := Aside0.mk (T0.out.below hb T0.out.le)
       have n_HG := Aside0.mk (In.later HG.out hb)
       clear hb HB T0 HG
       have HB := n_HB
       have T0 := n_T0
       have HG := n_HG
       clear n_HB n_T0 n_HG)
    | ((with_reducible refine gate_dst (N := 56) rfl ?_); (with_reducible refine gate_callee (f := 35) rfl ?_); refine goesL_ (some 56) rfl rfl Try.func35 (by kernel_rfl) rfl #[.slice A4 L.length c4] rfl (by (try simp only [List.map_toArray, List.map_cons, List.map_nil]); first | done | rfl) ?_
       (with_reducible refine (cloneAll L _ _ HFL.out HLL.out HAL.out (Tr.in_ T4.out)).mono ?_)
       rintro e w14 ⟨gh, ch, rfl, hF⟩
       refine ⟨_, rfl, ?_⟩
       have T5 := Aside0.mk (And.intro hF.tr hF.nd)
       have hb := hF.low
       clear hF
       have n_HB := Aside0.mk (below_step HB.out hb)
       have n_T0 := Aside0.mk (T0.out.below hb T0.out.le)
       have n_HG := Aside0.mk (In.later HG.out hb)
       clear hb HB T0 HG
       have HB := n_HB
       have T0 := n_T0
       have HG := n_HG
       clear n_HB n_T0 n_HG)
    | ((with_reducible refine gate_dst (N := 59) rfl ?_); (with_reducible refine gate_callee (f := 36) rfl ?_); refine goesL_ (some 59) rfl rfl Try.func36 (by kernel_rfl) rfl #[.slice (some ⟨gh, 0, none⟩) (aSs L).length ch, .slice A0 (aSs L).length c0] rfl (by (try simp only [List.map_toArray, List.map_cons, List.map_nil]); first | done | rfl) ?_
       obtain ⟨B1, b1, q1, l1, C1⟩ := CS T5.out.1.at_
       obtain ⟨B2, b2, q2, l2, C2⟩ := CS T0.out.at_
       injection q1 with q11 q12 q13
       injection q2 with q21 q22 q23
       rw [← q11] at C1
       rw [← q13] at l1
       rw [← q21] at C2
       rw [← q23] at l2
       clear q11 q12 q13 q21 q22 q23
       (with_reducible refine (laws_eqSelS.calls k3 _ _ (aSs L) _ _ (aSs L) true _ C1 l1 C2 l2 HEG.out).mono ?_)
       rintro e w15 ⟨rfl, hb⟩
       refine ⟨_, rfl, ?_⟩
       skip
       have n_HB := Aside0.mk (below_step HB.out hb)
       have n_T0 := Aside0.mk (T0.out.below hb T0.out.le)
       have n_HG := Aside0.mk (In.later HG.out hb)
       clear hb HB T0 HG
       have HB := n_HB
       have T0 := n_T0
       have HG := n_HG
       clear n_HB n_T0 n_HG)
    | ((with_reducible refine gate_dst (N := 63) rfl ?_); (with_reducible refine gate_callee (f := 38) rfl ?_); refine goesL_ (some 63) rfl rfl Try.func38 (by kernel_rfl) rfl #[.slice (some ⟨gg, 0, none⟩) (aSs L).length cg, .int .i64 1] rfl (by (try simp only [List.map_toArray, List.map_cons, List.map_nil]); first | done | rfl) ?_
       have g1 := HG.out.1
       have g2 := HG.out.2
       (with_reducible refine (heldS HT.out (aSs L) _ 1 1 _ rfl g1 g2 (by decide) HKG.out).mono ?_)
       rintro e w16 ⟨rfl, hb⟩
       refine ⟨_, rfl, ?_⟩
       clear g1 g2
       have n_HB := Aside0.mk (below_step HB.out hb)
       clear hb HB
       have HB := n_HB
       clear n_HB))
    go_ret
    exact ⟨rfl, HB.out⟩
end Go.Proofs.Ytkcomfmdcmjagaa.OFnExactAllSels
